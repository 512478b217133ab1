/-
  The document's words: where one ends, walked.
-/
import Derived.Test.YtfonpegkaajnkaaDoorM39
/-
  The document's words: where one ends, walked.
-/
namespace Go.Proofs.YtfonpegkaajnkaaDoor.Lx
open Go Go.RowKit Dt Tx
set_option linter.unusedSimpArgs false
set_option linter.unusedVariables false
attribute [local go_sem ↓] Go.wp_at_zero Go.wp_at_succ

def endL (l : List UInt8) : Nat := if (l[0]?).any isLo = true then wh isAl l else if (l[0]?).any isDg = true then numL l else sgnL l
theorem wh_drop {p : UInt8 → Bool} {l : List UInt8} {a q : Nat} (ha : a ≤ q) (h1 : ∀ r, a ≤ r → r < q → (l[r]?).any p = true) (h2 : (l[q]?).any p = false) : wh p (l.drop a) = q - a := by
  refine wh_eq (fun i hi => ?_) ?_
  · rw [List.getElem?_drop]; exact h1 _ (by omega) (by omega)
  · rw [List.getElem?_drop, show a + (q - a) = q by omega]; exact h2
def EndPost (n : Nat) (w : World) (e : Ending) (w' : World) : Prop := e = .returned (.int .i64 (n : Int)) ∧ w' = w
theorem wrap1 (a : Nat) (h : a ≤ 1000000) : IntKind.i64.wrap ((a : Int) + 1) = (a : Int) + 1 := wrap_one a h
set_option maxRecDepth 100000 in
set_option maxHeartbeats 2000000 in
theorem end_lo {w : World} (l : List UInt8) (hl : l.length ≤ 1000) (a : Nat) (x : UInt8) (hx : l[a]? = some x) (h : isLo x = true) : Calls Tryd.prog 38 #[.string (bs l), .int .i64 (a : Int)] w (EndPost (a + wh isAl (l.drop a)) w) := by
  have hz : (bs l).size = l.length := bs_size l
  have hlt := (List.getElem?_eq_some_iff.1 hx).1
  have kc := at_byte l a x hx
  have SM := fun w => small_is x w
  have DG := fun w => rdigit_is x w
  have i0 : (0 : Int) ≤ (a : Int) := by omega
  obtain ⟨N, hN⟩ : ∃ N, Hid (l.length = N) := ⟨_, rfl⟩
  rw [hN.out] at hz hl hlt
  obtain ⟨S, hS⟩ : ∃ S, Hid (bs l = S) := ⟨_, rfl⟩
  rw [hS.out] at hz kc ⊢
  have HL := Lib.hid hl
  rw [h] at SM
  obtain ⟨y, hy⟩ : ∃ y, Hid (x.toNat = y) := ⟨_, rfl⟩
  rw [hy.out] at SM kc
  have HLT := Lib.hid hlt
  clear hx h hy hl DG hlt
  go_enter Tryd.func38, Tryd.ntmps38
  go_wp2_with (go_at_call 39; (with_reducible refine (SM _).mono ?_); rintro e1 w1 ⟨rfl, hq⟩; obtain rfl := hq.symm; clear SM)
  go_loopw [5] (fun i wr => ∃ q : Nat, i = .int .i64 (q : Int) ∧ q ≤ N ∧ Hid (a ≤ q) ∧ Hid (∀ r, a ≤ r → r < q → (l[r]?).any isAl = true) ∧ Hid (wr = w)) (fun i _ => N - (intOf i).toNat)
  case atStart => exact ⟨a, rfl, Nat.le_of_lt HLT.out, Nat.le_refl _, fun r h1 h2 => absurd h2 (by omega), rfl⟩
  case round =>
    obtain ⟨q, rfl, hq, HA, HB, HW⟩ := hrel
    obtain rfl := HW.out.symm
    by_cases hql : q < N
    · obtain ⟨c, hc⟩ : ∃ c, l[q]? = some c := ⟨_, List.getElem?_eq_getElem (by rw [hN.out]; exact hql)⟩
      have kq := at_byte l q c hc
      rw [hS.out] at kq
      have j0 : (0 : Int) ≤ (q : Int) := by omega
      have j1 : decide ((q : Int) < (N : Int)) = true := by simp; omega
      have S2 := fun w => small_is c w
      have D2 := fun w => rdigit_is c w
      have kw : IntKind.i64.wrap ((q : Int) + 1) = (q : Int) + 1 := wrap1 q (by have := HL.out; omega)
      have HQ := Lib.hid hql
      have HC := Lib.hid hc
      obtain ⟨z, hzz⟩ : ∃ y, Hid (c.toNat = y) := ⟨_, rfl⟩
      rw [hzz.out] at S2 D2 kq
      have key : isAl c = true → Hid (∀ r, a ≤ r → r < q + 1 → (l[r]?).any isAl = true) := fun hcl r h1 h2 => by
        rcases Nat.lt_or_ge r q with h | h
        · exact HB.out r h1 h
        · have : r = q := by omega
          subst this; rw [HC.out]; exact hcl
      cases h1 : isLo c
      · rw [h1] at S2
        cases h2 : isDg c
        · rw [h2] at D2
          have E := Lib.hid (wh_drop HA.out HB.out (by rw [hc]; show isAl c = false; unfold isAl; rw [h1, h2]; rfl))
          clear hc hql hq key h1 h2 hzz
          go_wp2_with (first | (go_at_call 39; (with_reducible refine (S2 _).mono ?_); rintro e1 w1 ⟨rfl, hq⟩; obtain rfl := hq.symm; clear S2) | (go_at_call 40; (with_reducible refine (D2 _).mono ?_); rintro e2 w2 ⟨rfl, hq⟩; obtain rfl := hq.symm; clear D2))
          go_ret
          refine ⟨?_, rfl⟩
          rw [E.out, show a + (q - a) = q by have := HA.out; omega]; rfl
        · rw [h2] at D2
          have K := key (by unfold isAl; rw [h1, h2]; rfl)
          clear hc hql hq key h1 h2 hzz HB
          go_wp2_with (first | (go_at_call 39; (with_reducible refine (S2 _).mono ?_); rintro e1 w1 ⟨rfl, hq⟩; obtain rfl := hq.symm; clear S2) | (go_at_call 40; (with_reducible refine (D2 _).mono ?_); rintro e2 w2 ⟨rfl, hq⟩; obtain rfl := hq.symm; clear D2))
          refine ⟨⟨q + 1, rfl, HQ.out, Nat.le_succ_of_le HA.out, K, by first | exact rfl | exact (trivial : True)⟩, ?_⟩
          show N - ((q : Int) + 1).toNat < N - (q : Int).toNat
          have := HQ.out; omega
      · rw [h1] at S2
        have K := key (by unfold isAl; rw [h1]; rfl)
        clear hc hql hq key h1 hzz D2 HB
        go_wp2_with (first | (go_at_call 39; (with_reducible refine (S2 _).mono ?_); rintro e1 w1 ⟨rfl, hq⟩; obtain rfl := hq.symm; clear S2))
        refine ⟨⟨q + 1, rfl, HQ.out, Nat.le_succ_of_le HA.out, K, by first | exact rfl | exact (trivial : True)⟩, ?_⟩
        show N - ((q : Int) + 1).toNat < N - (q : Int).toNat
        have := HQ.out; omega
    · have hqN : q = N := by omega
      subst hqN
      have E := Lib.hid (wh_drop HA.out HB.out (by rw [List.getElem?_eq_none (by rw [hN.out]; exact Nat.le_refl _)]; rfl))
      clear hql hq HB
      go_wp2_with fail
      go_ret
      refine ⟨?_, rfl⟩
      rw [E.out, show a + (q - a) = q by have := HA.out; omega]; rfl
theorem pt_drop (l : List UInt8) (a q : Nat) (ha : a ≤ q) : ptB (l.drop a) (q - a) = (decide (q + 1 < l.length) && (l[q]? == some 46) && (l[q + 1]?).any isDg) := by
  unfold ptB
  rw [List.length_drop, List.getElem?_drop, List.getElem?_drop, show a + (q - a) = q by omega, show a + (q - a + 1) = q + 1 by omega]
  congr 2
  rw [decide_eq_decide]; omega
theorem num_drop (l : List UInt8) (a q : Nat) (ha : a ≤ q) (h : wh isDg (l.drop a) = q - a) : a + numL (l.drop a) = if (decide (q + 1 < l.length) && (l[q]? == some 46) && (l[q + 1]?).any isDg) = true then q + 1 + wh isDg (l.drop (q + 1)) else q := by
  unfold numL
  rw [h, pt_drop l a q ha, List.drop_drop, show a + (q - a + 1) = q + 1 by omega]
  split <;> omega
set_option maxRecDepth 100000 in
set_option maxHeartbeats 2000000 in
theorem end_dg {w : World} (l : List UInt8) (hl : l.length ≤ 1000) (a : Nat) (x : UInt8) (hx : l[a]? = some x) (h : isLo x = false) (h2 : isDg x = true) : Calls Tryd.prog 38 #[.string (bs l), .int .i64 (a : Int)] w (EndPost (a + numL (l.drop a)) w) := by
  have hz : (bs l).size = l.length := bs_size l
  have hlt := (List.getElem?_eq_some_iff.1 hx).1
  have kc := at_byte l a x hx
  have SM := fun w => small_is x w
  have DG := fun w => rdigit_is x w
  have i0 : (0 : Int) ≤ (a : Int) := by omega
  obtain ⟨N, hN⟩ : ∃ N, Hid (l.length = N) := ⟨_, rfl⟩
  rw [hN.out] at hz hl hlt
  obtain ⟨S, hS⟩ : ∃ S, Hid (bs l = S) := ⟨_, rfl⟩
  rw [hS.out] at hz kc ⊢
  have HL := Lib.hid hl
  rw [h] at SM
  rw [h2] at DG
  obtain ⟨y, hy⟩ : ∃ y, Hid (x.toNat = y) := ⟨_, rfl⟩
  rw [hy.out] at SM DG kc
  have HLT := Lib.hid hlt
  clear hx h h2 hy hl hlt
  go_enter Tryd.func38, Tryd.ntmps38
  go_wp2_with (first | (go_at_call 39; (with_reducible refine (SM _).mono ?_); rintro e1 w1 ⟨rfl, hq⟩; obtain rfl := hq.symm; clear SM) | (go_at_call 40; (with_reducible refine (DG _).mono ?_); rintro e2 w2 ⟨rfl, hq⟩; obtain rfl := hq.symm; clear DG))
  go_loopw [5] (fun i wr => ∃ q : Nat, i = .int .i64 (q : Int) ∧ q ≤ N ∧ Hid (a ≤ q) ∧ Hid (∀ r, a ≤ r → r < q → (l[r]?).any isDg = true) ∧ Hid (wr = w)) (fun i _ => N - (intOf i).toNat)
  case atStart => exact ⟨a, rfl, Nat.le_of_lt HLT.out, Nat.le_refl _, fun r h1 h2 => absurd h2 (by omega), rfl⟩
  case round =>
    obtain ⟨q, rfl, hq, HA, HB, HW⟩ := hrel
    obtain rfl := HW.out.symm
    have fin : (l[q]?).any isDg = false → Hid (a + numL (l.drop a) = if (decide (q + 1 < l.length) && (l[q]? == some 46) && (l[q + 1]?).any isDg) = true then q + 1 + wh isDg (l.drop (q + 1)) else q) := fun hq => Lib.hid (num_drop l a q HA.out (wh_drop HA.out HB.out hq))
    rw [hN.out] at fin
    by_cases hql : q < N
    · obtain ⟨c, hc⟩ : ∃ c, l[q]? = some c := ⟨_, List.getElem?_eq_getElem (by rw [hN.out]; exact hql)⟩
      have kq := at_byte l q c hc
      rw [hS.out] at kq
      have j0 : (0 : Int) ≤ (q : Int) := by omega
      have j1 : decide ((q : Int) < (N : Int)) = true := by simp; omega
      have D2 := fun w => rdigit_is c w
      have kw : IntKind.i64.wrap ((q : Int) + 1) = (q : Int) + 1 := wrap1 q (by have := HL.out; omega)
      have HQ := Lib.hid hql
      have HC := Lib.hid hc
      obtain ⟨z, hzz⟩ : ∃ y, Hid (c.toNat = y) := ⟨_, rfl⟩
      rw [hzz.out] at D2 kq
      cases h2 : isDg c
      · rw [h2] at D2
        have F := fin (by rw [hc]; exact h2)
        rw [hc] at F
        by_cases p1 : q + 1 < N
        · have j2 : decide ((q : Int) + 1 < (N : Int)) = true := by simp; omega
          obtain ⟨d, hd⟩ : ∃ c, l[q + 1]? = some c := ⟨_, List.getElem?_eq_getElem (by rw [hN.out]; exact p1)⟩
          have kd : ∀ w, (Instr.index 9 (.string (bs l)) (.int .i64 ((q : Int) + 1))).run Tryd.prog w = .ok (.int .u8 (d.toNat : Int)) w := at_byte l (q + 1) d hd
          rw [hS.out] at kd
          have j3 : (0 : Int) ≤ (q : Int) + 1 := by omega
          by_cases p2 : c = 46
          · subst p2
            have hz46 : z = 46 := hzz.out.symm
            have t1 : ((z : Int) == 46) = true := by simp; omega
            have t2 : decide ((z : Int) = 46) = true := by simp; omega
            have t3 : decide (z = 46) = true := by simpa using hz46
            have D3 := fun w => rdigit_is d w
            obtain ⟨zd, hzd⟩ : ∃ y, Hid (d.toNat = y) := ⟨_, rfl⟩
            rw [hzd.out] at D3 kd
            cases h3 : isDg d
            · rw [h3] at D3
              have E : Hid (a + numL (l.drop a) = q) := Lib.hid (by rw [F.out, if_neg (by rw [hd]; simp [h3])])
              clear hc hql hq h2 h3 hd hzd fin F p1 HB hz46 hzz HC
              go_wp2_with (first | (go_at_call 40; (with_reducible refine (D2 _).mono ?_); rintro e2 w2 ⟨rfl, hq⟩; obtain rfl := hq.symm; clear D2) | (go_at_call 40; (with_reducible refine (D3 _).mono ?_); rintro e2 w2 ⟨rfl, hq⟩; obtain rfl := hq.symm; clear D3))
              go_ret
              exact ⟨by rw [E.out]; rfl, rfl⟩
            · rw [h3] at D3
              have E : Hid (a + numL (l.drop a) = q + 1 + wh isDg (l.drop (q + 1))) := Lib.hid (by rw [F.out, if_pos (by rw [hd]; simp [h3, p1])])
              have HP := Lib.hid p1
              clear hc hql hq h2 h3 hd hzd fin F p1 HB hz46 hzz HC
              go_wp2_with (first | (go_at_call 40; (with_reducible refine (D2 _).mono ?_); rintro e2 w2 ⟨rfl, hq⟩; obtain rfl := hq.symm; clear D2) | (go_at_call 40; (with_reducible refine (D3 _).mono ?_); rintro e2 w2 ⟨rfl, hq⟩; obtain rfl := hq.symm; clear D3))
              go_loopw [5] (fun i wr => ∃ r : Nat, i = .int .i64 (r : Int) ∧ r ≤ N ∧ Hid (q + 1 ≤ r) ∧ Hid (∀ s, q + 1 ≤ s → s < r → (l[s]?).any isDg = true) ∧ Hid (wr = w)) (fun i _ => N - (intOf i).toNat)
              case atStart => exact ⟨q + 1, rfl, Nat.le_of_lt HP.out, Nat.le_refl _, fun r h1 h2 => absurd h2 (by omega), by first | exact rfl | exact (trivial : True)⟩
              case round =>
                obtain ⟨r, rfl, hr, HA3, HB3, HW3⟩ := hrel
                obtain rfl := HW3.out.symm
                by_cases hrl : r < N
                · obtain ⟨c3, hc3⟩ : ∃ c, l[r]? = some c := ⟨_, List.getElem?_eq_getElem (by rw [hN.out]; exact hrl)⟩
                  have kr := at_byte l r c3 hc3
                  rw [hS.out] at kr
                  have r0 : (0 : Int) ≤ (r : Int) := by omega
                  have r1 : decide ((r : Int) < (N : Int)) = true := by simp; omega
                  have D4 := fun w => rdigit_is c3 w
                  have kw3 : IntKind.i64.wrap ((r : Int) + 1) = (r : Int) + 1 := wrap1 r (by have := HL.out; omega)
                  have HQ3 := Lib.hid hrl
                  have HC3 := Lib.hid hc3
                  obtain ⟨z3, hz3⟩ : ∃ y, Hid (c3.toNat = y) := ⟨_, rfl⟩
                  rw [hz3.out] at D4 kr
                  cases h4 : isDg c3
                  · rw [h4] at D4
                    have E3 := Lib.hid (wh_drop HA3.out HB3.out (by rw [hc3]; exact h4))
                    clear hc3 hrl hr h4 hz3 HB3
                    go_wp2_with (first | (go_at_call 40; (with_reducible refine (D4 _).mono ?_); rintro e2 w2 ⟨rfl, hq⟩; obtain rfl := hq.symm; clear D4))
                    go_ret
                    exact ⟨by rw [E.out, E3.out, show q + 1 + (r - (q + 1)) = r by have := HA3.out; omega]; rfl, by first | exact rfl | exact (trivial : True)⟩
                  · rw [h4] at D4
                    have K3 : Hid (∀ s, q + 1 ≤ s → s < r + 1 → (l[s]?).any isDg = true) := fun s h1 h2 => by
                      rcases Nat.lt_or_ge s r with h | h
                      · exact HB3.out s h1 h
                      · have : s = r := by omega
                        subst this; rw [HC3.out]; exact h4
                    clear hc3 hrl hr h4 hz3 HB3
                    go_wp2_with (first | (go_at_call 40; (with_reducible refine (D4 _).mono ?_); rintro e2 w2 ⟨rfl, hq⟩; obtain rfl := hq.symm; clear D4))
                    refine ⟨⟨r + 1, rfl, HQ3.out, Nat.le_succ_of_le HA3.out, K3, by first | exact rfl | exact (trivial : True)⟩, ?_⟩
                    show N - ((r : Int) + 1).toNat < N - (r : Int).toNat
                    have := HQ3.out; omega
                · have hrN : r = N := by omega
                  subst hrN
                  have E3 := Lib.hid (wh_drop HA3.out HB3.out (by rw [List.getElem?_eq_none (by rw [hN.out]; exact Nat.le_refl _)]; rfl))
                  clear hrl hr HB3
                  go_wp2_with fail
                  go_ret
                  exact ⟨by rw [E.out, E3.out, show q + 1 + (r - (q + 1)) = r by have := HA3.out; omega]; rfl, by first | exact rfl | exact (trivial : True)⟩
          · have hz46 : ¬ z = 46 := fun e => p2 (UInt8.toNat.inj (hzz.out.trans e))
            have t1 : ((z : Int) == 46) = false := by simp; omega
            have t2 : decide ((z : Int) = 46) = false := by simp; omega
            have t3 : decide (z = 46) = false := by simpa using hz46
            have E : Hid (a + numL (l.drop a) = q) := Lib.hid (by rw [F.out, if_neg (by simp [p2])])
            clear hc hql hq h2 hd fin F p1 HB hz46 hzz HC p2 kd
            go_wp2_with (first | (go_at_call 40; (with_reducible refine (D2 _).mono ?_); rintro e2 w2 ⟨rfl, hq⟩; obtain rfl := hq.symm; clear D2))
            go_ret
            exact ⟨by rw [E.out]; rfl, rfl⟩
        · have j2 : decide ((q : Int) + 1 < (N : Int)) = false := by simp; omega
          have E : Hid (a + numL (l.drop a) = q) := Lib.hid (by rw [F.out, if_neg (by simp [p1])])
          clear hc hql hq h2 fin F p1 HB hzz HC
          go_wp2_with (first | (go_at_call 40; (with_reducible refine (D2 _).mono ?_); rintro e2 w2 ⟨rfl, hq⟩; obtain rfl := hq.symm; clear D2))
          go_ret
          exact ⟨by rw [E.out]; rfl, rfl⟩
      · rw [h2] at D2
        have K : Hid (∀ r, a ≤ r → r < q + 1 → (l[r]?).any isDg = true) := fun r h1 h3 => by
          rcases Nat.lt_or_ge r q with h | h
          · exact HB.out r h1 h
          · have : r = q := by omega
            subst this; rw [HC.out]; exact h2
        clear hc hql hq h2 hzz HB fin HC
        go_wp2_with (first | (go_at_call 40; (with_reducible refine (D2 _).mono ?_); rintro e2 w2 ⟨rfl, hq⟩; obtain rfl := hq.symm; clear D2))
        refine ⟨⟨q + 1, rfl, HQ.out, Nat.le_succ_of_le HA.out, K, by first | exact rfl | exact (trivial : True)⟩, ?_⟩
        show N - ((q : Int) + 1).toNat < N - (q : Int).toNat
        have := HQ.out; omega
    · have hqN : q = N := by omega
      subst hqN
      have F := fin (by rw [List.getElem?_eq_none (by rw [hN.out]; exact Nat.le_refl _)]; rfl)
      have E : Hid (a + numL (l.drop a) = q) := Lib.hid (by rw [F.out, if_neg (by simp; intro h; omega)])
      have j2 : decide ((q : Int) + 1 < (q : Int)) = false := by simp; omega
      have kw : IntKind.i64.wrap ((q : Int) + 1) = (q : Int) + 1 := wrap1 q (by have := HL.out; omega)
      clear hql hq HB fin F
      go_wp2_with fail
      go_ret
      exact ⟨by rw [E.out]; rfl, rfl⟩
end Go.Proofs.YtfonpegkaajnkaaDoor.Lx
