/-
  Names: kept words; the document's Name and the program's, walked; Names: the document's Name, the program's, walked.
-/
import Derived.Test.YtfonpegkaajnkaaDoorM44
/-
  Names: kept words; the document's Name and the program's, walked.
-/
namespace Go.Proofs.YtfonpegkaajnkaaDoor.Lx
open Go Go.RowKit Dt Tx
set_option linter.unusedSimpArgs false
set_option linter.unusedVariables false
attribute [local go_sem ↓] Go.wp_at_zero Go.wp_at_succ

def keptW : List (List UInt8) := [[116, 114, 117, 101], [102, 97, 108, 115, 101], [97, 110, 100], [111, 114], [110, 111, 116], [105, 102], [109, 105, 110], [109, 97, 120], [97, 98, 115], [114, 111, 117, 110, 100], [104, 97, 115], [111, 114, 101, 108, 115, 101], [108, 97, 103], [108, 101, 97, 115, 116], [109, 111, 115, 116], [97, 110, 121], [101, 118, 101, 114, 121]]
def nameP (l : List UInt8) : Bool := decide (0 < l.length) && decide (l.length ≤ 12) && (l[0]?).any isLo && decide (wh isAl l = l.length) && !keptW.contains l
theorem kept_cases (l : List UInt8) : (keptW.contains l = true ∧ (l = [116, 114, 117, 101] ∨ l = [102, 97, 108, 115, 101] ∨ l = [97, 110, 100] ∨ l = [111, 114] ∨ l = [110, 111, 116] ∨ l = [105, 102] ∨ l = [109, 105, 110] ∨ l = [109, 97, 120] ∨ l = [97, 98, 115] ∨ l = [114, 111, 117, 110, 100] ∨ l = [104, 97, 115] ∨ l = [111, 114, 101, 108, 115, 101] ∨ l = [108, 97, 103] ∨ l = [108, 101, 97, 115, 116] ∨ l = [109, 111, 115, 116] ∨ l = [97, 110, 121] ∨ l = [101, 118, 101, 114, 121])) ∨ (keptW.contains l = false ∧ ¬ l = [116, 114, 117, 101] ∧ ¬ l = [102, 97, 108, 115, 101] ∧ ¬ l = [97, 110, 100] ∧ ¬ l = [111, 114] ∧ ¬ l = [110, 111, 116] ∧ ¬ l = [105, 102] ∧ ¬ l = [109, 105, 110] ∧ ¬ l = [109, 97, 120] ∧ ¬ l = [97, 98, 115] ∧ ¬ l = [114, 111, 117, 110, 100] ∧ ¬ l = [104, 97, 115] ∧ ¬ l = [111, 114, 101, 108, 115, 101] ∧ ¬ l = [108, 97, 103] ∧ ¬ l = [108, 101, 97, 115, 116] ∧ ¬ l = [109, 111, 115, 116] ∧ ¬ l = [97, 110, 121] ∧ ¬ l = [101, 118, 101, 114, 121]) := by
  unfold keptW
  cases h : List.contains [[116, 114, 117, 101], [102, 97, 108, 115, 101], [97, 110, 100], [111, 114], [110, 111, 116], [105, 102], [109, 105, 110], [109, 97, 120], [97, 98, 115], [114, 111, 117, 110, 100], [104, 97, 115], [111, 114, 101, 108, 115, 101], [108, 97, 103], [108, 101, 97, 115, 116], [109, 111, 115, 116], [97, 110, 121], [101, 118, 101, 114, 121]] l
  · right
    refine ⟨rfl, ?_⟩
    simpa [List.contains_cons, Bool.or_eq_false_iff] using h
  · left
    refine ⟨rfl, ?_⟩
    simpa [List.contains_cons, Bool.or_eq_true] using h
set_option maxRecDepth 100000 in
set_option maxHeartbeats 4000000 in
theorem rkept_is {w : World} (l : List UInt8) : Calls Tryd.prog 45 #[.string (bs l)] w fun e w' => e = .returned (.bool (keptW.contains l)) ∧ w' = w := by
  rcases kept_cases l with ⟨h, k⟩ | ⟨h, k⟩
  · rw [h]
    clear h
    rcases k with rfl | rfl | rfl | rfl | rfl | rfl | rfl | rfl | rfl | rfl | rfl | rfl | rfl | rfl | rfl | rfl | rfl
    all_goals
      simp only [bs]
      go_enter Tryd.func45, Tryd.ntmps45
      go_wp2_with fail
      go_ret
      exact ⟨rfl, rfl⟩
  · rw [h]
    clear h
    obtain ⟨n0, n1, n2, n3, n4, n5, n6, n7, n8, n9, n10, n11, n12, n13, n14, n15, n16⟩ := k
    have m0 : ((bs l).toList == [116, 114, 117, 101]) = false := by rw [bs_toList]; exact beq_eq_false_iff_ne.2 n0
    have m1 : ((bs l).toList == [102, 97, 108, 115, 101]) = false := by rw [bs_toList]; exact beq_eq_false_iff_ne.2 n1
    have m2 : ((bs l).toList == [97, 110, 100]) = false := by rw [bs_toList]; exact beq_eq_false_iff_ne.2 n2
    have m3 : ((bs l).toList == [111, 114]) = false := by rw [bs_toList]; exact beq_eq_false_iff_ne.2 n3
    have m4 : ((bs l).toList == [110, 111, 116]) = false := by rw [bs_toList]; exact beq_eq_false_iff_ne.2 n4
    have m5 : ((bs l).toList == [105, 102]) = false := by rw [bs_toList]; exact beq_eq_false_iff_ne.2 n5
    have m6 : ((bs l).toList == [109, 105, 110]) = false := by rw [bs_toList]; exact beq_eq_false_iff_ne.2 n6
    have m7 : ((bs l).toList == [109, 97, 120]) = false := by rw [bs_toList]; exact beq_eq_false_iff_ne.2 n7
    have m8 : ((bs l).toList == [97, 98, 115]) = false := by rw [bs_toList]; exact beq_eq_false_iff_ne.2 n8
    have m9 : ((bs l).toList == [114, 111, 117, 110, 100]) = false := by rw [bs_toList]; exact beq_eq_false_iff_ne.2 n9
    have m10 : ((bs l).toList == [104, 97, 115]) = false := by rw [bs_toList]; exact beq_eq_false_iff_ne.2 n10
    have m11 : ((bs l).toList == [111, 114, 101, 108, 115, 101]) = false := by rw [bs_toList]; exact beq_eq_false_iff_ne.2 n11
    have m12 : ((bs l).toList == [108, 97, 103]) = false := by rw [bs_toList]; exact beq_eq_false_iff_ne.2 n12
    have m13 : ((bs l).toList == [108, 101, 97, 115, 116]) = false := by rw [bs_toList]; exact beq_eq_false_iff_ne.2 n13
    have m14 : ((bs l).toList == [109, 111, 115, 116]) = false := by rw [bs_toList]; exact beq_eq_false_iff_ne.2 n14
    have m15 : ((bs l).toList == [97, 110, 121]) = false := by rw [bs_toList]; exact beq_eq_false_iff_ne.2 n15
    have m16 : ((bs l).toList == [101, 118, 101, 114, 121]) = false := by rw [bs_toList]; exact beq_eq_false_iff_ne.2 n16
    obtain ⟨S, hS⟩ : ∃ S, Hid (bs l = S) := ⟨_, rfl⟩
    rw [hS.out] at m0 m1 m2 m3 m4 m5 m6 m7 m8 m9 m10 m11 m12 m13 m14 m15 m16 ⊢
    clear n0 n1 n2 n3 n4 n5 n6 n7 n8 n9 n10 n11 n12 n13 n14 n15 n16 hS
    go_enter Tryd.func45, Tryd.ntmps45
    go_wp2_with fail
    go_ret
    exact ⟨rfl, rfl⟩
end Go.Proofs.YtfonpegkaajnkaaDoor.Lx
/-
  Names: the document's Name, the program's, walked.
-/
namespace Go.Proofs.YtfonpegkaajnkaaDoor.Lx
open Go Go.RowKit Dt Tx
set_option linter.unusedSimpArgs false
set_option linter.unusedVariables false
attribute [local go_sem ↓] Go.wp_at_zero Go.wp_at_succ

def NmPost (b : Bool) (w : World) (e : Ending) (w' : World) : Prop := e = .returned (.bool b) ∧ Below w.heap.size w w'
theorem name_nil : nameP [] = false := by decide
theorem name_long {l : List UInt8} (h : 12 < l.length) : nameP l = false := by unfold nameP; rw [decide_eq_false (p := l.length ≤ 12) (by omega)]; simp
theorem name_first {l : List UInt8} (h : (l[0]?).any isLo = false) : nameP l = false := by unfold nameP; rw [h]; simp
theorem name_kept {l : List UInt8} (h : keptW.contains l = true) : nameP l = false := by unfold nameP; rw [h]; simp
theorem name_wh {l : List UInt8} (h : ¬ wh isAl l = l.length) : nameP l = false := by unfold nameP; rw [decide_eq_false h]; simp
theorem name_yes {l : List UInt8} (h0 : 0 < l.length) (h1 : l.length ≤ 12) (h2 : (l[0]?).any isLo = true) (h3 : wh isAl l = l.length) (h4 : keptW.contains l = false) : nameP l = true := by
  unfold nameP; rw [decide_eq_true h0, decide_eq_true h1, h2, decide_eq_true h3, h4]; rfl
set_option maxRecDepth 100000 in
set_option maxHeartbeats 2000000 in
theorem rname_is {w : World} (l : List UInt8) (hl : l.length ≤ 1000) : Calls Tryd.prog 25 #[.string (bs l)] w (NmPost (nameP l) w) := by
  have hz : (bs l).size = l.length := bs_size l
  have KP := fun w => rkept_is (w := w) l
  obtain ⟨N, hN⟩ : ∃ N, Hid (l.length = N) := ⟨_, rfl⟩
  rw [hN.out] at hz hl
  obtain ⟨S, hS⟩ : ∃ S, Hid (bs l = S) := ⟨_, rfl⟩
  rw [hS.out] at hz KP ⊢
  unfold NmPost
  by_cases h0 : N = 0
  · have E : nameP l = false := by rw [List.length_eq_zero_iff.1 (hN.out.trans h0)]; exact name_nil
    rw [E]
    have j1 : decide ((N : Int) = 0) = true := by simp; omega
    have j2 : ((N : Int) == 0) = true := by simp; omega
    have j3 : decide (N = 0) = true := by simpa using h0
    clear E h0 hl hS KP hN
    go_enter Tryd.func25, Tryd.ntmps25
    go_wp2_with fail
    go_ret
    exact ⟨rfl, Below.refl _ _⟩
  · have j1 : decide ((N : Int) = 0) = false := by simp; omega
    have j2 : ((N : Int) == 0) = false := by simp; omega
    have j3 : decide (N = 0) = false := by simpa using h0
    obtain ⟨x, hx⟩ : ∃ x, l[0]? = some x := ⟨_, List.getElem?_eq_getElem (by rw [hN.out]; omega)⟩
    have kc : ∀ w, (Instr.index 9 (.string (bs l)) (.int .i64 0)).run Tryd.prog w = .ok (.int .u8 (x.toNat : Int)) w := at_byte l 0 x hx
    rw [hS.out] at kc
    have hpos : (0 : Int) < (N : Int) := by omega
    by_cases h12 : 12 < N
    · have k1 : decide ((12 : Int) < (N : Int)) = true := by simp; omega
      have k2 : decide (12 < N) = true := by simpa using h12
      rw [name_long (by rw [hN.out]; exact h12)]
      clear h0 hl hS KP hN h12 hx kc
      go_enter Tryd.func25, Tryd.ntmps25
      go_wp2_with fail
      go_ret
      exact ⟨rfl, Below.refl _ _⟩
    · have k1 : decide ((12 : Int) < (N : Int)) = false := by simp; omega
      have k2 : decide (12 < N) = false := by simpa using h12
      have SM := fun w => small_is x w
      obtain ⟨y, hy⟩ : ∃ y, Hid (x.toNat = y) := ⟨_, rfl⟩
      rw [hy.out] at SM kc
      cases hlo : isLo x
      · rw [hlo] at SM
        rw [name_first (by rw [hx]; exact hlo)]
        clear h0 hl hS KP hN h12 hx hlo hy
        go_enter Tryd.func25, Tryd.ntmps25
        go_wp2_with (go_at_call 39; (with_reducible refine (SM _).mono ?_); rintro e1 w1 ⟨rfl, hq⟩; obtain rfl := hq.symm; clear SM)
        go_ret
        exact ⟨rfl, Below.refl _ _⟩
      · rw [hlo] at SM
        cases hkp : keptW.contains l
        · rw [hkp] at KP
          have YES := Lib.hid (fun h3 => name_yes (l := l) (by rw [hN.out]; omega) (by rw [hN.out]; omega) (by rw [hx]; exact hlo) h3 hkp)
          have HL := Lib.hid hl
          clear h0 hl h12 hx hlo hy hkp
          go_enter Tryd.func25, Tryd.ntmps25
          go_wp2_with (first | (go_at_call 39; (with_reducible refine (SM _).mono ?_); rintro e1 w1 ⟨rfl, hq⟩; obtain rfl := hq.symm; clear SM) | (go_at_call 45; (with_reducible refine (KP _).mono ?_); rintro e2 w2 ⟨rfl, hq⟩; obtain rfl := hq.symm; clear KP))
          go_loopw [3] (fun i wr => ∃ q : Nat, i = .int .i64 (q : Int) ∧ q ≤ N ∧ Hid (∀ r, r < q → (l[r]?).any isAl = true) ∧ Hid (wr = w)) (fun i _ => N - (intOf i).toNat)
          case atStart => exact ⟨0, rfl, Nat.zero_le _, fun r h => absurd h (Nat.not_lt_zero r), by first | exact rfl | exact (trivial : True)⟩
          case round =>
            obtain ⟨q, rfl, hq, HB, HW⟩ := hrel
            obtain rfl := HW.out.symm
            by_cases hql : q < N
            · obtain ⟨c, hc⟩ : ∃ c, l[q]? = some c := ⟨_, List.getElem?_eq_getElem (by rw [hN.out]; exact hql)⟩
              have kq := at_byte l q c hc
              rw [hS.out] at kq
              have i0 : (0 : Int) ≤ (q : Int) := by omega
              have i1 : decide ((q : Int) < (N : Int)) = true := by simp; omega
              have S2 := fun w => small_is c w
              have D2 := fun w => rdigit_is c w
              have kw : IntKind.i64.wrap ((q : Int) + 1) = (q : Int) + 1 := wrap1 q (by have := HL.out; omega)
              have HQ := Lib.hid hql
              have HC := Lib.hid hc
              obtain ⟨z, hzz⟩ : ∃ y, Hid (c.toNat = y) := ⟨_, rfl⟩
              rw [hzz.out] at S2 D2 kq
              have key : isAl c = true → Hid (∀ r, r < q + 1 → (l[r]?).any isAl = true) := fun hcl r h2 => by
                rcases Nat.lt_or_ge r q with h | h
                · exact HB.out r h
                · have : r = q := by omega
                  subst this; rw [HC.out]; exact hcl
              cases h1 : isLo c
              · rw [h1] at S2
                cases h2 : isDg c
                · rw [h2] at D2
                  have hwq : wh isAl l = q := wh_eq HB.out (by rw [hc]; show isAl c = false; unfold isAl; rw [h1, h2]; rfl)
                  have E := Lib.hid (name_wh (l := l) (by rw [hwq, hN.out]; omega))
                  clear hc hql hq key h1 h2 hzz hwq
                  go_wp2_with (first | (go_at_call 39; (with_reducible refine (S2 _).mono ?_); rintro e1 w1 ⟨rfl, hq⟩; obtain rfl := hq.symm; clear S2) | (go_at_call 40; (with_reducible refine (D2 _).mono ?_); rintro e2 w2 ⟨rfl, hq⟩; obtain rfl := hq.symm; clear D2))
                  go_ret
                  exact ⟨by rw [E.out]; rfl, Below.refl _ _⟩
                · rw [h2] at D2
                  have K := key (by unfold isAl; rw [h1, h2]; rfl)
                  clear hc hql hq key h1 h2 hzz HB
                  go_wp2_with (first | (go_at_call 39; (with_reducible refine (S2 _).mono ?_); rintro e1 w1 ⟨rfl, hq⟩; obtain rfl := hq.symm; clear S2) | (go_at_call 40; (with_reducible refine (D2 _).mono ?_); rintro e2 w2 ⟨rfl, hq⟩; obtain rfl := hq.symm; clear D2))
                  refine ⟨⟨q + 1, rfl, HQ.out, K, by first | exact rfl | exact (trivial : True)⟩, ?_⟩
                  show N - ((q : Int) + 1).toNat < N - (q : Int).toNat
                  have := HQ.out; omega
              · rw [h1] at S2
                have K := key (by unfold isAl; rw [h1]; rfl)
                clear hc hql hq key h1 hzz HB D2
                go_wp2_with (first | (go_at_call 39; (with_reducible refine (S2 _).mono ?_); rintro e1 w1 ⟨rfl, hq⟩; obtain rfl := hq.symm; clear S2))
                refine ⟨⟨q + 1, rfl, HQ.out, K, by first | exact rfl | exact (trivial : True)⟩, ?_⟩
                show N - ((q : Int) + 1).toNat < N - (q : Int).toNat
                have := HQ.out; omega
            · have hqN : q = N := by omega
              subst hqN
              have hwq : wh isAl l = l.length := by rw [hN.out]; exact wh_eq HB.out (by rw [List.getElem?_eq_none (by rw [hN.out]; exact Nat.le_refl _)]; rfl)
              have E := Lib.hid (YES.out hwq)
              clear hql hq HB hwq
              go_wp2_with fail
              go_ret
              exact ⟨by rw [E.out]; rfl, Below.refl _ _⟩
        · rw [hkp] at KP
          rw [name_kept hkp]
          clear h0 hl hS hN h12 hx hlo hy hkp
          go_enter Tryd.func25, Tryd.ntmps25
          go_wp2_with (first | (go_at_call 39; (with_reducible refine (SM _).mono ?_); rintro e1 w1 ⟨rfl, hq⟩; obtain rfl := hq.symm; clear SM) | (go_at_call 45; (with_reducible refine (KP _).mono ?_); rintro e2 w2 ⟨rfl, hq⟩; obtain rfl := hq.symm; clear KP))
          go_ret
          exact ⟨rfl, Below.refl _ _⟩
end Go.Proofs.YtfonpegkaajnkaaDoor.Lx
