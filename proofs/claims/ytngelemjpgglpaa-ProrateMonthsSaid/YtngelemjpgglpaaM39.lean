/-
  The document's prorate: Shares.
-/
import Derived.Test.YtngelemjpgglpaaM38
import Derived.Test.YtngelemjpgglpaaM32
/-
  The document's prorate: Shares.
-/
namespace Go.Proofs.Ytngelemjpgglpaa.Pro
open Go Go.RowKit
set_option linter.unusedSimpArgs false
set_option linter.unusedVariables false
attribute [local go_sem ↓] Go.wp_at_zero Go.wp_at_succ

theorem num_kept {k : Nat} {w w' : World} {v : Value} {z : Int} {row : Option Nat} (h : Num k w v z) (hg : w.grownBy w' row) (hr : ∀ g, row = some g → ∃ cur t, w.heap[g]? = some (.cells cur t (0, 0)) ∧ t ≠ 3) : Num k w' v z := by
  obtain ⟨s, ds, e, hw, hc, hv, hd⟩ := h
  refine ⟨s, ds, e, World.ownsRow.kept hw hg ?_, hc, hv, hd⟩
  rcases hw.2 with ⟨rfl, _⟩ | ⟨g', cap, cur, rfl, _, hgg, _⟩
  · exact .inl rfl
  · refine .inr fun e' => ?_
    obtain ⟨cur', t, h1, h2⟩ := hr g' e'.symm
    rw [hgg] at h1
    cases h1
    exact h2 rfl
theorem sharesA_bad {c n s : Int} {ws : List Int} (h : ¬ (0 ≤ n ∧ n ≤ 9) ∨ s < 0 ∨ 9 < s ∨ 1000 < ws.length ∨ ¬ (trim c n.toNat).2 ≤ s.toNat ∨ ¬ (∀ x ∈ ws, okW x)) : sharesA c n s ws = ([], 2) := by
  unfold sharesA; rw [if_pos h]
theorem post_none {c n s : Int} {ws : List Int} {w w' : World} (e : Int) (h : sharesA c n s ws = ([], e)) (b : Below w.heap.size w w') : SharesPost c n s ws w (.returned (.tuple #[.slice none 0 0, .int .i64 e])) w' :=
  ⟨.slice none 0 0, by rw [h], by rw [h]; exact Elem.Row.nil _ _, b⟩
set_option maxRecDepth 100000 in
set_option maxHeartbeats 2000000 in
theorem sharesR_guard {w : World} {v : Value} {ws : List Int} (c n s : Int) (hc : fits c) (ha : ArgI w v ws) (hb : isB n = false ∨ s < 0 ∨ 9 < s ∨ 1000 < ws.length) :
    Calls Try.prog 8 #[.agg #[.int .i64 c, .int .i64 n], .int .i64 s, v] w (SharesPost c n s ws w) := by
  obtain ⟨ao, cap, rfl, hcap, hcell⟩ := id ha
  have SA : Hid (sharesA c n s ws = ([], 2)) := sharesA_bad (by
    rcases hb with h | h | h | h
    · left; unfold isB at h; simpa using h
    · exact .inr (.inl h)
    · exact .inr (.inr (.inl h))
    · exact .inr (.inr (.inr (.inl h))))
  obtain ⟨P, hP⟩ : ∃ P, Hid (SharesPost c n s ws w = P) := ⟨_, rfl⟩
  rw [hP.out]
  have X0 := Lib.hid (dAt_new w c n)
  cases hn : isB n with
  | false =>
    have IB := rIs_any c n (w.alloc (.cells #[.int .i64 c, .int .i64 n] 23))
    rw [hn] at IB
    clear hb hcell ha hn
    go_enter Try.func8, Try.ntmps8
    go_wp2_with (go_at_call 33; (with_reducible refine IB.mono ?_); rintro e w2 ⟨rfl, b2⟩; have B2 := Lib.hid (bt (ba w (.cells #[.int .i64 c, .int .i64 n] 23)) b2); clear b2 IB)
    show P (.returned (.tuple #[.slice none 0 0, .int .i64 2])) _
    rw [← hP.out]; exact post_none 2 SA.out B2.out
  | true =>
    have IB := rIs_any c n (w.alloc (.cells #[.int .i64 c, .int .i64 n] 23))
    rw [hn] at IB
    have hb2 : s < 0 ∨ 9 < s ∨ 1000 < ws.length := by rcases hb with h | h; rw [hn] at h; cases h; exact h
    clear hb hcell ha hn
    by_cases h1 : s < 0
    · have d1 : decide (s < 0) = true := by simpa using h1
      clear hb2
      go_enter Try.func8, Try.ntmps8
      go_wp2_with (go_at_call 33; (with_reducible refine IB.mono ?_); rintro e w2 ⟨rfl, b2⟩; have B2 := Lib.hid (bt (ba w (.cells #[.int .i64 c, .int .i64 n] 23)) b2); clear b2 IB)
      show P (.returned (.tuple #[.slice none 0 0, .int .i64 2])) _
      rw [← hP.out]; exact post_none 2 SA.out B2.out
    · have d1 : decide (s < 0) = false := by simpa using h1
      by_cases h2 : 9 < s
      · have d2 : decide (9 < s) = true := by simpa using h2
        clear hb2
        go_enter Try.func8, Try.ntmps8
        go_wp2_with (go_at_call 33; (with_reducible refine IB.mono ?_); rintro e w2 ⟨rfl, b2⟩; have B2 := Lib.hid (bt (ba w (.cells #[.int .i64 c, .int .i64 n] 23)) b2); clear b2 IB)
        show P (.returned (.tuple #[.slice none 0 0, .int .i64 2])) _
        rw [← hP.out]; exact post_none 2 SA.out B2.out
      · have d2 : decide (9 < s) = false := by simpa using h2
        have h3 : 1000 < ws.length := by rcases hb2 with h | h | h; exact absurd h h1; exact absurd h h2; exact h
        have d3 : decide (1000 < ws.length) = true := by simpa using h3
        have d4 : decide ((1000 : Int) < (ws.length : Int)) = true := by simp; omega
        clear hb2
        go_enter Try.func8, Try.ntmps8
        go_wp2_with (go_at_call 33; (with_reducible refine IB.mono ?_); rintro e w2 ⟨rfl, b2⟩; have B2 := Lib.hid (bt (ba w (.cells #[.int .i64 c, .int .i64 n] 23)) b2); clear b2 IB)
        show P (.returned (.tuple #[.slice none 0 0, .int .i64 2])) _
        rw [← hP.out]; exact post_none 2 SA.out B2.out
set_option maxRecDepth 100000 in
set_option maxHeartbeats 4000000 in
theorem sharesR_nat {w : World} {v : Value} {ws : List Int} (c : Int) (n S : Nat) (hc : fits c) (ha : ArgI w v ws) (hl : ws.length ≤ 1000) (hn : n ≤ 9) (hs : S ≤ 9) :
    Calls Try.prog 8 #[.agg #[.int .i64 c, .int .i64 (n : Int)], .int .i64 (S : Int), v] w (SharesPost c (n : Int) (S : Int) ws w) := by
  obtain ⟨ao, cap, rfl, hcap, hcell⟩ := id ha
  have IB := rIs_any c (n : Int) (w.alloc (.cells #[.int .i64 c, .int .i64 (n : Int)] 23))
  rw [show isB (n : Int) = true by unfold isB; simp; omega] at IB
  obtain ⟨P, hP⟩ : ∃ P, Hid (SharesPost c (n : Int) (S : Int) ws w = P) := ⟨_, rfl⟩
  rw [hP.out]
  have X0 := Lib.hid (dAt_new w c (n : Int))
  have d1 : decide ((S : Int) < 0) = false := by simp
  have d2 : decide (9 < (S : Int)) = false := by simp; omega
  have d3 : decide (1000 < ws.length) = false := by simp; omega
  have d4 : decide ((1000 : Int) < (ws.length : Int)) = false := by simp; omega
  have HC := Lib.hid hc; have HL := Lib.hid hl; have HN := Lib.hid hn; have HS := Lib.hid hs
  have B0 := Lib.hid (ba w (.cells #[.int .i64 c, .int .i64 (n : Int)] 23))
  have A0 := Lib.hid (ha.below B0.out)
  have HAW := Lib.hid ha
  clear hcell ha hc hl hn hs
  go_enter Try.func8, Try.ntmps8
  go_upto_region 3 with (go_at_call 33; (with_reducible refine IB.mono ?_); rintro e w2 ⟨rfl, b2⟩; have B2 := Lib.hid (bt B0.out b2); have X2 := Lib.hid (DAt.below X0.out b2); have A2 := Lib.hid (A0.out.below b2); clear b2 IB)
  have x0 := X2.out.c0; have x1 := X2.out.c1
  go_upto_region 4 with (go_at_call 10; (with_reducible refine (unitsR_any c n S _ HC.out HN.out HS.out).mono ?_); rintro e w3 ⟨vu, hu, rfl, b3⟩; obtain ⟨ub, ua, un, uc, rfl⟩ := num_agg hu; have NU3 := Lib.hid hu; have B3 := Lib.hid (bt B2.out b3); have A3 := Lib.hid (A2.out.below b3); clear hu b3)
  have b4 := ba w3 (.cells #[.bool ub, .slice ua un uc] 33)
  have NU4 := Lib.hid (num_below NU3.out b4); have B4 := Lib.hid (bt B3.out b4); have A4 := Lib.hid (A3.out.below b4)
  have U4 := Lib.hid (boxAt_new w3 (.bool ub) (.slice ua un uc))
  obtain ⟨iU, hiU⟩ : ∃ k, Hid (w3.heap.size = k) := ⟨_, rfl⟩
  obtain ⟨w4, hw4⟩ : ∃ v, Hid (v = w3.alloc (.cells #[.bool ub, .slice ua un uc] 33)) := ⟨_, rfl⟩
  have lU : Hid (w.heap.size ≤ iU) := by show _ ≤ _; rw [← hiU.out]; exact B3.out.size
  rw [← hw4.out] at NU4 B4 A4 U4 ⊢
  rw [hiU.out] at U4 ⊢
  clear hw4 hiU b4 NU3 B3 A3 X2 A2 B2 x0 x1 X0 A0 B0
  obtain ⟨q0, hq0⟩ : ∃ b, Hid (decide ((trim c n).2 ≤ S) = b) := ⟨_, rfl⟩
  rw [hq0.out]
  go_wp2_with fail
  go_loop [9, 10] (fun b i => ∃ (k : Nat) (q : Bool), b = .bool q ∧ i = .int .i64 (k : Int) ∧ k ≤ ws.length ∧ Hid (q = true ↔ q0 = true ∧ ∀ x ∈ ws.take k, okW x)) (fun _ i => ws.length - (intOf i).toNat)
  case atStart => exact ⟨0, q0, rfl, rfl, by omega, by show _ ↔ _; simp⟩
  case round =>
    obtain ⟨k, q, rfl, rfl, hk, HQ⟩ := hrel
    by_cases hkl : k < ws.length
    · obtain ⟨x, hx⟩ : ∃ x, ws[k]? = some x := ⟨_, List.getElem?_eq_getElem hkl⟩
      have ST : Hid (ws.take (k + 1) = ws.take k ++ [x]) := by show _ = _; rw [List.take_add_one, hx]; rfl
      have i0 : (0 : Int) ≤ (k : Int) := by omega
      have i1 : (k : Int) < ((ws.length : Nat) : Int) := by omega
      have HK := Lib.hid hkl
      have kw : IntKind.i64.wrap ((k : Int) + 1) = (k : Int) + 1 := by rw [IntWalk.i64_left]; exact IntWalk.wrap64_in _ (by have := HL.out; omega)
      obtain ⟨_, _, e, _, hcell⟩ := A4.out
      cases e
      obtain ⟨bl, ol, rfl, hbl, c0⟩ := hcell k x hx
      clear hx hcell hk
      cases q with
      | false =>
        have HF : Hid (false = true ↔ q0 = true ∧ ∀ x ∈ ws.take (k + 1), okW x) := by
          show _ ↔ _
          have h := HQ.out
          rw [ST.out]
          exact ⟨fun h => (by cases h), fun ⟨h1, h2⟩ => h.2 ⟨h1, fun y hy => h2 y (List.mem_append_left _ hy)⟩⟩
        go_wp2_with fail
        go_round
        case rel => exact ⟨k + 1, false, rfl, rfl, by have := HK.out; omega, HF⟩
        case measure => show _ - ((k : Int) + 1).toNat < _ - ((k : Int)).toNat; have := HK.out; omega
      | true =>
        by_cases g0 : 0 ≤ x
        · have e0 : decide (0 ≤ x) = true := by simpa using g0
          by_cases g1 : x ≤ 3652059
          · have e1 : decide (x ≤ 3652059) = true := by simpa using g1
            have HF : Hid (true = true ↔ q0 = true ∧ ∀ x ∈ ws.take (k + 1), okW x) := by
              show _ ↔ _
              have h := HQ.out.1 rfl
              rw [ST.out]
              refine ⟨fun _ => ⟨h.1, fun y hy => ?_⟩, fun _ => rfl⟩
              rcases List.mem_append.1 hy with hy | hy
              · exact h.2 y hy
              · rw [List.mem_singleton] at hy; subst hy; exact ⟨g0, g1⟩
            clear g0 g1
            go_wp2_with fail
            go_round
            case rel => exact ⟨k + 1, true, rfl, rfl, by have := HK.out; omega, HF⟩
            case measure => show _ - ((k : Int) + 1).toNat < _ - ((k : Int)).toNat; have := HK.out; omega
          · have e1 : decide (x ≤ 3652059) = false := by simpa using g1
            have HF : Hid (false = true ↔ q0 = true ∧ ∀ x ∈ ws.take (k + 1), okW x) := by
              show _ ↔ _
              rw [ST.out]
              exact ⟨fun h => (by cases h), fun ⟨h1, h2⟩ => absurd (h2 x (by simp)).2 g1⟩
            clear g0 g1
            go_wp2_with fail
            go_round
            case rel => exact ⟨k + 1, false, rfl, rfl, by have := HK.out; omega, HF⟩
            case measure => show _ - ((k : Int) + 1).toNat < _ - ((k : Int)).toNat; have := HK.out; omega
        · have e0 : decide (0 ≤ x) = false := by simpa using g0
          have HF : Hid (false = true ↔ q0 = true ∧ ∀ x ∈ ws.take (k + 1), okW x) := by
            show _ ↔ _
            rw [ST.out]
            exact ⟨fun h => (by cases h), fun ⟨h1, h2⟩ => absurd (h2 x (by simp)).1 g0⟩
          clear g0
          go_wp2_with fail
          go_round
          case rel => exact ⟨k + 1, false, rfl, rfl, by have := HK.out; omega, HF⟩
          case measure => show _ - ((k : Int) + 1).toNat < _ - ((k : Int)).toNat; have := HK.out; omega
    · have hke : k = ws.length := by omega
      subst hke
      clear hkl hk
      have HQ2 : Hid (q = true ↔ (trim c n).2 ≤ S ∧ ∀ x ∈ ws, okW x) := by
        show _ ↔ _
        have h := HQ.out
        rw [List.take_length, ← hq0.out] at h
        simpa using h
      clear HQ
      cases q with
      | false =>
        have SA : Hid (sharesA c (n : Int) (S : Int) ws = ([], 2)) := sharesA_bad (by
          by_cases h1 : (trim c n).2 ≤ S
          · by_cases h2 : ∀ x ∈ ws, okW x
            · exact absurd (HQ2.out.2 ⟨h1, h2⟩) (by simp)
            · exact .inr (.inr (.inr (.inr (.inr h2))))
          · exact .inr (.inr (.inr (.inr (.inl h1)))))
        go_wp2_with fail
        show P (.returned (.tuple #[.slice none 0 0, .int .i64 2])) _
        rw [← hP.out]; exact post_none 2 SA.out B4.out
      | true =>
        have HO := Lib.hid (HQ2.out.1 rfl).2
        have HT := Lib.hid (HQ2.out.1 rfl).1
        have SM := Lib.hid (small_of29 HO.out HL.out)
        obtain ⟨al, hal⟩ : ∃ z, Hid (ws.sum = z) := ⟨_, rfl⟩
        have al0 : 0 ≤ al := by rw [← hal.out, ← pre_all ws (Nat.le_refl _)]; exact (pre_bound HO.out _).1
        obtain ⟨aln, rfl⟩ : ∃ m : Nat, al = (m : Int) := ⟨al.toNat, by omega⟩
        have HPA : Hid (pre ws ws.length = (aln : Int)) := by show _ = _; rw [pre_all ws (Nat.le_refl _), hal.out]
        have NR : Hid (¬ (¬ (0 ≤ (n : Int) ∧ (n : Int) ≤ 9) ∨ (S : Int) < 0 ∨ 9 < (S : Int) ∨ 1000 < ws.length ∨ ¬ (trim c ((n : Int)).toNat).2 ≤ ((S : Int)).toNat ∨ ¬ (∀ x ∈ ws, okW x))) := by
          show ¬ _
          have h1 := HN.out; have h2 := HS.out; have h3 := HL.out
          rintro (h | h | h | h | h | h)
          · omega
          · omega
          · omega
          · omega
          · exact h HT.out
          · exact h HO.out
        have hl6 : ws.length ≤ 1000000 := by have := HL.out; omega
        have HL6 := Lib.hid hl6
        clear HQ2 al0 hl6
        go_upto_region 11 with (go_at_call 34; (with_reducible refine (total_c ws.length (aln : Int) A4.out SM.out HL6.out (Nat.le_refl _) HPA.out).mono ?_); rintro e w5 ⟨rfl, b5⟩; have NU5 := Lib.hid (num_below NU4.out b5); have B5 := Lib.hid (bt B4.out b5); have A5 := Lib.hid (A4.out.below b5); have U5 := Lib.hid (boxAt_below U4.out b5); clear b5)
        clear NU4 B4 A4 U4
        by_cases g1 : 3652059 < aln
        · have e1 : decide ((3652059 : Int) < (aln : Int)) = true := by simp; omega
          have SA : Hid (sharesA c (n : Int) (S : Int) ws = ([], 11)) := by
            show _ = _; unfold sharesA; rw [if_neg NR.out, if_pos (by rw [hal.out]; omega)]
          clear g1
          go_wp2_with fail
          show P (.returned (.tuple #[.slice none 0 0, .int .i64 11])) _
          rw [← hP.out]; exact post_none 11 SA.out B5.out
        · have e1 : decide ((3652059 : Int) < (aln : Int)) = false := by simp; omega
          by_cases g2 : aln = 0
          · subst g2
            have SA : Hid (sharesA c (n : Int) (S : Int) ws = ([], 12)) := by
              show _ = _; unfold sharesA; rw [if_neg NR.out, if_neg (by rw [hal.out]; omega), if_pos (by rw [hal.out]; rfl)]
            clear g1
            go_wp2_with fail
            show P (.returned (.tuple #[.slice none 0 0, .int .i64 12])) _
            rw [← hP.out]; exact post_none 12 SA.out B5.out
          · have e2 : ((aln : Int) == 0) = false := by simpa using g2
            have AP : Hid (0 < aln ∧ aln ≤ 3652059) := ⟨by omega, by omega⟩
            clear g1 g2
            go_upto_region 17 with fail
            obtain ⟨U, hU⟩ : ∃ z, Hid (unitsA c n S = z) := ⟨_, rfl⟩
            rw [hU.out] at NU5
            have SAI : Hid ((allFit U (aln : Int) S ws ws.length → sharesA c (n : Int) (S : Int) ws = (rowA U (aln : Int) S ws ws.length, 0)) ∧ (¬ allFit U (aln : Int) S ws ws.length → sharesA c (n : Int) (S : Int) ws = ([], 11))) := by
              show _ ∧ _
              unfold sharesA
              rw [if_neg NR.out, if_neg (by rw [hal.out]; have := AP.out; omega), if_neg (by rw [hal.out]; have := AP.out; omega), hal.out, show ((n : Int)).toNat = n from rfl, show ((S : Int)).toNat = S from rfl, hU.out]
              exact ⟨fun h => by rw [if_pos h], fun h => by rw [if_neg h]⟩
            have HSM := SM
            go_loopw [12, 13] (fun o i wr => ∃ (k : Nat) (va : Option Addr) (vcap : Nat), o = .slice va k vcap ∧ i = .int .i64 (k : Int) ∧ k ≤ ws.length ∧ Hid (RowD wr w.heap.size o (rowA U (aln : Int) S ws k)) ∧ Hid (allFit U (aln : Int) S ws k) ∧ Hid (BoxAt wr iU (.bool ub) (.slice ua un uc)) ∧ Hid (Num 44 wr (.agg #[.bool ub, .slice ua un uc]) U) ∧ Hid (Below w.heap.size w wr)) (fun _ i _ => ws.length - (intOf i).toNat)
            case atStart => exact ⟨0, none, 0, rfl, rfl, by omega, Elem.Row.nil _ _, fun i hi => by omega, U5, NU5, B5⟩
            case round =>
              obtain ⟨wo, rfl⟩ : ∃ wo : World, wo = wr := ⟨_, rfl⟩
              clear U5 NU5 A5
              obtain ⟨k, va, vcap, rfl, rfl, hk, HROW, HFI, U6, NU6, B6⟩ := hrel
              by_cases hkl : k < ws.length
              · have i1 : (k : Int) < ((ws.length : Nat) : Int) := by omega
                have HK := Lib.hid hkl
                have kw : IntKind.i64.wrap ((k : Int) + 1) = (k : Int) + 1 := by rw [IntWalk.i64_left]; exact IntWalk.wrap64_in _ (by have := HL.out; omega)
                have A6 := Lib.hid (ArgI.below HAW.out B6.out)
                obtain ⟨sh, hsh⟩ : ∃ z, Hid (share U (aln : Int) ws k = z) := ⟨_, rfl⟩
                have SH := shareR_any 44 _ _ _ ws k aln wo NU6.out (by omega) A6.out HO.out HL.out HK.out hal.out AP.out.1 AP.out.2
                rw [hsh.out] at SH
                have u0 := U6.out.c0; have u1 := U6.out.c1
                clear hkl hk
                by_cases hfit : fits (trim sh S).1
                · obtain ⟨p1, p2, hp⟩ : ∃ (p1 : Int) (p2 : Nat), Hid (trim sh S = (p1, p2)) := ⟨_, _, rfl⟩
                  have hDD : Hid (decV sh S = .tuple #[.agg #[.int .i64 p1, .int .i64 (p2 : Int)], .int .i64 0]) := by
                    show _ = _; unfold decV; rw [if_pos hfit, hp.out]
                  have HFIT := Lib.hid hfit
                  clear hfit
                  go_upto_region 20 with (first
                    | (go_at_call 36; (with_reducible refine SH.mono ?_); rintro e w7 ⟨v7, hz, rfl, b7⟩; have N7 := Lib.hid hz; have b7 := Lib.hid b7; clear hz SH)
                    | (go_at_call 35; (with_reducible refine (madeR_any (44 + 16) _ sh S _ _ N7.out (by omega) (by have := HS.out; omega) hDD.out).mono ?_); rintro e w8 ⟨rfl, b8⟩; have D8 := Lib.hid (bt b7.out b8); clear b8))
                  have b9 := bt D8.out (ba w8 (.cells #[.int .i64 p1, .int .i64 (p2 : Int)] 23))
                  have P9 := Lib.hid (dAt_new w8 p1 (p2 : Int))
                  have R9 := Lib.hid (Elem.Row.below HROW.out b9); have U9 := Lib.hid (boxAt_below U6.out b9); have N9 := Lib.hid (num_below NU6.out b9); have B9 := Lib.hid (bt B6.out b9)
                  obtain ⟨iP, hiP⟩ : ∃ m, Hid (w8.heap.size = m) := ⟨_, rfl⟩
                  obtain ⟨w9, hw9⟩ : ∃ x, Hid (x = w8.alloc (.cells #[.int .i64 p1, .int .i64 (p2 : Int)] 23)) := ⟨_, rfl⟩
                  rw [← hw9.out] at P9 R9 U9 N9 B9 ⊢
                  rw [hiP.out] at P9 ⊢
                  clear hw9 hiP b9 b7 D8 N7 u0 u1 U6 NU6 HROW B6 A6
                  have b10 := ba w9 (.cells #[.int .i64 p1, .int .i64 (p2 : Int)] 23)
                  have R10 := Lib.hid (Elem.Row.below R9.out b10); have U10 := Lib.hid (boxAt_below U9.out b10); have N10 := Lib.hid (num_below N9.out b10); have B10 := Lib.hid (bt B9.out b10)
                  have SRC : Hid (decE.Arg (w9.alloc (.cells #[.int .i64 p1, .int .i64 (p2 : Int)] 23)) (.slice (some ⟨w9.heap.size, 0, none⟩) 1 1) [(p1, p2)]) := Elem.arg_one (E := decE) (w := w9) (p1, p2) _
                  have HB10 : Hid (w.heap.size ≤ (w9.alloc (.cells #[.int .i64 p1, .int .i64 (p2 : Int)] 23)).heap.size) := B10.out.size
                  have HLN : Hid ((rowA U (aln : Int) S ws k).length + [(p1, p2)].length ≤ 1000001) := by
                    show _ ≤ _; rw [rowA_len, List.length_singleton]; have := HK.out; have := HL.out; omega
                  have EQ : Hid (rowA U (aln : Int) S ws (k + 1) = rowA U (aln : Int) S ws k ++ [(p1, p2)]) := by show _ = _; rw [rowA, hsh.out, hp.out]
                  have p0 := P9.out.c0; have p1' := P9.out.c1
                  clear b10 R9 U9 N9 B9
                  go_wp2_with (at_builtin; go_loud (refine Elem.app (E := decE) rfl _ _ rfl w.heap.size _ _ _ [(p1, p2)] rfl rfl R10.out SRC.out HLN.out (by decide) HB10.out ?_; intro v11 w11 r11 g11 _; obtain ⟨va', vcap', hv11, _, _⟩ := r11.form; rw [← EQ.out] at r11 hv11; rw [rowA_len] at hv11; subst hv11; have R11 := Lib.hid r11; have G11 := Lib.hid g11; clear r11 g11))
                  go_roundw
                  case rel =>
                    have ne : ∀ g, (Value.slice va k vcap).ownBlock = some g → ∃ cur t, (w9.alloc (.cells #[.int .i64 p1, .int .i64 (p2 : Int)] 23)).heap[g]? = some (.cells cur t (0, 0)) ∧ t ≠ 3 := fun g hg => by
                      obtain ⟨cur, h⟩ := R10.out.at hg
                      exact ⟨cur, _, h, by decide⟩
                    refine ⟨k + 1, va', vcap', rfl, rfl, by have := HK.out; omega, R11, ?_, ?_, num_kept N10.out G11.out ne, B10.out.grown G11.out HB10.out (fun g hg => (R10.out.lt g hg).1)⟩
                    · intro i hi
                      by_cases e : i = k
                      · subst e; rw [hsh.out]; exact HFIT.out
                      · exact HFI.out i (by omega)
                    · exact (G11.out.block iU (Array.getElem?_eq_some_iff.1 U10.out).1 (R10.out.ne U10.out (by decide))).trans U10.out
                  case measure => show _ - ((k : Int) + 1).toNat < _ - ((k : Int)).toNat; have := HK.out; omega
                · have hDD : Hid (decV sh S = .tuple #[.agg #[.int .i64 0, .int .i64 0], .int .i64 11]) := by
                    show _ = _; unfold decV; rw [if_neg hfit]
                  have HFIT := Lib.hid hfit
                  clear hfit
                  go_upto_region 20 with (first
                    | (go_at_call 36; (with_reducible refine SH.mono ?_); rintro e w7 ⟨v7, hz, rfl, b7⟩; have N7 := Lib.hid hz; have b7 := Lib.hid b7; clear hz SH)
                    | (go_at_call 35; (with_reducible refine (madeR_any (44 + 16) _ sh S _ _ N7.out (by omega) (by have := HS.out; omega) hDD.out).mono ?_); rintro e w8 ⟨rfl, b8⟩; have D8 := Lib.hid (bt b7.out b8); clear b8))
                  have HE := Lib.hid (SAI.out.2 (fun h => HFIT.out (by rw [← hsh.out]; exact h k HK.out)))
                  have B9 := Lib.hid (bt B6.out (bt D8.out (ba w8 (.cells #[.int .i64 0, .int .i64 0] 23))))
                  clear u0 u1
                  go_wp2_with fail
                  show P (.returned (.tuple #[.slice none 0 0, .int .i64 11])) _
                  rw [← hP.out]; exact post_none 11 HE.out B9.out
              · have hke : k = ws.length := by omega
                subst hke
                have HE := Lib.hid (SAI.out.1 HFI.out)
                clear hkl hk
                go_wp2_with fail
                show P (.returned (.tuple #[.slice va _ vcap, .int .i64 0])) _
                rw [← hP.out]
                exact ⟨_, by rw [HE.out], by rw [HE.out]; exact HROW.out, B6.out⟩
/-- any amount, any weights -/
theorem sharesR_any {w : World} {v : Value} {ws : List Int} (c n s : Int) (hc : fits c) (ha : ArgI w v ws) :
    Calls Try.prog 8 #[.agg #[.int .i64 c, .int .i64 n], .int .i64 s, v] w (SharesPost c n s ws w) := by
  by_cases h : isB n = false ∨ s < 0 ∨ 9 < s ∨ 1000 < ws.length
  · exact sharesR_guard c n s hc ha h
  · have h1 : isB n = true := by
      cases hn : isB n with
      | true => rfl
      | false => exact absurd (.inl hn) h
    obtain ⟨m, rfl, hm⟩ := isB_nat h1
    obtain ⟨S, rfl⟩ : ∃ S : Nat, s = (S : Int) := ⟨s.toNat, by omega⟩
    exact sharesR_nat c m S hc ha (by omega) hm (by omega)
end Go.Proofs.Ytngelemjpgglpaa.Pro
