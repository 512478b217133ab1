/-
  DectextText: walked.
-/
import Derived.Test.YtbcnbahfjpgmaaaDoorM48
import Derived.Test.YtbcnbahfjpgmaaaDoorM50
/-
  DectextText: walked.
-/
namespace Go.Proofs.YtbcnbahfjpgmaaaDoor.Tx
open Go Go.RowKit Dt
set_option linter.unusedSimpArgs false
set_option linter.unusedVariables false
attribute [local go_sem ↓] Go.wp_at_zero Go.wp_at_succ

theorem can_canon {c s : Int} : canS c s = 0 ∨ canC c s % 10 ≠ 0 := trim_canon c s.toNat
theorem texts_len (c s : Int) (hc : Fit c) : (textS c s).length ≤ 1000 := by
  unfold textS
  split
  · rename_i hb
    unfold dtxt
    have h1 := refT_len (canC c s).natAbs (canS c s)
    have h2 := lenT_le (a := (canC c s).natAbs) (D := canS c s) (by have := trim_fit c s.toNat hc; unfold canC; unfold Fit at this; omega) (canS_le hb)
    have h3 : (sgn (decide (canC c s < 0))).length ≤ 1 := by unfold sgn; split <;> simp
    rw [List.length_append]; omega
  · simp
set_option maxRecDepth 100000 in
set_option maxHeartbeats 4000000 in
theorem text_law {w : World} (c s : Int) (h1 : fits c) (h2 : fits s) (he : Env w) : Calls Tryd.prog 3 #[.agg #[.int .i64 c, .int .i64 s]] w fun e w' => e = .returned (.bool true) ∧ Below w.heap.size w w' := by
  have hc : Fit c := h1
  have HE := Lib.hid he
  have B0 := Lib.hid (ba w (.cells #[.int .i64 c, .int .i64 s] 23))
  have T0 := Lib.hid (Two.new w c s)
  have R1 := fun w (h : Env w) => text_any (w := w) c s hc h
  have R2 : ∀ w, Calls Tryd.prog 7 #[.agg #[.int .i64 c, .int .i64 s]] w (TextPost c s w) := fun w => by
    cases h : isB s
    · exact rtext_no c s h
    · exact rtext_yes c s hc h
  have hlen := texts_len c s hc
  obtain ⟨S, hS⟩ : ∃ S, Hid (bs (textS c s) = S) := ⟨_, rfl⟩
  unfold TextPost at R1 R2
  rw [hS.out] at R1 R2
  have es := self_toList S
  have I := fun w => rIs_any c s w
  by_cases hb : isB s = true
  · rw [hb] at I
    have hP : dparse (textS c s) = ((canC c s, (canS c s : Int)), 0) := by
      unfold textS; rw [if_pos hb]
      exact read_back _ _ (trim_fit c s.toNat hc) (canS_le hb) can_canon
    have P3 := fun w (h : Env w) => dparse_at hP hlen w h
    rw [hS.out] at P3
    have P4 : ∀ w, Calls Tryd.prog 11 #[.agg #[.int .i64 c, .int .i64 s]] w fun e w' => e = .returned (.tuple #[.agg #[.int .i64 (canC c s), .int .i64 (canS c s : Int)], .int .i64 0]) ∧ Below w.heap.size w w' := fun w => by
      have e := putV_ok hc hb
      obtain ⟨n, rfl, hn⟩ := isB_nat hb
      unfold putV at e
      rw [if_pos hb, Int.toNat_natCast, decV_un c n hn] at e
      exact rPut_any c n _ w hc hn e
    obtain ⟨x1, hx1⟩ : ∃ x, Hid (canC c s = x) := ⟨_, rfl⟩
    obtain ⟨x2, hx2⟩ : ∃ x : Int, Hid ((canS c s : Int) = x) := ⟨_, rfl⟩
    rw [hx1.out, hx2.out] at P3
    rw [hx1.out, hx2.out] at P4
    clear hP hb hc h1 h2 he hlen hS
    go_enter Tryd.func3, Tryd.ntmps3
    go_upto_region 1 with fail
    obtain ⟨wa, hwa⟩ : ∃ v, Hid (v = w.alloc (.cells #[.int .i64 c, .int .i64 s] 23)) := ⟨_, rfl⟩
    rw [← hwa.out] at B0 T0 ⊢
    have R1' := R1 wa (HE.out.below B0.out)
    have c0 := T0.out.c0; have c1 := T0.out.c1
    clear hwa R1
    go_upto_region 6 with (first | (go_at_call 6; (with_reducible refine R1'.mono ?_); rintro e1 w1 ⟨rfl, b1⟩; have B1 := Lib.hid (bt B0.out b1); have T1 := Lib.hid (T0.out.below b1); have y0 := T1.out.c0; have y1 := T1.out.c1; clear b1 R1') | (go_at_call 7; (with_reducible refine (R2 _).mono ?_); rintro e2 w2 ⟨rfl, b2⟩; have B2 := Lib.hid (bt B1.out b2); have T2 := Lib.hid (T1.out.below b2); have z0 := T2.out.c0; have z1 := T2.out.c1; clear b2 R2) | (go_at_call 8; (with_reducible refine (I _).mono ?_); rintro e3 w3 ⟨rfl, b3⟩; have B3 := Lib.hid (bt B2.out b3); have T3 := Lib.hid (T2.out.below b3); clear b3 I))
    have P3' := P3 w3 (HE.out.below B3.out)
    clear P3 c0 c1 y0 y1 z0 z1
    go_upto_region 7 with (go_at_call 10; (with_reducible refine P3'.mono ?_); rintro e4 w4 ⟨rfl, b4⟩; have B4 := Lib.hid (bt B3.out b4); have T4 := Lib.hid (T3.out.below b4); clear b4 P3')
    have BA := ba w4 (.cells #[.int .i64 x1, .int .i64 x2] 23)
    have B5 := Lib.hid (bt B4.out BA); have T5 := Lib.hid (T4.out.below (Below.mono BA (Nat.le_refl _))); have Y5 := Lib.hid (Two.new w4 x1 x2)
    obtain ⟨w5, hw5⟩ : ∃ v, Hid (v = w4.alloc (.cells #[.int .i64 x1, .int .i64 x2] 23)) := ⟨_, rfl⟩
    obtain ⟨i5, hi5⟩ : ∃ i, Hid (w4.heap.size = i) := ⟨_, rfl⟩
    rw [← hw5.out] at B5 T5 Y5 ⊢
    rw [hi5.out] at Y5 ⊢
    clear hw5 BA
    have c0 := T5.out.c0; have c1 := T5.out.c1
    go_upto_region 8 with (go_at_call 11; (with_reducible refine (P4 _).mono ?_); rintro e6 w6 ⟨rfl, b6⟩; have B6 := Lib.hid (bt B5.out b6); have Y6 := Lib.hid (Y5.out.below b6); clear b6 P4)
    have K := known_is (w := w6.alloc (.cells #[.int .i64 x1, .int .i64 x2] 23)) ((HE.out.below B6.out).below (ba _ _))
    have BA := ba w6 (.cells #[.int .i64 x1, .int .i64 x2] 23)
    have B7 := Lib.hid (bt B6.out BA)
    have Y7 := Y6.out.below (Below.mono BA (Nat.le_refl _))
    have Z7 := Two.new w6 x1 x2
    have y0 := Y7.c0; have y1 := Y7.c1; have z0 := Z7.c0; have z1 := Z7.c1
    obtain ⟨wz, hwz⟩ : ∃ v, Hid (v = w6.alloc (.cells #[.int .i64 x1, .int .i64 x2] 23)) := ⟨_, rfl⟩
    rw [← hwz.out] at K B7 y0 y1 z0 z1 ⊢
    clear hwz Y7 Z7 BA c0 c1
    go_wp2_with (go_at_call 9; (with_reducible refine K.mono ?_); rintro e9 w9 ⟨rfl, b9⟩; have B9 := Lib.hid (bt B7.out b9); clear b9 K)
    go_ret
    exact ⟨rfl, B9.out⟩
  · have hb' : isB s = false := by simpa using hb
    rw [hb'] at I
    have KN := fun w (h : Env w) => known_is h
    clear hb hb' hc h1 h2 he hlen hS
    go_enter Tryd.func3, Tryd.ntmps3
    go_upto_region 1 with fail
    obtain ⟨wa, hwa⟩ : ∃ v, Hid (v = w.alloc (.cells #[.int .i64 c, .int .i64 s] 23)) := ⟨_, rfl⟩
    rw [← hwa.out] at B0 T0 ⊢
    have R1' := R1 wa (HE.out.below B0.out)
    have c0 := T0.out.c0; have c1 := T0.out.c1
    clear hwa R1
    go_wp2_with (first | (go_at_call 6; (with_reducible refine R1'.mono ?_); rintro e1 w1 ⟨rfl, b1⟩; have B1 := Lib.hid (bt B0.out b1); have T1 := Lib.hid (T0.out.below b1); have y0 := T1.out.c0; have y1 := T1.out.c1; clear b1 R1') | (go_at_call 7; (with_reducible refine (R2 _).mono ?_); rintro e2 w2 ⟨rfl, b2⟩; have B2 := Lib.hid (bt B1.out b2); have T2 := Lib.hid (T1.out.below b2); have z0 := T2.out.c0; have z1 := T2.out.c1; clear b2 R2) | (go_at_call 8; (with_reducible refine (I _).mono ?_); rintro e3 w3 ⟨rfl, b3⟩; have B3 := Lib.hid (bt B2.out b3); have K := KN w3 (HE.out.below B3.out); clear b3 I KN) | (go_at_call 9; (with_reducible refine K.mono ?_); rintro e9 w9 ⟨rfl, b9⟩; have B9 := Lib.hid (bt B3.out b9); clear b9 K))
    go_ret
    exact ⟨rfl, B9.out⟩
end Go.Proofs.YtbcnbahfjpgmaaaDoor.Tx
