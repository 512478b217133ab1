/-
  DectextOnly: walked.
-/
import Derived.Test.YtbcnbahfjpgmaaaDoorM48
/-
  DectextOnly: walked.
-/
namespace Go.Proofs.YtbcnbahfjpgmaaaDoor.Tx
open Go Go.RowKit Dt
set_option linter.unusedSimpArgs false
set_option linter.unusedVariables false
attribute [local go_sem ↓] Go.wp_at_zero Go.wp_at_succ

theorem ne_facts {e : Int} (h : e ≠ 0) : decide (e = 0) = false ∧ (e == 0) = false ∧ (e != 0) = true := ⟨by simpa using h, by simpa using h, by simpa using h⟩
/-- what is none has nought for its number -/
theorem none_zero {l : List UInt8} {a b e : Int} (h : dparse l = ((a, b), e)) (he : e ≠ 0) : a = 0 ∧ b = 0 := by
  unfold dparse at h
  split at h
  · cases h; exact ⟨rfl, rfl⟩
  · split at h
    · cases h; exact ⟨rfl, rfl⟩
    · split at h
      · cases h; exact absurd rfl he
      · cases h; exact ⟨rfl, rfl⟩
set_option maxRecDepth 100000 in
set_option maxHeartbeats 4000000 in
theorem only_law {w : World} (s : ByteArray) (he : Env w) : Calls Tryd.prog 5 #[.string s] w fun e w' => e = .returned (.bool true) ∧ Below w.heap.size w w' := by
  obtain ⟨l, rfl⟩ : ∃ l, bs l = s := ⟨_, bs_of s⟩
  have hz : (bs l).size = l.length := bs_size l
  obtain ⟨N, hN⟩ : ∃ N, Hid (l.length = N) := ⟨_, rfl⟩
  rw [hN.out] at hz
  have HE := Lib.hid he
  by_cases h100 : 100 < N
  · have d1 : decide (100 < N) = true := by simpa using h100
    have d2 : decide (100 < (N : Int)) = true := by simp; omega
    have K := known_is he
    obtain ⟨S, hS⟩ : ∃ S, Hid (bs l = S) := ⟨_, rfl⟩
    rw [hS.out] at hz ⊢
    clear h100 he hS
    go_enter Tryd.func5, Tryd.ntmps5
    go_wp2_with (go_at_call 9; (with_reducible refine K.mono ?_); rintro e w1 ⟨rfl, b1⟩; have B1 := Lib.hid b1; clear b1)
    go_ret
    exact ⟨rfl, B1.out⟩
  · have d1 : decide (100 < N) = false := by simpa using h100
    have d2 : decide (100 < (N : Int)) = false := by simp; omega
    obtain ⟨x1, x2, e, h2⟩ : ∃ f t e, dparse l = ((f, t), e) := ⟨_, _, _, rfl⟩
    have hlen : l.length ≤ 1000 := by rw [hN.out]; omega
    have A1 := dparse_at h2 hlen w he
    by_cases e0 : e = 0
    · subst e0
      obtain ⟨p1, p2, f, h3⟩ : ∃ f t e, dparse (43 :: l) = ((f, t), e) := ⟨_, _, _, rfl⟩
      obtain ⟨q1, q2, g, h4⟩ : ∃ f t e, dparse (48 :: l) = ((f, t), e) := ⟨_, _, _, rfl⟩
      obtain ⟨r1, r2, h, h5⟩ : ∃ f t e, dparse (l ++ [32]) = ((f, t), e) := ⟨_, _, _, rfl⟩
      have A2 := fun w k => dparse_at h3 (by simp only [List.length_cons, hN.out]; omega) w k
      have A3 := fun w k => dparse_at h4 (by simp only [List.length_cons, hN.out]; omega) w k
      have A4 := fun w k => dparse_at h5 (by simp only [List.length_append, List.length_cons, List.length_nil, hN.out]; omega) w k
      obtain ⟨f1, f2, f3⟩ := ne_facts (e := f) (by rintro rfl; exact plus_none l _ _ h3)
      obtain ⟨g1, g2, g3⟩ := ne_facts (e := g) (by rintro rfl; exact zero_none h2 _ _ h4)
      obtain ⟨j1, j2, j3⟩ := ne_facts (e := h) (by rintro rfl; exact blank_none l _ _ h5)
      have T1 : ∀ w, Env w → Calls Tryd.prog 6 #[.agg #[.int .i64 x1, .int .i64 x2]] w fun e w' => e = .returned (.string (bs l)) ∧ Below w.heap.size w w' := fun w hw => by
        obtain ⟨D, rfl, hD, hf, hcan, ht⟩ := read_text h2
        refine (text_any x1 (D : Int) hf hw).mono ?_
        rintro e w' ⟨rfl, hb⟩
        refine ⟨?_, hb⟩
        have : textS x1 (D : Int) = l := by
          rw [← ht]; unfold textS
          rw [if_pos (by unfold isB; simp; omega)]
          have := trim_self x1 D hcan
          unfold canC canS
          rw [Int.toNat_natCast, this]
        rw [this]
      have k1 : (⟨#[43]⟩ : ByteArray) ++ bs l = bs (43 :: l) := bs_cat [43] l
      have k2 : (⟨#[48]⟩ : ByteArray) ++ bs l = bs (48 :: l) := bs_cat [48] l
      have k3 : bs l ++ (⟨#[32]⟩ : ByteArray) = bs (l ++ [32]) := bs_cat l [32]
      obtain ⟨S, hS⟩ : ∃ S, Hid (bs l = S) := ⟨_, rfl⟩
      obtain ⟨S1, hS1⟩ : ∃ S, Hid (bs (43 :: l) = S) := ⟨_, rfl⟩
      obtain ⟨S2, hS2⟩ : ∃ S, Hid (bs (48 :: l) = S) := ⟨_, rfl⟩
      obtain ⟨S3, hS3⟩ : ∃ S, Hid (bs (l ++ [32]) = S) := ⟨_, Lib.hid rfl⟩
      rw [hS.out] at hz A1 T1 k1 k2 k3 ⊢
      rw [hS1.out] at A2 k1
      rw [hS2.out] at A3 k2
      rw [hS3.out] at A4 k3
      have es := self_toList S
      have m1 : ¬ 9223372036854775807 < 1 + N := by omega
      have m2 : ¬ 9223372036854775807 < N + 1 := by omega
      clear h2 h3 h4 h5 h100 he hS hS1 hS2 hS3 hlen
      go_enter Tryd.func5, Tryd.ntmps5
      go_upto_region 4 with (go_at_call 10; (with_reducible refine A1.mono ?_); rintro e1 w1 ⟨rfl, b1⟩; have B1 := Lib.hid b1; have T0 := Lib.hid (Two.new w1 x1 x2); have C1 := Lib.hid (bt b1 (ba w1 (.cells #[.int .i64 x1, .int .i64 x2] 23))); clear b1 A1)
      obtain ⟨wa, hwa⟩ : ∃ v, Hid (v = w1.alloc (.cells #[.int .i64 x1, .int .i64 x2] 23)) := ⟨_, rfl⟩
      obtain ⟨ia, hia⟩ : ∃ v, Hid (w1.heap.size = v) := ⟨_, rfl⟩
      rw [← hwa.out] at C1 T0 ⊢
      rw [hia.out] at T0 ⊢
      have A2' := A2 wa (HE.out.below C1.out)
      clear A2 hwa B1 hia
      go_upto_region 7 with (go_at_call 10; (with_reducible refine A2'.mono ?_); rintro e2 w2 ⟨rfl, b2⟩; have T1' := Lib.hid ((T0.out.below b2).below (ba w2 (.cells #[.int .i64 p1, .int .i64 p2] 23))); have C2 := Lib.hid (bt C1.out (bt b2 (ba w2 (.cells #[.int .i64 p1, .int .i64 p2] 23)))); clear b2 A2')
      obtain ⟨wb, hwb⟩ : ∃ v, Hid (v = w2.alloc (.cells #[.int .i64 p1, .int .i64 p2] 23)) := ⟨_, rfl⟩
      obtain ⟨ib, hib⟩ : ∃ v, Hid (w2.heap.size = v) := ⟨_, rfl⟩
      rw [← hwb.out] at C2 T1' ⊢
      rw [hib.out]
      have A3' := A3 wb (HE.out.below C2.out)
      clear A3 hwb hib
      go_upto_region 8 with (go_at_call 10; (with_reducible refine A3'.mono ?_); rintro e3 w3 ⟨rfl, b3⟩; have T2' := Lib.hid ((T1'.out.below b3).below (ba w3 (.cells #[.int .i64 q1, .int .i64 q2] 23))); have C3 := Lib.hid (bt C2.out (bt b3 (ba w3 (.cells #[.int .i64 q1, .int .i64 q2] 23)))); clear b3 A3')
      obtain ⟨wc, hwc⟩ : ∃ v, Hid (v = w3.alloc (.cells #[.int .i64 q1, .int .i64 q2] 23)) := ⟨_, rfl⟩
      obtain ⟨ic, hic⟩ : ∃ v, Hid (w3.heap.size = v) := ⟨_, rfl⟩
      rw [← hwc.out] at C3 T2' ⊢
      rw [hic.out]
      have A4' := A4 wc (HE.out.below C3.out)
      clear A4 hwc hic
      go_upto_region 9 with (go_at_call 10; (with_reducible refine A4'.mono ?_); rintro e4 w4 ⟨rfl, b4⟩; have T3' := Lib.hid ((T2'.out.below b4).below (ba w4 (.cells #[.int .i64 r1, .int .i64 r2] 23))); have C4 := Lib.hid (bt C3.out (bt b4 (ba w4 (.cells #[.int .i64 r1, .int .i64 r2] 23)))); clear b4 A4')
      obtain ⟨wd, hwd⟩ : ∃ v, Hid (v = w4.alloc (.cells #[.int .i64 r1, .int .i64 r2] 23)) := ⟨_, rfl⟩
      obtain ⟨id, hid⟩ : ∃ v, Hid (w4.heap.size = v) := ⟨_, rfl⟩
      rw [← hwd.out] at C4 T3' ⊢
      rw [hid.out]
      have c0 := T3'.out.c0; have c1 := T3'.out.c1
      have R := T1 wd (HE.out.below C4.out)
      have KN := fun w' (b : Below wd.heap.size wd w') => known_is ((HE.out.below C4.out).below b)
      clear hwd hid T1
      go_wp2_with (first | (go_at_call 6; (with_reducible refine R.mono ?_); rintro e5 w5 ⟨rfl, b5⟩; have B5 := Lib.hid b5; clear b5 R) | (go_at_call 9; (with_reducible refine (KN _ B5.out).mono ?_); rintro e9 w9 ⟨rfl, b9⟩; have B9 := Lib.hid (bt C4.out (bt B5.out b9)); clear b9 KN))
      go_ret
      exact ⟨rfl, B9.out⟩
    · obtain ⟨e1, e2, e3⟩ := ne_facts e0
      obtain ⟨rfl, rfl⟩ := none_zero h2 e0
      obtain ⟨S, hS⟩ : ∃ S, Hid (bs l = S) := ⟨_, rfl⟩
      rw [hS.out] at hz A1 ⊢
      clear h2 h100 he hS hlen e0
      go_enter Tryd.func5, Tryd.ntmps5
      go_upto_region 4 with (go_at_call 10; (with_reducible refine A1.mono ?_); rintro e1 w1 ⟨rfl, b1⟩; have T0 := Lib.hid (Two.new w1 0 0); have C1 := Lib.hid (bt b1 (ba w1 (.cells #[.int .i64 0, .int .i64 0] 23))); clear b1 A1)
      obtain ⟨wa, hwa⟩ : ∃ v, Hid (v = w1.alloc (.cells #[.int .i64 0, .int .i64 0] 23)) := ⟨_, rfl⟩
      obtain ⟨ia, hia⟩ : ∃ v, Hid (w1.heap.size = v) := ⟨_, rfl⟩
      rw [← hwa.out] at C1 T0 ⊢
      rw [hia.out] at T0 ⊢
      have K := known_is (HE.out.below C1.out)
      have c0 := T0.out.c0; have c1 := T0.out.c1
      clear hwa hia
      go_wp2_with (go_at_call 9; (with_reducible refine K.mono ?_); rintro e9 w9 ⟨rfl, b9⟩; have B9 := Lib.hid (bt C1.out b9); clear b9 K)
      go_ret
      exact ⟨rfl, B9.out⟩
end Go.Proofs.YtbcnbahfjpgmaaaDoor.Tx
