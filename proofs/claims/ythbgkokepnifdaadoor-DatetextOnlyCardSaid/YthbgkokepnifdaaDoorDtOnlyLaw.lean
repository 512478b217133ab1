/-
  DatetextOnly: walked.
-/
import Derived.Test.YthbgkokepnifdaaDoorDtOrder
namespace Go.Proofs.YthbgkokepnifdaaDoor.Dt
open Go Go.RowKit
set_option linter.unusedSimpArgs false
set_option linter.unusedVariables false
attribute [local go_sem ↓] Go.wp_at_zero Go.wp_at_succ

theorem ne_facts {e : Int} (h : e ≠ 0) : decide (e = 0) = false ∧ (e == 0) = false ∧ (e != 0) = true := ⟨by simpa using h, by simpa using h, by simpa using h⟩
set_option maxRecDepth 100000 in
set_option maxHeartbeats 4000000 in
theorem only_law {w : World} (s t : ByteArray) (he : Env w) : Calls Tryd.prog 5 #[.string s, .string t] w fun e w' => e = .returned (.bool true) ∧ Below w.heap.size w w' := by
  obtain ⟨l, rfl⟩ : ∃ l, bs l = s := ⟨_, bs_of s⟩
  obtain ⟨k, rfl⟩ : ∃ l, bs l = t := ⟨_, bs_of t⟩
  have hz : (bs l).size = l.length := bs_size l
  have hy : (bs k).size = k.length := bs_size k
  obtain ⟨N, hN⟩ : ∃ N, Hid (l.length = N) := ⟨_, rfl⟩
  obtain ⟨M, hM⟩ : ∃ N, Hid (k.length = N) := ⟨_, rfl⟩
  rw [hN.out] at hz
  rw [hM.out] at hy
  have HE := Lib.hid he
  by_cases h100 : 100 < N ∨ 100 < M
  · have K := known_is he
    obtain ⟨S, hS⟩ : ∃ S, Hid (bs l = S) := ⟨_, rfl⟩
    obtain ⟨T, hT⟩ : ∃ S, Hid (bs k = S) := ⟨_, rfl⟩
    rw [hS.out] at hz ⊢
    rw [hT.out] at hy ⊢
    by_cases h1 : 100 < N
    · have d1 : decide (100 < N) = true := by simpa using h1
      have d2 : decide (100 < (N : Int)) = true := by simp; omega
      clear h100 h1 he hS hT
      go_enter Tryd.func5, Tryd.ntmps5
      go_wp2_with (go_at_call 6; (with_reducible refine K.mono ?_); rintro e w1 ⟨rfl, b1⟩; have B1 := Lib.hid b1; clear b1)
      go_ret
      exact ⟨rfl, B1.out⟩
    · have h2 : 100 < M := h100.resolve_left h1
      have d1 : decide (100 < N) = false := by simpa using h1
      have d2 : decide (100 < (N : Int)) = false := by simp; omega
      have d3 : decide (100 < M) = true := by simpa using h2
      have d4 : decide (100 < (M : Int)) = true := by simp; omega
      clear h100 h1 h2 he hS hT
      go_enter Tryd.func5, Tryd.ntmps5
      go_wp2_with (go_at_call 6; (with_reducible refine K.mono ?_); rintro e w1 ⟨rfl, b1⟩; have B1 := Lib.hid b1; clear b1)
      go_ret
      exact ⟨rfl, B1.out⟩
  · have n1 : ¬ 100 < N := fun h => h100 (.inl h)
    have n2 : ¬ 100 < M := fun h => h100 (.inr h)
    have d1 : decide (100 < N) = false := by simpa using n1
    have d2 : decide (100 < (N : Int)) = false := by simp; omega
    have d3 : decide (100 < M) = false := by simpa using n2
    have d4 : decide (100 < (M : Int)) = false := by simp; omega
    obtain ⟨a, e, h1⟩ : ∃ f e, parseS l = (f, e) := ⟨_, _, rfl⟩
    obtain ⟨b, f, h2⟩ : ∃ f e, parseS k = (f, e) := ⟨_, _, rfl⟩
    obtain ⟨x1, x2, g, h3⟩ : ∃ f t e, parseSp l = ((f, t), e) := ⟨_, _, _, rfl⟩
    have A1 := fun w => parse_at_ h1 (by rw [hN.out]; omega) w
    have A2 := fun w => parse_at_ h2 (by rw [hM.out]; omega) w
    have A3 := fun w h => pspan_at h3 (by rw [hN.out]; omega) w h
    have L1 := bs_toList l
    have L2 := bs_toList k
    have Q1 : e = 0 → TextOf a l ∧ l.length = 10 := fun h => text_at (h ▸ h1)
    have Q2 : g = 0 → SpanOf x1 x2 l ∧ l.length = 22 ∧ Within x1 x2 := fun h => span_at_text (h ▸ h3)
    have Q3 : e = 0 → f = 0 → Op.bytesLess l k = decide (a < b) := fun h h' => text_order (h ▸ h1) (h' ▸ h2)
    have R1 : e = 0 → ∀ w, Env w → Calls Tryd.prog 11 #[.int .i64 a] w fun e w' => e = .returned (.string (bs l)) ∧ Below w.heap.size w w' := fun h w hw => (text_is a hw).mono (by rintro e' w' ⟨l', h', rfl, hb⟩; rw [h'.eq (Q1 h).1]; exact ⟨rfl, hb⟩)
    have R2 : g = 0 → ∀ w, Env w → Calls Tryd.prog 12 #[.agg #[.int .i64 x1, .int .i64 x2]] w fun e w' => e = .returned (.string (bs l)) ∧ Below w.heap.size w w' := fun h w hw => (span_is x1 x2 hw (.inl (by have c := (Q2 h).2.2; rw [IntWalk.i64_left]; exact IntWalk.wrap64_in _ (by have := c.1; have := c.2; omega)))).mono (by rintro e' w' ⟨l', h', rfl, hb⟩; rw [h'.eq (Q2 h).1]; exact ⟨rfl, hb⟩)
    obtain ⟨S, hS⟩ : ∃ S, Hid (bs l = S) := ⟨_, rfl⟩
    obtain ⟨T, hT⟩ : ∃ S, Hid (bs k = S) := ⟨_, rfl⟩
    rw [hS.out] at hz A1 A3 L1 R1 R2 ⊢
    rw [hT.out] at hy A2 L2 ⊢
    have es := self_toList S
    have HQ1 := Lib.hid Q1
    have HQ2 := Lib.hid Q2
    have HQ3 : Hid (e = 0 → f = 0 → Op.bytesLess S.toList T.toList = decide (a < b)) := by rw [L1, L2]; exact Q3
    have HR1 := Lib.hid R1
    have HR2 := Lib.hid R2
    clear Q1 Q2 Q3 R1 R2 L1 L2 h1 h2 h3 h100 he hS hT n1 n2
    go_enter Tryd.func5, Tryd.ntmps5
    go_upto_region 5 with (first | (go_at_call 7; (with_reducible refine (A1 _).mono ?_); rintro e1 w1 ⟨rfl, b1⟩; have B1 := Lib.hid b1; clear b1 A1) | (go_at_call 7; (with_reducible refine (A2 _).mono ?_); rintro e2 w2 ⟨rfl, b2⟩; have B2 := Lib.hid (bt B1.out b2); clear b2 A2))
    have A3' := A3 w2 (HE.out.below B2.out)
    clear A3
    go_upto_region 6 with (go_at_call 9; (with_reducible refine A3'.mono ?_); rintro e3 w3 ⟨rfl, b3⟩; have B3 := Lib.hid (bt B2.out b3); clear b3 A3')
    have B4 := Lib.hid (bt B3.out (ba w3 (.cells #[.int .i64 x1, .int .i64 x2] 27)))
    have Y4 := Two.new w3 x1 x2
    have c0 := Y4.c0; have c1 := Y4.c1
    obtain ⟨wz, hwz⟩ : ∃ v, Hid (v = w3.alloc (.cells #[.int .i64 x1, .int .i64 x2] 27)) := ⟨_, rfl⟩
    rw [← hwz.out] at B4 c0 c1 ⊢
    have HZ := Lib.hid (HE.out.below B4.out)
    have KN := fun w' (b : Below wz.heap.size wz w') => known_is (HZ.out.below b)
    have BZ := Lib.hid (Below.refl wz.heap.size wz)
    clear hwz Y4 B3 B2 B1
    by_cases e0 : e = 0
    · subst e0
      have g0 : g ≠ 0 := fun h => by have i1 := (HQ1.out rfl).2; have i2 := (HQ2.out h).2.1; omega
      obtain ⟨g1, g2, g3⟩ := ne_facts g0
      clear g0 c0 c1
      by_cases f0 : f = 0
      · subst f0
        have ol := HQ3.out rfl rfl
        go_wp2_with (first | (go_at_call 11; (with_reducible refine (HR1.out rfl _ HZ.out).mono ?_); rintro e5 w5 ⟨rfl, b5⟩; have B5 := Lib.hid b5; clear b5) | (go_at_call 6; (with_reducible refine (KN _ B5.out).mono ?_); rintro e9 w9 ⟨rfl, b9⟩; have B9 := Lib.hid (bt B4.out (bt B5.out b9)); clear b9 KN))
        go_ret
        exact ⟨rfl, B9.out⟩
      · obtain ⟨f1, f2, f3⟩ := ne_facts f0
        clear f0
        go_wp2_with (first | (go_at_call 11; (with_reducible refine (HR1.out rfl _ HZ.out).mono ?_); rintro e5 w5 ⟨rfl, b5⟩; have B5 := Lib.hid b5; clear b5) | (go_at_call 6; (with_reducible refine (KN _ B5.out).mono ?_); rintro e9 w9 ⟨rfl, b9⟩; have B9 := Lib.hid (bt B4.out (bt B5.out b9)); clear b9 KN))
        go_ret
        exact ⟨rfl, B9.out⟩
    · obtain ⟨e1, e2, e3⟩ := ne_facts e0
      clear e0
      by_cases g0 : g = 0
      · subst g0
        go_wp2_with (first | (go_at_call 12; (with_reducible refine (HR2.out rfl _ HZ.out).mono ?_); rintro e5 w5 ⟨rfl, b5⟩; have B5 := Lib.hid b5; clear b5) | (go_at_call 6; (with_reducible refine (KN _ B5.out).mono ?_); rintro e9 w9 ⟨rfl, b9⟩; have B9 := Lib.hid (bt B4.out (bt B5.out b9)); clear b9 KN))
        go_ret
        exact ⟨rfl, B9.out⟩
      · obtain ⟨g1, g2, g3⟩ := ne_facts g0
        clear g0
        go_wp2_with (first | (go_at_call 6; (with_reducible refine (KN _ BZ.out).mono ?_); rintro e9 w9 ⟨rfl, b9⟩; have B9 := Lib.hid (bt B4.out (bt BZ.out b9)); clear b9 KN))
        go_ret
        exact ⟨rfl, B9.out⟩
end Go.Proofs.YthbgkokepnifdaaDoor.Dt
