/-
  DatetextParses: walked.
-/
import Derived.Test.YthbgkokepnifdaaDoorDtKnown
namespace Go.Proofs.YthbgkokepnifdaaDoor.Dt
open Go Go.RowKit
set_option linter.unusedSimpArgs false
set_option linter.unusedVariables false
attribute [local go_sem ↓] Go.wp_at_zero Go.wp_at_succ

theorem pspan_at {l : List UInt8} {a b e : Int} (h : parseSp l = ((a, b), e)) (hl : l.length < 4294967281) (w : World) (he : Env w) : Calls Tryd.prog 9 #[.string (bs l)] w fun e' w' => e' = .returned (.tuple #[.agg #[.int .i64 a, .int .i64 b], .int .i64 e]) ∧ Below w.heap.size w w' := by
  have := pspan_is (w := w) l hl he
  unfold SpPost at this
  rw [h] at this
  exact this
theorem rpspan_at {l : List UInt8} {a b e : Int} (h : parseSp l = ((a, b), e)) (hl : l.length < 4294967281) (w : World) : Calls Tryd.prog 10 #[.string (bs l)] w fun e' w' => e' = .returned (.tuple #[.agg #[.int .i64 a, .int .i64 b], .int .i64 e]) ∧ Below w.heap.size w w' := by
  have := rpspan_is (w := w) l hl
  rw [ref_same] at this
  unfold SpPost at this
  rw [h] at this
  exact this
theorem bs_of (s : ByteArray) : bs s.data.toList = s := by unfold bs; simp
set_option maxRecDepth 100000 in
set_option maxHeartbeats 4000000 in
theorem parses_law {w : World} (s : ByteArray) (he : Env w) : Calls Tryd.prog 3 #[.string s] w fun e w' => e = .returned (.bool true) ∧ Below w.heap.size w w' := by
  obtain ⟨l, rfl⟩ : ∃ l, bs l = s := ⟨_, bs_of s⟩
  have hz : (bs l).size = l.length := bs_size l
  obtain ⟨N, hN⟩ : ∃ N, Hid (l.length = N) := ⟨_, rfl⟩
  rw [hN.out] at hz
  have HE := Lib.hid he
  by_cases h100 : 100 < N
  · have d1 : decide (100 < N) = true := by simpa using h100
    have d2 : decide (100 < (N : Int)) = true := by simp; omega
    have K := known_is he
    obtain ⟨S, hS⟩ : ∃ S, Hid (bs l = S) := ⟨_, rfl⟩
    rw [hS.out] at hz ⊢
    clear h100 he hS
    go_enter Tryd.func3, Tryd.ntmps3
    go_wp2_with (go_at_call 6; (with_reducible refine K.mono ?_); rintro e w1 ⟨rfl, b1⟩; have B1 := Lib.hid b1; clear b1)
    go_ret
    exact ⟨rfl, B1.out⟩
  · have d1 : decide (100 < N) = false := by simpa using h100
    have d2 : decide (100 < (N : Int)) = false := by simp; omega
    obtain ⟨a, e, h1⟩ : ∃ f e, parseS l = (f, e) := ⟨_, _, rfl⟩
    obtain ⟨x1, x2, g, h2⟩ : ∃ f t e, parseSp l = ((f, t), e) := ⟨_, _, _, rfl⟩
    have A1 := fun w => parse_at_ h1 (by rw [hN.out]; omega) w
    have A2 := fun w => rparse_at_ h1 (by rw [hN.out]; omega) w
    have A3 := fun w h => pspan_at h2 (by rw [hN.out]; omega) w h
    have A4 := fun w => rpspan_at h2 (by rw [hN.out]; omega) w
    obtain ⟨S, hS⟩ : ∃ S, Hid (bs l = S) := ⟨_, rfl⟩
    rw [hS.out] at hz A1 A2 A3 A4 ⊢
    clear h100 he hS h1 h2
    go_enter Tryd.func3, Tryd.ntmps3
    go_upto_region 5 with (first | (go_at_call 7; (with_reducible refine (A1 _).mono ?_); rintro e1 w1 ⟨rfl, b1⟩; have B1 := Lib.hid b1; clear b1 A1) | (go_at_call 8; (with_reducible refine (A2 _).mono ?_); rintro e2 w2 ⟨rfl, b2⟩; have B2 := Lib.hid (bt B1.out b2); clear b2 A2))
    have A3' := A3 w2 (HE.out.below B2.out)
    clear A3
    go_upto_region 7 with (first | (go_at_call 9; (with_reducible refine A3'.mono ?_); rintro e3 w3 ⟨rfl, b3⟩; have B3 := Lib.hid (bt B2.out b3); clear b3 A3') | (go_at_call 10; (with_reducible refine (A4 _).mono ?_); rintro e4 w4 ⟨rfl, b4⟩; have B4 := Lib.hid (bt B3.out (bt (ba _ _) b4)); have T4 := Lib.hid ((Two.new w3 x1 x2).below b4); clear b4 A4))
    have K := known_is (w := w4.alloc (.cells #[.int .i64 x1, .int .i64 x2] 27)) ((HE.out.below B4.out).below (ba _ _))
    have B5 := Lib.hid (bt B4.out (ba w4 (.cells #[.int .i64 x1, .int .i64 x2] 27)))
    have X5 := T4.out.below (Below.mono (ba w4 (.cells #[.int .i64 x1, .int .i64 x2] 27)) (Nat.le_refl _))
    have Y5 := Two.new w4 x1 x2
    have c0 := X5.c0; have c1 := X5.c1; have e0 := Y5.c0; have e1 := Y5.c1
    obtain ⟨wz, hwz⟩ : ∃ v, Hid (v = w4.alloc (.cells #[.int .i64 x1, .int .i64 x2] 27)) := ⟨_, rfl⟩
    rw [← hwz.out] at K B5 c0 c1 e0 e1 ⊢
    clear hwz X5 Y5 T4 B4 B3 B2 B1
    go_wp2_with (go_at_call 6; (with_reducible refine K.mono ?_); rintro e6 w6 ⟨rfl, b6⟩; have B6 := Lib.hid (bt B5.out b6); clear b6 K)
    go_ret
    exact ⟨rfl, B6.out⟩
end Go.Proofs.YthbgkokepnifdaaDoor.Dt
