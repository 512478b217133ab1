/-
  avl: the law's and the document's order, walked.
-/
import Derived.Test.YtpgmndbmcciniaaAvlSets
namespace Go.Proofs.Ytpgmndbmcciniaa.Av
open Go Go.RowKit
set_option linter.unusedSimpArgs false
set_option linter.unusedVariables false
attribute [local go_sem ↓] Go.wp_at_zero Go.wp_at_succ

set_option maxRecDepth 100000 in
theorem less_any (a b : It) (w : World) : Calls Try.prog 18 #[.agg #[.int .i64 a.f, .int .i64 a.t, .int .i64 a.i], .agg #[.int .i64 b.f, .int .i64 b.t, .int .i64 b.i]] w fun e w' => e = .returned (.bool (decide (a.lt b))) ∧ Below w.heap.size w w' := by
  have B0 : Below w.heap.size w ((w.alloc (.cells #[.int .i64 a.f, .int .i64 a.t, .int .i64 a.i] 33)).alloc (.cells #[.int .i64 b.f, .int .i64 b.t, .int .i64 b.i] 33)) := bt (ba _ _) (ba _ _)
  replace B0 := Lib.hid B0
  by_cases h1 : a.f = b.f
  · by_cases h2 : a.t = b.t
    · have e : decide (a.lt b) = decide (a.i < b.i) := by unfold It.lt; simp [h1, h2]
      rw [e]
      have z1 : ¬ a.f ≠ b.f := by simp [h1]
      go_enter Try.func18, Try.ntmps18
      go_wp2
      go_ret
      exact ⟨rfl, bt (ba _ _) (ba _ _)⟩
    · have e : decide (a.lt b) = decide (a.t < b.t) := by unfold It.lt; simp [h1, h2]
      rw [e]
      go_enter Try.func18, Try.ntmps18
      go_wp2
      go_ret
      exact ⟨rfl, bt (ba _ _) (ba _ _)⟩
  · have e : decide (a.lt b) = decide (a.f < b.f) := by unfold It.lt; simp [h1]
    rw [e]
    go_enter Try.func18, Try.ntmps18
    go_wp2
    go_ret
    exact ⟨rfl, bt (ba _ _) (ba _ _)⟩
set_option maxRecDepth 100000 in
theorem rless_any (a b : It) (w : World) : Calls Try.prog 41 #[.agg #[.int .i64 a.f, .int .i64 a.t, .int .i64 a.i], .agg #[.int .i64 b.f, .int .i64 b.t, .int .i64 b.i]] w fun e w' => e = .returned (.bool (decide (a.lt b))) ∧ Below w.heap.size w w' := by
  have B0 : Below w.heap.size w ((w.alloc (.cells #[.int .i64 a.f, .int .i64 a.t, .int .i64 a.i] 33)).alloc (.cells #[.int .i64 b.f, .int .i64 b.t, .int .i64 b.i] 33)) := bt (ba _ _) (ba _ _)
  replace B0 := Lib.hid B0
  by_cases h1 : a.f = b.f
  · by_cases h2 : a.t = b.t
    · have e : decide (a.lt b) = decide (a.i < b.i) := by unfold It.lt; simp [h1, h2]
      rw [e]
      have z1 : ¬ a.f ≠ b.f := by simp [h1]
      go_enter Try.func41, Try.ntmps41
      go_wp2
      go_ret
      exact ⟨rfl, bt (ba _ _) (ba _ _)⟩
    · have e : decide (a.lt b) = decide (a.t < b.t) := by unfold It.lt; simp [h1, h2]
      rw [e]
      go_enter Try.func41, Try.ntmps41
      go_wp2
      go_ret
      exact ⟨rfl, bt (ba _ _) (ba _ _)⟩
  · have e : decide (a.lt b) = decide (a.f < b.f) := by unfold It.lt; simp [h1]
    rw [e]
    go_enter Try.func41, Try.ntmps41
    go_wp2
    go_ret
    exact ⟨rfl, bt (ba _ _) (ba _ _)⟩
end Go.Proofs.Ytpgmndbmcciniaa.Av
