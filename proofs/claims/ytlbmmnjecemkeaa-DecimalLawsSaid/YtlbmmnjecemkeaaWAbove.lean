/-
  THE WALKS of cmp.Compare at uint64, cmp.Or at int, and of wide's above.
-/
import Derived.Test.YtlbmmnjecemkeaaNumSub

namespace Go.Proofs.Ytlbmmnjecemkeaa
open Go.RowKit
attribute [local go_sem ↓] Go.wp_at_zero Go.wp_at_succ

theorem nanU (x : Int) (w : World) : Calls Try.prog 85 #[.int .u64 x] w fun e w' => e = .returned (.bool false) ∧ w' = w := by
  go_enter Try.func85, Try.ntmps85
  go_wp2_with fail
  go_ret
  exact ⟨by first | rfl | simp, rfl⟩

theorem cmpU_any (x y : Int) (w : World) : Calls Try.prog 83 #[.int .u64 x, .int .u64 y] w fun e w' => e = .returned (.int .i64 (cmpZ x y)) ∧ w' = w := by
  unfold cmpZ
  by_cases h1 : x = y
  · rw [if_pos h1]
    have d1 : decide (x < y) = false := by rw [decide_eq_false_iff_not]; omega
    have d2 : decide (y < x) = false := by rw [decide_eq_false_iff_not]; omega
    clear h1
    go_enter Try.func83, Try.ntmps83
    go_wp2_with (go_at_call 85; refine (nanU _ _).mono ?_; rintro e w' ⟨rfl, rfl⟩)
    go_ret
    exact ⟨rfl, rfl⟩
  · rw [if_neg h1]
    by_cases h2 : x < y
    · rw [if_pos h2]
      have d1 : decide (x < y) = true := by rw [decide_eq_true_eq]; omega
      clear h1
      go_enter Try.func83, Try.ntmps83
      go_wp2_with (go_at_call 85; refine (nanU _ _).mono ?_; rintro e w' ⟨rfl, rfl⟩)
      go_ret
      exact ⟨rfl, rfl⟩
    · rw [if_neg h2]
      have d1 : decide (x < y) = false := by rw [decide_eq_false_iff_not]; omega
      have d2 : decide (y < x) = true := by rw [decide_eq_true_eq]; omega
      clear h1
      go_enter Try.func83, Try.ntmps83
      go_wp2_with (go_at_call 85; refine (nanU _ _).mono ?_; rintro e w' ⟨rfl, rfl⟩)
      go_ret
      exact ⟨rfl, rfl⟩

def orZ (a b : Int) : Int := if a = 0 then b else a
theorem or2_any (g : Nat) (a b : Int) (w : World) (h0 : w.cell? ⟨g, 0, none⟩ = some (.int .i64 a)) (h1 : w.cell? ⟨g, 1, none⟩ = some (.int .i64 b)) :
    Calls Try.prog 82 #[.slice (some ⟨g, 0, none⟩) 2 2] w fun e w' => e = .returned (.int .i64 (orZ a b)) ∧ w' = w := by
  unfold orZ
  by_cases ha : a = 0
  · subst ha
    rw [if_pos rfl]
    by_cases hb : b = 0
    · subst hb
      go_enter Try.func82, Try.ntmps82
      go_wp2_with fail
      refine wp_loop_rounds 3 ?_
      rw [rounds_succ]
      go_wp2_with fail
      rw [rounds_succ]
      go_wp2_with fail
      rw [rounds_succ]
      go_wp2_with fail
      go_ret
      exact ⟨rfl, rfl⟩
    · have hb1 : (b == 0) = false := by simpa using hb
      have hb2 : (b != 0) = true := by simpa using hb
      clear hb
      go_enter Try.func82, Try.ntmps82
      go_wp2_with fail
      refine wp_loop_rounds 2 ?_
      rw [rounds_succ]
      go_wp2_with fail
      rw [rounds_succ]
      go_wp2_with fail
      go_ret
      exact ⟨rfl, rfl⟩
  · rw [if_neg ha]
    have hb1 : (a == 0) = false := by simpa using ha
    have hb2 : (a != 0) = true := by simpa using ha
    clear ha
    go_enter Try.func82, Try.ntmps82
    go_wp2_with fail
    refine wp_loop_rounds 1 ?_
    rw [rounds_succ]
    go_wp2_with fail
    go_ret
    exact ⟨rfl, rfl⟩
end Go.Proofs.Ytlbmmnjecemkeaa
