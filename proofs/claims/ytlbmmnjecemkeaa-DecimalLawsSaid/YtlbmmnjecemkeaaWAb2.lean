/-
  THE WALK of wide's above.
-/
import Derived.Test.YtlbmmnjecemkeaaWAbove
import Derived.Test.YtlbmmnjecemkeaaWOne
import Derived.Test.YtlbmmnjecemkeaaWTwo
import Derived.StillTailTactics
namespace Go.Proofs.Ytlbmmnjecemkeaa
open Go.RowKit
attribute [local go_sem ↓] Go.wp_at_zero Go.wp_at_succ

theorem orZ_cmp (h1 l1 h2 l2 : Nat) (a : l1 < 18446744073709551616) (b : l2 < 18446744073709551616) :
    orZ (cmpZ h1 h2) (cmpZ l1 l2) = cmpZ ((h1 * 18446744073709551616 + l1 : Nat) : Int) ((h2 * 18446744073709551616 + l2 : Nat) : Int) := by
  unfold orZ cmpZ
  by_cases e : h1 = h2
  · subst e
    by_cases f : l1 = l2
    · subst f; simp
    · have : ((h1 * 18446744073709551616 + l1 : Nat) : Int) ≠ ((h1 * 18446744073709551616 + l2 : Nat) : Int) := by omega
      have g : (l1 : Int) ≠ l2 := by omega
      rw [if_neg this, if_neg g]
      by_cases k : (l1 : Int) < l2
      · rw [if_pos k, if_pos (show ((h1 * 18446744073709551616 + l1 : Nat) : Int) < ((h1 * 18446744073709551616 + l2 : Nat) : Int) by omega)]; simp
      · rw [if_neg k, if_neg (show ¬ ((h1 * 18446744073709551616 + l1 : Nat) : Int) < ((h1 * 18446744073709551616 + l2 : Nat) : Int) by omega)]; simp
  · have : ((h1 * 18446744073709551616 + l1 : Nat) : Int) ≠ ((h2 * 18446744073709551616 + l2 : Nat) : Int) := by omega
    have g : (h1 : Int) ≠ h2 := by omega
    rw [if_neg this, if_neg g]
    by_cases k : (h1 : Int) < h2
    · rw [if_pos k, if_pos (show ((h1 * 18446744073709551616 + l1 : Nat) : Int) < ((h2 * 18446744073709551616 + l2 : Nat) : Int) by omega)]; simp
    · rw [if_neg k, if_neg (show ¬ ((h1 * 18446744073709551616 + l1 : Nat) : Int) < ((h2 * 18446744073709551616 + l2 : Nat) : Int) by omega)]; simp

theorem cmpU_c (x y c : Int) (w : World) (h : cmpZ x y = c) : Calls Try.prog 83 #[.int .u64 x, .int .u64 y] w fun e w' => e = .returned (.int .i64 c) ∧ w' = w := by
  rw [← h]; exact cmpU_any x y w
set_option maxRecDepth 100000 in
set_option maxHeartbeats 1000000 in
theorem above_any (n1 n2 : Bool) (h1 l1 h2 l2 : Nat) (c : Int) (w : World) (b1 : l1 < 18446744073709551616) (b2 : l2 < 18446744073709551616)
    (hc : cmpZ ((h1 * 18446744073709551616 + l1 : Nat) : Int) ((h2 * 18446744073709551616 + l2 : Nat) : Int) = c) :
    Calls Try.prog 66 #[.agg #[.bool n1, .int .u64 (h1 : Int), .int .u64 (l1 : Int)], .agg #[.bool n2, .int .u64 (h2 : Int), .int .u64 (l2 : Int)]] w (IntPost c w) := by
  obtain ⟨p, hp⟩ : ∃ p, Hid (cmpZ (h1 : Int) (h2 : Int) = p) := ⟨_, rfl⟩
  obtain ⟨q, hq⟩ : ∃ q, Hid (cmpZ (l1 : Int) (l2 : Int) = q) := ⟨_, rfl⟩
  have ho : Hid (orZ p q = c) := by show _ = _; rw [← hp.out, ← hq.out, ← hc]; exact orZ_cmp h1 l1 h2 l2 b1 b2
  clear b1 b2 hc
  go_enter Try.func66, Try.ntmps66
  go_upto_region 1 with fail
  obtain ⟨X, Y⟩ := two_wide w n1 n2 h1 l1 h2 l2
  have B : Hid (Below w.heap.size w ((w.alloc (.cells #[.bool n1, .int .u64 h1, .int .u64 l1] 24)).alloc (.cells #[.bool n2, .int .u64 h2, .int .u64 l2] 24))) := bt (ba _ _) (ba _ _)
  generalize World.alloc (World.alloc w _) _ = W2 at X Y B ⊢
  have XH := Lib.hid X; have YH := Lib.hid Y
  have d1 := X.c1; have d2 := X.c2; have d3 := Y.c1; have d4 := Y.c2
  have z1 := X.lt; have z2 := Y.lt
  clear X Y
  refine wp_region_still_tail 10 (by kernel_rfl) (by kernel_rfl) ?_
  simp only [List.take_succ_cons, List.take_zero, List.drop_succ_cons, List.drop_zero]
  iterate 4 still_step
  still_call (cmpU_c (h1 : Int) (h2 : Int) p _ hp.out)
  iterate 4 still_step
  still_call (cmpU_c (l1 : Int) (l2 : Int) q _ hq.out)
  refine wpStill_nil ?_
  change wpList _ _ _ _ _ W2.drew
  have BD : Hid (Below w.heap.size w W2.drew) := B.out.drew
  clear d1 d2 d3 d4 z1 z2
  generalize W2.drew = w5 at BD ⊢
  go_wp2_with fail
  refine (or2_any _ p q _ (by simp) (by simp)).mono ?_
  rintro e w6 ⟨rfl, rfl⟩
  rw [ho.out]
  go_wp2_with fail
  go_ret
  exact ⟨rfl, BD.out.alloc BD.out.size _⟩
end Go.Proofs.Ytlbmmnjecemkeaa
