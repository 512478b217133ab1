/-
  THE WALK of corrodylaw01's known.
-/
import Derived.Test.YtlbmmnjecemkeaaWTold
namespace Go.Proofs.Ytlbmmnjecemkeaa
open Go.RowKit
attribute [local go_sem ↓] Go.wp_at_zero Go.wp_at_succ

theorem wMul_c (a b : Int) (v : Value) (w : World) (a0 : -9223372036854775808 ≤ a) (a1 : a ≤ 9223372036854775807) (b0 : -9223372036854775808 ≤ b) (b1 : b ≤ 9223372036854775807) (hv : wv (a * b) = v) :
    Calls Try.prog 28 #[.int .i64 a, .int .i64 b] w fun e w' => e = .returned v ∧ Below w.heap.size w w' := by
  rw [← hv]; exact wMul_any a b w a0 a1 b0 b1
theorem wOf_c (n : Int) (v : Value) (w : World) (h0 : -9223372036854775808 ≤ n) (h1 : n ≤ 9223372036854775807) (hv : wv n = v) :
    Calls Try.prog 29 #[.int .i64 n] w fun e w' => e = .returned v ∧ Below w.heap.size w w' := by
  rw [← hv]; exact wOf_any n w h0 h1

set_option maxRecDepth 100000 in
set_option maxHeartbeats 4000000 in
theorem known_any (w : World) : Calls Try.prog 15 #[] w fun e w' => e = .returned (.bool true) ∧ Below w.heap.size w w' := by
  have HM : Hid (wv (4611686018427387904 * 4) = .agg #[.bool false, .int .u64 1, .int .u64 0]) := by show _ = _; rfl
  have H1 : Hid (wv (-1) = .agg #[.bool true, .int .u64 0, .int .u64 1]) := by show _ = _; rfl
  go_enter Try.func15, Try.ntmps15
  go_wp2_with fail
  refine (wOf_c (-1) _ _ (by omega) (by omega) H1.out).mono ?_
  rintro e w1 ⟨rfl, b1⟩
  go_wp2_with fail
  refine (wFloor_any true 0 1 10 _ (by omega) (by omega) (by omega) (by omega)).mono ?_
  rintro e w2 ⟨rfl, b2⟩
  have e0 : wv (wz true (0 : Nat) (1 : Nat) / (10 : Nat)) = .agg #[.bool true, .int .u64 0, .int .u64 1] := by rfl
  rw [e0]
  have B2 := Lib.hid (bt b1 b2)
  clear b1 b2 e0
  go_wp2_with fail
  generalize hW : World.alloc w2 _ = W3
  have X3 : Hid (WAt W3 w2.heap.size true 0 1) := by rw [← hW]; exact wAt_new w2 true 0 1
  have B3 : Hid (Below w.heap.size w W3) := by rw [← hW]; exact bt B2.out (ba _ _)
  clear hW
  have mkS : ∀ w', Below W3.heap.size W3 w' → (Below W3.heap.size W3 w' ∧ w'.cell? ⟨w2.heap.size, 0, none⟩ = some (.bool true) ∧ w'.cell? ⟨w2.heap.size, 1, none⟩ = some (.int .u64 0) ∧ w'.cell? ⟨w2.heap.size, 2, none⟩ = some (.int .u64 1)) :=
    fun w' h => ⟨h, (WAt.below X3.out h).c0, (WAt.below X3.out h).c1, (WAt.below X3.out h).c2⟩
  have HS0 := mkS _ ((Below.refl _ _).drew)
  go_region_held3 (fun w' => Below W3.heap.size W3 w' ∧ w'.cell? ⟨w2.heap.size, 0, none⟩ = some (.bool true) ∧ w'.cell? ⟨w2.heap.size, 1, none⟩ = some (.int .u64 0) ∧ w'.cell? ⟨w2.heap.size, 2, none⟩ = some (.int .u64 1))
    (first | exact HS0 | assumption)
    (first
      | (go_at_call 28; (with_reducible refine (wMul_c 4611686018427387904 4 _ _ (by omega) (by omega) (by omega) (by omega) HM.out).mono ?_); rintro e w5 ⟨rfl, b5⟩; have HS5 := mkS _ (bt (And.left (by assumption)) b5); clear b5)
      | (go_at_call 61; (with_reducible refine (known1_any 5 0 _ (by omega) (by omega) (by decide)).mono ?_); rintro e w6 ⟨rfl, b6⟩; have HS6 := mkS _ (bt HS5.1 b6); clear b6)
      | (go_at_call 61; (with_reducible refine (known1_any 15 2 _ (by omega) (by omega) (by decide)).mono ?_); rintro e w7 ⟨rfl, b7⟩; have HS7 := mkS _ (bt HS6.1 b7); clear b7)
      | (go_at_call 61; (with_reducible refine (known1_any (-25) (-2) _ (by omega) (by omega) (by decide)).mono ?_); rintro e w8 ⟨rfl, b8⟩; have HS8 := mkS _ (bt HS7.1 b8); clear b8)
      | (go_at_call 29; (with_reducible refine (wOf_c (-1) _ _ (by omega) (by omega) H1.out).mono ?_); rintro e w9 ⟨rfl, b9⟩; have HS9 := mkS _ (bt HS8.1 b9); clear b9))
  all_goals
    go_wp2_with fail
    go_ret
    exact ⟨rfl, bt B3.out HS9.1⟩
end Go.Proofs.Ytlbmmnjecemkeaa
