/-
  THE WALKS of wide's put, size, Of, Neg, Ten.
-/
import Derived.Test.YtlbmmnjecemkeaaBitsDiv
namespace Go.Proofs.Ytlbmmnjecemkeaa
open Go.RowKit
attribute [local go_sem ↓] Go.wp_at_zero Go.wp_at_succ

/-- a number of a sign and two words -/
def wr (n : Bool) (hi lo : Nat) : Value := .agg #[.bool n, .int .u64 (hi : Int), .int .u64 (lo : Int)]
/-- the integer's number, the canonical one -/
def wv (z : Int) : Value := wr (decide (z < 0)) (z.natAbs / 18446744073709551616) (z.natAbs % 18446744073709551616)
theorem wz_abs (n : Bool) (hi lo : Nat) : (wz n hi lo).natAbs = hi * 18446744073709551616 + lo := by
  unfold wz; cases n <;> simp <;> omega
theorem wz_neg (n : Bool) (hi lo : Nat) : decide (wz n hi lo < 0) = (n && decide (0 < hi ∨ 0 < lo)) := by
  unfold wz
  cases n
  · rw [if_neg (by decide), Bool.false_and, decide_eq_false_iff_not]; omega
  · rw [if_pos rfl, Bool.true_and, decide_eq_decide]; omega
theorem wv_wz (n : Bool) (hi lo : Nat) (hl : lo < 18446744073709551616) : wv (wz n hi lo) = wr (n && decide (0 < hi ∨ 0 < lo)) hi lo := by
  unfold wv
  rw [wz_abs, wz_neg, show (hi * 18446744073709551616 + lo) / 18446744073709551616 = hi by omega, show (hi * 18446744073709551616 + lo) % 18446744073709551616 = lo by omega]
theorem or_ne (hi lo : Nat) (h1 : hi < 18446744073709551616) (h2 : lo < 18446744073709551616) : (bits .or .u64 (hi : Int) (lo : Int) = 0) ↔ ¬ (0 < hi ∨ 0 < lo) := by
  rw [bits_or_u64_nat hi lo h1 h2]
  have a : hi ||| lo = 0 ↔ hi = 0 ∧ lo = 0 := Nat.or_eq_zero_iff
  omega

set_option maxRecDepth 100000 in
theorem put_any (n : Bool) (hi lo : Nat) (w : World) (h1 : hi < 18446744073709551616) (h2 : lo < 18446744073709551616) :
    Calls Try.prog 56 #[.bool n, .int .u64 (hi : Int), .int .u64 (lo : Int)] w fun e w' => e = .returned (wv (wz n hi lo)) ∧ Below w.heap.size w w' := by
  rw [wv_wz n hi lo h2]
  have hor := or_ne hi lo h1 h2
  have r0 := (wAt_new w false 0 0).c0; have r1 := (wAt_new w false 0 0).c1; have r2 := (wAt_new w false 0 0).c2
  have f0 := (wAt_new w false 0 0).f0; have f1 := (wAt_new w false 0 0).f1; have f2 := (wAt_new w false 0 0).f2
  clear h1 h2
  cases n
  · go_enter Try.func56, Try.ntmps56
    go_wp2_with fail
    refine bodyPost_ret (v := wr false hi lo) (by simp [results, Try.results56, go_sem, r0, r1, r2, wr]) rfl ⟨rfl, ba _ _⟩
  · by_cases hz : 0 < hi ∨ 0 < lo
    · have hb : ¬ (bits .or .u64 (hi : Int) (lo : Int) = 0) := fun h => hor.1 h hz
      go_enter Try.func56, Try.ntmps56
      go_wp2_with fail
      refine bodyPost_ret (v := wr true hi lo) (by simp [results, Try.results56, go_sem, r0, r1, r2, wr, hb]) rfl ⟨by simp [hz], ba _ _⟩
    · have hb : bits .or .u64 (hi : Int) (lo : Int) = 0 := hor.2 hz
      go_enter Try.func56, Try.ntmps56
      go_wp2_with fail
      refine bodyPost_ret (v := wr false hi lo) (by simp [results, Try.results56, go_sem, r0, r1, r2, wr, hb]) rfl ⟨by simp [hz], ba _ _⟩
end Go.Proofs.Ytlbmmnjecemkeaa
