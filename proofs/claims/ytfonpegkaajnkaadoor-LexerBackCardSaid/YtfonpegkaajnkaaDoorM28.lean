/-
  THE WALK of corrodylaw01's WideRing.
-/
import Derived.Test.YtfonpegkaajnkaaDoorM26
import Derived.Test.YtfonpegkaajnkaaDoorM27
/-
  THE WALK of corrodylaw01's WideRing.
-/
namespace Go.Proofs.YtfonpegkaajnkaaDoor
set_option linter.unusedSimpArgs false
set_option linter.unusedVariables false
open Go.RowKit
attribute [local go_sem ↓] Go.wp_at_zero Go.wp_at_succ

theorem ovV_agg (z : Int) : ∃ (b : Bool) (h l : Nat) (e : Int), Hid (ovV z = .tuple #[.agg #[.bool b, .int .u64 (h : Int), .int .u64 (l : Int)], .int .i64 e]) := by
  unfold ovV
  split
  · exact ⟨_, _, _, _, rfl⟩
  · exact ⟨false, 0, 0, 11, rfl⟩
theorem asV_small (z : Int) (v : Value) (h : z.natAbs < 340282366920938463463374607431768211456) (hv : wv z = v) : asV z = .tuple #[v, .bool true] := by
  unfold asV; rw [if_pos h, ← hv]; rfl
theorem smallV_form (z : Int) : ∃ (n : Int) (b : Bool), Hid (smallV z = .tuple #[.int .i64 n, .bool b]) := by
  unfold smallV; split
  · exact ⟨_, _, rfl⟩
  · exact ⟨_, _, rfl⟩
theorem wMul_nat (a b : Int) (a0 : -9223372036854775808 ≤ a) (a1 : a ≤ 9223372036854775807) (b0 : -9223372036854775808 ≤ b) (b1 : b ≤ 9223372036854775807) : (a * b).natAbs < 340282366920938463463374607431768211456 := by
  rw [Int.natAbs_mul]
  have := Nat.mul_le_mul (show a.natAbs ≤ 9223372036854775808 by omega) (show b.natAbs ≤ 9223372036854775808 by omega)
  omega
theorem wz_lt (n : Bool) (hi lo : Nat) (h1 : hi < 18446744073709551616) (h2 : lo < 18446744073709551616) : (wz n hi lo).natAbs < 340282366920938463463374607431768211456 := by rw [wz_abs]; omega
theorem wOf_c2 (n : Int) (v : Value) (w : World) (h0 : -9223372036854775808 ≤ n) (h1 : n ≤ 9223372036854775807) (hv : wv n = v) :
    Calls Tryd.prog 70 #[.int .i64 n] w fun e w' => e = .returned v ∧ Below w.heap.size w w' := by
  rw [← hv]; exact wOf_any n w h0 h1
/-- behind 'u, v := ref.Wide(x), ref.Wide(y)' -/
def RingUV (W2 : World) (z1 z2 : Int) (s11 s12 : Value) (wx : World) : Prop :=
  ∃ (g h : Nat) (bu bv : Bool) (au av : Option Addr) (nu nv cu cv : Nat), s11 = .pointer (some ⟨g, 0, none⟩) ∧ s12 = .pointer (some ⟨h, 0, none⟩) ∧ BoxAt wx g (.bool bu) (.slice au nu cu) ∧ BoxAt wx h (.bool bv) (.slice av nv cv) ∧
    Num 22 wx (.agg #[.bool bu, .slice au nu cu]) z1 ∧ Num 22 wx (.agg #[.bool bv, .slice av nv cv]) z2 ∧ Below W2.heap.size W2 wx
theorem boxAt_new' {w : World} {b : Nat} (v0 v1 : Value) (h : b = w.heap.size) : BoxAt (w.alloc (.cells #[v0, v1] 87)) b v0 v1 := by subst h; exact boxAt_new w v0 v1
theorem boxAt_other2 {w : World} {b b' : Nat} {v0 v1 : Value} (u0 u1 : Value) (h : BoxAt w b v0 v1) (hb : b ≠ b') : BoxAt ((w.setCell ⟨b', 0, none⟩ u0).setCell ⟨b', 1, none⟩ u1) b v0 v1 := boxAt_set_other _ _ (boxAt_set_other _ _ h hb) hb

end Go.Proofs.YtfonpegkaajnkaaDoor
