/-
  THE WALK of corrodylaw01's WideRing.
-/
import Derived.Test.YteagpbkbdlmdiaaGreatQ15
set_option linter.unusedSimpArgs false
set_option linter.unusedVariables false
namespace Go.Proofs.YteagpbkbdlmdiaaGreat
open Go.RowKit
attribute [local go_sem ↓] Go.wp_at_zero Go.wp_at_succ
theorem wMul_nat (a b:Int) (a0:-9223372036854775808≤a) (a1:a≤9223372036854775807) (b0:-9223372036854775808≤b) (b1:b≤9223372036854775807):(a*b).natAbs<340282366920938463463374607431768211456:=by
 rw [Int.natAbs_mul]
 have:=Nat.mul_le_mul (show a.natAbs≤9223372036854775808 by omega) (show b.natAbs≤9223372036854775808 by omega)
 omega
theorem wz_lt (n:Bool) (hi lo:Nat) (h1:hi<18446744073709551616) (h2:lo<18446744073709551616):(wz n hi lo).natAbs<340282366920938463463374607431768211456:=by rw [wz_abs];omega
theorem boxAt_new' {w:World} {b:Nat} (v0 v1:Value) (h:b=w.heap.size):BoxAt (w.alloc (.cells #[v0,v1] 147)) b v0 v1:=by subst h;exact boxAt_new w v0 v1
theorem boxAt_other2 {w:World} {b b':Nat} {v0 v1:Value} (u0 u1:Value) (h:BoxAt w b v0 v1) (hb:b ≠ b'):BoxAt ((w.setCell ⟨b',0,none⟩ u0).setCell ⟨b',1,none⟩ u1) b v0 v1:=boxAt_set_other _ _ (boxAt_set_other _ _ h hb) hb
end Go.Proofs.YteagpbkbdlmdiaaGreat
