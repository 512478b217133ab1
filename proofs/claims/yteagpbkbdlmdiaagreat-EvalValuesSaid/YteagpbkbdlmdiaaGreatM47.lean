/-
  The document's Text of a number, walked.
-/
import Derived.Test.YteagpbkbdlmdiaaGreatM23
/- The document's Text of a number, walked. -/
namespace Go.Proofs.YteagpbkbdlmdiaaGreat.Tx
open Go Go.RowKit Dt
set_option linter.unusedSimpArgs false
set_option linter.unusedVariables false
attribute [local go_sem ↓] Go.wp_at_zero Go.wp_at_succ
def TR (w:World) (bx i3 i5:Nat) (C:Int) (D a:Nat) (nv:Value) (s4 s6:Value) (wx:World):Prop:=
 ∃ (k:Nat) (b:Bool) (al:Option Addr) (n c:Nat),s4=.string (bs (refT a D k))∧s6=.int .i64 (k:Int)∧Hid (k≤lenT a D)∧Hid (Two wx bx C (D:Int))∧Hid (BoxAt wx i5 (.bool b) (.slice al n c))∧
  Hid (Num 8 wx (.agg #[.bool b,.slice al n c]) ((a / 10 ^ k:Nat):Int))∧Hid (∃ l,BoxAt wx i3 nv l)∧Hid (Below w.heap.size w wx)
end Go.Proofs.YteagpbkbdlmdiaaGreat.Tx
