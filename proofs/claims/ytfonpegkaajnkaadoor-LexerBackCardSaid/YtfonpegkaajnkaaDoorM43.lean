/-
  DectextParse: walked.
-/
import Derived.Test.YtfonpegkaajnkaaDoorM36
import Derived.Test.YtfonpegkaajnkaaDoorM42
/-
  DectextParse: walked.
-/
namespace Go.Proofs.YtfonpegkaajnkaaDoor.Tx
open Go Go.RowKit Dt
set_option linter.unusedSimpArgs false
set_option linter.unusedVariables false
attribute [local go_sem ↓] Go.wp_at_zero Go.wp_at_succ

theorem drparse_at {l : List UInt8} {a b e : Int} (h : dparse l = ((a, b), e)) (hl : l.length ≤ 1000) (w : World) : Calls Tryd.prog 30 #[.string (bs l)] w fun e' w' => e' = .returned (.tuple #[.agg #[.int .i64 a, .int .i64 b], .int .i64 e]) ∧ Below w.heap.size w w' := by
  have := drparse_is (w := w) l hl
  unfold DpPost at this
  rw [h] at this
  exact this
end Go.Proofs.YtfonpegkaajnkaaDoor.Tx
