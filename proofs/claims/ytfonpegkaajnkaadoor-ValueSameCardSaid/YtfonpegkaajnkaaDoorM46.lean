/-
  ValueSame, its arguments in the card's order.
-/
import Derived.Test.YtfonpegkaajnkaaDoorM45
/-
  ValueSame, its arguments in the card's order.
-/
namespace Go.Proofs.YtfonpegkaajnkaaDoor.Va
open Go Go.RowKit Dt Tx
theorem same_card {w : World} (v : V) (hv : v.ok) (u : V) (hu : u.ok) (he : Env w) : Calls Tryd.prog 4 #[.agg #[.int .u8 v.k, .int .i64 v.c, .int .i64 v.s, .int .i64 v.e], .agg #[.int .u8 u.k, .int .i64 u.c, .int .i64 u.s, .int .i64 u.e]] w fun e w' => e = .returned (.bool true) ∧ Below w.heap.size w w' := same_law v u hv hu he
end Go.Proofs.YtfonpegkaajnkaaDoor.Va
