/-
  ValueTells, its arguments in the card's order.
-/
import Derived.Test.YtfonpegkaajnkaaDoorM52
/-
  ValueTells, its arguments in the card's order.
-/
namespace Go.Proofs.YtfonpegkaajnkaaDoor.Va
open Go Go.RowKit Dt Tx
theorem tells_card {w : World} (v : V) (hv : v.ok) (c s : Int) (hc : fits c) (_ : fits s) (is : Bool) (n : Int) (hn : fits n) (he : Env w) : Calls Tryd.prog 5 #[.agg #[.int .u8 v.k, .int .i64 v.c, .int .i64 v.s, .int .i64 v.e], .agg #[.int .i64 c, .int .i64 s], .bool is, .int .i64 n] w fun e w' => e = .returned (.bool true) ∧ Below w.heap.size w w' := tells_law v hv c s hc is n hn he
end Go.Proofs.YtfonpegkaajnkaaDoor.Va
