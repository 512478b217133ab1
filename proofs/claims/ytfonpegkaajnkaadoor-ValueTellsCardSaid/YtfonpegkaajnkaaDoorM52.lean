/-
  ValueTells: walked.
-/
import Derived.Test.YtfonpegkaajnkaaDoorM50
import Derived.Test.YtfonpegkaajnkaaDoorM51
/-
  ValueTells: walked.
-/
namespace Go.Proofs.YtfonpegkaajnkaaDoor.Va
open Go Go.RowKit Dt Tx
set_option linter.unusedSimpArgs false
set_option linter.unusedVariables false
attribute [local go_sem ↓] Go.wp_at_zero Go.wp_at_succ

theorem tells_law {w : World} (v : V) (hv : v.ok) (c s : Int) (hc : fits c) (is : Bool) (n : Int) (hn : fits n) (he : Env w) : Calls Tryd.prog 5 #[.agg #[.int .u8 v.k, .int .i64 v.c, .int .i64 v.s, .int .i64 v.e], .agg #[.int .i64 c, .int .i64 s], .bool is, .int .i64 n] w fun e w' => e = .returned (.bool true) ∧ Below w.heap.size w w' := by
  cases hm : mayV v
  · cases is
    · cases hb : mayV ⟨4, 0, 0, n⟩
      · cases hs : isB s
        · exact tells_Bfnq v hv c s hc n hn he hm hb hs
        · exact tells_Bfnp v hv c s hc n hn he hm hb hs
      · cases hs : isB s
        · exact tells_Bfmq v hv c s hc n hn he hm hb hs
        · exact tells_Bfmp v hv c s hc n hn he hm hb hs
    · cases hb : mayV ⟨4, 0, 0, n⟩
      · cases hs : isB s
        · exact tells_Btnq v hv c s hc n hn he hm hb hs
        · exact tells_Btnp v hv c s hc n hn he hm hb hs
      · cases hs : isB s
        · exact tells_Btmq v hv c s hc n hn he hm hb hs
        · exact tells_Btmp v hv c s hc n hn he hm hb hs
  · cases is
    · cases hb : mayV ⟨4, 0, 0, n⟩
      · cases hs : isB s
        · exact tells_Afnq v hv c s hc n hn he hm hb hs
        · exact tells_Afnp v hv c s hc n hn he hm hb hs
      · cases hs : isB s
        · exact tells_Afmq v hv c s hc n hn he hm hb hs
        · exact tells_Afmp v hv c s hc n hn he hm hb hs
    · cases hb : mayV ⟨4, 0, 0, n⟩
      · cases hs : isB s
        · exact tells_Atnq v hv c s hc n hn he hm hb hs
        · exact tells_Atnp v hv c s hc n hn he hm hb hs
      · cases hs : isB s
        · exact tells_Atmq v hv c s hc n hn he hm hb hs
        · exact tells_Atmp v hv c s hc n hn he hm hb hs
end Go.Proofs.YtfonpegkaajnkaaDoor.Va
