/-
  What the rows' condition gives: the library's table, its number.
-/
import Derived.Test.YthbgkokepnifdaaDoorRows
import Derived.Test.YthbgkokepnifdaaDoorDtKit
import Derived.Lib.LaidTab
import Derived.LaidSub
import Derived.Shelf.Vars
namespace Go.Proofs.YthbgkokepnifdaaDoor.Dt
open Go Go.RowKit
theorem env_of {W : World} (hL : laidMetH Tryd.prog Rows.datetextTextsRow.laid W) (hS : W.ShapedOpen Tryd.prog) : Env W := by
  refine ⟨?_, ?_⟩
  · have h1 : laidMetH Tryd.prog [("internal/strconv.uint64pow10", Rows.laid_internal_strconv_uint64pow10)] W := laidMetH.filter (fun x => x.1 == "internal/strconv.uint64pow10") hL
    exact Lib.tabIs_of_head (rest := []) gTab (by kernel_rfl) Tryd.underlying84 Tryd.underlying75 (by kernel_rfl) (by kernel_rfl) h1
  · exact cell_of_shapedOpen_int (zero := #[.int .i64 0]) (t := 3) hS (of_decide_eq_true (by kernel_rfl)) (by kernel_rfl) (by kernel_rfl) (by kernel_rfl) (by kernel_rfl) Tryd.underlying3
end Go.Proofs.YthbgkokepnifdaaDoor.Dt
