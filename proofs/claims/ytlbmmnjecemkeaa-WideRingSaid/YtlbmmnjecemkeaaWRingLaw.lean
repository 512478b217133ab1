/-
  WideRing's walk, with the arguments as they are read.
-/
import Derived.Test.YtlbmmnjecemkeaaWRing
import Derived.OpenShut
namespace Go.Proofs.Ytlbmmnjecemkeaa
open Go.RowKit
theorem wideRing_law (n1 : Bool) (h1 l1 : Nat) (n2 : Bool) (h2 l2 : Nat) (a b m : Int) (b1 : h1 < 18446744073709551616) (b2 : l1 < 18446744073709551616) (b3 : h2 < 18446744073709551616) (b4 : l2 < 18446744073709551616)
    (wa : (Lit.int .i64 a).wf = true) (wb : (Lit.int .i64 b).wf = true) (wm : (Lit.int .u64 m).wf = true) (w : World) :
    Calls Try.prog 4 #[.agg #[.bool n1, .int .u64 (h1 : Int), .int .u64 (l1 : Int)], .agg #[.bool n2, .int .u64 (h2 : Int), .int .u64 (l2 : Int)], .int .i64 a, .int .i64 b, .int .u64 m] w fun e w' => e = .returned (.bool true) ∧ Below w.heap.size w w' := by
  have ba := bounds_i64 wa; have bb := bounds_i64 wb; have bm := bounds_u64 wm
  obtain ⟨m, rfl⟩ := Int.eq_ofNat_of_zero_le bm.1
  exact wideRing_walk n1 n2 h1 l1 h2 l2 a b m w b1 b2 b3 b4 ba.1 ba.2 bb.1 bb.2 (by omega)
end Go.Proofs.Ytlbmmnjecemkeaa
