/-
  TWO VARIABLES of type api.Wide, just laid.
-/
import Derived.Test.YtlbmmnjecemkeaaNumWide
namespace Go.Proofs.Ytlbmmnjecemkeaa
open Go.RowKit

theorem two_wide (w : World) (n1 n2 : Bool) (h1 l1 h2 l2 : Int) :
    WAt ((w.alloc (.cells #[.bool n1, .int .u64 h1, .int .u64 l1] 24)).alloc (.cells #[.bool n2, .int .u64 h2, .int .u64 l2] 24)) w.heap.size n1 h1 l1 ∧
    WAt ((w.alloc (.cells #[.bool n1, .int .u64 h1, .int .u64 l1] 24)).alloc (.cells #[.bool n2, .int .u64 h2, .int .u64 l2] 24)) (w.heap.size + 1) n2 h2 l2 := by
  have := wAt_new (w.alloc (.cells #[.bool n1, .int .u64 h1, .int .u64 l1] 24)) n2 h2 l2
  rw [World.size_alloc] at this
  exact ⟨WAt.below (wAt_new w n1 h1 l1) (ba _ _), this⟩

end Go.Proofs.Ytlbmmnjecemkeaa
