/-
  OPENING AND SHUTTING an argument of type api.Dec.
-/
import Derived.Test.YtfonpegkaajnkaaDoorM28
import Derived.ProofKit
import Derived.OpenShut
import Derived.Lib.SmallJoins
/-
  OPENING AND SHUTTING an argument of type api.Dec.
-/
namespace Go.Proofs.YtfonpegkaajnkaaDoor
open Go.ChangeShapes Go.WideShapes Go.ChangeAt Go.RowKit Go.Joins

section
variable {H : Type} {enc : TypeId × Value → H} {w : World} {base : Nat} {spare : Nat → Bool} {held : Bool}
set_option maxRecDepth 100000 in
theorem open_dec {r : Reach} {b0 : Nat} {v : Value} {d : DataW H} {p : List MemPlace} (hv : Value.okWide Tryd.prog w r b0 24 v) (h : DataW.Trod enc Tryd.prog w base spare held 24 v d p) :
    ∃ c s : Int, v = .agg #[.int .i64 c, .int .i64 s] ∧ d = .agg [.lit (.int .i64 c), .lit (.int .i64 s)] ∧ p = [] ∧ fits c ∧ fits s := by
  obtain ⟨v0, v1, y0, y1, n, rfl, rfl, rfl, h0, h1⟩ := open_agg2 Tryd.underlying24 (by kernel_rfl) (by kernel_rfl) hv h
  obtain ⟨c, e0, rfl, w0⟩ := DataW.trod_int Tryd.underlying2 h0
  obtain ⟨s, e1, rfl, w1⟩ := DataW.trod_int Tryd.underlying3 h1
  simp only [List.cons.injEq, and_true] at e0 e1
  subst e0 e1
  have b0 := bounds_i64 w0
  have b1 := bounds_i64 w1
  exact ⟨c, s, rfl, rfl, rfl, ⟨by omega, by omega⟩, ⟨by omega, by omega⟩⟩
theorem wf_fits {c : Int} (h : fits c) : (Lit.int .i64 c).wf = true := by
  have h1 : -9223372036854775808 ≤ c ∧ c ≤ 9223372036854775807 := h
  refine WalkArith.wf_i64 ?_ <;> omega
set_option maxRecDepth 100000 in
theorem shut_dec {c s : Int} (h1 : fits c) (h2 : fits s) :
    DataW.Trod enc Tryd.prog w base spare held 24 (.agg #[.int .i64 c, .int .i64 s]) (.agg [.lit (.int .i64 c), .lit (.int .i64 s)]) [] :=
  shut_agg2 Tryd.underlying24 (by kernel_rfl) (by kernel_rfl) (field_of_Trod (shut_int Tryd.underlying2 (wf_fits h1)) rfl) (field_of_Trod (shut_int Tryd.underlying3 (wf_fits h2)) rfl)
end
end Go.Proofs.YtfonpegkaajnkaaDoor
