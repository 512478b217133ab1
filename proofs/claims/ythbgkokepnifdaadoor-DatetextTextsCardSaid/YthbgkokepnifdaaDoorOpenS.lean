/-
  OPENING AND SHUTTING an argument of type api.Span.
-/
import Derived.Test.YthbgkokepnifdaaDoorKit
import Derived.ProofKit
import Derived.OpenShut
import Derived.Lib.SmallJoins
namespace Go.Proofs.YthbgkokepnifdaaDoor
open Go.ChangeShapes Go.WideShapes Go.ChangeAt Go.RowKit Go.Joins

section
variable {H : Type} {enc : TypeId × Value → H} {w : World} {base : Nat} {spare : Nat → Bool} {held : Bool}
set_option maxRecDepth 100000 in
theorem open_span {r : Reach} {b0 : Nat} {v : Value} {d : DataW H} {p : List MemPlace} (hv : Value.okWide Tryd.prog w r b0 27 v) (h : DataW.Trod enc Tryd.prog w base spare held 27 v d p) :
    ∃ a z : Int, v = .agg #[.int .i64 a, .int .i64 z] ∧ d = .agg [.lit (.int .i64 a), .lit (.int .i64 z)] ∧ p = [] ∧ (Lit.int .i64 a).wf = true ∧ (Lit.int .i64 z).wf = true := by
  obtain ⟨v0, v1, y0, y1, n, rfl, rfl, rfl, h0, h1⟩ := open_agg2 Tryd.underlying27 (by kernel_rfl) (by kernel_rfl) hv h
  obtain ⟨c, e0, rfl, w0⟩ := DataW.trod_int Tryd.underlying3 h0
  obtain ⟨s, e1, rfl, w1⟩ := DataW.trod_int Tryd.underlying3 h1
  simp only [List.cons.injEq, and_true] at e0 e1
  subst e0 e1
  exact ⟨c, s, rfl, rfl, rfl, w0, w1⟩
set_option maxRecDepth 100000 in
theorem shut_span {a z : Int} (h1 : (Lit.int .i64 a).wf = true) (h2 : (Lit.int .i64 z).wf = true) :
    DataW.Trod enc Tryd.prog w base spare held 27 (.agg #[.int .i64 a, .int .i64 z]) (.agg [.lit (.int .i64 a), .lit (.int .i64 z)]) [] :=
  shut_agg2 Tryd.underlying27 (by kernel_rfl) (by kernel_rfl) (field_of_Trod (shut_int Tryd.underlying3 h1) rfl) (field_of_Trod (shut_int Tryd.underlying3 h2) rfl)
end
end Go.Proofs.YthbgkokepnifdaaDoor
