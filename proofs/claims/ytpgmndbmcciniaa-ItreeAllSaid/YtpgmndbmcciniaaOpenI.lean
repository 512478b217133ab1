/-
  OPENING AND SHUTTING an argument of type api.Item.
-/
import Derived.Test.YtpgmndbmcciniaaAvlPlain
import Derived.ProofKit
import Derived.OpenShut
import Derived.Lib.SmallJoins
namespace Go.Proofs.Ytpgmndbmcciniaa
open Go.ChangeShapes Go.WideShapes Go.ChangeAt Go.RowKit Go.Joins

def fits (c : Int) : Prop := -9223372036854775808 ≤ c ∧ c ≤ 9223372036854775807
section
variable {H : Type} {enc : TypeId × Value → H} {w : World} {base : Nat} {spare : Nat → Bool} {held : Bool}
theorem open_item {r : Reach} {b0 : Nat} {v : Value} {d : DataW H} {p : List MemPlace} (hv : Value.okWide Try.prog w r b0 33 v) (h : DataW.Trod enc Try.prog w base spare held 33 v d p) :
    ∃ x : Av.It, v = .agg #[.int .i64 x.f, .int .i64 x.t, .int .i64 x.i] ∧ d = .agg [.lit (.int .i64 x.f), .lit (.int .i64 x.t), .lit (.int .i64 x.i)] ∧ p = [] ∧ fits x.f ∧ fits x.t ∧ fits x.i := by
  obtain ⟨v0, v1, v2, y0, y1, y2, n, rfl, rfl, rfl, h0, h1, h2⟩ := open_agg3 Try.underlying33 (by kernel_rfl) (by kernel_rfl) hv h
  obtain ⟨c, e0, rfl, w0⟩ := DataW.trod_int Try.underlying3 h0
  obtain ⟨s, e1, rfl, w1⟩ := DataW.trod_int Try.underlying3 h1
  obtain ⟨u, e2, rfl, w2⟩ := DataW.trod_int Try.underlying3 h2
  simp only [List.cons.injEq, and_true] at e0 e1 e2
  subst e0 e1 e2
  have b0 := bounds_i64 w0
  have b1 := bounds_i64 w1
  have b2 := bounds_i64 w2
  exact ⟨⟨c, s, u⟩, rfl, rfl, rfl, show fits c from ⟨by omega, by omega⟩, show fits s from ⟨by omega, by omega⟩, show fits u from ⟨by omega, by omega⟩⟩
theorem wf_fits {c : Int} (h : fits c) : (Lit.int .i64 c).wf = true := by
  have h1 : -9223372036854775808 ≤ c ∧ c ≤ 9223372036854775807 := h
  refine WalkArith.wf_i64 ?_ <;> omega
theorem shut_item {x : Av.It} (h1 : fits x.f) (h2 : fits x.t) (h3 : fits x.i) :
    DataW.Trod enc Try.prog w base spare held 33 (.agg #[.int .i64 x.f, .int .i64 x.t, .int .i64 x.i]) (.agg [.lit (.int .i64 x.f), .lit (.int .i64 x.t), .lit (.int .i64 x.i)]) [] :=
  shut_agg3 Try.underlying33 (by kernel_rfl) (by kernel_rfl) (field_of_Trod (shut_int Try.underlying3 (wf_fits h1)) rfl) (field_of_Trod (shut_int Try.underlying3 (wf_fits h2)) rfl) (field_of_Trod (shut_int Try.underlying3 (wf_fits h3)) rfl)
end
end Go.Proofs.Ytpgmndbmcciniaa
