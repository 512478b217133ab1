/-
  OPENING AND SHUTTING an argument of type api.Wide.
-/
import Derived.Test.YtlbmmnjecemkeaaKit
import Derived.ProofKit
import Derived.OpenShut
import Derived.Lib.SmallJoins
namespace Go.Proofs.Ytlbmmnjecemkeaa
open Go.ChangeShapes Go.WideShapes Go.ChangeAt Go.RowKit Go.Joins

section
variable {H : Type} {enc : TypeId × Value → H} {w : World} {base : Nat} {spare : Nat → Bool} {held : Bool}
theorem open_wide {r : Reach} {b0 : Nat} {v : Value} {d : DataW H} {p : List MemPlace} (hv : Value.okWide Try.prog w r b0 24 v) (h : DataW.Trod enc Try.prog w base spare held 24 v d p) :
    ∃ (n : Bool) (hi lo : Nat), v = .agg #[.bool n, .int .u64 (hi : Int), .int .u64 (lo : Int)] ∧ d = .agg [.lit (.bool n), .lit (.int .u64 (hi : Int)), .lit (.int .u64 (lo : Int))] ∧ p = [] ∧ hi < 18446744073709551616 ∧ lo < 18446744073709551616 := by
  obtain ⟨v0, v1, v2, y0, y1, y2, n, rfl, rfl, rfl, h0, h1, h2⟩ := open_agg3 Try.underlying24 (by kernel_rfl) (by kernel_rfl) hv h
  obtain ⟨b, e0, rfl⟩ := DataW.trod_bool Try.underlying4 h0
  obtain ⟨hi, e1, rfl, w1⟩ := DataW.trod_int Try.underlying22 h1
  obtain ⟨lo, e2, rfl, w2⟩ := DataW.trod_int Try.underlying22 h2
  simp only [List.cons.injEq, and_true] at e0 e1 e2
  subst e0 e1 e2
  have b1 := bounds_u64 w1
  have b2 := bounds_u64 w2
  obtain ⟨hi, rfl⟩ := Int.eq_ofNat_of_zero_le b1.1
  obtain ⟨lo, rfl⟩ := Int.eq_ofNat_of_zero_le b2.1
  exact ⟨b, hi, lo, rfl, rfl, rfl, by omega, by omega⟩
theorem wf_u64N (n : Nat) (h : n < 18446744073709551616) : (Lit.int .u64 (n : Int)).wf = true := by
  refine WalkArith.wf_u64 ?_; omega
theorem shut_wide (n : Bool) {hi lo : Nat} (h1 : hi < 18446744073709551616) (h2 : lo < 18446744073709551616) :
    DataW.Trod enc Try.prog w base spare held 24 (.agg #[.bool n, .int .u64 (hi : Int), .int .u64 (lo : Int)]) (.agg [.lit (.bool n), .lit (.int .u64 (hi : Int)), .lit (.int .u64 (lo : Int))]) [] :=
  shut_agg3 Try.underlying24 (by kernel_rfl) (by kernel_rfl) (field_of_Trod (shut_bool Try.underlying4 n) rfl) (field_of_Trod (shut_int Try.underlying22 (wf_u64N hi h1)) rfl) (field_of_Trod (shut_int Try.underlying22 (wf_u64N lo h2)) rfl)
end
end Go.Proofs.Ytlbmmnjecemkeaa
