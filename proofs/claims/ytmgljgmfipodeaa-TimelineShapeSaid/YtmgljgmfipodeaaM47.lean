/-
  OPENING an argument of type []int; OPENING AND SHUTTING an argument of type api.Span; OPENING arguments of the types []corrodylaw11.Op, corrodylaw11.Op.
-/
import Derived.Test.YtmgljgmfipodeaaM33
import Derived.ProofKit
import Derived.OpenShut
import Derived.Lib.SmallJoins
import Derived.Deep.Slices
import Derived.Deep.Strs
import Derived.Test.YtmgljgmfipodeaaM0
import Derived.Test.YtmgljgmfipodeaaM38
/-
  OPENING an argument of type []int.
-/
namespace Go.Proofs.Ytmgljgmfipodeaa
open Go.ChangeShapes Go.WideShapes Go.ChangeAt Go.RowKit Go.Joins

section
variable {H : Type} {enc : TypeId × Value → H} {w : World} {base : Nat} {spare : Nat → Bool} {held : Bool}
theorem list_of1 {α : Type} (n : Nat) (P : Nat → α → Prop) (h : ∀ i, i < n → ∃ x, P i x) : ∃ xs : List α, xs.length = n ∧ ∀ i x, xs[i]? = some x → P i x := by
  induction n with
  | zero => exact ⟨[], rfl, fun i x hx => by simp at hx⟩
  | succ n ih =>
    obtain ⟨xs, h1, h2⟩ := ih (fun i hi => h i (by omega))
    obtain ⟨x, hx⟩ := h n (by omega)
    refine ⟨xs ++ [x], by simp [h1], fun i y hy => ?_⟩
    have il := (List.getElem?_eq_some_iff.1 hy).1
    rw [List.length_append, List.length_singleton] at il
    by_cases e : i = n
    · subst e
      rw [← h1] at hy
      simp only [List.getElem?_concat_length, Option.some.injEq] at hy
      subst hy; exact hx
    · rw [List.getElem?_append_left (by omega)] at hy
      exact h2 i y hy
set_option maxRecDepth 100000 in
theorem open_intsE {r : Reach} {b0 : Nat} {v : Value} {d : DataW H} {p : List MemPlace} (hv : Value.okWide Try.prog w r b0 36 v) (h : DataW.Trod enc Try.prog w base spare held 36 v d p) :
    ∃ xs : List Int, intE.Arg w v xs := by
  obtain ⟨ao, len, cap, rfl⟩ := okWide_slice Try.underlying36 hv
  obtain ⟨fuel, hf⟩ := h
  rcases Deep.open_slice Try.underlying36 hf with ⟨e, _⟩ | ⟨a, len', cap', m, n, D, Pl, e, hb, hl, hm, hmm, _, hx⟩
  · simp only [Value.cells, List.cons.injEq, Value.slice.injEq, and_true] at e
    obtain ⟨rfl, rfl, rfl⟩ := e
    exact ⟨[], Elem.Arg.nil w⟩
  · simp only [Value.cells, List.cons.injEq, Value.slice.injEq, and_true] at e
    obtain ⟨rfl, rfl, rfl⟩ := e
    have c3 : Try.prog.cellsOf 3 = 1 := by kernel_rfl
    rw [c3] at hx
    have hlm : len ≤ m := by rw [hmm]; split <;> omega
    have key : ∀ i, i < m → ∃ x : Int, w.cell? ((a.add (i * 1)).add 0) = some (.int .i64 x) := by
      intro i hi
      obtain ⟨cs', h1, h2⟩ := hx i hi
      obtain ⟨_, hlen, hc⟩ := World.cells?_some h1
      match cs', hlen with
      | [v0], _ =>
        obtain ⟨f, e0, _, _⟩ := DataW.trod_int Try.underlying3 h2
        simp only [List.cons.injEq, and_true] at e0
        subst e0
        exact ⟨f, hc 0 (by omega)⟩
    obtain ⟨xs, hxl, hxs⟩ := list_of1 len (fun i x => w.cell? ((a.add (i * 1)).add 0) = some (.int .i64 x)) (fun i hi => key i (by omega))
    subst hxl
    refine ⟨xs, some a, cap, rfl, ⟨hl, fun e => by cases e⟩, fun i x hi => ?_⟩
    have il := (List.getElem?_eq_some_iff.1 hi).1
    have k0 := hxs i x hi
    obtain ⟨z, hz⟩ := key 0 (by omega)
    obtain ⟨b, o, spot⟩ := a
    have hspot : spot = none := by simpa [Addr.add] using World.cell?_spot hz
    subst hspot
    have e3 : ((⟨b, o, none⟩ : Addr).add (i * 1)) = ⟨b, o + i * 1, none⟩ := by unfold Addr.add; split <;> simp_all
    rw [e3] at k0
    refine ⟨b, o, rfl, World.block_lt_of_cell? w _ k0, fun j u hu => ?_⟩
    match j, hu with
    | 0, hu => cases hu; exact k0
    | j + 1, hu => cases hu
end
end Go.Proofs.Ytmgljgmfipodeaa
/-
  OPENING AND SHUTTING an argument of type api.Span.
-/
namespace Go.Proofs.Ytmgljgmfipodeaa
open Go.ChangeShapes Go.WideShapes Go.ChangeAt Go.RowKit Go.Joins

section
variable {H : Type} {enc : TypeId × Value → H} {w : World} {base : Nat} {spare : Nat → Bool} {held : Bool}
set_option maxRecDepth 100000 in
theorem open_span {r : Reach} {b0 : Nat} {v : Value} {d : DataW H} {p : List MemPlace} (hv : Value.okWide Try.prog w r b0 24 v) (h : DataW.Trod enc Try.prog w base spare held 24 v d p) :
    ∃ a z : Int, v = .agg #[.int .i64 a, .int .i64 z] ∧ d = .agg [.lit (.int .i64 a), .lit (.int .i64 z)] ∧ p = [] ∧ (Lit.int .i64 a).wf = true ∧ (Lit.int .i64 z).wf = true := by
  obtain ⟨v0, v1, y0, y1, n, rfl, rfl, rfl, h0, h1⟩ := open_agg2 Try.underlying24 (by kernel_rfl) (by kernel_rfl) hv h
  obtain ⟨c, e0, rfl, w0⟩ := DataW.trod_int Try.underlying3 h0
  obtain ⟨s, e1, rfl, w1⟩ := DataW.trod_int Try.underlying3 h1
  simp only [List.cons.injEq, and_true] at e0 e1
  subst e0 e1
  exact ⟨c, s, rfl, rfl, rfl, w0, w1⟩
set_option maxRecDepth 100000 in
theorem shut_span {a z : Int} (h1 : (Lit.int .i64 a).wf = true) (h2 : (Lit.int .i64 z).wf = true) :
    DataW.Trod enc Try.prog w base spare held 24 (.agg #[.int .i64 a, .int .i64 z]) (.agg [.lit (.int .i64 a), .lit (.int .i64 z)]) [] :=
  shut_agg2 Try.underlying24 (by kernel_rfl) (by kernel_rfl) (field_of_Trod (shut_int Try.underlying3 h1) rfl) (field_of_Trod (shut_int Try.underlying3 h2) rfl)
end
end Go.Proofs.Ytmgljgmfipodeaa
/-
  OPENING arguments of the types []corrodylaw11.Op, corrodylaw11.Op.
-/
namespace Go.Proofs.Ytmgljgmfipodeaa
open Go.ChangeShapes Go.WideShapes Go.ChangeAt Go.RowKit Go.Joins

/-- a row of puts -/
def opE : Elem Try.prog (Int × Int × Int) where
  sl := 22
  e := 26
  sz := 3
  bytes := 24
  z := .agg #[.int .i64 0, .int .i64 0, .int .i64 0]
  enc := fun x => [.int .i64 x.1, .int .i64 x.2.1, .int .i64 x.2.2]
  und := Try.underlying22
  info := by kernel_rfl
  zs := rfl
  pos := by decide
  len := fun _ => rfl
  one := fun x u hu => by simp only [List.mem_cons, List.not_mem_nil, or_false] at hu; rcases hu with rfl | rfl | rfl <;> rfl
theorem wf_fits {a : Int} (h : (Lit.int .i64 a).wf = true) : -9223372036854775808 ≤ a ∧ a ≤ 9223372036854775807 := by
  have e1 : IntKind.i64.min = -9223372036854775808 := by decide
  have e2 : IntKind.i64.max = 9223372036854775807 := by decide
  simp [Lit.wf] at h
  omega
section
variable {H : Type} {enc : TypeId × Value → H} {w : World} {base : Nat} {spare : Nat → Bool} {held : Bool}
theorem op_cells {n : Nat} {cs : List Value} {x : DataW H × List MemPlace} (h2 : DataW.trod enc Try.prog w base spare held n 26 cs = some x) (hl : cs.length = 3) : ∃ a z v : Int, cs = [.int .i64 a, .int .i64 z, .int .i64 v] := by
  obtain ⟨y0, y1, n', _, _, t0, t1⟩ := trod_struct2 Try.underlying26 h2
  have one : Try.prog.cellsOf 3 = 1 := by kernel_rfl
  have two : Try.prog.cellsOf 24 = 2 := by kernel_rfl
  match cs, hl with
  | [v0, v1, v2], _ =>
    simp only [List.drop_zero, List.drop_succ_cons, one, two, List.take_succ_cons, List.take_zero] at t0 t1
    obtain ⟨z0, z1, n'', _, _, s0, s1⟩ := trod_struct2 Try.underlying24 t0
    simp only [List.drop_zero, List.drop_succ_cons, one, List.take_succ_cons, List.take_zero] at s0 s1
    obtain ⟨a, e0, _, _⟩ := DataW.trod_int Try.underlying3 s0
    obtain ⟨z, e1, _, _⟩ := DataW.trod_int Try.underlying3 s1
    obtain ⟨v, e2, _, _⟩ := DataW.trod_int Try.underlying3 t1
    simp only [List.cons.injEq, and_true] at e0 e1 e2
    subst e0 e1 e2
    exact ⟨a, z, v, rfl⟩
theorem open_op {r : Reach} {b0 : Nat} {v : Value} {d : DataW H} {p : List MemPlace} (hv : Value.okWide Try.prog w r b0 26 v) (h : DataW.Trod enc Try.prog w base spare held 26 v d p) :
    ∃ x : Int × Int × Int, v = .agg #[.int .i64 x.1, .int .i64 x.2.1, .int .i64 x.2.2] := by
  obtain ⟨cs, rfl, hsz⟩ := okWide_struct Try.underlying26 hv
  have c3 : Try.prog.cellsOf 26 = 3 := by kernel_rfl
  obtain ⟨fuel, hf⟩ := h
  obtain ⟨a, z, v, e⟩ := op_cells hf (by show cs.toList.length = 3; rw [Array.length_toList, hsz, c3])
  refine ⟨(a, z, v), ?_⟩
  have : cs.toList = [.int .i64 a, .int .i64 z, .int .i64 v] := e
  rw [← Array.toArray_toList (xs := cs), this]
theorem open_tops {r : Reach} {b0 : Nat} {v : Value} {d : DataW H} {p : List MemPlace} (hv : Value.okWide Try.prog w r b0 22 v) (h : DataW.Trod enc Try.prog w base spare held 22 v d p) :
    ∃ xs : List (Int × Int × Int), opE.Arg w v xs := by
  obtain ⟨ao, len, cap, rfl⟩ := okWide_slice Try.underlying22 hv
  obtain ⟨fuel, hf⟩ := h
  rcases Deep.open_slice Try.underlying22 hf with ⟨e, _⟩ | ⟨a, len', cap', m, n, D, Pl, e, hb, hl, hm, hmm, _, hx⟩
  · simp only [Value.cells, List.cons.injEq, Value.slice.injEq, and_true] at e
    obtain ⟨rfl, rfl, rfl⟩ := e
    exact ⟨[], Elem.Arg.nil w⟩
  · simp only [Value.cells, List.cons.injEq, Value.slice.injEq, and_true] at e
    obtain ⟨rfl, rfl, rfl⟩ := e
    have c3 : Try.prog.cellsOf 26 = 3 := by kernel_rfl
    rw [c3] at hx
    have hlm : len ≤ m := by rw [hmm]; split <;> omega
    have key : ∀ i, i < m → ∃ x : Int × Int × Int, w.cell? ((a.add (i * 3)).add 0) = some (.int .i64 x.1) ∧ w.cell? ((a.add (i * 3)).add 1) = some (.int .i64 x.2.1) ∧ w.cell? ((a.add (i * 3)).add 2) = some (.int .i64 x.2.2) := by
      intro i hi
      obtain ⟨cs', h1, h2⟩ := hx i hi
      obtain ⟨_, hlen, hc⟩ := World.cells?_some h1
      obtain ⟨a', z', v', rfl⟩ := op_cells h2 hlen
      exact ⟨(a', z', v'), hc 0 (by omega), hc 1 (by omega), hc 2 (by omega)⟩
    obtain ⟨xs, hxl, hxs⟩ := list_of1 len (fun i (x : Int × Int × Int) => w.cell? ((a.add (i * 3)).add 0) = some (.int .i64 x.1) ∧ w.cell? ((a.add (i * 3)).add 1) = some (.int .i64 x.2.1) ∧ w.cell? ((a.add (i * 3)).add 2) = some (.int .i64 x.2.2)) (fun i hi => key i (by omega))
    subst hxl
    refine ⟨xs, some a, cap, rfl, ⟨hl, fun e => by cases e⟩, fun i x hi => ?_⟩
    have il := (List.getElem?_eq_some_iff.1 hi).1
    obtain ⟨k0, k1, k2⟩ := hxs i x hi
    obtain ⟨z, hz, _⟩ := key 0 (by omega)
    obtain ⟨b, o, spot⟩ := a
    have hspot : spot = none := by simpa [Addr.add] using World.cell?_spot hz
    subst hspot
    have e3 : ((⟨b, o, none⟩ : Addr).add (i * 3)) = ⟨b, o + i * 3, none⟩ := by unfold Addr.add; split <;> simp_all
    rw [e3] at k0 k1 k2
    refine ⟨b, o, rfl, World.block_lt_of_cell? w _ k0, fun j u hu => ?_⟩
    match j, hu with
    | 0, hu => cases hu; exact k0
    | 1, hu => cases hu; exact k1
    | 2, hu => cases hu; exact k2
    | j + 3, hu => cases hu
end
theorem argOp {w : World} {v : Value} {xs : List (Int × Int × Int)} (h : opE.Arg w v xs) : ∃ (ao : Option Addr) (cap : Nat), v = .slice ao xs.length cap ∧ ∀ (i : Nat) (x : Int × Int × Int), xs[i]? = some x → ∃ b o : Nat, ao = some ⟨b, o, none⟩ ∧ b < w.heap.size ∧
    w.cell? ⟨b, o + i * 3, none⟩ = some (.int .i64 x.1) ∧ w.cell? ⟨b, o + i * 3 + 1, none⟩ = some (.int .i64 x.2.1) ∧ w.cell? ⟨b, o + i * 3 + 2, none⟩ = some (.int .i64 x.2.2) := by
  obtain ⟨ao, cap, e, _, h⟩ := h
  refine ⟨ao, cap, e, fun i x hx => ?_⟩
  obtain ⟨b, o, h1, h2, h3⟩ := h i x hx
  exact ⟨b, o, h1, h2, h3 0 _ rfl, h3 1 _ rfl, h3 2 _ rfl⟩
end Go.Proofs.Ytmgljgmfipodeaa
