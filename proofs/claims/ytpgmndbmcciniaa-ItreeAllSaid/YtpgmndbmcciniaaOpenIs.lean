/-
  OPENING an argument of type []api.Item.
-/
import Derived.Test.YtpgmndbmcciniaaOpenI
import Derived.Test.YtpgmndbmcciniaaAvlTwo
import Derived.Deep.Slices
import Derived.Deep.Strs
namespace Go.Proofs.Ytpgmndbmcciniaa
open Go.ChangeShapes Go.WideShapes Go.ChangeAt Go.RowKit Go.Joins

section
variable {H : Type} {enc : TypeId × Value → H} {w : World} {base : Nat} {spare : Nat → Bool} {held : Bool}
theorem list_of (n : Nat) (P : Nat → Av.It → Prop) (h : ∀ i, i < n → ∃ x, P i x) : ∃ xs : List Av.It, xs.length = n ∧ ∀ i x, xs[i]? = some x → P i x := by
  induction n with
  | zero => exact ⟨[], rfl, fun i x hx => by simp at hx⟩
  | succ n ih =>
    obtain ⟨xs, h1, h2⟩ := ih (fun i hi => h i (by omega))
    obtain ⟨x, hx⟩ := h n (by omega)
    refine ⟨xs ++ [x], by simp [h1], fun i y hy => ?_⟩
    have il := (List.getElem?_eq_some_iff.1 hy).1
    rw [List.length_append, List.length_singleton] at il
    by_cases e : i = n
    · subst e
      rw [← h1] at hy
      simp only [List.getElem?_concat_length, Option.some.injEq] at hy
      subst hy; exact hx
    · rw [List.getElem?_append_left (by omega)] at hy
      exact h2 i y hy
theorem open_items {r : Reach} {b0 : Nat} {v : Value} {d : DataW H} {p : List MemPlace} (hv : Value.okWide Try.prog w r b0 29 v) (h : DataW.Trod enc Try.prog w base spare held 29 v d p) :
    ∃ xs : List Av.It, Av.ArgT w v xs := by
  obtain ⟨ao, len, cap, rfl⟩ := okWide_slice Try.underlying29 hv
  obtain ⟨fuel, hf⟩ := h
  rcases Deep.open_slice Try.underlying29 hf with ⟨e, _⟩ | ⟨a, len', cap', m, n, D, Pl, e, hb, hl, hm, hmm, _, hx⟩
  · simp only [Value.cells, List.cons.injEq, Value.slice.injEq, and_true] at e
    obtain ⟨rfl, rfl, rfl⟩ := e
    exact ⟨[], none, 0, rfl, Nat.le_refl _, fun i x h => by simp at h⟩
  · simp only [Value.cells, List.cons.injEq, Value.slice.injEq, and_true] at e
    obtain ⟨rfl, rfl, rfl⟩ := e
    have c3 : Try.prog.cellsOf 33 = 3 := by kernel_rfl
    rw [c3] at hx
    have hlm : len ≤ m := by rw [hmm]; split <;> omega
    have key : ∀ i, i < m → ∃ x : Av.It, w.cell? ((a.add (i * 3)).add 0) = some (.int .i64 x.f) ∧ w.cell? ((a.add (i * 3)).add 1) = some (.int .i64 x.t) ∧ w.cell? ((a.add (i * 3)).add 2) = some (.int .i64 x.i) := by
      intro i hi
      obtain ⟨cs', h1, h2⟩ := hx i hi
      obtain ⟨_, hlen, hc⟩ := World.cells?_some h1
      obtain ⟨y0, y1, y2, n', _, _, t0, t1, t2⟩ := Deep.trod_struct3 Try.underlying33 h2
      have one : Try.prog.cellsOf 3 = 1 := by kernel_rfl
      match cs', hlen with
      | [v0, v1, v2], _ =>
        simp only [List.drop_zero, List.drop_succ_cons, one, List.take_succ_cons, List.take_zero] at t0 t1 t2
        obtain ⟨f, e0, _, _⟩ := DataW.trod_int Try.underlying3 t0
        obtain ⟨t, e1, _, _⟩ := DataW.trod_int Try.underlying3 t1
        obtain ⟨u, e2, _, _⟩ := DataW.trod_int Try.underlying3 t2
        simp only [List.cons.injEq, and_true] at e0 e1 e2
        subst e0 e1 e2
        exact ⟨⟨f, t, u⟩, hc 0 (by omega), hc 1 (by omega), hc 2 (by omega)⟩
    obtain ⟨xs, hxl, hxs⟩ := list_of len (fun i x => w.cell? ((a.add (i * 3)).add 0) = some (.int .i64 x.f) ∧ w.cell? ((a.add (i * 3)).add 1) = some (.int .i64 x.t) ∧ w.cell? ((a.add (i * 3)).add 2) = some (.int .i64 x.i)) (fun i hi => key i (by omega))
    subst hxl
    refine ⟨xs, some a, cap, rfl, hl, fun i x hi => ?_⟩
    have il := (List.getElem?_eq_some_iff.1 hi).1
    obtain ⟨k0, k1, k2⟩ := hxs i x hi
    obtain ⟨z, hz, _, _⟩ := key 0 (by omega)
    obtain ⟨b, o, spot⟩ := a
    have hspot : spot = none := by simpa [Addr.add] using World.cell?_spot hz
    subst hspot
    have e3 : ((⟨b, o, none⟩ : Addr).add (i * 3)) = ⟨b, o + i * 3, none⟩ := by unfold Addr.add; split <;> simp_all
    rw [e3] at k0 k1 k2
    exact ⟨b, o, rfl, World.block_lt_of_cell? w _ k0, k0, k1, k2⟩
end
end Go.Proofs.Ytpgmndbmcciniaa
