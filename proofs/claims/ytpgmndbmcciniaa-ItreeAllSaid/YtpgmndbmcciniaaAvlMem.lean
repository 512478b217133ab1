/-
  THE ROW OF NODES in a world.
-/
import Derived.Test.YtpgmndbmcciniaaAvlMend
namespace Go.Proofs.Ytpgmndbmcciniaa.Av
open Go Go.RowKit

/-- a slice of nodes: T is the type of a node -/
def RowN (T : TypeId) (w : World) (B : Nat) (v : Value) (ns : List Nd) : Prop := w.ownsRow B T 8 v ns.length (flat ns)
section
variable {T : TypeId} {w : World} {B g cap : Nat} {ns : List Nd}
theorem rowN_nil (T : TypeId) (w : World) (B : Nat) : RowN T w B (.slice none 0 0) [] := World.ownsRow_nil w B T 8
theorem RowN.cell (h : RowN T w B (.slice (some ⟨g, 0, none⟩) ns.length cap) ns) (i k : Nat) (n : Nd) (v : Value) (hi : ns[i]? = some n) (hk : k < 8) (hv : n.cells[k]? = some v) : w.cell? ⟨g, i * 8 + k, none⟩ = some v := by
  have hl := (List.getElem?_eq_some_iff.1 hi).1
  have := World.ownsRow.cellAt h (i * 8 + k) (by omega)
  rw [this]
  show (ns.flatMap Nd.cells)[i * 8 + k]? = _
  rw [flat_get Nd.cells 8 Nd.len ns i k hk, hi]; exact hv
theorem RowN.frozen (h : RowN T w B (.slice (some ⟨g, 0, none⟩) ns.length cap) ns) (j : Nat) : w.frozen? ⟨g, j, none⟩ = false := World.ownsRow.frozenAt h j
theorem RowN.store (h : RowN T w B (.slice (some ⟨g, 0, none⟩) ns.length cap) ns) (i k : Nat) (n n' : Nd) (v : Value) (hi : ns[i]? = some n) (hk : k < 8) (he : n'.cells = n.cells.set k v) :
    RowN T (w.setCell ⟨g, i * 8 + k, none⟩ v) B (.slice (some ⟨g, 0, none⟩) (ns.set i n').length cap) (ns.set i n') := by
  have := (World.ownsRow.stored h (i * 8 + k) v).1
  unfold RowN
  have e : flat (ns.set i n') = (flat ns).set (i * 8 + k) v := (flat_set Nd.cells 8 Nd.len ns i k hk n n' v hi he).symm
  rw [e, List.length_set]; exact this
theorem RowN.lt (h : RowN T w B (.slice (some ⟨g, 0, none⟩) ns.length cap) ns) : g < w.heap.size ∧ B ≤ g := by
  rcases h.2 with ⟨e, _⟩ | ⟨g', cap', cur, e, h0, hg, _⟩
  · simp at e
  · simp only [Value.slice.injEq, Option.some.injEq, Addr.mk.injEq, and_true] at e
    obtain ⟨rfl, _, rfl⟩ := e
    exact ⟨(Array.getElem?_eq_some_iff.1 hg).1, h0⟩
theorem RowN.other {b o : Nat} (u : Value) {v : Value} (h : RowN T w B v ns) (hb : ∀ a, v.ownBlock = some a → a ≠ b) : RowN T (w.setCell ⟨b, o, none⟩ u) B v ns := by
  obtain ⟨h1, h2⟩ := h
  refine ⟨h1, ?_⟩
  rcases h2 with h2 | ⟨g', cap', cur, rfl, hg, hh, r⟩
  · exact .inl h2
  · exact .inr ⟨g', cap', cur, rfl, hg, by rw [Below.heap_setCell _ _ _ _ (hb g' rfl)]; exact hh, r⟩
end
end Go.Proofs.Ytpgmndbmcciniaa.Av
