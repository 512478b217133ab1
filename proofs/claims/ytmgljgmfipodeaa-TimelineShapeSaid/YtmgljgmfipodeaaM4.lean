/-
  MENDING A WAY, plain: all of a way balanced, from its end on; THE ROW OF NODES in a world.
-/
import Derived.Test.YtmgljgmfipodeaaM3
/-
  MENDING A WAY, plain: all of a way balanced, from its end on.
-/
namespace Go.Proofs.Ytmgljgmfipodeaa.Av
open Go Go.RowKit

/-- the places of a way and of its other sides -/
def upPlaces (c : List Tr.Fr) : List Nat := c.flatMap fun f => f.p :: f.o.places
theorem liesUp_congr {ns ms : List Nd} {c : List Tr.Fr} {d : Int} (h : LiesUp ns c d) (k : ∀ q ∈ upPlaces c, ms[q]? = ns[q]?) : LiesUp ms c d := by
  induction c generalizing d with
  | nil => trivial
  | cons f c ih =>
    obtain ⟨⟨hh, tt, h1⟩, h2, h3⟩ := h
    refine ⟨⟨hh, tt, ?_⟩, lies_congr h2 (fun q hq => k q (by simp [upPlaces, hq])), ih h3 (fun q hq => k q ?_)⟩
    · rw [k f.p (by simp [upPlaces])]; exact h1
    · simp only [upPlaces, List.flatMap_cons, List.mem_append] at hq ⊢; exact .inr hq
theorem mem_plug (c : List Tr.Fr) (t : Tr) (q : Nat) : q ∈ (Tr.plug c t).places ↔ (q ∈ t.places ∨ q ∈ upPlaces c) := by
  rw [(Tr.places_plug c t).mem_iff, List.mem_append]; rfl
theorem nodup_plug (c : List Tr.Fr) (t : Tr) : (Tr.plug c t).places.Nodup ↔ (t.places ++ upPlaces c).Nodup := (Tr.places_plug c t).nodup_iff
def mendAll : List Nd → List Tr.Fr → Int → Int × List Nd
  | ns, [], d => (d, ns)
  | ns, f :: c, _ => mendAll (match c with | [] => (mendedN ns f.p).2 | g :: _ => hangN (mendedN ns f.p).2 g.p g.right ((mendedN ns f.p).1 : Int)) c ((mendedN ns f.p).1 : Int)
theorem fill_places (f : Tr.Fr) (s : Tr) : (f.fill s).places.Perm (f.p :: (s.places ++ f.o.places)) := by
  refine List.perm_iff_count.2 fun a => ?_
  unfold Tr.Fr.fill
  split <;> simp only [Tr.places, List.count_append, List.count_cons] <;> omega
/-- the node at the way's end, ready to be mended -/
theorem fill_lies {ns : List Nd} {f : Tr.Fr} {s : Tr} {c : List Tr.Fr} (h : LiesUp ns (f :: c) (place s)) (hs : Lies ns s) (nd : (f.fill s).places.Nodup) :
    ((mendedN ns f.p).1 : Int) = place (Tr.bal (f.fill s)) ∧ Lies (mendedN ns f.p).2 (Tr.bal (f.fill s)) ∧ Only ns (mendedN ns f.p).2 (f.fill s).places := by
  obtain ⟨⟨hh, tt, h1⟩, h2, _⟩ := h
  unfold Tr.Fr.fill at nd ⊢
  split at nd
  · rename_i hr
    rw [hr] at h1
    simp only [if_true] at h1
    rw [if_pos hr]
    exact mendedN_lies h1 h2 hs nd
  · rename_i hr
    have hr' : f.right = false := by simpa using hr
    rw [hr'] at h1
    simp only [Bool.false_eq_true, if_false] at h1
    rw [if_neg hr]
    exact mendedN_lies h1 hs h2 nd
theorem hang_up {ns : List Nd} {g : Tr.Fr} {c : List Tr.Fr} {d d' : Int} (h : LiesUp ns (g :: c) d) (hg : g.p ∉ g.o.places) (hc : g.p ∉ upPlaces c) : LiesUp (hangN ns g.p g.right d') (g :: c) d' := by
  obtain ⟨⟨hh, tt, h1⟩, h2, h3⟩ := h
  refine ⟨⟨hh, tt, ?_⟩, lies_upd _ _ _ _ h2 hg, liesUp_congr h3 (fun q hq => upd_ne _ _ _ _ (fun e => hc (e ▸ hq)))⟩
  rw [hangN, upd_at _ h1]
  cases g.right <;> rfl
theorem mendAll_lies (c : List Tr.Fr) (ns : List Nd) (s : Tr) (hu : LiesUp ns c (place s)) (hs : Lies ns s) (nd : (Tr.plug c s).places.Nodup) :
    (mendAll ns c (place s)).1 = place (Tr.mendZ c s) ∧ Lies (mendAll ns c (place s)).2 (Tr.mendZ c s) ∧ Only ns (mendAll ns c (place s)).2 (Tr.plug c s).places := by
  induction c generalizing ns s with
  | nil => exact ⟨rfl, hs, rfl, fun _ _ => rfl⟩
  | cons f c ih =>
    have nd0 : ((f.fill s).places ++ upPlaces c).Nodup := (nodup_plug c (f.fill s)).1 nd
    rw [List.nodup_append] at nd0
    obtain ⟨h1, h2, h3⟩ := fill_lies hu hs nd0.1
    have pb : (Tr.bal (f.fill s)).places = (f.fill s).places := Tr.places_bal _
    have nd1 : (Tr.plug c (Tr.bal (f.fill s))).places.Nodup := by
      rw [nodup_plug, pb, List.nodup_append]; exact nd0
    have hun : LiesUp (mendedN ns f.p).2 c (f.p : Int) := liesUp_congr hu.2.2 (fun q hq => h3.2 q (fun k => nd0.2.2 q k q hq rfl))
    unfold mendAll Tr.mendZ
    rw [h1]
    have hmem : ∀ q, q ∈ (Tr.plug (f :: c) s).places ↔ (q ∈ (f.fill s).places ∨ q ∈ upPlaces c) := fun q => mem_plug c (f.fill s) q
    cases c with
    | nil =>
      have := ih (mendedN ns f.p).2 (Tr.bal (f.fill s)) trivial h2 nd1
      exact ⟨this.1, this.2.1, h3.trans (this.2.2.mono (fun q hq => by rw [mem_plug, pb] at hq; exact (mem_plug [] (f.fill s) q).2 hq))⟩
    | cons g c =>
      have ndu := nd0.2.1
      simp only [upPlaces, List.flatMap_cons, List.cons_append, List.nodup_cons, List.mem_append, not_or] at ndu
      have hgf : g.p ∉ (f.fill s).places := fun k => nd0.2.2 g.p k g.p (by simp [upPlaces]) rfl
      have hu2 := hang_up (d' := place (Tr.bal (f.fill s))) hun ndu.1.1 ndu.1.2
      have hl2 : Lies (hangN (mendedN ns f.p).2 g.p g.right (place (Tr.bal (f.fill s)))) (Tr.bal (f.fill s)) := lies_upd _ _ _ _ h2 (by rw [pb]; exact hgf)
      have := ih _ (Tr.bal (f.fill s)) hu2 hl2 nd1
      refine ⟨this.1, this.2.1, ?_⟩
      refine (h3.mono (fun q hq => (hmem q).2 (.inl hq))).trans (Only.trans ((only_upd _ _ _).mono (fun q hq => (hmem q).2 (.inr ?_))) (this.2.2.mono (fun q hq => (hmem q).2 ?_)))
      · simp only [List.mem_singleton] at hq; subst hq; simp [upPlaces]
      · rw [mem_plug, pb] at hq; exact hq
/-- a tree's way down is a way in the row -/
theorem liesUp_way {ns : List Nd} (x : It) (t : Tr) (c : List Tr.Fr) (h : Lies ns t) (hc : LiesUp ns c (place t)) :
    LiesUp ns (Tr.way x t c).1 (place (Tr.way x t c).2) ∧ Lies ns (Tr.way x t c).2 := by
  induction t generalizing c with
  | nil => exact ⟨hc, trivial⟩
  | nd p y l r il ir =>
    unfold Tr.way
    split
    · exact il _ h.2.1 ⟨⟨_, _, h.1⟩, h.2.2, hc⟩
    · split
      · exact ir _ h.2.2 ⟨⟨_, _, h.1⟩, h.2.1, hc⟩
      · exact ⟨hc, h⟩
theorem way_len (x : It) (t : Tr) (c : List Tr.Fr) : (Tr.way x t c).1.length + (Tr.way x t c).2.ht ≤ c.length + t.ht := by
  induction t generalizing c with
  | nil => exact Nat.le_refl _
  | nd p y l r il ir =>
    unfold Tr.way
    split
    · have := il (⟨p, y, false, r⟩ :: c); simp only [List.length_cons, Tr.ht] at *; omega
    · split
      · have := ir (⟨p, y, true, l⟩ :: c); simp only [List.length_cons, Tr.ht] at *; omega
      · exact Nat.le_refl _
end Go.Proofs.Ytmgljgmfipodeaa.Av
/-
  THE ROW OF NODES in a world.
-/
namespace Go.Proofs.Ytmgljgmfipodeaa.Av
open Go Go.RowKit

/-- a slice of nodes: T is the type of a node -/
def RowN (T : TypeId) (w : World) (B : Nat) (v : Value) (ns : List Nd) : Prop := w.ownsRow B T 8 v ns.length (flat ns)
section
variable {T : TypeId} {w : World} {B g cap : Nat} {ns : List Nd}
theorem rowN_nil (T : TypeId) (w : World) (B : Nat) : RowN T w B (.slice none 0 0) [] := World.ownsRow_nil w B T 8
theorem RowN.cell (h : RowN T w B (.slice (some ⟨g, 0, none⟩) ns.length cap) ns) (i k : Nat) (n : Nd) (v : Value) (hi : ns[i]? = some n) (hk : k < 8) (hv : n.cells[k]? = some v) : w.cell? ⟨g, i * 8 + k, none⟩ = some v := by
  have hl := (List.getElem?_eq_some_iff.1 hi).1
  have := World.ownsRow.cellAt h (i * 8 + k) (by omega)
  rw [this]
  show (ns.flatMap Nd.cells)[i * 8 + k]? = _
  rw [flat_get Nd.cells 8 Nd.len ns i k hk, hi]; exact hv
theorem RowN.frozen (h : RowN T w B (.slice (some ⟨g, 0, none⟩) ns.length cap) ns) (j : Nat) : w.frozen? ⟨g, j, none⟩ = false := World.ownsRow.frozenAt h j
theorem RowN.store (h : RowN T w B (.slice (some ⟨g, 0, none⟩) ns.length cap) ns) (i k : Nat) (n n' : Nd) (v : Value) (hi : ns[i]? = some n) (hk : k < 8) (he : n'.cells = n.cells.set k v) :
    RowN T (w.setCell ⟨g, i * 8 + k, none⟩ v) B (.slice (some ⟨g, 0, none⟩) (ns.set i n').length cap) (ns.set i n') := by
  have := (World.ownsRow.stored h (i * 8 + k) v).1
  unfold RowN
  have e : flat (ns.set i n') = (flat ns).set (i * 8 + k) v := (flat_set Nd.cells 8 Nd.len ns i k hk n n' v hi he).symm
  rw [e, List.length_set]; exact this
theorem RowN.lt (h : RowN T w B (.slice (some ⟨g, 0, none⟩) ns.length cap) ns) : g < w.heap.size ∧ B ≤ g := by
  rcases h.2 with ⟨e, _⟩ | ⟨g', cap', cur, e, h0, hg, _⟩
  · simp at e
  · simp only [Value.slice.injEq, Option.some.injEq, Addr.mk.injEq, and_true] at e
    obtain ⟨rfl, _, rfl⟩ := e
    exact ⟨(Array.getElem?_eq_some_iff.1 hg).1, h0⟩
theorem RowN.other {b o : Nat} (u : Value) {v : Value} (h : RowN T w B v ns) (hb : ∀ a, v.ownBlock = some a → a ≠ b) : RowN T (w.setCell ⟨b, o, none⟩ u) B v ns := by
  obtain ⟨h1, h2⟩ := h
  refine ⟨h1, ?_⟩
  rcases h2 with h2 | ⟨g', cap', cur, rfl, hg, hh, r⟩
  · exact .inl h2
  · exact .inr ⟨g', cap', cur, rfl, hg, by rw [Below.heap_setCell _ _ _ _ (hb g' rfl)]; exact hh, r⟩
end
end Go.Proofs.Ytmgljgmfipodeaa.Av
