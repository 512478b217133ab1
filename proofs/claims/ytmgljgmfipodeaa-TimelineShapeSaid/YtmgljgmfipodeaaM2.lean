/-
  BALANCED TREES, plain: putting and taking away keep order, balance, places apart; A ROW OF NODES in memory: each of eight cells.
-/
import Derived.Test.YtmgljgmfipodeaaM1
/-
  BALANCED TREES, plain: putting and taking away keep order, balance, places apart.
-/
namespace Go.Proofs.Ytmgljgmfipodeaa.Av
namespace Tr

structure Ok (t : Tr) : Prop where
  bal : t.Bal
  sorted : Sorted t.items
  apart : t.places.Nodup
theorem sorted_split (x : It) (L : List It) : L = under x L ++ beyond x L := by unfold under beyond; exact List.takeWhile_append_dropWhile.symm
theorem under_lt (x : It) (L : List It) : ∀ y ∈ under x L, y.lt x := by
  unfold under
  induction L with
  | nil => simp
  | cons b L ih =>
    rw [List.takeWhile_cons]
    split
    · rename_i h
      intro y hy
      rcases List.mem_cons.1 hy with rfl | hy
      · simpa using h
      · exact ih y hy
    · simp
theorem sorted_put (x : It) (t : Tr) (hs : Sorted t.items) (h : (way x t []).2 = nil) : Sorted (under x t.items ++ x :: beyond x t.items) := by
  obtain ⟨h1, h2, _⟩ := absent x t hs h
  obtain ⟨k1, k2, _⟩ := way_sides0 x t hs
  have e := sorted_split x t.items
  rw [e] at hs
  simp only [Sorted, List.pairwise_append, List.pairwise_cons] at hs ⊢
  refine ⟨hs.1, ⟨fun y hy => k2 y (by rw [← h2]; exact hy), hs.2.1⟩, ?_⟩
  intro a ha b hb
  rcases List.mem_cons.1 hb with rfl | hb
  · exact under_lt _ _ a ha
  · exact hs.2.2 a ha b hb
theorem sorted_del (x : It) (L : List It) (hs : Sorted L) : Sorted (under x L ++ (beyond x L).tail) := by
  have e := sorted_split x L
  rw [e] at hs
  simp only [Sorted, List.pairwise_append] at hs ⊢
  refine ⟨hs.1, ?_, fun a ha b hb => hs.2.2 a ha b (List.mem_of_mem_tail hb)⟩
  cases hb : beyond x L with
  | nil => simp
  | cons b B => rw [hb] at hs; exact (List.pairwise_cons.1 hs.2.1).2
theorem put_ok (x : It) (t : Tr) (p : Nat) (ok : t.Ok) (h : (way x t []).2 = nil) (hp : p ∉ t.places) :
    (mendZ (way x t []).1 (nd p x nil nil)).Ok ∧ (mendZ (way x t []).1 (nd p x nil nil)).places.Perm (p :: t.places) := by
  have e := way_plug x t []
  rw [h] at e
  have hb : (plug (way x t []).1 nil).Bal := by rw [e]; exact ok.bal
  have hpl : (mendZ (way x t []).1 (nd p x nil nil)).places.Perm (p :: t.places) := by
    rw [places_mendZ]
    refine (places_plug _ _).trans ?_
    have k := places_plug (way x t []).1 nil
    rw [e] at k
    simp only [places, plug, List.nil_append, List.cons_append] at k ⊢
    exact List.Perm.cons _ k.symm
  refine ⟨⟨?_, ?_, ?_⟩, hpl⟩
  · exact mendZ_bal _ nil _ hb (by simp [Bal, ht]) (by simp [ht]) (by simp [ht])
  · rw [insert_items x t p ok.sorted h]; exact sorted_put x t ok.sorted h
  · rw [hpl.nodup_iff, List.nodup_cons]; exact ⟨hp, ok.apart⟩
/-- a tree with a node's item turned -/
theorem plug_item (d c : List Fr) (p : Nat) (x y : It) (b : Bool) (o s : Tr) :
    ((plug (d ++ ⟨p, x, b, o⟩ :: c) s).Bal → (plug (d ++ ⟨p, y, b, o⟩ :: c) s).Bal) ∧ (plug (d ++ ⟨p, y, b, o⟩ :: c) s).places = (plug (d ++ ⟨p, x, b, o⟩ :: c) s).places := by
  have up : ∀ (c : List Fr) (a a' : Tr), (a.Bal → a'.Bal) → a.ht = a'.ht → a'.places = a.places → ((plug c a).Bal → (plug c a').Bal) ∧ (plug c a').places = (plug c a).places := by
    intro c
    induction c with
    | nil => intro a a' h _ k; exact ⟨h, k⟩
    | cons f c ih =>
      intro a a' h e k
      refine ih _ _ ?_ ?_ ?_
      · rw [fill_bal, fill_bal, e]; exact fun g => ⟨g.1, h g.2.1, g.2.2⟩
      · rw [fill_ht, fill_ht, e]
      · unfold Fr.fill; split <;> simp [places, k]
  induction d generalizing s with
  | nil =>
    simp only [List.nil_append, plug]
    refine up c _ _ ?_ ?_ ?_
    · rw [fill_bal, fill_bal]; exact id
    · rw [fill_ht, fill_ht]
    · unfold Fr.fill; cases b <;> simp [places]
  | cons f d ih => exact ih _
theorem del1_ok (x : It) (t : Tr) (ok : t.Ok) (p : Nat) (l r : Tr) (h : (way x t []).2 = nd p x l r) (hn : l = nil ∨ r = nil) :
    (mendZ (way x t []).1 (if l.isNil then r else l)).Ok ∧ (p :: (mendZ (way x t []).1 (if l.isNil then r else l)).places).Perm t.places := by
  have e := way_plug x t []
  rw [h] at e
  have hb : (plug (way x t []).1 (nd p x l r)).Bal := by rw [e]; exact ok.bal
  have hs := plug_bal _ _ hb
  have hpl : (p :: (mendZ (way x t []).1 (if l.isNil then r else l)).places).Perm t.places := by
    rw [places_mendZ]
    have k := places_plug (way x t []).1 (nd p x l r)
    rw [e] at k
    simp only [plug] at k
    refine List.perm_iff_count.2 fun a => ?_
    have k1 := List.perm_iff_count.1 k a
    have k2 := List.perm_iff_count.1 (places_plug (way x t []).1 (if l.isNil then r else l)) a
    rcases hn with rfl | rfl
    · simp only [isNil, if_true, places, List.count_append, List.count_cons, List.nil_append] at k1 k2 ⊢; omega
    · cases l <;> simp only [isNil, if_true, Bool.false_eq_true, if_false, places, List.count_append, List.count_cons, List.count_nil, List.nil_append] at k1 k2 ⊢ <;> omega
  refine ⟨⟨?_, ?_, ?_⟩, hpl⟩
  · simp only [Bal] at hs
    rcases hn with rfl | rfl
    · exact mendZ_bal _ (nd p x nil r) _ hb hs.2.1 (by simp [isNil, ht]; omega) (by simp [isNil, ht]; omega)
    · cases l with
      | nil => exact mendZ_bal _ (nd p x nil nil) _ hb hs.2.1 (by simp [isNil, ht]) (by simp [isNil, ht])
      | nd a b c d => exact mendZ_bal _ (nd p x (nd a b c d) nil) _ hb hs.1 (by simp [isNil, ht]; omega) (by simp [isNil, ht]; omega)
  · rw [delete1_items x t ok.sorted p l r h hn]; exact sorted_del x _ ok.sorted
  · exact (List.nodup_cons.1 (hpl.nodup_iff.2 ok.apart)).2
theorem del2_ok (x : It) (t : Tr) (ok : t.Ok) (p : Nat) (l r : Tr) (h : (way x t []).2 = nd p x l r) (d : List Fr) (q : Nat) (y : It) (rr : Tr)
    (hw : plug (d ++ ⟨p, x, true, l⟩ :: (way x t []).1) (nd q y nil rr) = plug (⟨p, x, true, l⟩ :: (way x t []).1) r) (hl : lefts d = []) (hr : y :: (rr.items ++ rights d) = r.items) :
    (mendZ (d ++ ⟨p, y, true, l⟩ :: (way x t []).1) rr).Ok ∧ (q :: (mendZ (d ++ ⟨p, y, true, l⟩ :: (way x t []).1) rr).places).Perm t.places := by
  have e := way_plug x t []
  rw [h] at e
  have e2 : plug (d ++ ⟨p, x, true, l⟩ :: (way x t []).1) (nd q y nil rr) = t := by
    rw [hw]; simp only [plug, Fr.fill, if_true] at e ⊢; exact e
  have hb : (plug (d ++ ⟨p, x, true, l⟩ :: (way x t []).1) (nd q y nil rr)).Bal := by rw [e2]; exact ok.bal
  have hi := plug_item d (way x t []).1 p x y true l (nd q y nil rr)
  have hb2 := hi.1 hb
  have hs := plug_bal _ _ hb2
  have hpl : (q :: (mendZ (d ++ ⟨p, y, true, l⟩ :: (way x t []).1) rr).places).Perm t.places := by
    rw [places_mendZ]
    have k := places_plug (d ++ ⟨p, y, true, l⟩ :: (way x t []).1) (nd q y nil rr)
    rw [hi.2, e2] at k
    refine List.perm_iff_count.2 fun a => ?_
    have k1 := List.perm_iff_count.1 k a
    have k2 := List.perm_iff_count.1 (places_plug (d ++ ⟨p, y, true, l⟩ :: (way x t []).1) rr) a
    simp only [places, List.count_append, List.count_cons, List.nil_append] at k1 k2 ⊢; omega
  simp only [Bal] at hs
  refine ⟨⟨?_, ?_, ?_⟩, hpl⟩
  · exact mendZ_bal _ (nd q y nil rr) _ hb2 hs.2.1 (by simp [ht]; omega) (by simp [ht]; omega)
  · rw [delete2_items x t ok.sorted p l r h d q y rr hl hr]; exact sorted_del x _ ok.sorted
  · exact (List.nodup_cons.1 (hpl.nodup_iff.2 ok.apart)).2
end Tr
end Go.Proofs.Ytmgljgmfipodeaa.Av
/-
  A ROW OF NODES in memory: each of eight cells.
-/
namespace Go.Proofs.Ytmgljgmfipodeaa.Av
open Go Go.RowKit

section
variable {α β : Type} (enc : α → List β) (m : Nat) (hm : ∀ a, (enc a).length = m)
include hm
theorem flat_len (ns : List α) : (ns.flatMap enc).length = ns.length * m := by
  induction ns with
  | nil => simp
  | cons a ns ih => rw [List.flatMap_cons, List.length_append, hm, ih, List.length_cons, Nat.add_mul]; omega
theorem flat_get (ns : List α) (i k : Nat) (hk : k < m) : (ns.flatMap enc)[i * m + k]? = (ns[i]?).bind (fun a => (enc a)[k]?) := by
  induction ns generalizing i with
  | nil => simp
  | cons a ns ih =>
    rw [List.flatMap_cons]
    cases i with
    | zero => rw [Nat.zero_mul, Nat.zero_add, List.getElem?_append_left (by rw [hm]; exact hk)]; simp
    | succ i =>
      rw [List.getElem?_append_right (by rw [hm, Nat.add_mul]; omega), hm, show (i + 1) * m + k - m = i * m + k by rw [Nat.add_mul]; omega, ih]; simp
theorem flat_set (ns : List α) (i k : Nat) (hk : k < m) (a a' : α) (v : β) (hi : ns[i]? = some a) (he : enc a' = (enc a).set k v) : (ns.flatMap enc).set (i * m + k) v = (ns.set i a').flatMap enc := by
  induction ns generalizing i with
  | nil => simp at hi
  | cons b ns ih =>
    rw [List.flatMap_cons]
    cases i with
    | zero =>
      simp only [List.getElem?_cons_zero, Option.some.injEq] at hi
      subst hi
      rw [Nat.zero_mul, Nat.zero_add, List.set_append_left _ _ (by rw [hm]; exact hk), ← he]; simp
    | succ i =>
      rw [List.set_append_right _ _ (by rw [hm, Nat.add_mul]; omega), hm, show (i + 1) * m + k - m = i * m + k by rw [Nat.add_mul]; omega, ih i (by simpa using hi)]; simp
end
/-- a node as it lies in memory -/
structure Nd where
  x : It
  l : Int
  r : Int
  h : Int
  top : Int
  used : Bool
def Nd.cells (n : Nd) : List Value := [.int .i64 n.x.f, .int .i64 n.x.t, .int .i64 n.x.i, .int .i64 n.l, .int .i64 n.r, .int .i64 n.h, .int .i64 n.top, .bool n.used]
theorem Nd.len (n : Nd) : n.cells.length = 8 := rfl
def flat (ns : List Nd) : List Value := ns.flatMap Nd.cells
def place : Tr → Int
  | .nil => -1
  | .nd p _ _ _ => (p : Int)
/-- the nodes of a tree lie in the row -/
def Lies (ns : List Nd) : Tr → Prop
  | .nil => True
  | .nd p x l r => ns[p]? = some ⟨x, place l, place r, ((Tr.nd p x l r).ht : Int), (Tr.nd p x l r).top, true⟩ ∧ Lies ns l ∧ Lies ns r
theorem lies_set (ns : List Nd) (t : Tr) (i : Nat) (n : Nd) (h : Lies ns t) (hi : i ∉ t.places) : Lies (ns.set i n) t := by
  induction t with
  | nil => trivial
  | nd p x l r hl hr =>
    simp only [Tr.places, List.mem_append, List.mem_cons, not_or] at hi
    refine ⟨?_, hl h.2.1 hi.1, hr h.2.2 hi.2.2⟩
    rw [List.getElem?_set_ne (Ne.symm (Ne.symm hi.2.1))]
    exact h.1
theorem lies_lt (ns : List Nd) (t : Tr) (h : Lies ns t) : ∀ p ∈ t.places, p < ns.length := by
  induction t with
  | nil => intro p hp; simp [Tr.places] at hp
  | nd p x l r hl hr =>
    intro q hq
    simp only [Tr.places, List.mem_append, List.mem_cons] at hq
    rcases hq with hq | rfl | hq
    · exact hl h.2.1 q hq
    · exact (List.getElem?_eq_some_iff.1 h.1).1
    · exact hr h.2.2 q hq
theorem lies_append (ns ms : List Nd) (t : Tr) (h : Lies ns t) : Lies (ns ++ ms) t := by
  induction t with
  | nil => trivial
  | nd p x l r hl hr =>
    refine ⟨?_, hl h.2.1, hr h.2.2⟩
    rw [List.getElem?_append_left (List.getElem?_eq_some_iff.1 h.1).1]; exact h.1
/-- the nodes along a way up: their heights and tops may be stale; each points down to what follows -/
def LiesUp (ns : List Nd) : List Tr.Fr → Int → Prop
  | [], _ => True
  | f :: c, d => (∃ h top, ns[f.p]? = some ⟨f.x, if f.right = true then place f.o else d, if f.right = true then d else place f.o, h, top, true⟩) ∧ Lies ns f.o ∧ LiesUp ns c (f.p : Int)
end Go.Proofs.Ytmgljgmfipodeaa.Av
