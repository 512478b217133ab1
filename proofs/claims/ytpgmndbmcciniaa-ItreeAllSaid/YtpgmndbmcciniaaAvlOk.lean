/-
  BALANCED TREES, plain: putting and taking away keep order, balance, places apart.
-/
import Derived.Test.YtpgmndbmcciniaaAvlPlain
namespace Go.Proofs.Ytpgmndbmcciniaa.Av
namespace Tr

structure Ok (t : Tr) : Prop where
  bal : t.Bal
  sorted : Sorted t.items
  apart : t.places.Nodup
theorem sorted_split (x : It) (L : List It) : L = under x L ++ beyond x L := by unfold under beyond; exact List.takeWhile_append_dropWhile.symm
theorem under_lt (x : It) (L : List It) : ∀ y ∈ under x L, y.lt x := by
  unfold under
  induction L with
  | nil => simp
  | cons b L ih =>
    rw [List.takeWhile_cons]
    split
    · rename_i h
      intro y hy
      rcases List.mem_cons.1 hy with rfl | hy
      · simpa using h
      · exact ih y hy
    · simp
theorem sorted_put (x : It) (t : Tr) (hs : Sorted t.items) (h : (way x t []).2 = nil) : Sorted (under x t.items ++ x :: beyond x t.items) := by
  obtain ⟨h1, h2, _⟩ := absent x t hs h
  obtain ⟨k1, k2, _⟩ := way_sides0 x t hs
  have e := sorted_split x t.items
  rw [e] at hs
  simp only [Sorted, List.pairwise_append, List.pairwise_cons] at hs ⊢
  refine ⟨hs.1, ⟨fun y hy => k2 y (by rw [← h2]; exact hy), hs.2.1⟩, ?_⟩
  intro a ha b hb
  rcases List.mem_cons.1 hb with rfl | hb
  · exact under_lt _ _ a ha
  · exact hs.2.2 a ha b hb
theorem sorted_del (x : It) (L : List It) (hs : Sorted L) : Sorted (under x L ++ (beyond x L).tail) := by
  have e := sorted_split x L
  rw [e] at hs
  simp only [Sorted, List.pairwise_append] at hs ⊢
  refine ⟨hs.1, ?_, fun a ha b hb => hs.2.2 a ha b (List.mem_of_mem_tail hb)⟩
  cases hb : beyond x L with
  | nil => simp
  | cons b B => rw [hb] at hs; exact (List.pairwise_cons.1 hs.2.1).2
theorem put_ok (x : It) (t : Tr) (p : Nat) (ok : t.Ok) (h : (way x t []).2 = nil) (hp : p ∉ t.places) :
    (mendZ (way x t []).1 (nd p x nil nil)).Ok ∧ (mendZ (way x t []).1 (nd p x nil nil)).places.Perm (p :: t.places) := by
  have e := way_plug x t []
  rw [h] at e
  have hb : (plug (way x t []).1 nil).Bal := by rw [e]; exact ok.bal
  have hpl : (mendZ (way x t []).1 (nd p x nil nil)).places.Perm (p :: t.places) := by
    rw [places_mendZ]
    refine (places_plug _ _).trans ?_
    have k := places_plug (way x t []).1 nil
    rw [e] at k
    simp only [places, plug, List.nil_append, List.cons_append] at k ⊢
    exact List.Perm.cons _ k.symm
  refine ⟨⟨?_, ?_, ?_⟩, hpl⟩
  · exact mendZ_bal _ nil _ hb (by simp [Bal, ht]) (by simp [ht]) (by simp [ht])
  · rw [insert_items x t p ok.sorted h]; exact sorted_put x t ok.sorted h
  · rw [hpl.nodup_iff, List.nodup_cons]; exact ⟨hp, ok.apart⟩
/-- a tree with a node's item turned -/
theorem plug_item (d c : List Fr) (p : Nat) (x y : It) (b : Bool) (o s : Tr) :
    ((plug (d ++ ⟨p, x, b, o⟩ :: c) s).Bal → (plug (d ++ ⟨p, y, b, o⟩ :: c) s).Bal) ∧ (plug (d ++ ⟨p, y, b, o⟩ :: c) s).places = (plug (d ++ ⟨p, x, b, o⟩ :: c) s).places := by
  have up : ∀ (c : List Fr) (a a' : Tr), (a.Bal → a'.Bal) → a.ht = a'.ht → a'.places = a.places → ((plug c a).Bal → (plug c a').Bal) ∧ (plug c a').places = (plug c a).places := by
    intro c
    induction c with
    | nil => intro a a' h _ k; exact ⟨h, k⟩
    | cons f c ih =>
      intro a a' h e k
      refine ih _ _ ?_ ?_ ?_
      · rw [fill_bal, fill_bal, e]; exact fun g => ⟨g.1, h g.2.1, g.2.2⟩
      · rw [fill_ht, fill_ht, e]
      · unfold Fr.fill; split <;> simp [places, k]
  induction d generalizing s with
  | nil =>
    simp only [List.nil_append, plug]
    refine up c _ _ ?_ ?_ ?_
    · rw [fill_bal, fill_bal]; exact id
    · rw [fill_ht, fill_ht]
    · unfold Fr.fill; cases b <;> simp [places]
  | cons f d ih => exact ih _
theorem del1_ok (x : It) (t : Tr) (ok : t.Ok) (p : Nat) (l r : Tr) (h : (way x t []).2 = nd p x l r) (hn : l = nil ∨ r = nil) :
    (mendZ (way x t []).1 (if l.isNil then r else l)).Ok ∧ (p :: (mendZ (way x t []).1 (if l.isNil then r else l)).places).Perm t.places := by
  have e := way_plug x t []
  rw [h] at e
  have hb : (plug (way x t []).1 (nd p x l r)).Bal := by rw [e]; exact ok.bal
  have hs := plug_bal _ _ hb
  have hpl : (p :: (mendZ (way x t []).1 (if l.isNil then r else l)).places).Perm t.places := by
    rw [places_mendZ]
    have k := places_plug (way x t []).1 (nd p x l r)
    rw [e] at k
    simp only [plug] at k
    refine List.perm_iff_count.2 fun a => ?_
    have k1 := List.perm_iff_count.1 k a
    have k2 := List.perm_iff_count.1 (places_plug (way x t []).1 (if l.isNil then r else l)) a
    rcases hn with rfl | rfl
    · simp only [isNil, if_true, places, List.count_append, List.count_cons, List.nil_append] at k1 k2 ⊢; omega
    · cases l <;> simp only [isNil, if_true, Bool.false_eq_true, if_false, places, List.count_append, List.count_cons, List.count_nil, List.nil_append] at k1 k2 ⊢ <;> omega
  refine ⟨⟨?_, ?_, ?_⟩, hpl⟩
  · simp only [Bal] at hs
    rcases hn with rfl | rfl
    · exact mendZ_bal _ (nd p x nil r) _ hb hs.2.1 (by simp [isNil, ht]; omega) (by simp [isNil, ht]; omega)
    · cases l with
      | nil => exact mendZ_bal _ (nd p x nil nil) _ hb hs.2.1 (by simp [isNil, ht]) (by simp [isNil, ht])
      | nd a b c d => exact mendZ_bal _ (nd p x (nd a b c d) nil) _ hb hs.1 (by simp [isNil, ht]; omega) (by simp [isNil, ht]; omega)
  · rw [delete1_items x t ok.sorted p l r h hn]; exact sorted_del x _ ok.sorted
  · exact (List.nodup_cons.1 (hpl.nodup_iff.2 ok.apart)).2
theorem del2_ok (x : It) (t : Tr) (ok : t.Ok) (p : Nat) (l r : Tr) (h : (way x t []).2 = nd p x l r) (d : List Fr) (q : Nat) (y : It) (rr : Tr)
    (hw : plug (d ++ ⟨p, x, true, l⟩ :: (way x t []).1) (nd q y nil rr) = plug (⟨p, x, true, l⟩ :: (way x t []).1) r) (hl : lefts d = []) (hr : y :: (rr.items ++ rights d) = r.items) :
    (mendZ (d ++ ⟨p, y, true, l⟩ :: (way x t []).1) rr).Ok ∧ (q :: (mendZ (d ++ ⟨p, y, true, l⟩ :: (way x t []).1) rr).places).Perm t.places := by
  have e := way_plug x t []
  rw [h] at e
  have e2 : plug (d ++ ⟨p, x, true, l⟩ :: (way x t []).1) (nd q y nil rr) = t := by
    rw [hw]; simp only [plug, Fr.fill, if_true] at e ⊢; exact e
  have hb : (plug (d ++ ⟨p, x, true, l⟩ :: (way x t []).1) (nd q y nil rr)).Bal := by rw [e2]; exact ok.bal
  have hi := plug_item d (way x t []).1 p x y true l (nd q y nil rr)
  have hb2 := hi.1 hb
  have hs := plug_bal _ _ hb2
  have hpl : (q :: (mendZ (d ++ ⟨p, y, true, l⟩ :: (way x t []).1) rr).places).Perm t.places := by
    rw [places_mendZ]
    have k := places_plug (d ++ ⟨p, y, true, l⟩ :: (way x t []).1) (nd q y nil rr)
    rw [hi.2, e2] at k
    refine List.perm_iff_count.2 fun a => ?_
    have k1 := List.perm_iff_count.1 k a
    have k2 := List.perm_iff_count.1 (places_plug (d ++ ⟨p, y, true, l⟩ :: (way x t []).1) rr) a
    simp only [places, List.count_append, List.count_cons, List.nil_append] at k1 k2 ⊢; omega
  simp only [Bal] at hs
  refine ⟨⟨?_, ?_, ?_⟩, hpl⟩
  · exact mendZ_bal _ (nd q y nil rr) _ hb2 hs.2.1 (by simp [ht]; omega) (by simp [ht]; omega)
  · rw [delete2_items x t ok.sorted p l r h d q y rr hl hr]; exact sorted_del x _ ok.sorted
  · exact (List.nodup_cons.1 (hpl.nodup_iff.2 ok.apart)).2
end Tr
end Go.Proofs.Ytpgmndbmcciniaa.Av
