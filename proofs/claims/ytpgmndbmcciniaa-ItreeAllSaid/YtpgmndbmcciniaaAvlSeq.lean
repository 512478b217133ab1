/-
  THE DOCUMENT's row, plain: where an item stands in a rising row.
-/
import Derived.Test.YtpgmndbmcciniaaAvlItems
namespace Go.Proofs.Ytpgmndbmcciniaa.Av
open Tr

theorem take_under (x : It) (L : List It) : L.take (under x L).length = under x L ∧ L.drop (under x L).length = beyond x L := by
  have e := sorted_split x L
  generalize under x L = A at *
  generalize beyond x L = B at *
  subst e
  simp
theorem under_le (x : It) (L : List It) : (under x L).length ≤ L.length := by
  conv => rhs; rw [sorted_split x L]
  simp
/-- the document's loop: on while the item there is less -/
theorem under_at (x : It) (L : List It) (i : Nat) (y : It) (h : i ≤ (under x L).length) (hy : L[i]? = some y) : y.lt x ↔ i < (under x L).length := by
  have e := sorted_split x L
  rcases Nat.lt_or_ge i (under x L).length with k | k
  · have : (under x L)[i]? = some y := by rw [e, List.getElem?_append_left k] at hy; exact hy
    exact ⟨fun _ => k, fun _ => under_lt x L y (List.mem_of_getElem? this)⟩
  · have hi : i = (under x L).length := by omega
    have : (beyond x L)[0]? = some y := by rw [e, List.getElem?_append_right k] at hy; rw [hi, Nat.sub_self] at hy; exact hy
    refine ⟨fun g => ?_, fun g => by omega⟩
    exfalso
    cases hb : beyond x L with
    | nil => rw [hb] at this; simp at this
    | cons b B =>
      rw [hb] at this
      simp only [List.getElem?_cons_zero, Option.some.injEq] at this
      subst this
      have hd : ¬ b.lt x := by
        unfold beyond at hb
        have := List.head?_dropWhile_not (fun y : It => decide (y.lt x)) L
        rw [hb] at this
        simpa using this
      exact hd g
/-- is an item in the row? -/
theorem mem_at (x : It) (L : List It) (hs : Sorted L) : x ∈ L ↔ L[(under x L).length]? = some x := by
  have e := sorted_split x L
  constructor
  · intro h
    rw [e, List.mem_append] at h
    rcases h with h | h
    · exact absurd (under_lt x L x h) (It.lt_irrefl x)
    · have e3 : L[(under x L).length]? = (beyond x L)[0]? := by
        conv => lhs; arg 1; rw [e]
        rw [List.getElem?_append_right (Nat.le_refl _), Nat.sub_self]
      rw [e3]
      cases hb : beyond x L with
      | nil => rw [hb] at h; simp at h
      | cons b B =>
        have hb0 : ¬ b.lt x := by
          have k := under_at x L (under x L).length b (Nat.le_refl _) (by rw [e3, hb]; rfl)
          exact fun g => Nat.lt_irrefl _ (k.1 g)
        rw [hb] at h
        rcases List.mem_cons.1 h with rfl | h
        · rfl
        · rw [e, hb, Sorted, List.pairwise_append, List.pairwise_cons] at hs
          exact absurd (hs.2.1.1 x h) hb0
  · exact fun h => List.mem_of_getElem? h
/-- a rising row is told by what is in it -/
theorem sorted_ext : ∀ (A B : List It), Sorted A → Sorted B → (∀ x, x ∈ A ↔ x ∈ B) → A = B
  | [], [], _, _, _ => rfl
  | [], b :: B, _, _, h => absurd ((h b).2 (by simp)) (by simp)
  | a :: A, [], _, _, h => absurd ((h a).1 (by simp)) (by simp)
  | a :: A, b :: B, ha, hb, h => by
    have ha' := List.pairwise_cons.1 ha
    have hb' := List.pairwise_cons.1 hb
    have e : a = b := by
      rcases List.mem_cons.1 ((h a).1 (by simp)) with k | k
      · exact k
      · rcases List.mem_cons.1 ((h b).2 (by simp)) with k' | k'
        · exact k'.symm
        · exact absurd (ha'.1 b k') (It.lt_asymm (hb'.1 a k))
    subst e
    rw [sorted_ext A B ha'.2 hb'.2 (fun x => ?_)]
    constructor
    · intro hx
      rcases List.mem_cons.1 ((h x).1 (by simp [hx])) with k | k
      · subst k; exact absurd (ha'.1 x hx) (It.lt_irrefl x)
      · exact k
    · intro hx
      rcases List.mem_cons.1 ((h x).2 (by simp [hx])) with k | k
      · subst k; exact absurd (hb'.1 x hx) (It.lt_irrefl x)
      · exact k
theorem mem_put (x y : It) (L : List It) : y ∈ under x L ++ x :: beyond x L ↔ y = x ∨ y ∈ L := by
  conv => rhs; rw [sorted_split x L]
  simp only [List.mem_append, List.mem_cons]
  constructor
  · rintro (h | h | h)
    · exact .inr (.inl h)
    · exact .inl h
    · exact .inr (.inr h)
  · rintro (h | h | h)
    · exact .inr (.inl h)
    · exact .inl h
    · exact .inr (.inr h)
theorem mem_del (x y : It) (L : List It) (hs : Sorted L) (hx : x ∈ L) : y ∈ under x L ++ (beyond x L).tail ↔ (y ≠ x ∧ y ∈ L) := by
  have e := sorted_split x L
  have hm := (mem_at x L hs).1 hx
  have e3 : L[(under x L).length]? = (beyond x L)[0]? := by
    conv => lhs; arg 1; rw [e]
    rw [List.getElem?_append_right (Nat.le_refl _), Nat.sub_self]
  rw [e3] at hm
  cases hb : beyond x L with
  | nil => rw [hb] at hm; simp at hm
  | cons b B =>
    rw [hb] at hm
    simp only [List.getElem?_cons_zero, Option.some.injEq] at hm
    subst hm
    rw [hb] at e
    have hs' := hs
    rw [e, Sorted, List.pairwise_append, List.pairwise_cons] at hs'
    simp only [List.tail_cons, List.mem_append]
    constructor
    · rintro (h | h)
      · exact ⟨fun k => It.lt_irrefl b (k ▸ under_lt b L y h), by rw [e]; simp [h]⟩
      · exact ⟨fun k => It.lt_irrefl b (by have := hs'.2.1.1 y h; rw [k] at this; exact this), by rw [e]; simp [h]⟩
    · rintro ⟨h1, h2⟩
      rw [e, List.mem_append, List.mem_cons] at h2
      rcases h2 with h2 | h2 | h2
      · exact .inl h2
      · exact absurd h2 h1
      · exact .inr h2
end Go.Proofs.Ytpgmndbmcciniaa.Av
