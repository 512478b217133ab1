/-
  ORDER, plain: what two trees hold while items come and go.
-/
import Derived.Test.YtpgmndbmcciniaaAvlTwo
namespace Go.Proofs.Ytpgmndbmcciniaa.Av

def ok (y : It) : Prop := y.f < y.t
theorem putA_mem {x : It} {L : List It} (hl : L.length < 200) (y : It) : y ∈ (putA 200 x L).2 ↔ (y ∈ L ∨ (y = x ∧ ok x)) := by
  unfold putA ok
  by_cases h1 : x.t ≤ x.f
  · rw [if_pos h1]; constructor
    · exact .inl
    · rintro (h | ⟨_, h⟩)
      · exact h
      · omega
  · rw [if_neg h1]
    by_cases h2 : x ∈ L
    · rw [if_pos h2]; constructor
      · exact .inl
      · rintro (h | ⟨rfl, _⟩)
        · exact h
        · exact h2
    · rw [if_neg h2, if_neg (by omega), mem_put]
      constructor
      · rintro (h | h)
        · exact .inr ⟨h, by omega⟩
        · exact .inl h
      · rintro (h | h)
        · exact .inr h
        · exact .inl h.1
theorem putA_len (x : It) (L : List It) : (putA 200 x L).2.length ≤ L.length + 1 := by
  unfold putA
  have := Tr.sorted_split x L
  have e := congrArg List.length this
  rw [List.length_append] at e
  repeat' split
  all_goals simp
  all_goals omega
theorem putA_zero {x : It} {L : List It} (hl : L.length < 200) : (putA 200 x L).1 = 0 ↔ (ok x ∧ x ∉ L) := by
  unfold putA ok
  by_cases h1 : x.t ≤ x.f
  · rw [if_pos h1]; simp; intro h; omega
  · rw [if_neg h1]
    by_cases h2 : x ∈ L
    · rw [if_pos h2]; simp [h2]
    · rw [if_neg h2, if_neg (by omega)]; simp [h2]; omega
/-- the first tree, behind i of the items -/
def S1 (l La : List It) (i : Nat) : Prop := (∀ y, y ∈ La ↔ (y ∈ l.take i ∧ ok y)) ∧ La.length ≤ i
theorem s1_start (l : List It) : S1 l [] 0 := ⟨fun y => by simp, by simp⟩
theorem take_mem {l : List It} {i : Nat} {x : It} (h : l[i]? = some x) (y : It) : y ∈ l.take (i + 1) ↔ (y ∈ l.take i ∨ y = x) := by
  rw [List.take_add_one, h]; simp
theorem s1_step {l La : List It} {i : Nat} {x : It} (h : S1 l La i) (hx : l[i]? = some x) (hi : i < 200) : S1 l (putA 200 x La).2 (i + 1) := by
  refine ⟨fun y => ?_, by have := putA_len x La; have := h.2; omega⟩
  rw [putA_mem (by have := h.2; omega), h.1, take_mem hx]
  constructor
  · rintro (⟨a, b⟩ | ⟨rfl, b⟩)
    · exact ⟨.inl a, b⟩
    · exact ⟨.inr rfl, b⟩
  · rintro ⟨a | rfl, b⟩
    · exact .inl ⟨a, b⟩
    · exact .inr ⟨rfl, b⟩
/-- the second tree, and those that it took -/
def S2 (m Lb mine : List It) (i : Nat) : Prop := S1 m Lb i ∧ mine.Nodup ∧ (∀ y, y ∈ mine ↔ y ∈ Lb) ∧ mine.length ≤ i
theorem s2_start (m : List It) : S2 m [] [] 0 := ⟨s1_start m, by simp, fun y => by simp, by simp⟩
theorem s2_took {m Lb mine : List It} {i : Nat} {x : It} (h : S2 m Lb mine i) (hx : m[i]? = some x) (hi : i < 200) (h0 : (putA 200 x Lb).1 = 0) : S2 m (putA 200 x Lb).2 (mine ++ [x]) (i + 1) := by
  obtain ⟨h1, h2, h3, h4⟩ := h
  obtain ⟨k1, k2⟩ := (putA_zero (by have := h1.2; omega)).1 h0
  refine ⟨s1_step h1 hx hi, ?_, fun y => ?_, by simp; omega⟩
  · rw [List.nodup_append]; exact ⟨h2, by simp, fun a ha b hb e => by simp only [List.mem_singleton] at hb; subst hb; subst e; exact k2 ((h3 a).1 ha)⟩
  · rw [putA_mem (by have := h1.2; omega), List.mem_append, h3, List.mem_singleton]
    constructor
    · rintro (a | rfl)
      · exact .inl a
      · exact .inr ⟨rfl, k1⟩
    · rintro (a | ⟨a, _⟩)
      · exact .inl a
      · exact .inr a
theorem s2_left {m Lb mine : List It} {i : Nat} {x : It} (h : S2 m Lb mine i) (hx : m[i]? = some x) (hi : i < 200) (h0 : ¬ (putA 200 x Lb).1 = 0) : S2 m (putA 200 x Lb).2 mine (i + 1) := by
  obtain ⟨h1, h2, h3, h4⟩ := h
  refine ⟨s1_step h1 hx hi, h2, fun y => ?_, by omega⟩
  rw [putA_mem (by have := h1.2; omega), h3]
  constructor
  · exact .inl
  · rintro (a | ⟨rfl, a⟩)
    · exact a
    · refine Classical.byContradiction fun z => h0 ((putA_zero (by have := h1.2; omega)).2 ⟨a, z⟩)
/-- the others, from the end on -/
def S3 (l m Lb : List It) (i : Nat) : Prop := (∀ y, y ∈ Lb ↔ ((y ∈ m ∨ y ∈ l.drop (l.length - i)) ∧ ok y)) ∧ Lb.length ≤ m.length + i
theorem s3_start {l m Lb : List It} (h : S1 m Lb m.length) : S3 l m Lb 0 := ⟨fun y => by rw [h.1, List.take_length]; simp, by have := h.2; omega⟩
theorem s3_step {l m Lb : List It} {i : Nat} {x : It} (h : S3 l m Lb i) (hi : i < l.length) (hx : l[l.length - 1 - i]? = some x) (hl : m.length + i < 200) : S3 l m (putA 200 x Lb).2 (i + 1) := by
  refine ⟨fun y => ?_, by have := putA_len x Lb; have := h.2; omega⟩
  have e : l.drop (l.length - (i + 1)) = x :: l.drop (l.length - i) := by
    have := (List.getElem?_eq_some_iff.1 hx)
    obtain ⟨q, e⟩ := this
    rw [show l.length - (i + 1) = l.length - 1 - i by omega, List.drop_eq_getElem_cons q, e, show l.length - 1 - i + 1 = l.length - i by omega]
  rw [putA_mem (by have := h.2; omega), h.1, e, List.mem_cons]
  constructor
  · rintro (⟨a | a, b⟩ | ⟨rfl, b⟩)
    · exact ⟨.inl a, b⟩
    · exact ⟨.inr (.inr a), b⟩
    · exact ⟨.inr (.inl rfl), b⟩
  · rintro ⟨a | rfl | a, b⟩
    · exact .inl ⟨.inl a, b⟩
    · exact .inr ⟨rfl, b⟩
    · exact .inl ⟨.inr a, b⟩
/-- what the second one took goes, if the first has it not -/
def S4 (l m La Lb mine : List It) (i : Nat) : Prop := ∀ y, y ∈ Lb ↔ (((y ∈ m ∨ y ∈ l) ∧ ok y) ∧ ¬ (y ∈ mine.take i ∧ y ∉ La))
theorem s4_start {l m La Lb mine : List It} (h : S3 l m Lb l.length) : S4 l m La Lb mine 0 := fun y => by rw [h.1]; simp
theorem s4_keep {l m La Lb mine : List It} {i : Nat} {x : It} (h : S4 l m La Lb mine i) (hx : mine[i]? = some x) (hL : x ∈ La) : S4 l m La Lb mine (i + 1) := by
  intro y
  rw [h, take_mem hx]
  constructor
  · rintro ⟨a, b⟩
    refine ⟨a, fun ⟨c, d⟩ => ?_⟩
    rcases c with c | rfl
    · exact b ⟨c, d⟩
    · exact d hL
  · rintro ⟨a, b⟩
    exact ⟨a, fun ⟨c, d⟩ => b ⟨.inl c, d⟩⟩
theorem s4_gone {l m La Lb mine : List It} {i : Nat} {x : It} (h : S4 l m La Lb mine i) (hx : mine[i]? = some x) (hL : x ∉ La) (hs : Tr.Sorted Lb) (hn : mine.Nodup) (hm : ∀ y ∈ mine, y ∈ m ∧ ok y) : x ∈ Lb ∧ S4 l m La (delA x Lb).2 mine (i + 1) := by
  have hmx := hm x (List.mem_of_getElem? hx)
  have nt : x ∉ mine.take i := by
    intro k
    obtain ⟨j, hj⟩ := List.getElem?_of_mem k
    have jl := (List.getElem?_eq_some_iff.1 hj).1
    rw [List.length_take] at jl
    rw [List.getElem?_take_of_lt (by omega)] at hj
    have il := (List.getElem?_eq_some_iff.1 hx)
    have jl2 := (List.getElem?_eq_some_iff.1 hj)
    obtain ⟨i1, e1⟩ := il
    obtain ⟨j1, e2⟩ := jl2
    exact (List.pairwise_iff_getElem.1 hn j i j1 i1 (by omega)) (by rw [e1, e2])
  have hin : x ∈ Lb := (h x).2 ⟨⟨.inl hmx.1, hmx.2⟩, fun k => nt k.1⟩
  refine ⟨hin, fun y => ?_⟩
  unfold delA
  rw [if_pos hin, mem_del x y Lb hs hin, h, take_mem hx]
  constructor
  · rintro ⟨a, b, c⟩
    refine ⟨b, fun ⟨d, e⟩ => ?_⟩
    rcases d with d | d
    · exact c ⟨d, e⟩
    · exact a d
  · rintro ⟨a, b⟩
    refine ⟨fun k => b ⟨.inr k, by rw [k]; exact hL⟩, a, fun ⟨d, e⟩ => b ⟨.inl d, e⟩⟩
theorem s4_end {l m La Lb mine : List It} (h : S4 l m La Lb mine mine.length) (h1 : S1 l La l.length) (hm : ∀ y, y ∈ mine ↔ (y ∈ m ∧ ok y)) (hA : Tr.Sorted La) (hB : Tr.Sorted Lb) : Lb = La := by
  refine sorted_ext Lb La hB hA (fun y => ?_)
  rw [h, h1.1, List.take_length, List.take_length]
  constructor
  · rintro ⟨⟨a, b⟩, c⟩
    rcases a with a | a
    · have := Classical.not_and_iff_not_or_not.1 c
      rcases this with k | k
      · exact absurd ((hm y).2 ⟨a, b⟩) k
      · exact Classical.not_not.1 k
    · exact ⟨a, b⟩
  · rintro ⟨a, b⟩
    exact ⟨⟨.inr a, b⟩, fun k => k.2 ⟨a, b⟩⟩
theorem TreeIs.sorted {w : World} {B b : Nat} {most : Int} {O : Nat → Prop} {L : List It} (h : TreeIs w B b most O L) : Tr.Sorted L := by
  obtain ⟨t, ns, free, nv, fv, h, rfl, rfl⟩ := h
  exact h.ok.sorted
theorem Two.sorted {w wr : World} {a b : Nat} {La Lb mine : List It} {v : Value} (h : Two w wr a b La Lb v mine) : Tr.Sorted La ∧ Tr.Sorted Lb := by
  obtain ⟨Oa, Ob, h1, h2, _⟩ := h; exact ⟨h1.sorted, h2.sorted⟩
theorem Two.row {w wr : World} {a b : Nat} {La Lb mine : List It} {v : Value} (h : Two w wr a b La Lb v mine) : RowT wr w.heap.size v mine := by
  obtain ⟨Oa, Ob, h1, h2, h3, h4, h5, h6, _⟩ := h; exact h6
end Go.Proofs.Ytpgmndbmcciniaa.Av
