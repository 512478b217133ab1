/-
  WHICH ITEMS OF A TREE meet a span, plain: the walk that leaves out what ends too soon.
-/
import Derived.Test.YtmgljgmfipodeaaM24
/-
  WHICH ITEMS OF A TREE meet a span, plain: the walk that leaves out what ends too soon.
-/
namespace Go.Proofs.Ytmgljgmfipodeaa.Itr
open Go Go.RowKit Av

def visit (a : Int) : Tr → List It
  | .nil => []
  | .nd p x l r => if (Tr.nd p x l r).top ≤ a then [] else visit a l ++ x :: visit a r
/-- a node that waits -/
structure Kn where
  p : Nat
  x : It
  l : Tr
  r : Tr
def Kn.tr (k : Kn) : Tr := .nd k.p k.x k.l k.r
def Kn.cells (k : Kn) : List Value := [.int .i64 k.x.f, .int .i64 k.x.t, .int .i64 k.x.i, .int .i64 (place k.l), .int .i64 (place k.r), .int .i64 (k.tr.ht : Int), .int .i64 k.tr.top]
def spine (a : Int) : Tr → List Kn → List Kn
  | .nil, s => s
  | .nd p x l r, s => if (Tr.nd p x l r).top ≤ a then s else spine a l (⟨p, x, l, r⟩ :: s)
def come (a : Int) (s : List Kn) : List It := s.flatMap fun k => k.x :: visit a k.r
theorem come_spine (a : Int) (t : Tr) : ∀ s, come a (spine a t s) = visit a t ++ come a s := by
  induction t with
  | nil => intro s; simp [spine, visit]
  | nd p x l r hl hr =>
    intro s
    unfold spine visit
    split
    · simp
    · rw [hl]; simp [come]
/-- what is told yet -/
def rest (a b : Int) (s : List Kn) : List It := ((come a s).takeWhile fun x => decide (x.f < b)).filter fun x => decide (a < x.t)
theorem rest_nil (a b : Int) : rest a b [] = [] := rfl
theorem rest_stop {a b : Int} {k : Kn} {s : List Kn} (h : b ≤ k.x.f) : rest a b (k :: s) = [] := by
  have : ¬ k.x.f < b := by omega
  simp [rest, come, this]
theorem rest_go {a b : Int} {k : Kn} {s : List Kn} (h : k.x.f < b) : rest a b (k :: s) = (if a < k.x.t then [k.x] else []) ++ rest a b (spine a k.r s) := by
  have e : come a (k :: s) = k.x :: come a (spine a k.r s) := by rw [come_spine]; simp [come]
  unfold rest
  rw [e, List.takeWhile_cons]
  simp only [h, decide_true, if_true, List.filter_cons]
  split <;> simp_all
theorem top_ge (t : Tr) : ∀ x ∈ t.items, x.t ≤ t.top := by
  induction t with
  | nil => intro x hx; simp [Tr.items] at hx
  | nd p y l r hl hr =>
    intro x hx
    simp only [Tr.items, List.mem_append, List.mem_cons] at hx
    simp only [Tr.top]
    have nl : ∀ x ∈ l.items, l.isNil = false := fun x hx => by cases l <;> simp_all [Tr.items, Tr.isNil]
    have nr : ∀ x ∈ r.items, r.isNil = false := fun x hx => by cases r <;> simp_all [Tr.items, Tr.isNil]
    rcases hx with hx | rfl | hx
    · have h1 := hl x hx
      rw [nl x hx]
      cases r.isNil <;> simp <;> omega
    · cases r.isNil <;> cases l.isNil <;> simp <;> omega
    · have h1 := hr x hx
      rw [nr x hx]
      cases l.isNil <;> simp <;> omega
theorem visit_filter (a : Int) (t : Tr) : ((visit a t).filter fun x => decide (a < x.t)) = t.items.filter fun x => decide (a < x.t) := by
  induction t with
  | nil => rfl
  | nd p x l r hl hr =>
    unfold visit
    split
    · rename_i h
      rw [List.filter_nil, eq_comm, List.filter_eq_nil_iff]
      intro y hy
      have := top_ge _ y hy
      simp; omega
    · rw [List.filter_append, List.filter_cons, Tr.items, List.filter_append, List.filter_cons, hl, hr]
theorem visit_sub (a : Int) (t : Tr) : (visit a t).Sublist t.items := by
  induction t with
  | nil => exact List.Sublist.refl _
  | nd p x l r hl hr =>
    unfold visit
    split
    · exact List.nil_sublist _
    · exact List.Sublist.append hl (hr.cons_cons x)
theorem take_filter {b : Int} : ∀ {L : List It}, L.Pairwise (fun x y => x.f ≤ y.f) → (L.takeWhile fun x => decide (x.f < b)) = L.filter fun x => decide (x.f < b) := by
  intro L h
  induction L with
  | nil => rfl
  | cons x L ih =>
    rw [List.pairwise_cons] at h
    rw [List.takeWhile_cons, List.filter_cons]
    by_cases hx : x.f < b
    · simp [hx, ih h.2]
    · simp only [hx, decide_false, Bool.false_eq_true, if_false]
      rw [eq_comm, List.filter_eq_nil_iff]
      intro y hy
      have := h.1 y hy
      simp; omega
/-- P9.1 -/
def over (a b : Int) (L : List It) : List It := L.filter fun x => decide (x.f < b) && decide (a < x.t)
theorem sorted_f {L : List It} (h : Tr.Sorted L) : L.Pairwise (fun x y => x.f ≤ y.f) := h.imp (fun h => by unfold It.lt at h; omega)
theorem rest_over {a b : Int} {t : Tr} (ok : t.Ok) : rest a b (spine a t []) = over a b t.items := by
  have hs := sorted_f ok.sorted
  unfold rest over
  rw [come_spine]
  simp only [come, List.flatMap_nil, List.append_nil]
  rw [take_filter (hs.sublist (visit_sub a t)), List.filter_filter]
  have e1 : ((visit a t).filter fun x => decide (a < x.t) && decide (x.f < b)) = (((visit a t).filter fun x => decide (a < x.t)).filter fun x => decide (x.f < b)) := by
    rw [List.filter_filter]; congr 1; funext x; exact Bool.and_comm _ _
  rw [e1, visit_filter, List.filter_filter]
/-- no higher than so many -/
def High (N : Nat) : List Kn → Prop
  | [] => True
  | k :: s => k.tr.ht + s.length ≤ N ∧ High N s
theorem high_len {N : Nat} {s : List Kn} (h : High N s) : s.length ≤ N := by
  cases s with
  | nil => simp
  | cons k s => have := h.1; simp only [Kn.tr, Tr.ht] at this; simp only [List.length_cons]; omega
theorem high_spine {N : Nat} {a : Int} (t : Tr) : ∀ {s : List Kn}, High N s → t.ht + s.length ≤ N → High N (spine a t s) := by
  induction t with
  | nil => intro s h _; exact h
  | nd p x l r hl hr =>
    intro s h k
    unfold spine
    split
    · exact h
    · simp only [Tr.ht] at k
      refine hl ⟨?_, h⟩ ?_
      · simp only [Kn.tr, Tr.ht]; omega
      · simp only [List.length_cons]; omega
def KnLies (ns : List Nd) (s : List Kn) : Prop := ∀ k ∈ s, Lies ns k.tr
theorem lies_spine {ns : List Nd} {a : Int} (t : Tr) : ∀ {s : List Kn}, KnLies ns s → Lies ns t → KnLies ns (spine a t s) := by
  induction t with
  | nil => intro s h _; exact h
  | nd p x l r hl hr =>
    intro s h k
    unfold spine
    split
    · exact h
    · exact hl (fun z hz => by rcases List.mem_cons.1 hz with rfl | hz; exact k; exact h z hz) k.2.1
/-- a walker's cells -/
structure WkC (cs : Array Value) (v : Value) (a b : Int) (s : List Kn) : Prop where
  size : cs.size = 284
  c0 : cs[0]? = some v
  c1 : cs[1]? = some (.int .i64 a)
  c2 : cs[2]? = some (.int .i64 b)
  n : cs[283]? = some (.int .i64 (s.length : Int))
  at' : ∀ (i : Nat) (k : Kn), s.reverse[i]? = some k → ∀ j u, k.cells[j]? = some u → cs[3 + i * 7 + j]? = some u
def pushC (cs : Array Value) (n : Nat) (k : Kn) : Array Value :=
  (((((((cs.setIfInBounds (3 + n * 7) (.int .i64 k.x.f)).setIfInBounds (3 + n * 7 + 1) (.int .i64 k.x.t)).setIfInBounds (3 + n * 7 + 2) (.int .i64 k.x.i)).setIfInBounds (3 + n * 7 + 3) (.int .i64 (place k.l))).setIfInBounds (3 + n * 7 + 4) (.int .i64 (place k.r))).setIfInBounds (3 + n * 7 + 5) (.int .i64 (k.tr.ht : Int))).setIfInBounds (3 + n * 7 + 6) (.int .i64 k.tr.top)).setIfInBounds 283 (.int .i64 ((n : Int) + 1))
theorem pushC_ne (cs : Array Value) (n : Nat) (k : Kn) (j : Nat) (h : j < 3 + n * 7 ∨ 3 + n * 7 + 6 < j) (h' : j ≠ 283) : (pushC cs n k)[j]? = cs[j]? := by
  unfold pushC
  rw [Array.getElem?_setIfInBounds_ne (by omega), Array.getElem?_setIfInBounds_ne (by omega), Array.getElem?_setIfInBounds_ne (by omega), Array.getElem?_setIfInBounds_ne (by omega), Array.getElem?_setIfInBounds_ne (by omega), Array.getElem?_setIfInBounds_ne (by omega), Array.getElem?_setIfInBounds_ne (by omega), Array.getElem?_setIfInBounds_ne (by omega)]
theorem WkC.push {cs : Array Value} {v : Value} {a b : Int} {s : List Kn} (h : WkC cs v a b s) (hl : s.length < 40) (k : Kn) : WkC (pushC cs s.length k) v a b (k :: s) := by
  have hz := h.size
  refine ⟨by simp [pushC, hz], ?_, ?_, ?_, ?_, ?_⟩
  · rw [pushC_ne _ _ _ _ (by omega) (by omega)]; exact h.c0
  · rw [pushC_ne _ _ _ _ (by omega) (by omega)]; exact h.c1
  · rw [pushC_ne _ _ _ _ (by omega) (by omega)]; exact h.c2
  · unfold pushC; rw [Array.getElem?_setIfInBounds]; simp [hz]
  · intro i k' hi j u hu
    have jl : j < 7 := (List.getElem?_eq_some_iff.1 hu).1
    rw [List.reverse_cons] at hi
    have il := (List.getElem?_eq_some_iff.1 hi).1
    rw [List.length_append, List.length_reverse, List.length_singleton] at il
    by_cases e : i = s.length
    · subst e
      have : (s.reverse ++ [k])[s.length]? = some k := by
        have := List.getElem?_concat_length (l := s.reverse) (a := k)
        rwa [List.length_reverse] at this
      rw [this] at hi
      simp only [Option.some.injEq] at hi
      subst hi
      unfold pushC
      rcases (by omega : j = 0 ∨ j = 1 ∨ j = 2 ∨ j = 3 ∨ j = 4 ∨ j = 5 ∨ j = 6) with rfl | rfl | rfl | rfl | rfl | rfl | rfl <;>
        (simp only [Kn.cells, List.getElem?_cons_zero, List.getElem?_cons_succ, Option.some.injEq] at hu
         subst hu
         repeat (rw [Array.getElem?_setIfInBounds_ne (by omega)])
         rw [Array.getElem?_setIfInBounds, if_pos (by omega), if_pos (by simp only [Array.size_setIfInBounds, hz]; omega)])
    · rw [pushC_ne _ _ _ _ (by omega) (by omega)]
      rw [List.getElem?_append_left (by rw [List.length_reverse]; omega)] at hi
      exact h.at' i k' hi j u hu
theorem WkC.pop {cs : Array Value} {v : Value} {a b : Int} {k : Kn} {s : List Kn} (h : WkC cs v a b (k :: s)) (hl : s.length < 40) :
    WkC (cs.setIfInBounds 283 (.int .i64 (s.length : Int))) v a b s ∧ ∀ j u, k.cells[j]? = some u → (cs.setIfInBounds 283 (.int .i64 (s.length : Int)))[3 + s.length * 7 + j]? = some u := by
  have hz := h.size
  have ht : (k :: s).reverse[s.length]? = some k := by
    rw [List.reverse_cons]
    have := List.getElem?_concat_length (l := s.reverse) (a := k)
    rwa [List.length_reverse] at this
  refine ⟨⟨by simp [hz], ?_, ?_, ?_, ?_, ?_⟩, ?_⟩
  · rw [Array.getElem?_setIfInBounds_ne (by omega)]; exact h.c0
  · rw [Array.getElem?_setIfInBounds_ne (by omega)]; exact h.c1
  · rw [Array.getElem?_setIfInBounds_ne (by omega)]; exact h.c2
  · rw [Array.getElem?_setIfInBounds]; simp [hz]
  · intro i k' hi j u hu
    have jl : j < 7 := (List.getElem?_eq_some_iff.1 hu).1
    have il := (List.getElem?_eq_some_iff.1 hi).1
    rw [List.length_reverse] at il
    rw [Array.getElem?_setIfInBounds_ne (by omega)]
    exact h.at' i k' (by rw [List.reverse_cons, List.getElem?_append_left (by rw [List.length_reverse]; omega)]; exact hi) j u hu
  · intro j u hu
    have jl : j < 7 := (List.getElem?_eq_some_iff.1 hu).1
    rw [Array.getElem?_setIfInBounds_ne (by omega)]
    exact h.at' _ k ht j u hu
end Go.Proofs.Ytmgljgmfipodeaa.Itr
