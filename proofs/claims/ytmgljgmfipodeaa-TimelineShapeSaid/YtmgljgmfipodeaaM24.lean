/-
  avl: the law's known answers, walked.
-/
import Derived.Test.YtmgljgmfipodeaaM23
/-
  avl: the law's known answers, walked.
-/
namespace Go.Proofs.Ytmgljgmfipodeaa.Av
open Go Go.RowKit
set_option linter.unusedSimpArgs false
set_option linter.unusedVariables false
attribute [local go_sem ↓] Go.wp_at_zero Go.wp_at_succ

theorem size0 {t : Tr} (h : t.size = 0) : t = .nil := by
  cases t with
  | nil => rfl
  | nd p x l r => simp only [Tr.size] at h; omega
theorem size1 {t : Tr} (h : t.size = 1) : ∃ p x, t = .nd p x .nil .nil := by
  cases t with
  | nil => simp [Tr.size] at h
  | nd p x l r =>
    simp only [Tr.size] at h
    rw [size0 (t := l) (by omega), size0 (t := r) (by omega)]
    exact ⟨p, x, rfl⟩
theorem size2 {t : Tr} (h : t.size = 2) : t.ht = 2 := by
  cases t with
  | nil => simp [Tr.size] at h
  | nd p x l r =>
    simp only [Tr.size] at h
    rcases Nat.lt_or_ge l.size 1 with k | k
    · obtain ⟨q, y, e⟩ := size1 (t := r) (by omega)
      rw [size0 (t := l) (by omega), e]; rfl
    · obtain ⟨q, y, e⟩ := size1 (t := l) (by omega)
      rw [size0 (t := r) (by omega), e]; rfl
theorem bal_three {t : Tr} {a b c : It} (h : t.Bal) (e : t.items = [a, b, c]) : ∃ p l r, t = .nd p b l r ∧ t.ht = 2 ∧ t.top = max (max b.t a.t) c.t := by
  have sz := Tr.size_items t
  rw [e] at sz
  cases t with
  | nil => simp [Tr.items] at e
  | nd p x l r =>
    simp only [Tr.size, List.length_cons, List.length_nil] at sz
    simp only [Tr.Bal] at h
    have h1 : l.size = 1 := by
      rcases (by omega : l.size = 0 ∨ l.size = 1 ∨ l.size = 2) with k | k | k
      · have := size2 (t := r) (by omega)
        rw [size0 k, this] at h
        simp only [Tr.ht] at h; omega
      · exact k
      · have := size2 k
        rw [this, size0 (t := r) (by omega)] at h
        simp only [Tr.ht] at h; omega
    obtain ⟨q, y, rfl⟩ := size1 h1
    obtain ⟨q', y', rfl⟩ := size1 (t := r) (by simp [Tr.size] at sz; omega)
    simp only [Tr.items, List.nil_append, List.singleton_append, List.cons.injEq, and_true] at e
    obtain ⟨rfl, rfl, rfl⟩ := e
    exact ⟨p, _, _, rfl, rfl, by simp [Tr.top, Tr.isNil]⟩
theorem bal_two {t : Tr} {a b : It} (e : t.items = [a, b]) : ∃ p x l r, t = .nd p x l r ∧ t.ht = 2 ∧ t.top = max a.t b.t := by
  have sz := Tr.size_items t
  rw [e] at sz
  cases t with
  | nil => simp [Tr.items] at e
  | nd p x l r =>
    simp only [Tr.size, List.length_cons, List.length_nil] at sz
    rcases (by omega : l.size = 0 ∨ l.size = 1) with k | k
    · obtain ⟨q, y, rfl⟩ := size1 (t := r) (by omega)
      obtain rfl := size0 k
      simp only [Tr.items, List.nil_append, List.cons.injEq, and_true] at e
      obtain ⟨rfl, rfl⟩ := e
      exact ⟨p, _, _, _, rfl, rfl, by simp [Tr.top, Tr.isNil]⟩
    · obtain ⟨q, y, rfl⟩ := size1 k
      obtain rfl := size0 (t := r) (by simp [Tr.size] at sz; omega)
      simp only [Tr.items, List.nil_append, List.singleton_append, List.cons.injEq, and_true] at e
      obtain ⟨rfl, rfl⟩ := e
      refine ⟨p, _, _, _, rfl, rfl, ?_⟩
      simp [Tr.top, Tr.isNil]; omega
theorem TreeIs.lt {w : World} {B b : Nat} {most : Int} {O : Nat → Prop} {L : List It} (h : TreeIs w B b most O L) : ∀ z, O z → z < w.heap.size := by
  obtain ⟨t, ns, free, nv, fv, h, rfl, rfl⟩ := h
  rintro z (rfl | hz | hz)
  · exact h.tt.lt
  · exact (World.ownsRow.lt h.rn z hz).2
  · exact (World.ownsRow.lt h.rf z hz).2
/-- Root, and the node there -/
theorem root_node {w : World} {B b : Nat} {most : Int} {O : Nat → Prop} {L : List It} (h : TreeIs w B b most O L) :
    ∃ t : Tr, t.Ok ∧ t.items = L ∧ Calls Try.prog 29 #[.pointer (some ⟨b, 0, none⟩)] w (fun e w' => e = .returned (.int .i64 (place t)) ∧ w' = w) ∧
      ∀ p x l r, t = .nd p x l r → Calls Try.prog 36 #[.pointer (some ⟨b, 0, none⟩), .int .i64 (place t)] w fun e w' => e = .returned (.tuple #[knotV x.f x.t x.i (place l) (place r) (t.ht : Int) t.top, .bool true]) ∧ Below w.heap.size w w' := by
  obtain ⟨t, ns, free, nv, fv, h, rfl, rfl⟩ := h
  refine ⟨t, h.ok, rfl, root_at h.tt (by have := h.m1; omega), ?_⟩
  rintro p x l r rfl
  exact node_at h h.ls.1 rfl
theorem len_is {w : World} {B b : Nat} {most : Int} {O : Nat → Prop} {L : List It} (h : TreeIs w B b most O L) : Calls Try.prog 22 #[.pointer (some ⟨b, 0, none⟩)] w fun e w' => e = .returned (.int .i64 (L.length : Int)) ∧ w' = w := by
  obtain ⟨t, ns, free, nv, fv, h, rfl, rfl⟩ := h
  rw [Tr.size_items]
  exact len_at h.tt (by have := h.m1; omega)
theorem Turned.trans {w w' : World} {a : World} {B b : Nat} {most : Int} {O : Nat → Prop} {L' : List It} (k : Below a.heap.size a w) (hO : ∀ z, O z → a.heap.size ≤ z) (h : Turned w w' B b most O L') : Below a.heap.size a w' ∧ ∃ O', TreeIs w' B b most O' L' ∧ ∀ z, O' z → a.heap.size ≤ z := by
  obtain ⟨O', h1, h2, h3⟩ := h
  have ks := k.size
  refine ⟨k.trans ⟨h2.os, h2.tape, h2.output, h2.size, fun z hz => h2.block z (by omega) (fun o => by have := hO z o; omega)⟩, O', h1, fun z hz => ?_⟩
  rcases h3 z hz with q | q
  · exact hO z q
  · omega
end Go.Proofs.Ytmgljgmfipodeaa.Av
