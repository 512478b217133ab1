/-
  A ROW OF NODES in memory: each of eight cells.
-/
import Derived.Test.YtpgmndbmcciniaaAvlOk
namespace Go.Proofs.Ytpgmndbmcciniaa.Av
open Go Go.RowKit

section
variable {α β : Type} (enc : α → List β) (m : Nat) (hm : ∀ a, (enc a).length = m)
include hm
theorem flat_len (ns : List α) : (ns.flatMap enc).length = ns.length * m := by
  induction ns with
  | nil => simp
  | cons a ns ih => rw [List.flatMap_cons, List.length_append, hm, ih, List.length_cons, Nat.add_mul]; omega
theorem flat_get (ns : List α) (i k : Nat) (hk : k < m) : (ns.flatMap enc)[i * m + k]? = (ns[i]?).bind (fun a => (enc a)[k]?) := by
  induction ns generalizing i with
  | nil => simp
  | cons a ns ih =>
    rw [List.flatMap_cons]
    cases i with
    | zero => rw [Nat.zero_mul, Nat.zero_add, List.getElem?_append_left (by rw [hm]; exact hk)]; simp
    | succ i =>
      rw [List.getElem?_append_right (by rw [hm, Nat.add_mul]; omega), hm, show (i + 1) * m + k - m = i * m + k by rw [Nat.add_mul]; omega, ih]; simp
theorem flat_set (ns : List α) (i k : Nat) (hk : k < m) (a a' : α) (v : β) (hi : ns[i]? = some a) (he : enc a' = (enc a).set k v) : (ns.flatMap enc).set (i * m + k) v = (ns.set i a').flatMap enc := by
  induction ns generalizing i with
  | nil => simp at hi
  | cons b ns ih =>
    rw [List.flatMap_cons]
    cases i with
    | zero =>
      simp only [List.getElem?_cons_zero, Option.some.injEq] at hi
      subst hi
      rw [Nat.zero_mul, Nat.zero_add, List.set_append_left _ _ (by rw [hm]; exact hk), ← he]; simp
    | succ i =>
      rw [List.set_append_right _ _ (by rw [hm, Nat.add_mul]; omega), hm, show (i + 1) * m + k - m = i * m + k by rw [Nat.add_mul]; omega, ih i (by simpa using hi)]; simp
end
/-- a node as it lies in memory -/
structure Nd where
  x : It
  l : Int
  r : Int
  h : Int
  top : Int
  used : Bool
def Nd.cells (n : Nd) : List Value := [.int .i64 n.x.f, .int .i64 n.x.t, .int .i64 n.x.i, .int .i64 n.l, .int .i64 n.r, .int .i64 n.h, .int .i64 n.top, .bool n.used]
theorem Nd.len (n : Nd) : n.cells.length = 8 := rfl
def flat (ns : List Nd) : List Value := ns.flatMap Nd.cells
def place : Tr → Int
  | .nil => -1
  | .nd p _ _ _ => (p : Int)
/-- the nodes of a tree lie in the row -/
def Lies (ns : List Nd) : Tr → Prop
  | .nil => True
  | .nd p x l r => ns[p]? = some ⟨x, place l, place r, ((Tr.nd p x l r).ht : Int), (Tr.nd p x l r).top, true⟩ ∧ Lies ns l ∧ Lies ns r
theorem lies_set (ns : List Nd) (t : Tr) (i : Nat) (n : Nd) (h : Lies ns t) (hi : i ∉ t.places) : Lies (ns.set i n) t := by
  induction t with
  | nil => trivial
  | nd p x l r hl hr =>
    simp only [Tr.places, List.mem_append, List.mem_cons, not_or] at hi
    refine ⟨?_, hl h.2.1 hi.1, hr h.2.2 hi.2.2⟩
    rw [List.getElem?_set_ne (Ne.symm (Ne.symm hi.2.1))]
    exact h.1
theorem lies_lt (ns : List Nd) (t : Tr) (h : Lies ns t) : ∀ p ∈ t.places, p < ns.length := by
  induction t with
  | nil => intro p hp; simp [Tr.places] at hp
  | nd p x l r hl hr =>
    intro q hq
    simp only [Tr.places, List.mem_append, List.mem_cons] at hq
    rcases hq with hq | rfl | hq
    · exact hl h.2.1 q hq
    · exact (List.getElem?_eq_some_iff.1 h.1).1
    · exact hr h.2.2 q hq
theorem lies_append (ns ms : List Nd) (t : Tr) (h : Lies ns t) : Lies (ns ++ ms) t := by
  induction t with
  | nil => trivial
  | nd p x l r hl hr =>
    refine ⟨?_, hl h.2.1, hr h.2.2⟩
    rw [List.getElem?_append_left (List.getElem?_eq_some_iff.1 h.1).1]; exact h.1
/-- the nodes along a way up: their heights and tops may be stale; each points down to what follows -/
def LiesUp (ns : List Nd) : List Tr.Fr → Int → Prop
  | [], _ => True
  | f :: c, d => (∃ h top, ns[f.p]? = some ⟨f.x, if f.right = true then place f.o else d, if f.right = true then d else place f.o, h, top, true⟩) ∧ Lies ns f.o ∧ LiesUp ns c (f.p : Int)
end Go.Proofs.Ytpgmndbmcciniaa.Av
