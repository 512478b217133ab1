/-
  THE WALK THROUGH ALL ITEMS, plain: a stack of nodes whose left sides are done.
-/
import Derived.Test.YtpgmndbmcciniaaAvlPut
namespace Go.Proofs.Ytpgmndbmcciniaa.Av
open Go Go.RowKit

/-- a node that waits: its place, its item, its right side -/
structure Wt where
  p : Nat
  x : It
  r : Tr
def waiting (s : List Wt) : List It := s.flatMap fun k => k.x :: k.r.items
/-- a stack over N: each waits no higher than it may -/
def Deep (N : Nat) : List Wt → Prop
  | [] => True
  | k :: s => k.r.ht + 1 + s.length ≤ N ∧ Deep N s
def WtLies (ns : List Nd) (s : List Wt) : Prop := ∀ k ∈ s, Lies ns k.r ∧ ∃ n, ns[k.p]? = some n ∧ n.x = k.x ∧ n.r = place k.r
theorem deep_push {N : Nat} {s : List Wt} {p : Nat} {x : It} {l r : Tr} (h : Deep N s) (hc : (Tr.nd p x l r).ht + s.length ≤ N) : Deep N (⟨p, x, r⟩ :: s) ∧ l.ht + (s.length + 1) ≤ N ∧ s.length < N := by
  simp only [Tr.ht] at hc
  refine ⟨⟨?_, h⟩, ?_, ?_⟩
  · show r.ht + 1 + s.length ≤ N; omega
  · omega
  · omega
theorem deep_pop {N : Nat} {s : List Wt} {k : Wt} (h : Deep N (k :: s)) : Deep N s ∧ k.r.ht + s.length ≤ N := ⟨h.2, by have := h.1; omega⟩
theorem wt_push {ns : List Nd} {s : List Wt} {p : Nat} {x : It} {l r : Tr} (h : WtLies ns s) (hc : Lies ns (.nd p x l r)) : WtLies ns (⟨p, x, r⟩ :: s) := by
  intro k hk
  rcases List.mem_cons.1 hk with rfl | hk
  · exact ⟨hc.2.2, _, hc.1, rfl, rfl⟩
  · exact h k hk
theorem rem_push (s : List Wt) (p : Nat) (x : It) (l r : Tr) : (Tr.nd p x l r).items ++ waiting s = l.items ++ waiting (⟨p, x, r⟩ :: s) := by simp [Tr.items, waiting]
theorem rem_pop (s : List Wt) (k : Wt) : Tr.nil.items ++ waiting (k :: s) = k.x :: (k.r.items ++ waiting s) := by simp [Tr.items, waiting]
end Go.Proofs.Ytpgmndbmcciniaa.Av
