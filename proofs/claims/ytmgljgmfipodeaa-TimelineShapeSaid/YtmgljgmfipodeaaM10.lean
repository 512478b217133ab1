/-
  A ROW THAT FITS, plain: sides inside the row, heights small; what stays of the world.
-/
import Derived.Test.YtmgljgmfipodeaaM9
/-
  A ROW THAT FITS, plain: sides inside the row, heights small; what stays of the world.
-/
namespace Go.Proofs.Ytmgljgmfipodeaa.Av
open Go Go.RowKit

/-- all blocks are as they were, but some -/
structure But (S : Nat → Prop) (w w' : World) : Prop where
  os : w'.os = w.os
  tape : w'.tape = w.tape
  output : w'.output = w.output
  size : w.heap.size ≤ w'.heap.size
  block : ∀ k, k < w.heap.size → ¬ S k → w'.heap[k]? = w.heap[k]?
namespace But
variable {S S' : Nat → Prop} {a w w' : World}
theorem refl (S : Nat → Prop) (w : World) : But S w w := ⟨rfl, rfl, rfl, Nat.le_refl _, fun _ _ _ => rfl⟩
theorem trans (h : But S a w) (k : But S w w') : But S a w' :=
  ⟨k.os.trans h.os, k.tape.trans h.tape, k.output.trans h.output, Nat.le_trans h.size k.size, fun i hi hs => (k.block i (Nat.lt_of_lt_of_le hi h.size) hs).trans (h.block i hi hs)⟩
theorem mono (h : But S w w') (hs : ∀ k, S k → S' k) : But S' w w' := ⟨h.os, h.tape, h.output, h.size, fun i hi k => h.block i hi (fun z => k (hs i z))⟩
theorem drew (h : But S a w) : But S a w.drew := ⟨h.os, h.tape, h.output, h.size, h.block⟩
theorem drewN (h : But S a w) (n : Nat) : But S a (w.drewN n) := ⟨h.os, h.tape, h.output, h.size, h.block⟩
theorem set {p : Addr} (h : But S a w) (hp : S p.block) (u : Value) : But S a (w.setCell p u) :=
  h.trans ⟨rfl, rfl, rfl, by simp [World.setCell], fun k _ hk => Below.heap_setCell _ _ _ _ (fun e => hk (e ▸ hp))⟩
theorem set_new {p : Addr} (h : But S a w) (hp : a.heap.size ≤ p.block) (u : Value) : But S a (w.setCell p u) :=
  ⟨h.os, h.tape, h.output, by have := h.size; simp [World.setCell]; omega, fun k hk hs => by
    have e := Below.heap_setCell w p u k (by omega)
    exact e.trans (h.block k hk hs)⟩
theorem alloc (h : But S a w) (o : Obj) : But S a (w.alloc o) :=
  h.trans ⟨rfl, rfl, rfl, by simp, fun k hk _ => Below.heap_alloc _ _ _ hk⟩
theorem below {B : Nat} (h : But S w w') (hB : B ≤ w.heap.size) (hs : ∀ k, S k → B ≤ k) : Below B w w' :=
  ⟨h.os, h.tape, h.output, h.size, fun k hk => h.block k (by omega) (fun z => by have := hs k z; omega)⟩
theorem cell (h : But S w w') {p : Addr} (hp : p.block < w.heap.size) (hs : ¬ S p.block) : w'.cell? p = w.cell? p := World.cell?_of_block (w := w) (h.block p.block hp hs)
theorem frozen (h : But S w w') {p : Addr} (hp : p.block < w.heap.size) (hs : ¬ S p.block) : w'.frozen? p = w.frozen? p := World.frozen?_of_block (w := w) (h.block p.block hp hs)
end But
theorem Below.but {w w' : World} (h : Below w.heap.size w w') (S : Nat → Prop) : But S w w' := ⟨h.os, h.tape, h.output, h.size, fun k hk _ => h.block k hk⟩

/-- a tree and its row of nodes -/
structure St (w : World) (B b g cap : Nat) (most root many : Int) (fv : Value) (ns : List Nd) : Prop where
  t : TAt w b most (.slice (some ⟨g, 0, none⟩) ns.length cap) fv root many
  r : RowN 86 w B (.slice (some ⟨g, 0, none⟩) ns.length cap) ns
  ne : b ≠ g
section
variable {w w' : World} {B b g cap : Nat} {most root many : Int} {fv : Value} {ns : List Nd}
theorem St.heap (h : St w B b g cap most root many fv ns) (e1 : w'.heap[b]? = w.heap[b]?) (e2 : w'.heap[g]? = w.heap[g]?) : St w' B b g cap most root many fv ns := by
  refine ⟨?_, ?_, h.ne⟩
  · have := h.t; unfold TAt at this ⊢; rw [e1]; exact this
  · obtain ⟨h1, h2⟩ := h.r
    refine ⟨h1, ?_⟩
    rcases h2 with h2 | ⟨g', cap', cur, hv, hg, hh, r⟩
    · exact .inl h2
    · refine .inr ⟨g', cap', cur, hv, hg, ?_, r⟩
      simp only [Value.slice.injEq, Option.some.injEq, Addr.mk.injEq, and_true] at hv
      rw [← hv.1, e2, hv.1]; exact hh
theorem St.but {S : Nat → Prop} (h : St w B b g cap most root many fv ns) (k : But S w w') (hb : ¬ S b) (hg : ¬ S g) : St w' B b g cap most root many fv ns :=
  h.heap (k.block b h.t.lt hb) (k.block g h.r.lt.1 hg)
theorem St.drew (h : St w B b g cap most root many fv ns) : St w.drew B b g cap most root many fv ns := h.heap rfl rfl
theorem St.set {p k : Nat} {nd nd' : Nd} {v : Value} (h : St w B b g cap most root many fv ns) (hp : ns[p]? = some nd) (hk : k < 8) (he : nd'.cells = nd.cells.set k v) :
    St (w.setCell ⟨g, p * 8 + k, none⟩ v) B b g cap most root many fv (ns.set p nd') := by
  refine ⟨?_, h.r.store p k nd nd' v hp hk he, h.ne⟩
  have := h.t
  unfold TAt at this ⊢
  rw [Below.heap_setCell _ _ _ _ h.ne, List.length_set]
  exact this
theorem St.cell (h : St w B b g cap most root many fv ns) (i k : Nat) (n : Nd) (v : Value) (hi : ns[i]? = some n) (hk : k < 8) (hv : n.cells[k]? = some v) : w.cell? ⟨g, i * 8 + k, none⟩ = some v := h.r.cell i k n v hi hk hv
end
/-- sides inside the row, heights small -/
def Fit (ns : List Nd) (K : Int) : Prop := 0 ≤ K ∧ ∀ n ∈ ns, n.l < ns.length ∧ n.r < ns.length ∧ 0 ≤ n.h ∧ n.h ≤ K
section
variable {ns : List Nd} {K : Int}
theorem Fit.mono {K' : Int} (h : Fit ns K) (k : K ≤ K') : Fit ns K' := ⟨by have := h.1; omega, fun n hn => by have := h.2 n hn; omega⟩
theorem Fit.at {p : Nat} {n : Nd} (h : Fit ns K) (hp : ns[p]? = some n) : n.l < ns.length ∧ n.r < ns.length ∧ 0 ≤ n.h ∧ n.h ≤ K := h.2 n (List.mem_of_getElem? hp)
theorem Fit.hOf (h : Fit ns K) (a : Int) : 0 ≤ hOf ns a ∧ hOf ns a ≤ K := by
  unfold Av.hOf
  have h0 := h.1
  split
  · omega
  · cases e : ns[a.toNat]? with
    | none => simp; omega
    | some n => have := h.at e; simp; omega
theorem Fit.side (h : Fit ns K) (p : Nat) (r : Bool) (hp : p < ns.length) : sideN ns p r < ns.length := by
  have e : ns[p]? = some ns[p] := List.getElem?_eq_getElem hp
  have := h.at e
  unfold sideN
  rw [e]
  cases r <;> simp <;> omega
theorem Fit.upd {p : Nat} {f : Nd → Nd} (h : Fit ns K) (hf : ∀ n, ns[p]? = some n → (f n).l < ns.length ∧ (f n).r < ns.length ∧ 0 ≤ (f n).h ∧ (f n).h ≤ K) : Fit (upd ns p f) K := by
  refine ⟨h.1, fun n hn => ?_⟩
  rw [upd_len]
  obtain ⟨i, hi⟩ := List.getElem?_of_mem hn
  by_cases e : i = p
  · subst e
    cases en : ns[i]? with
    | none => unfold Av.upd at hi; rw [en] at hi; simp [en] at hi
    | some m =>
      rw [upd_at f en] at hi
      simp only [Option.some.injEq] at hi
      subst hi
      exact hf m en
  · rw [upd_ne _ _ _ _ e] at hi
    exact h.at hi
theorem Fit.sum (h : Fit ns K) (p : Nat) : Fit (sumN ns p) (K + 1) := by
  refine Fit.upd (h.mono (by omega)) (fun n hn => ?_)
  have a := h.at hn
  have b := h.hOf n.l
  have c := h.hOf n.r
  unfold sumNd
  dsimp only
  omega
theorem Fit.hang (h : Fit ns K) (p : Nat) (r : Bool) (d : Int) (hd : d < ns.length) : Fit (hangN ns p r d) K := by
  refine Fit.upd h (fun n hn => ?_)
  have a := h.at hn
  cases r <;> simp <;> omega
theorem sumN_len (ns : List Nd) (p : Nat) : (sumN ns p).length = ns.length := upd_len _ _ _
theorem hangN_len (ns : List Nd) (p : Nat) (r : Bool) (d : Int) : (hangN ns p r d).length = ns.length := upd_len _ _ _
theorem turnN_len (ns : List Nd) (p : Nat) (r : Bool) : (turnN ns p r).2.length = ns.length := by unfold turnN; simp only [sumN_len, hangN_len]
theorem Fit.turn (h : Fit ns K) (p : Nat) (r : Bool) (hp : p < ns.length) (hs : 0 ≤ sideN ns p r) : Fit (turnN ns p r).2 (K + 2) ∧ ((turnN ns p r).1 : Int) = sideN ns p r ∧ (turnN ns p r).1 < ns.length := by
  have a := h.side p r hp
  obtain ⟨up, e⟩ : ∃ n : Nat, (n : Int) = sideN ns p r := ⟨(sideN ns p r).toNat, by omega⟩
  unfold turnN
  simp only [← e]
  rw [show ((up : Nat) : Int).toNat = up from rfl]
  have hu : up < ns.length := by omega
  refine ⟨?_, rfl, hu⟩
  have b := h.side up (!r) hu
  have := (((h.hang p r _ b).hang up (!r) (p : Int) (by rw [hangN_len]; omega)).sum p).sum up
  exact this.mono (by omega)
theorem mendedN_len (ns : List Nd) (p : Nat) : (mendedN ns p).2.length = ns.length := by
  unfold mendedN
  simp only
  split
  · exact sumN_len _ _
  · rw [turnN_len]; split
    · rw [hangN_len, turnN_len, sumN_len]
    · exact sumN_len _ _
end
end Go.Proofs.Ytmgljgmfipodeaa.Av
