/-
  A RANGE OVER A FUNCTION, where a round knows which element comes behind which others (XItrLaw's law, with a predicate in place of a number).
-/
import Derived.Test.YtmgljgmfipodeaaM28
/-
  A RANGE OVER A FUNCTION, where a round knows which element comes behind which others (XItrLaw's law, with a predicate in place of a number).
-/
namespace Go.Proofs.Ytmgljgmfipodeaa.Itr
open Go Go.RowKit

/-- THE FUNCTION THAT IS RANGED OVER: called two blocks behind w; it tells xs with S xs, or a part with Sp, where a round has said: no more -/
def SeqAtP {α : Type} (n : Nat) (P : Program) (g : Nat) (lb : Array Value) (encs : α → Array Value) (d : Nat) (T : Nat → Prop) (S Sp : List α → Prop) (N : List α → α → Prop) (w : World) : Prop :=
  ∀ (l : Nat) (J Jx : List α → World → Prop) (W : World), W.heap.size = w.heap.size + 2 → Below w.heap.size w W → Steady (Its W.heap.size d) J → Steady (Its W.heap.size d) Jx →
    (∀ pre x W1, J pre W1 → N pre x → W.heap.size + d ≤ W1.heap.size → YieldAt Fence.wide (n - 1) P l (encs x) W1 fun e W' =>
      (e = .returned (.bool true) ∧ J (pre ++ [x]) W' ∧ Keep (fun k => T k ∨ Its W.heap.size d k) W1 W') ∨ (e = .returned (.bool false) ∧ Jx (pre ++ [x]) W')) →
    J [] W → CallsIn Fence.wide n P g (#[.func (.yield l) #[] #[]] ++ lb) W fun e W' => (∃ v, e = .returned v) ∧ ((∃ xs, S xs ∧ J xs W') ∨ (∃ pre, Sp pre ∧ Jx pre W'))
/-- THE LAW; A: what holds between the assignment and the body -/
theorem rangeAtGP {α : Type} {n : Nat} {P : Program} {g : Operand} {ps : Array Tmp} {assign body : Code} {Q : Exit → Act → World → Prop} {a : Act} {w : World} {B : Nat} (hB : w.heap.size = B)
    {gf : Nat} {lb : Array Value} (hg : a.eval g = .func (.func gf) #[] lb) (eg : ∀ args w, (callFunc gf args).run P w = .ok (.enter gf args) w)
    {encs : α → Array Value} {d : Nat} {T : Nat → Prop} {S Sp : List α → Prop} {N : List α → α → Prop} (hT : ∀ k, T k → k < B) (hseq : SeqAtP (n - 1) P gf lb encs d T S Sp N w) (hps : ∀ x, (encs x).size = ps.size)
    (I : List α → World → Prop) (Ix : Code → List α → World → Prop) (hI : Steady (Own B d) I) (hIx : ∀ c, Steady (Own B d) (Ix c)) (h0 : I [] w)
    (A : List α → α → Act → World → Prop) (hA : ∀ x a', Steady (Own B d) (fun pre W => A pre x a' W))
    (hassign : ∀ (l : Nat) (pre : List α) (x : α) (W : World) (K : Act → World → Prop), B + 2 + d ≤ W.heap.size → I pre W → (∀ a' W', Keep (fun k => T k ∨ Own B d k) W W' → A pre x a' W' → K a' W') →
      assign.wpIn (Fence.wide.inRound l) (n - 1 - 1) P (Exit.then K (fun _ _ _ => False)) { tmps := (ps.zip (encs x)).foldl (fun t (p, v) => t.setIfInBounds p v) a.tmps, defers := [] } W)
    (hbody : ∀ (l : Nat) (pre : List α) (x : α) (a' : Act) (W : World), B + 2 + d ≤ W.heap.size → A pre x a' W → N pre x → body.wpIn (Fence.wide.inRound l) (n - 1 - 1) P (roundEnd (fun k => T k ∨ Own B d k) I Ix (pre ++ [x]) W) a' W)
    (hdone : ∀ (xs : List α) (W : World), S xs → I xs W → W.heap[B]? = some (.deferred (some [])) → Q .normal { a with defers := { target := .collected B, args := #[] } :: a.defers } W)
    (hstop : ∀ (c : Code) (pre : List α) (W : World), Sp pre → Ix c pre W → W.heap[B]? = some (.deferred (some [])) → c.wpIn Fence.wide n P Q { a with defers := { target := .collected B, args := #[] } :: a.defers } W) :
    (Code.rangeFunc g ps assign body).wpIn Fence.wide n P Q a w := by
  refine wpIn_rangeFunc fun fn hfn => ?_
  obtain ⟨rc, hrc⟩ : ∃ rc : LoopState → Option Code → Loop, rc = fun st pe => { state := st, pending := pe, fn, tmps := a.tmps, params := ps, assign, body, defers := B } := ⟨_, rfl⟩
  obtain ⟨W1, hW1⟩ : ∃ W1, (w.alloc (.deferred (some []))).alloc (.loop (rc .ready none)) = W1 := ⟨_, rfl⟩
  have s1 : W1.heap.size = B + 2 := by rw [← hW1]; simp; omega
  have L1 : W1.heap[B + 1]? = some (.loop (rc .ready none)) := by
    have := World.alloc_heap_new (w.alloc (.deferred (some []))) (.loop (rc .ready none))
    rw [World.size_alloc, hW1, hB] at this; exact this
  have D1 : W1.heap[B]? = some (.deferred (some [])) := by
    rw [← hW1, ← hB]; exact (Below.heap_alloc _ _ _ (by simp)).trans (World.alloc_heap_new w _)
  have I1 : I [] W1 := by rw [← hW1]; exact hI.alloc _ (hI.alloc _ h0)
  have B1 : Below w.heap.size w W1 := by rw [← hW1]; exact bt (ba _ _) (ba _ _)
  refine ⟨B + 1, [{ target := .collected B, args := #[] }], W1, { target := .fn (.func gf) lb, args := #[.func (.yield (B + 1)) #[] #[]] }, W1, gf, #[.func (.yield (B + 1)) #[] #[]] ++ lb, W1, ?_, ?_, fun _ _ => trivial, ?_, fun h => absurd h (by simp [Fence.wide]), ?_⟩
  · have := run_enterLoop_outer (P := P) (w := w) fn a.tmps ps assign body
    rw [hB] at this
    rw [← hW1, hrc]; exact this
  · simp only [resolve, hg]
    simp [go_sem]
  · simp [invoke, go_sem, eg]
  have u0 : Own B d B := ⟨Nat.le_refl _, by omega⟩
  have u1 : Own B d (B + 1) := ⟨by omega, by omega⟩
  have uz : ∀ r, Its W1.heap.size d r → Own B d r ∧ B + 2 ≤ r := fun r h => by have h1 := h.1; have h2 := h.2; rw [s1] at h1 h2; exact ⟨⟨by omega, by omega⟩, h1⟩
  refine (hseq (B + 1) (fun pre W => I pre W ∧ B + 2 ≤ W.heap.size ∧ W.heap[B + 1]? = some (.loop (rc .ready none)) ∧ W.heap[B]? = some (.deferred (some [])))
    (fun pre W => ∃ c, Ix c pre W ∧ W.heap[B + 1]? = some (.loop (rc .done (some c))) ∧ W.heap[B]? = some (.deferred (some []))) W1 (by rw [s1, hB]) B1 ?_ ?_ ?_ ⟨I1, by omega, L1, D1⟩).mono ?_
  · intro s A C row ⟨h1, h2, h3, h4⟩ hg' hr
    have := hg'.size
    have ne : ∀ k, k < B + 2 → some k ≠ row := fun k hk e => by have := (uz k (hr k e.symm)).2; omega
    exact ⟨hI s A C row h1 hg' (fun r e => (uz r (hr r e)).1), by omega, (hg'.block _ (by omega) (ne _ (by omega))).trans h3, (hg'.block _ (by omega) (ne _ (by omega))).trans h4⟩
  · intro s A C row ⟨c, h1, h3, h4⟩ hg' hr
    have l1 := (Array.getElem?_eq_some_iff.1 h3).1
    have ne : ∀ k, k < B + 2 → some k ≠ row := fun k hk e => by have := (uz k (hr k e.symm)).2; omega
    exact ⟨c, hIx c s A C row h1 hg' (fun r e => (uz r (hr r e)).1), (hg'.block _ l1 (ne _ (by omega))).trans h3, (hg'.block _ (by omega) (ne _ (by omega))).trans h4⟩
  · -- a round
    intro pre x W ⟨hi, hz, hl, hk⟩ hlen hsz
    rw [s1] at hsz
    have hy := run_yield (P := P) (args := encs x) hl (by rw [hrc]; exact hps x)
    rw [hrc] at hy
    refine ⟨fn, _, assign, body, hy, roundIn_of_wpIn hfn (hassign (B + 1) pre x W _ hsz hi fun a' V hKV haV => ?_)⟩
    clear hy
    have vs := hKV.size
    have hl1 := (hKV.same (B + 1) (.inr u1) (by omega)).trans hl
    have hk1 := (hKV.same B (.inr u0) (by omega)).trans hk
    refine ⟨_, run_beginRound hl1 (by rw [hrc]), ?_⟩
    obtain ⟨V2, hV2⟩ : ∃ V2, V.putObj (B + 1) (.loop { rc .ready none with state := .busy }) = V2 := ⟨_, rfl⟩
    have v2 : V2.heap.size = V.heap.size := by rw [← hV2, World.putObj_size]
    have hl2 : V2.heap[B + 1]? = some (.loop { rc .ready none with state := .busy }) := by rw [← hV2]; exact World.putObj_heap_same (by omega)
    have hk2 : V2.heap[B]? = some (.deferred (some [])) := by rw [← hV2]; exact (World.putObj_heap_other (by omega)).trans hk1
    have hb := hbody (B + 1) pre x a' V2 (by omega) (by rw [← hV2]; exact (hA x a').put (s := pre) u1 _ haV) hlen
    rw [hV2]
    have fin : ∀ (jump : Option Code) (V3 : World), Keep (fun k => T k ∨ Own B d k) V2 V3 → ∃ V4, V4 = V3.putObj (B + 1) (.loop (rc (if jump.isNone then .ready else .done) jump)) ∧ (Instr.endRound (B + 1) jump).run P V3 = .ok (.bool jump.isNone) V4 ∧
        V4.heap[B + 1]? = some (.loop (rc (if jump.isNone then .ready else .done) jump)) ∧ V4.heap[B]? = some (.deferred (some [])) ∧ B + 2 ≤ V4.heap.size ∧ Keep (fun k => T k ∨ Its W1.heap.size d k) W V4 := by
      intro jump V3 h3
      have hl3 := (h3.same (B + 1) (.inr u1) (by omega)).trans hl2
      have hk3 := (h3.same B (.inr u0) (by omega)).trans hk2
      have e := run_endRound (P := P) jump hl3
      have s3 := h3.size
      have nt : ¬ (T (B + 1) ∨ Its W1.heap.size d (B + 1)) := by
        rintro (h | h)
        · have := hT _ h; omega
        · have := (uz _ h).2; omega
      have M : ∀ k, T k ∨ Its W1.heap.size d k → T k ∨ Own B d k := fun k h => h.imp_right fun z => (uz k z).1
      refine ⟨_, rfl, by rw [hrc] at e ⊢; exact e, World.putObj_heap_same (by omega), (World.putObj_heap_other (by omega)).trans hk3, by rw [World.putObj_size]; omega, ?_⟩
      refine Keep.put (((hKV.mono fun k h _ => M k h).trans ?_).trans (h3.mono fun k h _ => M k h)) (.inr nt) _
      rw [← hV2]; exact (Keep.refl _ V).put (.inr nt) _
    refine wpIn_mono hb ?_
    rintro e a3 V3 hp
    cases e with
    | normal =>
      obtain ⟨h3, i3⟩ := hp
      obtain ⟨V4, e4, r4, l4, k4, s4, kp⟩ := fin none V3 h3
      refine ⟨_, _, r4, .inl ⟨rfl, ⟨by rw [e4]; exact hI.put u1 _ i3, s4, l4, k4⟩, kp⟩⟩
    | ret =>
      obtain ⟨h3, i3⟩ := hp
      obtain ⟨V4, e4, r4, l4, k4, s4, kp⟩ := fin (some .ret) V3 h3
      exact ⟨_, _, r4, .inr ⟨rfl, .ret, by rw [e4]; exact (hIx _).put u1 _ i3, l4, k4⟩⟩
    | exit id =>
      obtain ⟨h3, i3⟩ := hp
      obtain ⟨V4, e4, r4, l4, k4, s4, kp⟩ := fin (some (.exit id)) V3 h3
      exact ⟨_, _, r4, .inr ⟨rfl, .exit id, by rw [e4]; exact (hIx _).put u1 _ i3, l4, k4⟩⟩
    | goto t =>
      obtain ⟨h3, i3⟩ := hp
      obtain ⟨V4, e4, r4, l4, k4, s4, kp⟩ := fin (some (.goto t)) V3 h3
      exact ⟨_, _, r4, .inr ⟨rfl, .goto t, by rw [e4]; exact (hIx _).put u1 _ i3, l4, k4⟩⟩
    | panic ch => exact hp.elim
    | outgrown => exact hp.elim
  · rintro e W2 ⟨⟨v, rfl⟩, (⟨xs, hS, hi, _, hl, hk⟩ | ⟨pre, hSp, c, hi, hl, hk⟩)⟩
    · exact ⟨none, _, by have := run_endLoop (P := P) hl (by rw [hrc]; simp); rw [hrc] at this; exact this, hdone xs _ hS (hI.put u1 _ hi) ((World.putObj_heap_other (by omega)).trans hk)⟩
    · exact ⟨some c, _, by have := run_endLoop (P := P) hl (by rw [hrc]; simp); rw [hrc] at this; exact this, hstop c pre _ hSp ((hIx c).put u1 _ hi) ((World.putObj_heap_other (by omega)).trans hk)⟩
/-- THE LAW, where what was said ahead of the round is still so behind the assignment -/
theorem rangeAtP {α : Type} {n : Nat} {P : Program} {g : Operand} {ps : Array Tmp} {assign body : Code} {Q : Exit → Act → World → Prop} {a : Act} {w : World} {B : Nat} (hB : w.heap.size = B)
    {gf : Nat} {lb : Array Value} (hg : a.eval g = .func (.func gf) #[] lb) (eg : ∀ args w, (callFunc gf args).run P w = .ok (.enter gf args) w)
    {encs : α → Array Value} {d : Nat} {T : Nat → Prop} {S Sp : List α → Prop} {N : List α → α → Prop} (hT : ∀ k, T k → k < B) (hseq : SeqAtP (n - 1) P gf lb encs d T S Sp N w) (hps : ∀ x, (encs x).size = ps.size)
    (I : List α → World → Prop) (Ix : Code → List α → World → Prop) (hI : Steady (Own B d) I) (hIx : ∀ c, Steady (Own B d) (Ix c)) (h0 : I [] w)
    (Ax : α → Act → World → Prop) (hAx : ∀ x a', Steady (Own B d) (fun (_ : Unit) W => Ax x a' W))
    (hassign : ∀ (l : Nat) (pre : List α) (x : α) (W : World) (K : Act → World → Prop), B + 2 + d ≤ W.heap.size → I pre W → (∀ a' W', Keep (fun k => T k ∨ Own B d k) W W' → I pre W' → Ax x a' W' → K a' W') →
      assign.wpIn (Fence.wide.inRound l) (n - 1 - 1) P (Exit.then K (fun _ _ _ => False)) { tmps := (ps.zip (encs x)).foldl (fun t (p, v) => t.setIfInBounds p v) a.tmps, defers := [] } W)
    (hbody : ∀ (l : Nat) (pre : List α) (x : α) (a' : Act) (W : World), B + 2 + d ≤ W.heap.size → I pre W → Ax x a' W → N pre x → body.wpIn (Fence.wide.inRound l) (n - 1 - 1) P (roundEnd (fun k => T k ∨ Own B d k) I Ix (pre ++ [x]) W) a' W)
    (hdone : ∀ (xs : List α) (W : World), S xs → I xs W → W.heap[B]? = some (.deferred (some [])) → Q .normal { a with defers := { target := .collected B, args := #[] } :: a.defers } W)
    (hstop : ∀ (c : Code) (pre : List α) (W : World), Sp pre → Ix c pre W → W.heap[B]? = some (.deferred (some [])) → c.wpIn Fence.wide n P Q { a with defers := { target := .collected B, args := #[] } :: a.defers } W) :
    (Code.rangeFunc g ps assign body).wpIn Fence.wide n P Q a w :=
  rangeAtGP hB hg eg hT hseq hps I Ix hI hIx h0 (fun pre x a' W => I pre W ∧ Ax x a' W) (fun x a' s A C row h hg hr => ⟨hI s A C row h.1 hg hr, hAx x a' () A C row h.2 hg hr⟩)
    (fun l pre x W K hsz hi hk => hassign l pre x W K hsz hi (fun a' W' h1 h2 h3 => hk a' W' h1 ⟨h2, h3⟩))
    (fun l pre x a' W hsz ha hlen => hbody l pre x a' W hsz ha.1 ha.2 hlen) hdone hstop
end Go.Proofs.Ytmgljgmfipodeaa.Itr
