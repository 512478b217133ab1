/-
  A TIMELINE in a world: its block, its tree, its rows of values and of free places.
-/
import Derived.Test.YtmgljgmfipodeaaM9
import Derived.Test.YtmgljgmfipodeaaM31
import Derived.Test.YtmgljgmfipodeaaM33
import Derived.Test.YtmgljgmfipodeaaM24
/-
  A TIMELINE in a world: its block, its tree, its rows of values and of free places.
-/
namespace Go.Proofs.Ytmgljgmfipodeaa.Tl
open Go Go.RowKit Av
set_option linter.unusedSimpArgs false
set_option linter.unusedVariables false

theorem enc_map (xs : List Int) : xs.flatMap intE.enc = xs.map fun x => Value.int .i64 x := by
  induction xs with
  | nil => rfl
  | cons x xs ih => rw [List.flatMap_cons, ih]; rfl
section
variable {w : World} {B g cap : Nat} {xs : List Int}
theorem rowi_cell (h : intE.Row w B (.slice (some ⟨g, 0, none⟩) xs.length cap) xs) (i : Nat) (x : Int) (hx : xs[i]? = some x) : w.cell? ⟨g, i, none⟩ = some (.int .i64 x) := by
  obtain ⟨ao, cap', e, _, hc⟩ := h.arg
  obtain ⟨b, o, e1, _, hcell⟩ := hc i x hx
  cases e; cases e1
  have := hcell 0 _ rfl
  rw [show 0 + i * intE.sz + 0 = i by show 0 + i * 1 + 0 = i; omega] at this
  exact this
theorem rowi_frozen (h : intE.Row w B (.slice (some ⟨g, 0, none⟩) xs.length cap) xs) (j : Nat) : w.frozen? ⟨g, j, none⟩ = false := World.ownsRow.frozenAt h j
theorem rowi_set (h : intE.Row w B (.slice (some ⟨g, 0, none⟩) xs.length cap) xs) (i : Nat) (x : Int) : intE.Row (w.setCell ⟨g, i, none⟩ (.int .i64 x)) B (.slice (some ⟨g, 0, none⟩) (xs.set i x).length cap) (xs.set i x) := by
  have h1 := (World.ownsRow.stored h i (.int .i64 x)).1
  unfold Elem.Row
  have e : (xs.set i x).flatMap intE.enc = (xs.flatMap intE.enc).set i (.int .i64 x) := by rw [enc_map, enc_map, List.map_set]
  rw [e, List.length_set]; exact h1
theorem rowi_pop {fr : List Int} {p : Int} (h : intE.Row w B (.slice (some ⟨g, 0, none⟩) (fr.length + 1) cap) (fr ++ [p])) : intE.Row w B (.slice (some ⟨g, 0, none⟩) fr.length cap) fr := by
  obtain ⟨h1, h2⟩ := h
  rcases h2 with ⟨h2, _⟩ | ⟨g', cap', cur, hv, hb, hg, hc, hm, hs, ht⟩
  · simp at h2
  · simp only [Value.slice.injEq, Option.some.injEq, Addr.mk.injEq, and_true] at hv
    obtain ⟨rfl, _, rfl⟩ := hv
    refine ⟨by rw [enc_map]; simp [intE], .inr ⟨g, cap, cur, rfl, hb, hg, by simp at hc; omega, hm, hs, ?_⟩⟩
    rw [enc_map] at ht
    have := congrArg (List.take fr.length) ht
    rw [List.take_take, Nat.min_eq_left (by show fr.length ≤ (fr ++ [p]).length * 1; simp)] at this
    rw [enc_map]
    show List.take (fr.length * 1) _ = _
    rw [Nat.mul_one, this, List.map_append, List.take_append_of_le_length (by simp), List.take_of_length_le (by simp)]
end
def Box (w : World) (b tb : Nat) (vv fv : Value) : Prop := w.heap[b]? = some (.cells #[.pointer (some ⟨tb, 0, none⟩), vv, fv] 49 (0, 0))
section
variable {w w' : World} {b tb : Nat} {vv fv : Value}
theorem Box.lt (h : Box w b tb vv fv) : b < w.heap.size := (Array.getElem?_eq_some_iff.1 h).1
theorem Box.c0 (h : Box w b tb vv fv) : w.cell? ⟨b, 0, none⟩ = some (.pointer (some ⟨tb, 0, none⟩)) := by rw [cell_of_row w _ _ _ _ (0, 0) h]; rfl
theorem Box.c1 (h : Box w b tb vv fv) : w.cell? ⟨b, 1, none⟩ = some vv := by rw [cell_of_row w _ _ _ _ (0, 0) h]; rfl
theorem Box.c2 (h : Box w b tb vv fv) : w.cell? ⟨b, 2, none⟩ = some fv := by rw [cell_of_row w _ _ _ _ (0, 0) h]; rfl
theorem Box.f (h : Box w b tb vv fv) (i : Nat) : w.frozen? ⟨b, i, none⟩ = false := frozen_of_row w _ _ _ _ h
theorem Box.set1 (h : Box w b tb vv fv) (u : Value) : Box (w.setCell ⟨b, 1, none⟩ u) b tb u fv := by
  exact heap_setCell_same w b 1 _ _ u h
theorem Box.set2 (h : Box w b tb vv fv) (u : Value) : Box (w.setCell ⟨b, 2, none⟩ u) b tb vv u := by
  exact heap_setCell_same w b 2 _ _ u h
end
def ownT (b : Nat) (O : Nat → Prop) (vv fv : Value) (k : Nat) : Prop := k = b ∨ O k ∨ vv.ownBlock = some k ∨ fv.ownBlock = some k
structure LineC (w : World) (B b tb : Nat) (O : Nat → Prop) (vv fv : Value) (L : List It) (vals free : List Int) : Prop where
  box : Box w b tb vv fv
  tr : TreeIs w B tb 1000000 O L
  rv : intE.Row w B vv vals
  rf : intE.Row w B fv free
  bB : B ≤ b
  ob : ¬ O b
  oB : ∀ k, O k → B ≤ k
  vb : vv.ownBlock ≠ some b
  fb : fv.ownBlock ≠ some b
  vo : ∀ k, vv.ownBlock = some k → ¬ O k
  fo : ∀ k, fv.ownBlock = some k → ¬ O k
  vf : ∀ k, vv.ownBlock = some k → fv.ownBlock ≠ some k
section
variable {w w' w5 : World} {B b tb : Nat} {O : Nat → Prop} {vv fv : Value} {L : List It} {vals free : List Int}
theorem LineC.lt (h : LineC w B b tb O vv fv L vals free) : ∀ k, ownT b O vv fv k → k < w.heap.size ∧ B ≤ k := by
  rintro k (rfl | hk | hk | hk)
  · exact ⟨h.box.lt, h.bB⟩
  · exact ⟨h.tr.lt k hk, h.oB k hk⟩
  · exact ⟨(h.rv.lt k hk).2, (h.rv.lt k hk).1⟩
  · exact ⟨(h.rf.lt k hk).2, (h.rf.lt k hk).1⟩
theorem LineC.but {S : Nat → Prop} (h : LineC w B b tb O vv fv L vals free) (k : But S w w') (hs : ∀ g, ownT b O vv fv g → ¬ S g) : LineC w' B b tb O vv fv L vals free :=
  { h with
    box := (k.block b h.box.lt (hs b (.inl rfl))).trans h.box
    tr := h.tr.but k (fun g hg => hs g (.inr (.inl hg)))
    rv := h.rv.block fun g hg => k.block g (h.rv.lt g hg).2 (hs g (.inr (.inr (.inl hg))))
    rf := h.rf.block fun g hg => k.block g (h.rf.lt g hg).2 (hs g (.inr (.inr (.inr hg)))) }
theorem LineC.below (h : LineC w B b tb O vv fv L vals free) (k : Below w.heap.size w w') : LineC w' B b tb O vv fv L vals free := h.but (Below.but k (fun _ => False)) (fun _ _ z => z)
theorem LineC.turned {L' : List It} (h : LineC w B b tb O vv fv L vals free) (k : Turned w w' B tb 1000000 O L') : ∃ O', LineC w' B b tb O' vv fv L' vals free ∧ But O w w' ∧ ∀ z, O' z → O z ∨ w.heap.size ≤ z := by
  obtain ⟨O', t, bu, ho⟩ := k
  have hbl := h.box.lt
  refine ⟨O', ⟨(bu.block b hbl h.ob).trans h.box, t, h.rv.block fun g hg => bu.block g (h.rv.lt g hg).2 (h.vo g hg), h.rf.block fun g hg => bu.block g (h.rf.lt g hg).2 (h.fo g hg), h.bB, fun hb => ?_, fun z hz => ?_, h.vb, h.fb, fun z hz ho' => ?_, fun z hz ho' => ?_, h.vf⟩, bu, ho⟩
  · rcases ho b hb with q | q
    · exact h.ob q
    · omega
  · rcases ho z hz with q | q
    · exact h.oB z q
    · have := h.bB; omega
  · rcases ho z ho' with q | q
    · exact h.vo z hz q
    · have := (h.rv.lt z hz).2; omega
  · rcases ho z ho' with q | q
    · exact h.fo z hz q
    · have := (h.rf.lt z hz).2; omega
theorem but_grown {row : Option Nat} (g : w.grownBy w' row) : But (fun k => row = some k) w w' := ⟨g.os, g.tape, g.output, g.size, fun k hk hs => g.block k hk (fun e => hs e.symm)⟩
theorem LineC.setF {fv' : Value} {free' : List Int} (h : LineC w B b tb O vv fv L vals free) (g : w.grownBy w5 fv.ownBlock) (r : intE.Row w5 B fv' free') (l : fv'.ownBlock = fv.ownBlock ∨ fv'.ownBlock = some w.heap.size) :
    LineC (w5.setCell ⟨b, 2, none⟩ fv') B b tb O vv fv' L vals free' ∧ But (ownT b O vv fv) w (w5.setCell ⟨b, 2, none⟩ fv') ∧ ∀ k, ownT b O vv fv' k → ownT b O vv fv k ∨ w.heap.size ≤ k := by
  have hbl := h.box.lt
  have G := but_grown g
  have hb5 : Box w5 b tb vv fv := (G.block b hbl h.fb).trans h.box
  have S := (But.refl (· = b) w5).set (p := ⟨b, 2, none⟩) rfl fv'
  have K : But (fun k => k = b ∨ fv.ownBlock = some k) w (w5.setCell ⟨b, 2, none⟩ fv') := (G.mono fun k hk => .inr hk).trans (S.mono fun k hk => .inl hk)
  have fb' : fv'.ownBlock ≠ some b := by
    rcases l with l | l
    · rw [l]; exact h.fb
    · rw [l]; simp only [ne_eq, Option.some.injEq]; omega
  have old : ∀ k, fv'.ownBlock = some k → fv.ownBlock = some k ∨ w.heap.size ≤ k := fun k hk => by
    rcases l with l | l
    · exact .inl (l ▸ hk)
    · rw [l] at hk; simp only [Option.some.injEq] at hk; exact .inr (by omega)
  refine ⟨⟨hb5.set2 fv', h.tr.but K ?_, h.rv.block fun z hz => K.block z (h.rv.lt z hz).2 ?_, r.block fun z hz => Below.heap_setCell _ _ _ _ (fun e => fb' (by rw [hz, e])), h.bB, h.ob, h.oB, h.vb, fb', h.vo, fun z hz => ?_, fun z hz hz' => ?_⟩, K.mono ?_, ?_⟩
  · rintro z hz (rfl | q)
    · exact h.ob hz
    · exact h.fo z q hz
  · rintro (rfl | q)
    · exact h.vb hz
    · exact h.vf z hz q
  · rcases old z hz with q | q
    · exact h.fo z q
    · exact fun ho => by have := h.tr.lt z ho; omega
  · rcases old z hz' with q | q
    · exact h.vf z hz q
    · have := (h.rv.lt z hz).2; omega
  · rintro k (q | q)
    · exact .inl q
    · exact .inr (.inr (.inr q))
  · rintro k (q | q | q | q)
    · exact .inl (.inl q)
    · exact .inl (.inr (.inl q))
    · exact .inl (.inr (.inr (.inl q)))
    · rcases old k q with z | z
      · exact .inl (.inr (.inr (.inr z)))
      · exact .inr z
theorem LineC.setV {vv' : Value} {vals' : List Int} (h : LineC w B b tb O vv fv L vals free) (g : w.grownBy w5 vv.ownBlock) (r : intE.Row w5 B vv' vals') (l : vv'.ownBlock = vv.ownBlock ∨ vv'.ownBlock = some w.heap.size) :
    LineC (w5.setCell ⟨b, 1, none⟩ vv') B b tb O vv' fv L vals' free ∧ But (ownT b O vv fv) w (w5.setCell ⟨b, 1, none⟩ vv') ∧ ∀ k, ownT b O vv' fv k → ownT b O vv fv k ∨ w.heap.size ≤ k := by
  have hbl := h.box.lt
  have G := but_grown g
  have hb5 : Box w5 b tb vv fv := (G.block b hbl h.vb).trans h.box
  have S := (But.refl (· = b) w5).set (p := ⟨b, 1, none⟩) rfl vv'
  have K : But (fun k => k = b ∨ vv.ownBlock = some k) w (w5.setCell ⟨b, 1, none⟩ vv') := (G.mono fun k hk => .inr hk).trans (S.mono fun k hk => .inl hk)
  have vb' : vv'.ownBlock ≠ some b := by
    rcases l with l | l
    · rw [l]; exact h.vb
    · rw [l]; simp only [ne_eq, Option.some.injEq]; omega
  have old : ∀ k, vv'.ownBlock = some k → vv.ownBlock = some k ∨ w.heap.size ≤ k := fun k hk => by
    rcases l with l | l
    · exact .inl (l ▸ hk)
    · rw [l] at hk; simp only [Option.some.injEq] at hk; exact .inr (by omega)
  refine ⟨⟨hb5.set1 vv', h.tr.but K ?_, r.block fun z hz => Below.heap_setCell _ _ _ _ (fun e => vb' (by rw [hz, e])), h.rf.block fun z hz => K.block z (h.rf.lt z hz).2 ?_, h.bB, h.ob, h.oB, vb', h.fb, fun z hz => ?_, h.fo, fun z hz hz' => ?_⟩, K.mono ?_, ?_⟩
  · rintro z hz (rfl | q)
    · exact h.ob hz
    · exact h.vo z q hz
  · rintro (rfl | q)
    · exact h.fb hz
    · exact h.vf z q hz
  · rcases old z hz with q | q
    · exact h.vo z q
    · exact fun ho => by have := h.tr.lt z ho; omega
  · rcases old z hz with q | q
    · exact h.vf z q hz'
    · have := (h.rf.lt z hz').2; omega
  · rintro k (q | q)
    · exact .inl q
    · exact .inr (.inr (.inl q))
  · rintro k (q | q | q | q)
    · exact .inl (.inl q)
    · exact .inl (.inr (.inl q))
    · rcases old k q with z | z
      · exact .inl (.inr (.inr (.inl z)))
      · exact .inr z
    · exact .inl (.inr (.inr (.inr q)))
/-- a value is stored at its place -/
theorem LineC.putV {g cap i : Nat} {x : Int} (h : LineC w B b tb O (.slice (some ⟨g, 0, none⟩) vals.length cap) fv L vals free) :
    LineC (w.setCell ⟨g, i, none⟩ (.int .i64 x)) B b tb O (.slice (some ⟨g, 0, none⟩) (vals.set i x).length cap) fv L (vals.set i x) free ∧ But (ownT b O (.slice (some ⟨g, 0, none⟩) vals.length cap) fv) w (w.setCell ⟨g, i, none⟩ (.int .i64 x)) := by
  have K := (But.refl (· = g) w).set (p := ⟨g, i, none⟩) rfl (.int .i64 x)
  have gb : g ≠ b := fun e => h.vb (by rw [e]; rfl)
  refine ⟨⟨?_, h.tr.but K (fun z hz e => h.vo g rfl (e ▸ hz)), rowi_set h.rv i x, h.rf.block fun z hz => Below.heap_setCell _ _ _ _ (fun e => h.vf g rfl (by rw [hz, e])), h.bB, h.ob, h.oB, by rw [List.length_set]; exact h.vb, h.fb, fun z hz => h.vo z hz, h.fo, fun z hz => h.vf z hz⟩, K.mono fun k hk => .inr (.inr (.inl (by rw [hk]; rfl)))⟩
  have := h.box
  unfold Box at this ⊢
  rw [Below.heap_setCell _ _ _ _ (Ne.symm gb), List.length_set]; exact this
end
/-- a timeline that has some segments; T: its blocks -/
def LineIs (w : World) (B b : Nat) (T : Nat → Prop) (L : List It) (vals free : List Int) : Prop := ∃ tb O vv fv, LineC w B b tb O vv fv L vals free ∧ T = ownT b O vv fv
/-- what a call that changes it leaves -/
def MovedL (w w' : World) (B b : Nat) (T : Nat → Prop) (L' : List It) (vals' free' : List Int) : Prop := ∃ T', LineIs w' B b T' L' vals' free' ∧ But T w w' ∧ ∀ k, T' k → T k ∨ w.heap.size ≤ k
section
variable {w w' w2 : World} {B b : Nat} {T : Nat → Prop} {L L' L2 : List It} {vals free vals' free' vals2 free2 : List Int}
theorem LineIs.but {S : Nat → Prop} (h : LineIs w B b T L vals free) (k : But S w w') (hs : ∀ g, T g → ¬ S g) : LineIs w' B b T L vals free := by
  obtain ⟨tb, O, vv, fv, h, rfl⟩ := h
  exact ⟨tb, O, vv, fv, h.but k hs, rfl⟩
theorem LineIs.below (h : LineIs w B b T L vals free) (k : Below w.heap.size w w') : LineIs w' B b T L vals free := h.but (Below.but k (fun _ => False)) (fun _ _ z => z)
theorem LineIs.lt (h : LineIs w B b T L vals free) : ∀ k, T k → k < w.heap.size ∧ B ≤ k := by
  obtain ⟨tb, O, vv, fv, h, rfl⟩ := h
  exact h.lt
theorem LineIs.sorted (h : LineIs w B b T L vals free) : Tr.Sorted L := by
  obtain ⟨tb, O, vv, fv, h, rfl⟩ := h
  obtain ⟨t, ns, free, nv, fv, k, rfl, _⟩ := h.tr
  exact k.ok.sorted
theorem MovedL.same (h : LineIs w B b T L vals free) (k : Below w.heap.size w w') : MovedL w w' B b T L vals free := ⟨T, h.below k, Below.but k _, fun k h => .inl h⟩
theorem MovedL.refl (h : LineIs w B b T L vals free) : MovedL w w B b T L vals free := MovedL.same h (Below.refl _ _)
theorem MovedL.step {T' : Nat → Prop} (h2 : But T w w') (h3 : ∀ k, T' k → T k ∨ w.heap.size ≤ k) (k : MovedL w' w2 B b T' L2 vals2 free2) : MovedL w w2 B b T L2 vals2 free2 := by
  obtain ⟨T2, k1, k2, k3⟩ := k
  have sz := h2.size
  refine ⟨T2, k1, ⟨k2.os.trans h2.os, k2.tape.trans h2.tape, k2.output.trans h2.output, Nat.le_trans h2.size k2.size, fun j hj hT => (k2.block j (by omega) (fun o => ?_)).trans (h2.block j hj hT)⟩, fun j hj => ?_⟩
  · rcases h3 j o with q | q
    · exact hT q
    · omega
  · rcases k3 j hj with q | q
    · exact h3 j q
    · exact .inr (by omega)
theorem MovedL.trans (h : MovedL w w' B b T L vals free) (k : ∀ T', LineIs w' B b T' L vals free → MovedL w' w2 B b T' L2 vals2 free2) : MovedL w w2 B b T L2 vals2 free2 := by
  obtain ⟨T', h1, h2, h3⟩ := h
  exact MovedL.step h2 h3 (k T' h1)
theorem MovedL.is (h : MovedL w w' B b T L vals free) : ∃ T', LineIs w' B b T' L vals free := let ⟨T', h1, _⟩ := h; ⟨T', h1⟩
theorem MovedL.line (h : MovedL w w' B b T L vals free) (k : Below w'.heap.size w' w2) : MovedL w w2 B b T L vals free := h.trans fun _ h' => MovedL.same h' k
theorem MovedL.from (k : Below w.heap.size w w') (hT : ∀ j, T j → j < w.heap.size) (h : MovedL w' w2 B b T L vals free) : MovedL w w2 B b T L vals free := by
  obtain ⟨T2, k1, k2, k3⟩ := h
  have sz := k.size
  refine ⟨T2, k1, ⟨k2.os.trans k.os, k2.tape.trans k.tape, k2.output.trans k.output, Nat.le_trans k.size k2.size, fun j hj h => (k2.block j (by omega) h).trans (k.block j hj)⟩, fun j hj => ?_⟩
  rcases k3 j hj with q | q
  · exact .inl q
  · exact .inr (by omega)
/-- what lies outside its blocks stays -/
theorem MovedL.block (h : MovedL w w' B b T L vals free) {j : Nat} (hj : j < w.heap.size) (hT : ¬ T j) : w'.heap[j]? = w.heap[j]? := by
  obtain ⟨T', h1, h2, h3⟩ := h
  exact h2.block j hj hT
theorem MovedL.bel (h : MovedL w w' B b T L vals free) (hT : ∀ j, T j → B ≤ j) (hB : B ≤ w.heap.size) : Below B w w' := by
  obtain ⟨T', h1, h2, h3⟩ := h
  exact h2.below hB hT
end
end Go.Proofs.Ytmgljgmfipodeaa.Tl
