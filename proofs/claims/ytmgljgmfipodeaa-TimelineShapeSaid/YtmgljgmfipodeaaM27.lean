/-
  itree: next, walked.
-/
import Derived.Test.YtmgljgmfipodeaaM26
/-
  itree: next, walked.
-/
namespace Go.Proofs.Ytmgljgmfipodeaa.Itr
open Go Go.RowKit Av
set_option linter.unusedSimpArgs false
set_option linter.unusedVariables false
attribute [local go_sem ↓] Go.wp_at_zero Go.wp_at_succ

theorem put7 {w : World} {i : Nat} {a0 a1 a2 a3 a4 a5 a6 : Value} (h : w.heap[i]? = some (.cells #[a0, a1, a2, a3, a4, a5, a6] 71 (0, 0))) (v0 v1 v2 v3 v4 v5 v6 : Value) :
    (((((((w.setCell ⟨i, 0, none⟩ v0).setCell ⟨i, 1, none⟩ v1).setCell ⟨i, 2, none⟩ v2).setCell ⟨i, 3, none⟩ v3).setCell ⟨i, 4, none⟩ v4).setCell ⟨i, 5, none⟩ v5).setCell ⟨i, 6, none⟩ v6).heap[i]? = some (.cells #[v0, v1, v2, v3, v4, v5, v6] 71 (0, 0)) :=
  by
  have h0 := heap_setCell_same w i 0 _ _ v0 h
  have h1 := heap_setCell_same _ i 1 _ _ v1 h0
  have h2 := heap_setCell_same _ i 2 _ _ v2 h1
  have h3 := heap_setCell_same _ i 3 _ _ v3 h2
  have h4 := heap_setCell_same _ i 4 _ _ v4 h3
  have h5 := heap_setCell_same _ i 5 _ _ v5 h4
  have h6 := heap_setCell_same _ i 6 _ _ v6 h5
  simp only [List.setIfInBounds_toArray, List.set_cons_zero, List.set_cons_succ] at h6
  exact h6
theorem put7_but {w : World} {S : Nat → Prop} {i : Nat} (h : S i) (v0 v1 v2 v3 v4 v5 v6 : Value) :
    But S w (((((((w.setCell ⟨i, 0, none⟩ v0).setCell ⟨i, 1, none⟩ v1).setCell ⟨i, 2, none⟩ v2).setCell ⟨i, 3, none⟩ v3).setCell ⟨i, 4, none⟩ v4).setCell ⟨i, 5, none⟩ v5).setCell ⟨i, 6, none⟩ v6) :=
  (((((((But.refl S w).set (p := ⟨i, 0, none⟩) h _).set (p := ⟨i, 1, none⟩) h _).set (p := ⟨i, 2, none⟩) h _).set (p := ⟨i, 3, none⟩) h _).set (p := ⟨i, 4, none⟩) h _).set (p := ⟨i, 5, none⟩) h _).set (p := ⟨i, 6, none⟩) h _
theorem k7 {w : World} {i : Nat} {a0 a1 a2 a3 a4 a5 a6 : Value} (h : w.heap[i]? = some (.cells #[a0, a1, a2, a3, a4, a5, a6] 71 (0, 0))) :
    w.cell? ⟨i, 0, none⟩ = some a0 ∧ w.cell? ⟨i, 1, none⟩ = some a1 ∧ w.cell? ⟨i, 2, none⟩ = some a2 ∧ w.cell? ⟨i, 3, none⟩ = some a3 ∧ w.cell? ⟨i, 4, none⟩ = some a4 ∧ w.cell? ⟨i, 5, none⟩ = some a5 ∧ w.cell? ⟨i, 6, none⟩ = some a6 ∧
      w.frozen? ⟨i, 0, none⟩ = false ∧ w.frozen? ⟨i, 1, none⟩ = false ∧ w.frozen? ⟨i, 2, none⟩ = false ∧ w.frozen? ⟨i, 3, none⟩ = false ∧ w.frozen? ⟨i, 4, none⟩ = false ∧ w.frozen? ⟨i, 5, none⟩ = false ∧ w.frozen? ⟨i, 6, none⟩ = false := by
  refine ⟨?_, ?_, ?_, ?_, ?_, ?_, ?_, frozen_of_row w _ _ _ _ h, frozen_of_row w _ _ _ _ h, frozen_of_row w _ _ _ _ h, frozen_of_row w _ _ _ _ h, frozen_of_row w _ _ _ _ h, frozen_of_row w _ _ _ _ h, frozen_of_row w _ _ _ _ h⟩ <;> (rw [cell_of_row w _ _ _ _ (0, 0) h]; rfl)
/-- what was new at a step is left by it -/
theorem But.fresh {q i : Nat} {a b c : World} (h : But (· = q) a b) (k : But (fun j => j = i ∨ j = q) b c) (hi : a.heap.size ≤ i) : But (· = q) a c :=
  ⟨k.os.trans h.os, k.tape.trans h.tape, k.output.trans h.output, Nat.le_trans h.size k.size, fun j hj hs => (k.block j (Nat.lt_of_lt_of_le hj h.size) (by rintro (e | e); omega; exact hs e)).trans (h.block j hj hs)⟩
set_option maxRecDepth 100000 in
theorem next_nil {w : World} {q : Nat} {cs : Array Value} {v : Value} {a z : Int} (hw : WkAt w q cs) (hc : WkC cs v a z []) :
    Calls Try.prog 30 #[.pointer (some ⟨q, 0, none⟩)] w fun e w' => e = .returned (.tuple #[knotV 0 0 0 0 0 0 0, .bool false]) ∧ But (· = q) w w' := by
  have B0 := ba w (.cells #[.int .i64 0, .int .i64 0, .int .i64 0, .int .i64 0, .int .i64 0, .int .i64 0, .int .i64 0] 71)
  have hb := heap_alloc_new w (Obj.cells #[Value.int .i64 0, .int .i64 0, .int .i64 0, .int .i64 0, .int .i64 0, .int .i64 0, .int .i64 0] 71)
  have qlt := hw.lt
  have c3 := (hw.below B0).cell (v := .int .i64 0) 283 hc.n
  replace hb := Lib.hid hb
  replace B0 := Lib.hid B0
  clear hw hc
  obtain ⟨w1, hw1⟩ : ∃ v, Hid (v = w.alloc (Obj.cells #[Value.int .i64 0, .int .i64 0, .int .i64 0, .int .i64 0, .int .i64 0, .int .i64 0, .int .i64 0] 71)) := ⟨_, rfl⟩
  go_enter Try.func30, Try.ntmps30
  rw [← hw1.out] at hb B0 c3
  go_upto_region 1 with fail
  rw [← hw1.out]
  clear hw1
  obtain ⟨i2, hi2⟩ : ∃ i, Hid (w.heap.size = i) := ⟨_, rfl⟩
  rw [hi2.out] at hb ⊢
  obtain ⟨z0, z1, z2, z3, z4, z5, z6, f0, f1, f2, f3, f4, f5, f6⟩ := k7 hb.out
  go_wp2_with fail
  refine bodyPost_ret (v := .tuple #[knotV 0 0 0 0 0 0 0, .bool false]) (results_row2 (fn := Try.f30) (p := 2) (u := 3) rfl _ _ i2 _ _ (0, 0) _ rfl (put7 hb.out _ _ _ _ _ _ _) Try.underlying71 rfl (by kernel_rfl)) rfl ?_
  exact ⟨rfl, But.fresh (Below.but B0.out _) (put7_but (.inl rfl) _ _ _ _ _ _ _) (by rw [hi2.out]; exact Nat.le_refl _)⟩
set_option maxRecDepth 100000 in
set_option maxHeartbeats 1000000 in
theorem next_cons {w : World} {B b q : Nat} {most : Int} {t : Tr} {ns : List Nd} {free : List Nat} {nv fv : Value} {cs : Array Value} {a z : Int} {k : Kn} {s : List Kn}
    (h : Tre w B b most t ns free nv fv) (hq : ¬ Av.own b nv fv q) (hw : WkAt w q cs) (hc : WkC cs (.pointer (some ⟨b, 0, none⟩)) a z (k :: s)) (hl : KnLies ns (k :: s)) (hh : High 39 (k :: s)) :
    Calls Try.prog 30 #[.pointer (some ⟨q, 0, none⟩)] w fun e w' => e = .returned (.tuple #[.agg #[.int .i64 k.x.f, .int .i64 k.x.t, .int .i64 k.x.i, .int .i64 (place k.l), .int .i64 (place k.r), .int .i64 (k.tr.ht : Int), .int .i64 k.tr.top], .bool (decide (k.x.f < z))]) ∧ But (· = q) w w' ∧
      (k.x.f < z → ∃ cs', WkAt w' q cs' ∧ WkC cs' (.pointer (some ⟨b, 0, none⟩)) a z (spine a k.r s)) := by
  have B0 := ba w (.cells #[.int .i64 0, .int .i64 0, .int .i64 0, .int .i64 0, .int .i64 0, .int .i64 0, .int .i64 0] 71)
  have hb := heap_alloc_new w (Obj.cells #[Value.int .i64 0, .int .i64 0, .int .i64 0, .int .i64 0, .int .i64 0, .int .i64 0, .int .i64 0] 71)
  have qlt := hw.lt
  have HL := Lib.hid hl
  have HH := Lib.hid hh
  have H1 := Lib.hid (h.but (Below.but B0 (fun _ => False)) (fun _ _ k => k))
  have W1 := Lib.hid (hw.below B0)
  have HQ := Lib.hid hq
  obtain ⟨n, hn⟩ : ∃ n, Hid (s.length = n) := ⟨_, rfl⟩
  have hn39 : n ≤ 38 := by have h1 := hh.1; have h2 := hn.out; simp only [Kn.tr, Tr.ht] at h1; omega
  have hcn : cs[283]? = some (.int .i64 ((n : Int) + 1)) := by have := hc.n; rw [List.length_cons, hn.out] at this; simpa using this
  have c3 := (hw.below B0).cell (v := .int .i64 ((n : Int) + 1)) 283 hcn
  have HC := Lib.hid hc
  replace hb := Lib.hid hb
  replace B0 := Lib.hid B0
  clear hw hc hq hl hh h hcn
  obtain ⟨ht, hht⟩ : ∃ i, Hid ((k.tr.ht : Int) = i) := ⟨_, rfl⟩
  obtain ⟨tp, htp⟩ : ∃ i, Hid (k.tr.top = i) := ⟨_, rfl⟩
  obtain ⟨pl, hpl⟩ : ∃ i, Hid (place k.l = i) := ⟨_, rfl⟩
  obtain ⟨pr, hpr⟩ : ∃ i, Hid (place k.r = i) := ⟨_, rfl⟩
  rw [hht.out, htp.out, hpl.out, hpr.out]
  obtain ⟨w1, hw1⟩ : ∃ v, Hid (v = w.alloc (Obj.cells #[Value.int .i64 0, .int .i64 0, .int .i64 0, .int .i64 0, .int .i64 0, .int .i64 0, .int .i64 0] 71)) := ⟨_, rfl⟩
  go_enter Try.func30, Try.ntmps30
  rw [← hw1.out] at hb B0 c3 H1 W1
  go_upto_region 1 with fail
  rw [← hw1.out]
  clear hw1
  obtain ⟨i2, hi2⟩ : ∃ i, Hid (w.heap.size = i) := ⟨_, rfl⟩
  rw [hi2.out] at hb ⊢
  have NQ : Hid (q ≠ i2) := by show q ≠ i2; have := hi2.out; omega
  have d0 : decide ((n : Int) + 1 = 0) = false := by simp; omega
  have hw : IntKind.i64.wrap ((n : Int) + 1 - 1) = (n : Int) := by rw [IntKind.wrap_i64]; omega
  have f3 := W1.out.f 283
  go_upto_region 4 with fail
  obtain ⟨C4, at4⟩ := HC.out.pop (by rw [hn.out]; omega)
  rw [hn.out] at C4 at4
  have W4 : Hid (WkAt (w1.setCell ⟨q, 283, none⟩ (.int .i64 (n : Int))) q (cs.setIfInBounds 283 (.int .i64 (n : Int)))) := W1.out.set 283 _
  have K4 : Hid (But (· = q) w1 (w1.setCell ⟨q, 283, none⟩ (.int .i64 (n : Int)))) := (But.refl (· = q) w1).set (p := ⟨q, 283, none⟩) rfl _
  have hb4 : (w1.setCell ⟨q, 283, none⟩ (.int .i64 (n : Int))).heap[i2]? = some (.cells #[.int .i64 0, .int .i64 0, .int .i64 0, .int .i64 0, .int .i64 0, .int .i64 0, .int .i64 0] 71 (0, 0)) := (Below.heap_setCell _ _ _ _ (fun e => NQ.out e.symm)).trans hb.out
  obtain ⟨cs4, hcs4⟩ : ∃ c, Hid (cs.setIfInBounds 283 (.int .i64 (n : Int)) = c) := ⟨_, rfl⟩
  obtain ⟨w4, hw4⟩ : ∃ c, Hid (c = w1.setCell ⟨q, 283, none⟩ (.int .i64 (n : Int))) := ⟨_, rfl⟩
  rw [hcs4.out] at C4 at4 W4
  rw [← hw4.out] at W4 K4 hb4 ⊢
  clear hcs4 hw4 c3 f3 d0 hw HC W1 hb
  have H4 := Lib.hid (own_but H1.out K4.out HQ.out)
  have B4 := Lib.hid ((Below.but B0.out (· = q)).trans K4.out)
  have c3 := W4.out.cell 283 C4.n
  rw [hn.out] at c3
  have c2 := W4.out.cell 2 C4.c2
  unfold Kn.cells at at4
  rw [hht.out, htp.out, hpl.out, hpr.out] at at4
  have q0 := W4.out.cell _ (at4 0 _ rfl)
  rw [Nat.add_zero] at q0
  have q1 := W4.out.cell _ (at4 1 _ rfl)
  have q2 := W4.out.cell _ (at4 2 _ rfl)
  have q3 := W4.out.cell _ (at4 3 _ rfl)
  have q4 := W4.out.cell _ (at4 4 _ rfl)
  have q5 := W4.out.cell _ (at4 5 _ rfl)
  have q6 := W4.out.cell _ (at4 6 _ rfl)
  have n0 : (0 : Int) ≤ (n : Int) := by omega
  have n1 : (n : Int) < 40 := by omega
  replace C4 := Lib.hid C4
  replace hb4 := Lib.hid hb4
  clear at4
  have ql4 := W4.out.lt
  have il4 := (Array.getElem?_eq_some_iff.1 hb4.out).1
  go_region
  clear q0 q1 q2 q3 q4 q5 q6 c3 c2 n0 n1
  have E5 : Below w4.heap.size w4 (w4.alloc (Obj.cells #[Value.int .i64 k.x.f, .int .i64 k.x.t, .int .i64 k.x.i, .int .i64 pl, .int .i64 pr, .int .i64 ht, .int .i64 tp] 71)).drew := (ba w4 _).drew
  have hk5 : (w4.alloc (Obj.cells #[Value.int .i64 k.x.f, .int .i64 k.x.t, .int .i64 k.x.i, .int .i64 pl, .int .i64 pr, .int .i64 ht, .int .i64 tp] 71)).drew.heap[w4.heap.size]? = some (Obj.cells #[Value.int .i64 k.x.f, .int .i64 k.x.t, .int .i64 k.x.i, .int .i64 pl, .int .i64 pr, .int .i64 ht, .int .i64 tp] 71 (0, 0)) := heap_alloc_new w4 (Obj.cells #[Value.int .i64 k.x.f, .int .i64 k.x.t, .int .i64 k.x.i, .int .i64 pl, .int .i64 pr, .int .i64 ht, .int .i64 tp] 71)
  obtain ⟨w5, hw5⟩ : ∃ v, Hid (v = (w4.alloc (Obj.cells #[Value.int .i64 k.x.f, .int .i64 k.x.t, .int .i64 k.x.i, .int .i64 pl, .int .i64 pr, .int .i64 ht, .int .i64 tp] 71)).drew) := ⟨_, rfl⟩
  rw [← hw5.out] at hk5 E5 ⊢
  obtain ⟨i4, hi4⟩ : ∃ i, Hid (w4.heap.size = i) := ⟨_, rfl⟩
  have NI : Hid (i4 ≠ i2) := by show i4 ≠ i2; rw [← hi4.out]; omega
  have W5 := Lib.hid (W4.out.below E5)
  have hb5 : Hid (w5.heap[i2]? = _) := (E5.block i2 il4).trans hb4.out
  have H5 := Lib.hid (H4.out.but (Below.but E5 (fun _ => False)) (fun _ _ k => k))
  have B5 := Lib.hid (B4.out.trans (Below.but E5 _))
  rw [hi4.out] at hk5 ⊢
  clear hw5 hi4 ql4 il4 E5 W4 hb4 H4 B4 K4 H1 B0
  have c2 := W5.out.cell 2 C4.out.c2
  have KK5 := Lib.hid hk5
  obtain ⟨k0, k1, k2, k3, k4, k5, k6, g0, g1, g2, g3, g4, g5, g6⟩ := k7 hk5
  obtain ⟨z0, z1, z2, z3, z4, z5, z6, f0, f1, f2, f3, f4, f5, f6⟩ := k7 hb5.out
  clear hk5
  have ni := NI.out
  by_cases hz : z ≤ k.x.f
  · have d1 : decide (z ≤ k.x.f) = true := by simpa using hz
    have HZ := Lib.hid hz
    clear hz
    go_upto_region 5 with fail
    go_quiet (fail)
    go_wp2_with fail
    refine bodyPost_ret (v := .tuple #[.agg #[Value.int .i64 k.x.f, .int .i64 k.x.t, .int .i64 k.x.i, .int .i64 pl, .int .i64 pr, .int .i64 ht, .int .i64 tp], .bool false]) (results_row2 (fn := Try.f30) (p := 2) (u := 3) rfl _ _ i2 _ _ (0, 0) _ rfl (put7 (w := w5.drewN nq) hb5.out _ _ _ _ _ _ _) Try.underlying71 rfl (by kernel_rfl)) rfl ?_
    exact ⟨by rw [show decide (k.x.f < z) = false by simp; have := HZ.out; omega], But.fresh (B5.out.drewN nq) (put7_but (.inl rfl) _ _ _ _ _ _ _) (by rw [hi2.out]; exact Nat.le_refl _), fun hlt => by have := HZ.out; omega⟩
  · have d1 : decide (z ≤ k.x.f) = false := by simpa using hz
    have HZ := Lib.hid hz
    clear hz
    go_upto_region 5 with fail
    go_quiet (fail)
    go_upto_region 7 with fail
    have H6 : Tre (w5.drewN nq) B b most t ns free nv fv := H5.out.but ((But.refl (fun _ => False) w5).drewN nq) (fun _ _ k => k)
    have A := push_is (c := k.r) H6 HQ.out (W5.out.drewN nq) C4.out (HL.out k (by simp)).2.2 (by have h1 := HH.out.1; simp only [Kn.tr, Tr.ht] at h1; omega)
    rw [hpr.out] at A
    have hb6 : Hid ((w5.drewN nq).heap[i2]? = _) := hb5.out
    have kk6 : Hid ((w5.drewN nq).heap[i4]? = _) := KK5.out
    have B6 := Lib.hid (B5.out.drewN nq)
    have QI : Hid (¬ i4 = q) := by show ¬ _; intro e; have e1 := KK5.out; rw [e] at e1; have e2 := W5.out; unfold WkAt at e2; rw [e2] at e1; simp at e1
    obtain ⟨w6, hw6⟩ : ∃ v, Hid (v = w5.drewN nq) := ⟨_, rfl⟩
    rw [← hw6.out] at A hb6 kk6 B6 ⊢
    clear k0 k1 k2 k3 k4 k5 k6 g0 g1 g2 g3 g4 g5 g6 z0 z1 z2 z3 z4 z5 z6 f0 f1 f2 f3 f4 f5 f6 c2 d1 hw6 H6 hb5 KK5 B5 W5 H5
    have m4 := (k7 kk6.out).2.2.2.2.1
    go_upto_region 8 with (go_at_call 28; ((with_reducible refine A.mono ?_); rintro e w7 ⟨rfl, b7, cs7, a7, c7⟩; have B7 := Lib.hid b7; have W7 := Lib.hid a7; have C7 := Lib.hid c7; clear b7 a7 c7 A))
    clear m4
    have hb7 := (B7.out.block i2 (Array.getElem?_eq_some_iff.1 hb6.out).1 (fun e => NQ.out e.symm)).trans hb6.out
    have kk7 := (B7.out.block i4 (Array.getElem?_eq_some_iff.1 kk6.out).1 QI.out).trans kk6.out
    obtain ⟨k0, k1, k2, k3, k4, k5, k6, g0, g1, g2, g3, g4, g5, g6⟩ := k7 kk7
    obtain ⟨z0, z1, z2, z3, z4, z5, z6, f0, f1, f2, f3, f4, f5, f6⟩ := k7 hb7
    have HB7 := Lib.hid hb7
    clear hb7 kk7 hb6 kk6
    go_wp2_with fail
    refine bodyPost_ret (v := .tuple #[.agg #[Value.int .i64 k.x.f, .int .i64 k.x.t, .int .i64 k.x.i, .int .i64 pl, .int .i64 pr, .int .i64 ht, .int .i64 tp], .bool true]) (results_row2 (fn := Try.f30) (p := 2) (u := 3) rfl _ _ i2 _ _ (0, 0) _ rfl (put7 HB7.out _ _ _ _ _ _ _) Try.underlying71 rfl (by kernel_rfl)) rfl ?_
    refine ⟨by rw [show decide (k.x.f < z) = true by simp; have := HZ.out; omega], But.fresh (B6.out.trans B7.out) (put7_but (.inl rfl) _ _ _ _ _ _ _) (by rw [hi2.out]; exact Nat.le_refl _), fun _ => ⟨cs7, ?_, C7.out⟩⟩
    exact W7.out.but (put7_but (S := (· = i2)) rfl _ _ _ _ _ _ _) NQ.out
end Go.Proofs.Ytmgljgmfipodeaa.Itr
