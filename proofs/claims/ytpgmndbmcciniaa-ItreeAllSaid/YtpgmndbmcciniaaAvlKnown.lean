/-
  avl: the law's known answers, walked.
-/
import Derived.Test.YtpgmndbmcciniaaAvlNot
namespace Go.Proofs.Ytpgmndbmcciniaa.Av
open Go Go.RowKit
set_option linter.unusedSimpArgs false
set_option linter.unusedVariables false
attribute [local go_sem ↓] Go.wp_at_zero Go.wp_at_succ

theorem size0 {t : Tr} (h : t.size = 0) : t = .nil := by
  cases t with
  | nil => rfl
  | nd p x l r => simp only [Tr.size] at h; omega
theorem size1 {t : Tr} (h : t.size = 1) : ∃ p x, t = .nd p x .nil .nil := by
  cases t with
  | nil => simp [Tr.size] at h
  | nd p x l r =>
    simp only [Tr.size] at h
    rw [size0 (t := l) (by omega), size0 (t := r) (by omega)]
    exact ⟨p, x, rfl⟩
theorem size2 {t : Tr} (h : t.size = 2) : t.ht = 2 := by
  cases t with
  | nil => simp [Tr.size] at h
  | nd p x l r =>
    simp only [Tr.size] at h
    rcases Nat.lt_or_ge l.size 1 with k | k
    · obtain ⟨q, y, e⟩ := size1 (t := r) (by omega)
      rw [size0 (t := l) (by omega), e]; rfl
    · obtain ⟨q, y, e⟩ := size1 (t := l) (by omega)
      rw [size0 (t := r) (by omega), e]; rfl
theorem bal_three {t : Tr} {a b c : It} (h : t.Bal) (e : t.items = [a, b, c]) : ∃ p l r, t = .nd p b l r ∧ t.ht = 2 ∧ t.top = max (max b.t a.t) c.t := by
  have sz := Tr.size_items t
  rw [e] at sz
  cases t with
  | nil => simp [Tr.items] at e
  | nd p x l r =>
    simp only [Tr.size, List.length_cons, List.length_nil] at sz
    simp only [Tr.Bal] at h
    have h1 : l.size = 1 := by
      rcases (by omega : l.size = 0 ∨ l.size = 1 ∨ l.size = 2) with k | k | k
      · have := size2 (t := r) (by omega)
        rw [size0 k, this] at h
        simp only [Tr.ht] at h; omega
      · exact k
      · have := size2 k
        rw [this, size0 (t := r) (by omega)] at h
        simp only [Tr.ht] at h; omega
    obtain ⟨q, y, rfl⟩ := size1 h1
    obtain ⟨q', y', rfl⟩ := size1 (t := r) (by simp [Tr.size] at sz; omega)
    simp only [Tr.items, List.nil_append, List.singleton_append, List.cons.injEq, and_true] at e
    obtain ⟨rfl, rfl, rfl⟩ := e
    exact ⟨p, _, _, rfl, rfl, by simp [Tr.top, Tr.isNil]⟩
theorem bal_two {t : Tr} {a b : It} (e : t.items = [a, b]) : ∃ p x l r, t = .nd p x l r ∧ t.ht = 2 ∧ t.top = max a.t b.t := by
  have sz := Tr.size_items t
  rw [e] at sz
  cases t with
  | nil => simp [Tr.items] at e
  | nd p x l r =>
    simp only [Tr.size, List.length_cons, List.length_nil] at sz
    rcases (by omega : l.size = 0 ∨ l.size = 1) with k | k
    · obtain ⟨q, y, rfl⟩ := size1 (t := r) (by omega)
      obtain rfl := size0 k
      simp only [Tr.items, List.nil_append, List.cons.injEq, and_true] at e
      obtain ⟨rfl, rfl⟩ := e
      exact ⟨p, _, _, _, rfl, rfl, by simp [Tr.top, Tr.isNil]⟩
    · obtain ⟨q, y, rfl⟩ := size1 k
      obtain rfl := size0 (t := r) (by simp [Tr.size] at sz; omega)
      simp only [Tr.items, List.nil_append, List.singleton_append, List.cons.injEq, and_true] at e
      obtain ⟨rfl, rfl⟩ := e
      refine ⟨p, _, _, _, rfl, rfl, ?_⟩
      simp [Tr.top, Tr.isNil]; omega
theorem TreeIs.lt {w : World} {B b : Nat} {most : Int} {O : Nat → Prop} {L : List It} (h : TreeIs w B b most O L) : ∀ z, O z → z < w.heap.size := by
  obtain ⟨t, ns, free, nv, fv, h, rfl, rfl⟩ := h
  rintro z (rfl | hz | hz)
  · exact h.tt.lt
  · exact (World.ownsRow.lt h.rn z hz).2
  · exact (World.ownsRow.lt h.rf z hz).2
/-- Root, and the node there -/
theorem root_node {w : World} {B b : Nat} {most : Int} {O : Nat → Prop} {L : List It} (h : TreeIs w B b most O L) :
    ∃ t : Tr, t.Ok ∧ t.items = L ∧ Calls Try.prog 20 #[.pointer (some ⟨b, 0, none⟩)] w (fun e w' => e = .returned (.int .i64 (place t)) ∧ w' = w) ∧
      ∀ p x l r, t = .nd p x l r → Calls Try.prog 19 #[.pointer (some ⟨b, 0, none⟩), .int .i64 (place t)] w fun e w' => e = .returned (.tuple #[knotV x.f x.t x.i (place l) (place r) (t.ht : Int) t.top, .bool true]) ∧ Below w.heap.size w w' := by
  obtain ⟨t, ns, free, nv, fv, h, rfl, rfl⟩ := h
  refine ⟨t, h.ok, rfl, root_at h.tt (by have := h.m1; omega), ?_⟩
  rintro p x l r rfl
  exact node_at h h.ls.1 rfl
theorem len_is {w : World} {B b : Nat} {most : Int} {O : Nat → Prop} {L : List It} (h : TreeIs w B b most O L) : Calls Try.prog 17 #[.pointer (some ⟨b, 0, none⟩)] w fun e w' => e = .returned (.int .i64 (L.length : Int)) ∧ w' = w := by
  obtain ⟨t, ns, free, nv, fv, h, rfl, rfl⟩ := h
  rw [Tr.size_items]
  exact len_at h.tt (by have := h.m1; omega)
theorem items_is {w : World} {B b : Nat} {most : Int} {O : Nat → Prop} {L : List It} (h : TreeIs w B b most O L) : Calls Try.prog 15 #[.pointer (some ⟨b, 0, none⟩)] w fun e w' => ∃ v, e = .returned v ∧ RowT w' (w.heap.size + 1) v L ∧ Below w.heap.size w w' := by
  obtain ⟨t, ns, free, nv, fv, h, rfl, rfl⟩ := h
  exact items_tre h
theorem has_is {w : World} {B b : Nat} {most : Int} {O : Nat → Prop} {L : List It} {x : It} (h : TreeIs w B b most O L) : Calls Try.prog 13 #[.pointer (some ⟨b, 0, none⟩), .agg #[.int .i64 x.f, .int .i64 x.t, .int .i64 x.i]] w fun e w' => e = .returned (.bool (decide (x ∈ L))) ∧ Below w.heap.size w w' := by
  obtain ⟨t, ns, free, nv, fv, h, rfl, rfl⟩ := h
  exact has_tre h
theorem Turned.trans {w w' : World} {a : World} {B b : Nat} {most : Int} {O : Nat → Prop} {L' : List It} (k : Below a.heap.size a w) (hO : ∀ z, O z → a.heap.size ≤ z) (h : Turned w w' B b most O L') : Below a.heap.size a w' ∧ ∃ O', TreeIs w' B b most O' L' ∧ ∀ z, O' z → a.heap.size ≤ z := by
  obtain ⟨O', h1, h2, h3⟩ := h
  have ks := k.size
  refine ⟨k.trans ⟨h2.os, h2.tape, h2.output, h2.size, fun z hz => h2.block z (by omega) (fun o => by have := hO z o; omega)⟩, O', h1, fun z hz => ?_⟩
  rcases h3 z hz with q | q
  · exact hO z q
  · omega
set_option maxRecDepth 100000 in
set_option maxHeartbeats 2000000 in
theorem known_any (w : World) : Calls Try.prog 7 #[] w fun e w' => e = .returned (.bool true) ∧ Below w.heap.size w w' := by
  have p1 : putA 3 ⟨1, 2, 0⟩ [] = (0, [⟨1, 2, 0⟩]) := by decide
  have p2 : putA 3 ⟨2, 9, 0⟩ [⟨1, 2, 0⟩] = (0, [⟨1, 2, 0⟩, ⟨2, 9, 0⟩]) := by decide
  have p3 : putA 3 ⟨3, 4, 0⟩ [⟨1, 2, 0⟩, ⟨2, 9, 0⟩] = (0, [⟨1, 2, 0⟩, ⟨2, 9, 0⟩, ⟨3, 4, 0⟩]) := by decide
  have p4 : putA 3 ⟨5, 6, 0⟩ [⟨1, 2, 0⟩, ⟨2, 9, 0⟩, ⟨3, 4, 0⟩] = (7, [⟨1, 2, 0⟩, ⟨2, 9, 0⟩, ⟨3, 4, 0⟩]) := by decide
  have p5 : putA 3 ⟨3, 4, 0⟩ [⟨1, 2, 0⟩, ⟨2, 9, 0⟩, ⟨3, 4, 0⟩] = (6, [⟨1, 2, 0⟩, ⟨2, 9, 0⟩, ⟨3, 4, 0⟩]) := by decide
  have p6 : delA ⟨2, 9, 0⟩ [⟨1, 2, 0⟩, ⟨2, 9, 0⟩, ⟨3, 4, 0⟩] = (0, [⟨1, 2, 0⟩, ⟨3, 4, 0⟩]) := by decide
  replace p1 := Lib.hid p1
  replace p2 := Lib.hid p2
  replace p3 := Lib.hid p3
  replace p4 := Lib.hid p4
  replace p5 := Lib.hid p5
  replace p6 := Lib.hid p6
  go_enter Try.func7, Try.ntmps7
  go_upto_region 4 with (go_at_call 8; (with_reducible refine (new_is (B := w.heap.size) (by omega) (by omega) (Nat.le_refl _)).mono ?_); rintro e w1 ⟨rfl, t1, b1⟩; have T1 := Lib.hid t1; have B1 := Lib.hid b1; clear t1 b1)
  have Q1 : Hid (∀ z, (fun z => z = w.heap.size) z → w.heap.size ≤ z) := fun z hz => by have := hz; show _ ≤ _; omega
  obtain ⟨O1, hO1⟩ : ∃ O : Nat → Prop, Hid ((fun z => z = w.heap.size) = O) := ⟨_, rfl⟩
  have T1 : Hid (TreeIs w1 w.heap.size w.heap.size 3 O1 []) := by show TreeIs _ _ _ _ _ _; rw [← hO1.out]; exact T1.out
  replace Q1 : Hid (∀ z, O1 z → w.heap.size ≤ z) := by show ∀ z, O1 z → _; rw [← hO1.out]; exact Q1.out
  have A1 := insert_is (x := ⟨1, 2, 0⟩) T1.out
  rw [p1.out] at A1
  dsimp only at A1
  go_upto_region 9 with (first
    | (go_at_call 9; (with_reducible refine A1.mono ?_); rintro e w2 ⟨rfl, t2⟩; obtain ⟨b2, O2, t2, o2⟩ := t2.trans B1.out Q1.out; have B2 := Lib.hid b2; have T2 := Lib.hid t2; have Q2 := Lib.hid o2; clear t2 b2 o2 A1; have A2 := insert_is (x := ⟨2, 9, 0⟩) T2.out; rw [p2.out] at A2; dsimp only at A2)
    | (go_at_call 9; (with_reducible refine A2.mono ?_); rintro e w3 ⟨rfl, t3⟩; obtain ⟨b3, O3, t3, o3⟩ := t3.trans B2.out Q2.out; have B3 := Lib.hid b3; have T3 := Lib.hid t3; have Q3 := Lib.hid o3; clear t3 b3 o3 A2; have A3 := insert_is (x := ⟨3, 4, 0⟩) T3.out; rw [p3.out] at A3; dsimp only at A3)
    | (go_at_call 9; (with_reducible refine A3.mono ?_); rintro e w4 ⟨rfl, t4⟩; obtain ⟨b4, O4, t4, o4⟩ := t4.trans B3.out Q3.out; have B4 := Lib.hid b4; have T4 := Lib.hid t4; have Q4 := Lib.hid o4; clear t4 b4 o4 A3; have A4 := insert_is (x := ⟨5, 6, 0⟩) T4.out; rw [p4.out] at A4; dsimp only at A4)
    | (go_at_call 9; (with_reducible refine A4.mono ?_); rintro e w5 ⟨rfl, t5⟩; obtain ⟨b5, O5, t5, o5⟩ := t5.trans B4.out Q4.out; have B5 := Lib.hid b5; have T5 := Lib.hid t5; have Q5 := Lib.hid o5; clear t5 b5 o5 A4; have A5 := insert_is (x := ⟨3, 4, 0⟩) T5.out; rw [p5.out] at A5; dsimp only at A5)
    | (go_at_call 9; (with_reducible refine A5.mono ?_); rintro e w6 ⟨rfl, t6⟩; obtain ⟨b6, O6, t6, o6⟩ := t6.trans B5.out Q5.out; have B6 := Lib.hid b6; have T6 := Lib.hid t6; have Q6 := Lib.hid o6; clear t6 b6 o6 A5; skip))
  clear p1 p2 p3 p4 p5
  have LT6 := Lib.hid T6.out.lt
  obtain ⟨t, okt, et, R1, N1⟩ := root_node T6.out
  obtain ⟨p, l, r, e1, h2, h3⟩ := bal_three okt.bal et
  have N := N1 p _ l r e1
  rw [h2, h3] at N
  unfold knotV at N
  rw [show (max (max (9 : Int) 2) 4) = 9 by decide] at N
  obtain ⟨pt, hpt⟩ : ∃ z, Hid (place t = z) := ⟨_, rfl⟩
  obtain ⟨pl, hpl⟩ : ∃ z, Hid (place l = z) := ⟨_, rfl⟩
  obtain ⟨pr, hpr⟩ : ∃ z, Hid (place r = z) := ⟨_, rfl⟩
  rw [hpt.out] at R1 N
  rw [hpl.out, hpr.out] at N
  dsimp only at N
  rw [show (((2 : Nat) : Int)) = 2 from rfl] at N
  clear e1 h2 h3 N1 okt et hpt hpl hpr
  go_upto_region 10 with (first
    | (go_at_call 20; (with_reducible refine R1.mono ?_); rintro e w20 ⟨rfl, hq⟩; obtain rfl := hq.symm)
    | (go_at_call 19; (with_reducible refine N.mono ?_); rintro e w7 ⟨rfl, b7⟩; have B7 := Lib.hid b7; clear b7))
  clear R1 N
  have hb8 : (w7.alloc (Obj.cells #[Value.int .i64 2, .int .i64 9, .int .i64 0, .int .i64 pl, .int .i64 pr, .int .i64 2, .int .i64 9] 49)).heap[w7.heap.size]? = some (.cells #[Value.int .i64 2, .int .i64 9, .int .i64 0, .int .i64 pl, .int .i64 pr, .int .i64 2, .int .i64 9] 49 (0, 0)) := heap_alloc_new w7 _
  have K8 : Below w6.heap.size w6 (w7.alloc (Obj.cells #[Value.int .i64 2, .int .i64 9, .int .i64 0, .int .i64 pl, .int .i64 pr, .int .i64 2, .int .i64 9] 49)) := bt B7.out (ba _ _)
  have S7 := B7.out.size
  obtain ⟨w8, hw8⟩ : ∃ v, Hid (v = w7.alloc (Obj.cells #[Value.int .i64 2, .int .i64 9, .int .i64 0, .int .i64 pl, .int .i64 pr, .int .i64 2, .int .i64 9] 49)) := ⟨_, rfl⟩
  rw [← hw8.out] at hb8 K8 ⊢
  obtain ⟨i8, hi8⟩ : ∃ i, Hid (w7.heap.size = i) := ⟨_, rfl⟩
  rw [hi8.out] at hb8 S7 ⊢
  clear hw8 hi8 B7
  have T8 := Lib.hid (T6.out.but (Below.but K8 (fun _ => False)) (fun _ _ z => z))
  have B8 := Lib.hid (bt B6.out K8)
  have N8 : Hid (¬ O6 i8) := fun z => by have := LT6.out i8 z; omega
  have I8 : Hid (i8 < w8.heap.size) := (Array.getElem?_eq_some_iff.1 hb8).1
  have A6 := delete_is (x := ⟨2, 9, 0⟩) T8.out
  rw [p6.out] at A6
  dsimp only at A6
  replace hb8 := Lib.hid hb8
  clear K8 S7
  go_upto_region 11 with (go_at_call 11; (with_reducible refine A6.mono ?_); rintro e w9 ⟨rfl, t9⟩; have T9 := Lib.hid t9; clear t9 A6)
  obtain ⟨B9, O9', TB9, _⟩ := T9.out.trans B8.out Q6.out
  obtain ⟨O9, T9i, K9, _⟩ := T9.out
  have hb9 := (K9.block i8 I8.out N8.out).trans hb8.out
  have I9 : Hid (i8 < w9.heap.size) := (Array.getElem?_eq_some_iff.1 hb9).1
  obtain ⟨t, okt, et, R1, N1⟩ := root_node T9i
  obtain ⟨p, y, l, r, e1, h2, h3⟩ := bal_two et
  have N := N1 p _ l r e1
  rw [h2, h3] at N
  unfold knotV at N
  rw [show (max ((⟨1, 2, 0⟩ : It).t) ((⟨3, 4, 0⟩ : It).t)) = 4 by decide] at N
  obtain ⟨pt, hpt⟩ : ∃ z, Hid (place t = z) := ⟨_, rfl⟩
  obtain ⟨pl2, hpl⟩ : ∃ z, Hid (place l = z) := ⟨_, rfl⟩
  obtain ⟨pr2, hpr⟩ : ∃ z, Hid (place r = z) := ⟨_, rfl⟩
  rw [hpt.out] at R1 N
  rw [hpl.out, hpr.out] at N
  rw [show (((2 : Nat) : Int)) = 2 from rfl] at N
  replace B9 := Lib.hid B9
  replace T9i := Lib.hid T9i
  replace hb9 := Lib.hid hb9
  clear e1 h2 h3 N1 okt et hpt hpl hpr TB9 K9 T9 T8 N8 I8 hb8 T6 B6 Q6 B8 p6
  go_upto_region 12 with (first
    | (go_at_call 20; (with_reducible refine R1.mono ?_); rintro e w20 ⟨rfl, hq⟩; obtain rfl := hq.symm)
    | (go_at_call 19; (with_reducible refine N.mono ?_); rintro e w10 ⟨rfl, b10⟩; have B10 := Lib.hid b10; clear b10))
  clear R1 N
  have hb11 : (w10.alloc (Obj.cells #[Value.int .i64 y.f, .int .i64 y.t, .int .i64 y.i, .int .i64 pl2, .int .i64 pr2, .int .i64 2, .int .i64 4] 49)).heap[w10.heap.size]? = some (.cells #[Value.int .i64 y.f, .int .i64 y.t, .int .i64 y.i, .int .i64 pl2, .int .i64 pr2, .int .i64 2, .int .i64 4] 49 (0, 0)) := heap_alloc_new w10 _
  have K11 : Below w9.heap.size w9 (w10.alloc (Obj.cells #[Value.int .i64 y.f, .int .i64 y.t, .int .i64 y.i, .int .i64 pl2, .int .i64 pr2, .int .i64 2, .int .i64 4] 49)) := bt B10.out (ba _ _)
  obtain ⟨w11, hw11⟩ : ∃ v, Hid (v = w10.alloc (Obj.cells #[Value.int .i64 y.f, .int .i64 y.t, .int .i64 y.i, .int .i64 pl2, .int .i64 pr2, .int .i64 2, .int .i64 4] 49)) := ⟨_, rfl⟩
  rw [← hw11.out] at hb11 K11 ⊢
  obtain ⟨i11, hi11⟩ : ∃ i, Hid (w10.heap.size = i) := ⟨_, rfl⟩
  rw [hi11.out] at hb11 ⊢
  clear hw11 hi11 B10
  have hb8 := (K11.block i8 I9.out).trans hb9.out
  have T11 := T9i.out.but (Below.but K11 (fun _ => False)) (fun _ _ z => z)
  have L11 := len_is T11
  have a1 : w11.cell? ⟨i8, 1, none⟩ = some (.int .i64 9) := by rw [cell_of_row w11 _ _ _ _ (0, 0) hb8]; rfl
  have a5 : w11.cell? ⟨i8, 5, none⟩ = some (.int .i64 2) := by rw [cell_of_row w11 _ _ _ _ (0, 0) hb8]; rfl
  have a6 : w11.cell? ⟨i8, 6, none⟩ = some (.int .i64 9) := by rw [cell_of_row w11 _ _ _ _ (0, 0) hb8]; rfl
  have b5 : w11.cell? ⟨i11, 5, none⟩ = some (.int .i64 2) := by rw [cell_of_row w11 _ _ _ _ (0, 0) hb11]; rfl
  have b6 : w11.cell? ⟨i11, 6, none⟩ = some (.int .i64 4) := by rw [cell_of_row w11 _ _ _ _ (0, 0) hb11]; rfl
  rw [show (((([⟨1, 2, 0⟩, ⟨3, 4, 0⟩] : List It).length : Nat) : Int)) = 2 from rfl] at L11
  have B11 := Lib.hid (bt B9.out K11)
  clear K11 hb8 hb11 T11 hb9 I9 T9i B9
  go_wp2_with (go_at_call 17; (with_reducible refine L11.mono ?_); rintro e w20 ⟨rfl, hq⟩; obtain rfl := hq.symm)
  go_ret
  exact ⟨rfl, B11.out⟩
end Go.Proofs.Ytpgmndbmcciniaa.Av
