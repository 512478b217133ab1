/-
  itree: First, Last: the first item that begins at a day or later, the last one that begins at it or before.
-/
import Derived.Test.YtpgmndbmcciniaaItrAll
namespace Go.Proofs.Ytpgmndbmcciniaa.Itr
open Go Go.RowKit Av
set_option linter.unusedSimpArgs false
set_option linter.unusedVariables false
attribute [local go_sem ↓] Go.wp_at_zero Go.wp_at_succ

theorem put3 {w : World} {i : Nat} {a0 a1 a2 : Value} (h : w.heap[i]? = some (.cells #[a0, a1, a2] 33 (0, 0))) (v0 v1 v2 : Value) :
    (((w.setCell ⟨i, 0, none⟩ v0).setCell ⟨i, 1, none⟩ v1).setCell ⟨i, 2, none⟩ v2).heap[i]? = some (.cells #[v0, v1, v2] 33 (0, 0)) := by
  have h0 := heap_setCell_same w i 0 _ _ v0 h
  have h1 := heap_setCell_same _ i 1 _ _ v1 h0
  have h2 := heap_setCell_same _ i 2 _ _ v2 h1
  simp only [List.setIfInBounds_toArray, List.set_cons_zero, List.set_cons_succ] at h2
  exact h2
theorem put3_but {w : World} {S : Nat → Prop} {i : Nat} (h : S i) (v0 v1 v2 : Value) : But S w (((w.setCell ⟨i, 0, none⟩ v0).setCell ⟨i, 1, none⟩ v1).setCell ⟨i, 2, none⟩ v2) :=
  ((((But.refl S w).set (p := ⟨i, 0, none⟩) h _).set (p := ⟨i, 1, none⟩) h _).set (p := ⟨i, 2, none⟩) h _)
theorem k3 {w : World} {i : Nat} {a0 a1 a2 : Value} (h : w.heap[i]? = some (.cells #[a0, a1, a2] 33 (0, 0))) :
    w.cell? ⟨i, 0, none⟩ = some a0 ∧ w.cell? ⟨i, 1, none⟩ = some a1 ∧ w.cell? ⟨i, 2, none⟩ = some a2 ∧ w.frozen? ⟨i, 0, none⟩ = false ∧ w.frozen? ⟨i, 1, none⟩ = false ∧ w.frozen? ⟨i, 2, none⟩ = false := by
  refine ⟨?_, ?_, ?_, frozen_of_row w _ _ _ _ h, frozen_of_row w _ _ _ _ h, frozen_of_row w _ _ _ _ h⟩ <;> (rw [cell_of_row w _ _ _ _ (0, 0) h]; rfl)
/-- the first item that begins at the day or later -/
def firstA (day : Int) (L : List It) : Option It := L.find? fun x => decide (day ≤ x.f)
/-- the last item that begins at the day or before -/
def lastA (day : Int) (L : List It) : Option It := L.reverse.find? fun x => decide (x.f ≤ day)
theorem first_hit {day : Int} {p : Nat} {x : It} {l r : Tr} (h : day ≤ x.f) (q : Option It) : (firstA day l.items).or (some x) = (firstA day (Tr.nd p x l r).items).or q := by
  unfold firstA
  simp [Tr.items, List.find?_append, h, Option.or_assoc]
theorem first_miss {day : Int} {p : Nat} {x : It} {l r : Tr} (ok : Tr.Sorted (Tr.nd p x l r).items) (h : ¬ day ≤ x.f) (q : Option It) : (firstA day r.items).or q = (firstA day (Tr.nd p x l r).items).or q := by
  have hs := sorted_f ok
  simp only [Tr.items] at hs
  have hn : l.items.find? (fun x => decide (day ≤ x.f)) = none := by
    rw [List.find?_eq_none]
    intro y hy
    have := (List.pairwise_append.1 hs).2.2 y hy x (by simp)
    simp; omega
  unfold firstA
  simp [Tr.items, List.find?_append, h, hn]
theorem last_hit {day : Int} {p : Nat} {x : It} {l r : Tr} (h : x.f ≤ day) (q : Option It) : (lastA day r.items).or (some x) = (lastA day (Tr.nd p x l r).items).or q := by
  unfold lastA
  simp [Tr.items, List.find?_append, h, Option.or_assoc]
theorem last_miss {day : Int} {p : Nat} {x : It} {l r : Tr} (ok : Tr.Sorted (Tr.nd p x l r).items) (h : ¬ x.f ≤ day) (q : Option It) : (lastA day l.items).or q = (lastA day (Tr.nd p x l r).items).or q := by
  have hs := sorted_f ok
  simp only [Tr.items] at hs
  have hn : r.items.reverse.find? (fun x => decide (x.f ≤ day)) = none := by
    rw [List.find?_eq_none]
    intro y hy
    have := (List.pairwise_cons.1 (List.pairwise_append.1 hs).2.1).1 y (by simpa using hy)
    simp; omega
  unfold lastA
  simp [Tr.items, List.find?_append, h, hn]
theorem below_of_but {w w1 w' : World} {i : Nat} (h : Below i w w1) (hi : i ≤ w.heap.size) (k : But (· = i) w1 w') : Below i w w' :=
  ⟨k.os.trans h.os, k.tape.trans h.tape, k.output.trans h.output, Nat.le_trans h.size k.size, fun j hj => (k.block j (by have := h.size; omega) (by omega)).trans (h.block j hj)⟩


set_option maxRecDepth 100000 in
set_option maxHeartbeats 1000000 in
theorem first_is {w : World} {B b : Nat} {most : Int} {O : Nat → Prop} {L : List It} (h : TreeIs w B b most O L) (day : Int) :
    Calls Try.prog 30 #[.pointer (some ⟨b, 0, none⟩), .int .i64 day] w fun e w' => e = .returned (.tuple #[itV ((firstA day L).getD ⟨0, 0, 0⟩), .bool (firstA day L).isSome]) ∧ Below w.heap.size w w' := by
  obtain ⟨t, ns, free, nv, fv, h, rfl, rfl⟩ := h
  have B0 := ba w (.cells #[.int .i64 0, .int .i64 0, .int .i64 0] 33)
  have x0 := heap_alloc_new w (Obj.cells #[.int .i64 0, .int .i64 0, .int .i64 0] 33)
  have H0 := h.but (Below.but B0 (fun _ => False)) (fun _ _ k => k)
  have A := root_at H0.tt (by have := h.m1; omega)
  have HL : Hid (∀ g, Av.own b nv fv g → g < w.heap.size) := TreeIs.lt ⟨t, ns, free, nv, fv, h, rfl, rfl⟩
  have LT := Lib.hid h.ls
  have OK := Lib.hid h.ok.sorted
  obtain ⟨S, hS⟩ : ∃ S, Hid (firstA day t.items = S) := ⟨_, rfl⟩
  rw [hS.out]
  clear h
  unfold itV
  go_enter Try.func30, Try.ntmps30
  go_wp2_with (go_at_call 20; (with_reducible refine A.mono ?_); rintro e w20 ⟨rfl, rfl⟩)
  clear A
  obtain ⟨w1, hw1⟩ : ∃ v, Hid (v = w.alloc (Obj.cells #[.int .i64 0, .int .i64 0, .int .i64 0] 33)) := ⟨_, rfl⟩
  rw [← hw1.out] at B0 x0 H0 ⊢
  clear hw1
  obtain ⟨i4, hi4⟩ : ∃ i, Hid (w.heap.size = i) := ⟨_, rfl⟩
  rw [hi4.out] at B0 x0 HL ⊢
  have H := Lib.hid H0
  replace B0 := Lib.hid B0
  replace x0 := Lib.hid x0
  clear H0
  go_loopw [5, 6] (fun u v wr => ∃ (c : Tr) (q : Option It), u = .bool q.isSome ∧ v = .int .i64 (place c) ∧ Hid ((firstA day c.items).or q = S) ∧ Hid (Lies ns c) ∧ Hid (Tr.Sorted c.items) ∧ Hid (wr.heap[i4]? = some (.cells #[.int .i64 (q.getD ⟨0, 0, 0⟩).f, .int .i64 (q.getD ⟨0, 0, 0⟩).t, .int .i64 (q.getD ⟨0, 0, 0⟩).i] 33 (0, 0))) ∧ Hid (But (· = i4) w1 wr)) (fun _ v _ => (hOf ns (intOf v)).toNat)
  case atStart => exact ⟨t, none, rfl, rfl, by show _ = _; rw [Option.or_none]; exact hS.out, LT.out, OK.out, x0.out, But.refl _ _⟩
  case round =>
    obtain ⟨wo, rfl⟩ : ∃ wo : World, wo = wr := ⟨_, rfl⟩
    clear x0 LT OK hS
    obtain ⟨c, q, rfl, rfl, hS, LT, OK, x0, BB⟩ := hrel
    have H1 := Lib.hid (H.out.but BB.out (fun g hg e => by have := HL.out g hg; omega))
    obtain ⟨qs, hqs⟩ : ∃ i, Hid (q.isSome = i) := ⟨_, rfl⟩
    obtain ⟨qx, hqx⟩ : ∃ i, Hid (q.getD ⟨0, 0, 0⟩ = i) := ⟨_, rfl⟩
    rw [hqs.out]
    rw [hqx.out] at x0
    cases c with
    | nil =>
      have A := node_off H1.out
      unfold knotV at A
      rw [show place Tr.nil = (-1 : Int) from rfl]
      go_upto_region 4 with (go_at_call 19; (with_reducible refine A.mono ?_); rintro e w7 ⟨rfl, b7⟩; have B7 := Lib.hid b7; clear b7 A)
      have x7 := (bt B7.out (ba w7 (Obj.cells #[Value.int .i64 0, .int .i64 0, .int .i64 0, .int .i64 0, .int .i64 0, .int .i64 0, .int .i64 0] 49))).block i4 (Array.getElem?_eq_some_iff.1 x0.out).1 |>.trans x0.out
      obtain ⟨k0, k1, k2, g0, g1, g2⟩ := k3 x7
      have X7 := Lib.hid x7
      clear x7
      go_wp2_with fail
      refine bodyPost_ret (v := .tuple #[.agg #[.int .i64 qx.f, .int .i64 qx.t, .int .i64 qx.i], .bool qs]) (results_row2 (fn := Try.f30) (p := 4) (u := 5) rfl _ _ i4 _ _ (0, 0) _ rfl (put3 X7.out _ _ _) Try.underlying33 rfl (by kernel_rfl)) rfl ?_
      have e1 : S = q := by rw [← hS.out]; rfl
      refine ⟨by rw [e1, hqx.out, hqs.out], ?_⟩
      rw [hi4.out]
      exact below_of_but B0.out (by rw [hi4.out]; exact Nat.le_refl _) ((BB.out.trans (Below.but (bt B7.out (ba _ _)) _)).trans (put3_but (S := (· = i4)) rfl _ _ _))
    | nd p x l r =>
      have A := node_of H1.out LT.out
      obtain ⟨hc, hhc⟩ : ∃ i, Hid (((Tr.nd p x l r).ht : Int) = i) := ⟨_, rfl⟩
      obtain ⟨tp, htp⟩ : ∃ i, Hid ((Tr.nd p x l r).top = i) := ⟨_, rfl⟩
      obtain ⟨pl, hpl⟩ : ∃ i, Hid (place l = i) := ⟨_, rfl⟩
      obtain ⟨pr, hpr⟩ : ∃ i, Hid (place r = i) := ⟨_, rfl⟩
      rw [hhc.out, htp.out, hpl.out, hpr.out] at A
      have ms := hOf_lies LT.out
      have ml := hOf_lies LT.out.2.1
      have mr := hOf_lies LT.out.2.2
      rw [show place (Tr.nd p x l r) = (p : Int) from rfl] at ms ⊢
      go_upto_region 4 with (go_at_call 19; (with_reducible refine A.mono ?_); rintro e w7 ⟨rfl, b7⟩; have B7 := Lib.hid b7; clear b7 A)
      have K8 := bt B7.out (ba w7 (Obj.cells #[Value.int .i64 x.f, .int .i64 x.t, .int .i64 x.i, .int .i64 pl, .int .i64 pr, .int .i64 hc, .int .i64 tp] 49))
      have hb8 := heap_alloc_new w7 (Obj.cells #[Value.int .i64 x.f, .int .i64 x.t, .int .i64 x.i, .int .i64 pl, .int .i64 pr, .int .i64 hc, .int .i64 tp] 49)
      have S7 := B7.out.size
      have qlt := (Array.getElem?_eq_some_iff.1 x0.out).1
      have x8 := (K8.block i4 qlt).trans x0.out
      obtain ⟨w8, hw8⟩ : ∃ v, Hid (v = w7.alloc (Obj.cells #[Value.int .i64 x.f, .int .i64 x.t, .int .i64 x.i, .int .i64 pl, .int .i64 pr, .int .i64 hc, .int .i64 tp] 49)) := ⟨_, rfl⟩
      rw [← hw8.out] at hb8 K8 x8 ⊢
      obtain ⟨i8, hi8⟩ : ∃ i, Hid (w7.heap.size = i) := ⟨_, rfl⟩
      rw [hi8.out] at hb8 S7 ⊢
      have NQ : Hid (i4 ≠ i8) := by show i4 ≠ i8; omega
      have nq := NQ.out
      clear hw8 hi8 B7 qlt S7
      have B8 := Lib.hid (BB.out.trans (Below.but K8 _))
      obtain ⟨m0, m1, m2, m3, m4, m5, m6, n0, n1, n2, n3, n4, n5, n6⟩ := k7 hb8
      obtain ⟨k0, k1, k2, g0, g1, g2⟩ := k3 x8
      have X8 := Lib.hid x8
      have MS := Lib.hid ms
      have ML := Lib.hid ml
      have MR := Lib.hid mr
      clear x8 hb8 ms ml mr K8
      by_cases hle : day ≤ x.f
      · have d1 : decide (day ≤ x.f) = true := by simpa using hle
        have HLE := Lib.hid hle
        clear hle
        go_wp2_with fail
        go_roundw
        case rel => exact ⟨l, some x, rfl, by rw [hpl.out], (first_hit HLE.out q).trans hS.out, LT.out.2.1, (List.pairwise_append.1 OK.out).1, put3 X8.out _ _ _, B8.out.trans (put3_but (S := (· = i4)) rfl _ _ _)⟩
        case measure => rw [← hpl.out, intOf, intOf, MS.out, ML.out]; simp only [Tr.ht]; omega
      · have d1 : decide (day ≤ x.f) = false := by simpa using hle
        have HLE := Lib.hid hle
        clear hle
        go_wp2_with fail
        go_roundw
        case rel => exact ⟨r, q, by rw [hqs.out], by rw [hpr.out], (first_miss OK.out HLE.out q).trans hS.out, LT.out.2.2, (List.pairwise_cons.1 (List.pairwise_append.1 OK.out).2.1).2, by rw [hqx.out]; exact X8.out, B8.out⟩
        case measure => rw [← hpr.out, intOf, intOf, MS.out, MR.out]; simp only [Tr.ht]; omega


set_option maxRecDepth 100000 in
set_option maxHeartbeats 1000000 in
theorem last_is {w : World} {B b : Nat} {most : Int} {O : Nat → Prop} {L : List It} (h : TreeIs w B b most O L) (day : Int) :
    Calls Try.prog 31 #[.pointer (some ⟨b, 0, none⟩), .int .i64 day] w fun e w' => e = .returned (.tuple #[itV ((lastA day L).getD ⟨0, 0, 0⟩), .bool (lastA day L).isSome]) ∧ Below w.heap.size w w' := by
  obtain ⟨t, ns, free, nv, fv, h, rfl, rfl⟩ := h
  have B0 := ba w (.cells #[.int .i64 0, .int .i64 0, .int .i64 0] 33)
  have x0 := heap_alloc_new w (Obj.cells #[.int .i64 0, .int .i64 0, .int .i64 0] 33)
  have H0 := h.but (Below.but B0 (fun _ => False)) (fun _ _ k => k)
  have A := root_at H0.tt (by have := h.m1; omega)
  have HL : Hid (∀ g, Av.own b nv fv g → g < w.heap.size) := TreeIs.lt ⟨t, ns, free, nv, fv, h, rfl, rfl⟩
  have LT := Lib.hid h.ls
  have OK := Lib.hid h.ok.sorted
  obtain ⟨S, hS⟩ : ∃ S, Hid (lastA day t.items = S) := ⟨_, rfl⟩
  rw [hS.out]
  clear h
  unfold itV
  go_enter Try.func31, Try.ntmps31
  go_wp2_with (go_at_call 20; (with_reducible refine A.mono ?_); rintro e w20 ⟨rfl, rfl⟩)
  clear A
  obtain ⟨w1, hw1⟩ : ∃ v, Hid (v = w.alloc (Obj.cells #[.int .i64 0, .int .i64 0, .int .i64 0] 33)) := ⟨_, rfl⟩
  rw [← hw1.out] at B0 x0 H0 ⊢
  clear hw1
  obtain ⟨i4, hi4⟩ : ∃ i, Hid (w.heap.size = i) := ⟨_, rfl⟩
  rw [hi4.out] at B0 x0 HL ⊢
  have H := Lib.hid H0
  replace B0 := Lib.hid B0
  replace x0 := Lib.hid x0
  clear H0
  go_loopw [5, 6] (fun u v wr => ∃ (c : Tr) (q : Option It), u = .bool q.isSome ∧ v = .int .i64 (place c) ∧ Hid ((lastA day c.items).or q = S) ∧ Hid (Lies ns c) ∧ Hid (Tr.Sorted c.items) ∧ Hid (wr.heap[i4]? = some (.cells #[.int .i64 (q.getD ⟨0, 0, 0⟩).f, .int .i64 (q.getD ⟨0, 0, 0⟩).t, .int .i64 (q.getD ⟨0, 0, 0⟩).i] 33 (0, 0))) ∧ Hid (But (· = i4) w1 wr)) (fun _ v _ => (hOf ns (intOf v)).toNat)
  case atStart => exact ⟨t, none, rfl, rfl, by show _ = _; rw [Option.or_none]; exact hS.out, LT.out, OK.out, x0.out, But.refl _ _⟩
  case round =>
    obtain ⟨wo, rfl⟩ : ∃ wo : World, wo = wr := ⟨_, rfl⟩
    clear x0 LT OK hS
    obtain ⟨c, q, rfl, rfl, hS, LT, OK, x0, BB⟩ := hrel
    have H1 := Lib.hid (H.out.but BB.out (fun g hg e => by have := HL.out g hg; omega))
    obtain ⟨qs, hqs⟩ : ∃ i, Hid (q.isSome = i) := ⟨_, rfl⟩
    obtain ⟨qx, hqx⟩ : ∃ i, Hid (q.getD ⟨0, 0, 0⟩ = i) := ⟨_, rfl⟩
    rw [hqs.out]
    rw [hqx.out] at x0
    cases c with
    | nil =>
      have A := node_off H1.out
      unfold knotV at A
      rw [show place Tr.nil = (-1 : Int) from rfl]
      go_upto_region 4 with (go_at_call 19; (with_reducible refine A.mono ?_); rintro e w7 ⟨rfl, b7⟩; have B7 := Lib.hid b7; clear b7 A)
      have x7 := (bt B7.out (ba w7 (Obj.cells #[Value.int .i64 0, .int .i64 0, .int .i64 0, .int .i64 0, .int .i64 0, .int .i64 0, .int .i64 0] 49))).block i4 (Array.getElem?_eq_some_iff.1 x0.out).1 |>.trans x0.out
      obtain ⟨k0, k1, k2, g0, g1, g2⟩ := k3 x7
      have X7 := Lib.hid x7
      clear x7
      go_wp2_with fail
      refine bodyPost_ret (v := .tuple #[.agg #[.int .i64 qx.f, .int .i64 qx.t, .int .i64 qx.i], .bool qs]) (results_row2 (fn := Try.f31) (p := 4) (u := 5) rfl _ _ i4 _ _ (0, 0) _ rfl (put3 X7.out _ _ _) Try.underlying33 rfl (by kernel_rfl)) rfl ?_
      have e1 : S = q := by rw [← hS.out]; rfl
      refine ⟨by rw [e1, hqx.out, hqs.out], ?_⟩
      rw [hi4.out]
      exact below_of_but B0.out (by rw [hi4.out]; exact Nat.le_refl _) ((BB.out.trans (Below.but (bt B7.out (ba _ _)) _)).trans (put3_but (S := (· = i4)) rfl _ _ _))
    | nd p x l r =>
      have A := node_of H1.out LT.out
      obtain ⟨hc, hhc⟩ : ∃ i, Hid (((Tr.nd p x l r).ht : Int) = i) := ⟨_, rfl⟩
      obtain ⟨tp, htp⟩ : ∃ i, Hid ((Tr.nd p x l r).top = i) := ⟨_, rfl⟩
      obtain ⟨pl, hpl⟩ : ∃ i, Hid (place l = i) := ⟨_, rfl⟩
      obtain ⟨pr, hpr⟩ : ∃ i, Hid (place r = i) := ⟨_, rfl⟩
      rw [hhc.out, htp.out, hpl.out, hpr.out] at A
      have ms := hOf_lies LT.out
      have ml := hOf_lies LT.out.2.1
      have mr := hOf_lies LT.out.2.2
      rw [show place (Tr.nd p x l r) = (p : Int) from rfl] at ms ⊢
      go_upto_region 4 with (go_at_call 19; (with_reducible refine A.mono ?_); rintro e w7 ⟨rfl, b7⟩; have B7 := Lib.hid b7; clear b7 A)
      have K8 := bt B7.out (ba w7 (Obj.cells #[Value.int .i64 x.f, .int .i64 x.t, .int .i64 x.i, .int .i64 pl, .int .i64 pr, .int .i64 hc, .int .i64 tp] 49))
      have hb8 := heap_alloc_new w7 (Obj.cells #[Value.int .i64 x.f, .int .i64 x.t, .int .i64 x.i, .int .i64 pl, .int .i64 pr, .int .i64 hc, .int .i64 tp] 49)
      have S7 := B7.out.size
      have qlt := (Array.getElem?_eq_some_iff.1 x0.out).1
      have x8 := (K8.block i4 qlt).trans x0.out
      obtain ⟨w8, hw8⟩ : ∃ v, Hid (v = w7.alloc (Obj.cells #[Value.int .i64 x.f, .int .i64 x.t, .int .i64 x.i, .int .i64 pl, .int .i64 pr, .int .i64 hc, .int .i64 tp] 49)) := ⟨_, rfl⟩
      rw [← hw8.out] at hb8 K8 x8 ⊢
      obtain ⟨i8, hi8⟩ : ∃ i, Hid (w7.heap.size = i) := ⟨_, rfl⟩
      rw [hi8.out] at hb8 S7 ⊢
      have NQ : Hid (i4 ≠ i8) := by show i4 ≠ i8; omega
      have nq := NQ.out
      clear hw8 hi8 B7 qlt S7
      have B8 := Lib.hid (BB.out.trans (Below.but K8 _))
      obtain ⟨m0, m1, m2, m3, m4, m5, m6, n0, n1, n2, n3, n4, n5, n6⟩ := k7 hb8
      obtain ⟨k0, k1, k2, g0, g1, g2⟩ := k3 x8
      have X8 := Lib.hid x8
      have MS := Lib.hid ms
      have ML := Lib.hid ml
      have MR := Lib.hid mr
      clear x8 hb8 ms ml mr K8
      by_cases hle : x.f ≤ day
      · have d1 : decide (x.f ≤ day) = true := by simpa using hle
        have HLE := Lib.hid hle
        clear hle
        go_wp2_with fail
        go_roundw
        case rel => exact ⟨r, some x, rfl, by rw [hpr.out], (last_hit HLE.out q).trans hS.out, LT.out.2.2, (List.pairwise_cons.1 (List.pairwise_append.1 OK.out).2.1).2, put3 X8.out _ _ _, B8.out.trans (put3_but (S := (· = i4)) rfl _ _ _)⟩
        case measure => rw [← hpr.out, intOf, intOf, MS.out, MR.out]; simp only [Tr.ht]; omega
      · have d1 : decide (x.f ≤ day) = false := by simpa using hle
        have HLE := Lib.hid hle
        clear hle
        go_wp2_with fail
        go_roundw
        case rel => exact ⟨l, q, by rw [hqs.out], by rw [hpl.out], (last_miss OK.out HLE.out q).trans hS.out, LT.out.2.1, (List.pairwise_append.1 OK.out).1, by rw [hqx.out]; exact X8.out, B8.out⟩
        case measure => rw [← hpl.out, intOf, intOf, MS.out, ML.out]; simp only [Tr.ht]; omega

end Go.Proofs.Ytpgmndbmcciniaa.Itr
