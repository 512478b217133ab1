/-
  avl: AvlNone's walk.
-/
import Derived.Test.YtpgmndbmcciniaaAvlKnown
namespace Go.Proofs.Ytpgmndbmcciniaa.Av
open Go Go.RowKit
set_option linter.unusedSimpArgs false
set_option linter.unusedVariables false
attribute [local go_sem ↓] Go.wp_at_zero Go.wp_at_succ

/-- what stands while the law runs -/
structure NS (w wr : World) (i2 i5 i6 : Nat) (x : It) : Prop where
  x : ItAt wr i2 x
  z : TAt wr i5 0 (.slice none 0 0) (.slice none 0 0) 0 0
  s : wr.heap[i6]? = some (.cells #[.pointer none, .pointer (some ⟨i5, 0, none⟩)] 24 (0, 0))
  b : Below w.heap.size w wr
theorem NS.below {w wr w' : World} {i2 i5 i6 : Nat} {x : It} (h : NS w wr i2 i5 i6 x) (k : Below wr.heap.size wr w') : NS w w' i2 i5 i6 x := by
  refine ⟨h.x.below k, ?_, ?_, bt h.b k⟩
  · have := h.z
    have hb := h.z.lt
    unfold TAt at this ⊢
    rw [k.block _ hb]; exact this
  · rw [k.block _ (Array.getElem?_eq_some_iff.1 h.s).1]; exact h.s
theorem nt_nil (w : World) : NoTree w (.pointer none) := .inl rfl
theorem nt_zero {w : World} {b : Nat} {nv fv : Value} {root many : Int} (h : TAt w b 0 nv fv root many) : NoTree w (.pointer (some ⟨b, 0, none⟩)) := .inr ⟨b, nv, fv, root, many, rfl, h⟩
set_option maxRecDepth 100000 in
set_option maxHeartbeats 2000000 in
theorem none_law (x : It) (p : Int) (w : World) : Calls Try.prog 5 #[.agg #[.int .i64 x.f, .int .i64 x.t, .int .i64 x.i], .int .i64 p] w fun e w' => e = .returned (.bool true) ∧ Below w.heap.size w w' := by
  go_enter Try.func5, Try.ntmps5
  go_wp2_with fail
  have X0 : ItAt (w.alloc (Obj.cells #[.int .i64 x.f, .int .i64 x.t, .int .i64 x.i] 33)) w.heap.size x := itAt_new w x
  have Z0 : TAt ((w.alloc (Obj.cells #[.int .i64 x.f, .int .i64 x.t, .int .i64 x.i] 33)).alloc (Obj.cells #[.int .i64 0, .slice none 0 0, .slice none 0 0, .int .i64 0, .int .i64 0] 46)) (w.heap.size + 1) 0 (.slice none 0 0) (.slice none 0 0) 0 0 := by
    have := heap_alloc_new (w.alloc (Obj.cells #[.int .i64 x.f, .int .i64 x.t, .int .i64 x.i] 33)) (Obj.cells #[.int .i64 0, .slice none 0 0, .slice none 0 0, .int .i64 0, .int .i64 0] 46)
    rw [World.size_alloc] at this; exact this
  have N0 : NS w (((w.alloc (Obj.cells #[.int .i64 x.f, .int .i64 x.t, .int .i64 x.i] 33)).alloc (Obj.cells #[.int .i64 0, .slice none 0 0, .slice none 0 0, .int .i64 0, .int .i64 0] 46)).alloc (Obj.cells #[.pointer none, .pointer (some ⟨w.heap.size + 1, 0, none⟩)] 24)) w.heap.size (w.heap.size + 1) (w.heap.size + 1 + 1) x := by
    have ss := heap_alloc_new ((w.alloc (Obj.cells #[.int .i64 x.f, .int .i64 x.t, .int .i64 x.i] 33)).alloc (Obj.cells #[.int .i64 0, .slice none 0 0, .slice none 0 0, .int .i64 0, .int .i64 0] 46)) (Obj.cells #[.pointer none, .pointer (some ⟨w.heap.size + 1, 0, none⟩)] 24)
    rw [World.size_alloc, World.size_alloc] at ss
    refine ⟨(X0.below (ba _ _)).below (ba _ _), ?_, ss, bt (bt (ba _ _) (ba _ _)) (ba _ _)⟩
    have hb := Z0.lt
    unfold TAt at Z0 ⊢
    rw [(ba _ _).block _ hb]; exact Z0
  obtain ⟨w0, hw0⟩ : ∃ v, Hid (v = (((w.alloc (Obj.cells #[.int .i64 x.f, .int .i64 x.t, .int .i64 x.i] 33)).alloc (Obj.cells #[.int .i64 0, .slice none 0 0, .slice none 0 0, .int .i64 0, .int .i64 0] 46)).alloc (Obj.cells #[.pointer none, .pointer (some ⟨w.heap.size + 1, 0, none⟩)] 24))) := ⟨_, rfl⟩
  rw [← hw0.out] at N0 ⊢
  clear hw0 X0 Z0
  obtain ⟨i5, h5⟩ : ∃ i, Hid (w.heap.size + 1 = i) := ⟨_, rfl⟩
  rw [h5.out] at N0 ⊢
  obtain ⟨i6, h6⟩ : ∃ i, Hid (i5 + 1 = i) := ⟨_, rfl⟩
  rw [h6.out] at N0 ⊢
  obtain ⟨i2, h2⟩ : ∃ i, Hid (w.heap.size = i) := ⟨_, rfl⟩
  rw [h2.out] at N0 ⊢
  clear h5 h6
  have s0 : w0.cell? ⟨i6, 0, none⟩ = some (.pointer none) := by rw [cell_of_row w0 _ _ _ _ (0, 0) N0.s]; rfl
  have s1 : w0.cell? ⟨i6, 1, none⟩ = some (.pointer (some ⟨i5, 0, none⟩)) := by rw [cell_of_row w0 _ _ _ _ (0, 0) N0.s]; rfl
  replace N0 := Lib.hid N0
  refine wp_loop_rounds 3 ?_
  rw [rounds_succ]
  have NO := node_no (p := p) (nt_nil w0)
  unfold knotV at NO
  go_upto_region 7 with (go_at_call 19; (with_reducible refine NO.mono ?_); rintro e w1 ⟨rfl, b1⟩; have N1 := Lib.hid (N0.out.below b1); clear b1)
  have N2 := N1.out.below (ba w1 (Obj.cells #[Value.int .i64 0, .int .i64 0, .int .i64 0, .int .i64 0, .int .i64 0, .int .i64 0, .int .i64 0] 49))
  have hn2 := heap_alloc_new w1 (Obj.cells #[Value.int .i64 0, .int .i64 0, .int .i64 0, .int .i64 0, .int .i64 0, .int .i64 0, .int .i64 0] 49)
  obtain ⟨w2, hw2⟩ : ∃ v, Hid (v = w1.alloc (Obj.cells #[Value.int .i64 0, .int .i64 0, .int .i64 0, .int .i64 0, .int .i64 0, .int .i64 0, .int .i64 0] 49)) := ⟨_, rfl⟩
  rw [← hw2.out] at N2 hn2 ⊢
  obtain ⟨i9, hi9⟩ : ∃ i, Hid (w1.heap.size = i) := ⟨_, rfl⟩
  rw [hi9.out] at hn2 ⊢
  clear hw2 hi9 N1 N0 s0 s1 NO
  have x0 := N2.x.c0
  have x1 := N2.x.c1
  have x2 := N2.x.c2
  replace N2 := Lib.hid N2
  replace hn2 := Lib.hid hn2
  go_wp2_with (first
    | (go_at_call 9; (with_reducible refine (insertx_no (x := x) (nt_nil _)).mono ?_); rintro e w3 ⟨rfl, b3⟩; have N3 := Lib.hid (N2.out.below b3); have hn3 := Lib.hid ((b3.block i9 (Array.getElem?_eq_some_iff.1 hn2.out).1).trans hn2.out); clear b3 N2 hn2 x0 x1 x2; have x0 := N3.out.x.c0; have x1 := N3.out.x.c1; have x2 := N3.out.x.c2)
    | (go_at_call 11; (with_reducible refine (deletex_no (x := x) (nt_nil _)).mono ?_); rintro e w4 ⟨rfl, b4⟩; have N4 := Lib.hid (N3.out.below b4); have hn4 := Lib.hid ((b4.block i9 (Array.getElem?_eq_some_iff.1 hn3.out).1).trans hn3.out); clear b4 N3 hn3 x0 x1 x2; have x0 := N4.out.x.c0; have x1 := N4.out.x.c1; have x2 := N4.out.x.c2)
    | (go_at_call 13; (with_reducible refine (hasx_no (x := x) (nt_nil _)).mono ?_); rintro e w5 ⟨rfl, b5⟩; have N5 := Lib.hid (N4.out.below b5); have hn5 := Lib.hid ((b5.block i9 (Array.getElem?_eq_some_iff.1 hn4.out).1).trans hn4.out); clear b5 N4 hn4 x0 x1 x2; have x0 := N5.out.x.c0; have x1 := N5.out.x.c1; have x2 := N5.out.x.c2)
    | (go_at_call 17; (with_reducible refine (len_no (nt_nil _)).mono ?_); rintro e w20 ⟨rfl, hq⟩; obtain rfl := hq.symm)
    | (go_at_call 15; (with_reducible refine (items_no (nt_nil _)).mono ?_); rintro e w6 ⟨rfl, b6⟩; have N6 := Lib.hid (N5.out.below b6); have hn6 := Lib.hid ((b6.block i9 (Array.getElem?_eq_some_iff.1 hn5.out).1).trans hn5.out); clear b6 N5 hn5 x0 x1 x2; have x0 := N6.out.x.c0; have x1 := N6.out.x.c1; have x2 := N6.out.x.c2; have n0 : w6.cell? ⟨i9, 0, none⟩ = some (.int .i64 0) := (by rw [cell_of_row w6 _ _ _ _ (0, 0) hn6.out]; rfl); have n1 : w6.cell? ⟨i9, 1, none⟩ = some (.int .i64 0) := (by rw [cell_of_row w6 _ _ _ _ (0, 0) hn6.out]; rfl); have n2 : w6.cell? ⟨i9, 2, none⟩ = some (.int .i64 0) := (by rw [cell_of_row w6 _ _ _ _ (0, 0) hn6.out]; rfl); have n3 : w6.cell? ⟨i9, 3, none⟩ = some (.int .i64 0) := (by rw [cell_of_row w6 _ _ _ _ (0, 0) hn6.out]; rfl); have n4 : w6.cell? ⟨i9, 4, none⟩ = some (.int .i64 0) := (by rw [cell_of_row w6 _ _ _ _ (0, 0) hn6.out]; rfl); have n5 : w6.cell? ⟨i9, 5, none⟩ = some (.int .i64 0) := (by rw [cell_of_row w6 _ _ _ _ (0, 0) hn6.out]; rfl); have n6 : w6.cell? ⟨i9, 6, none⟩ = some (.int .i64 0) := (by rw [cell_of_row w6 _ _ _ _ (0, 0) hn6.out]; rfl))
    | (go_at_call 20; (with_reducible refine (root_no (nt_nil _)).mono ?_); rintro e w20 ⟨rfl, hq⟩; obtain rfl := hq.symm))
  have s0 : w6.cell? ⟨i6, 0, none⟩ = some (.pointer none) := by rw [cell_of_row w6 _ _ _ _ (0, 0) N6.out.s]; rfl
  have s1 : w6.cell? ⟨i6, 1, none⟩ = some (.pointer (some ⟨i5, 0, none⟩)) := by rw [cell_of_row w6 _ _ _ _ (0, 0) N6.out.s]; rfl
  have N0 := N6
  clear N6 hn6 x0 x1 x2 n0 n1 n2 n3 n4 n5 n6
  rw [rounds_succ]
  have NO := node_no (p := p) (nt_zero N0.out.z)
  unfold knotV at NO
  go_upto_region 7 with (go_at_call 19; (with_reducible refine NO.mono ?_); rintro e w1 ⟨rfl, b1⟩; have N1 := Lib.hid (N0.out.below b1); clear b1)
  have N2 := N1.out.below (ba w1 (Obj.cells #[Value.int .i64 0, .int .i64 0, .int .i64 0, .int .i64 0, .int .i64 0, .int .i64 0, .int .i64 0] 49))
  have hn2 := heap_alloc_new w1 (Obj.cells #[Value.int .i64 0, .int .i64 0, .int .i64 0, .int .i64 0, .int .i64 0, .int .i64 0, .int .i64 0] 49)
  obtain ⟨w2, hw2⟩ : ∃ v, Hid (v = w1.alloc (Obj.cells #[Value.int .i64 0, .int .i64 0, .int .i64 0, .int .i64 0, .int .i64 0, .int .i64 0, .int .i64 0] 49)) := ⟨_, rfl⟩
  rw [← hw2.out] at N2 hn2 ⊢
  obtain ⟨i9, hi9⟩ : ∃ i, Hid (w1.heap.size = i) := ⟨_, rfl⟩
  rw [hi9.out] at hn2 ⊢
  clear hw2 hi9 N1 N0 s0 s1 NO
  have x0 := N2.x.c0
  have x1 := N2.x.c1
  have x2 := N2.x.c2
  replace N2 := Lib.hid N2
  replace hn2 := Lib.hid hn2
  go_wp2_with (first
    | (go_at_call 9; (with_reducible refine (insertx_no (x := x) (nt_zero N2.out.z)).mono ?_); rintro e w3 ⟨rfl, b3⟩; have N3 := Lib.hid (N2.out.below b3); have hn3 := Lib.hid ((b3.block i9 (Array.getElem?_eq_some_iff.1 hn2.out).1).trans hn2.out); clear b3 N2 hn2 x0 x1 x2; have x0 := N3.out.x.c0; have x1 := N3.out.x.c1; have x2 := N3.out.x.c2)
    | (go_at_call 11; (with_reducible refine (deletex_no (x := x) (nt_zero N3.out.z)).mono ?_); rintro e w4 ⟨rfl, b4⟩; have N4 := Lib.hid (N3.out.below b4); have hn4 := Lib.hid ((b4.block i9 (Array.getElem?_eq_some_iff.1 hn3.out).1).trans hn3.out); clear b4 N3 hn3 x0 x1 x2; have x0 := N4.out.x.c0; have x1 := N4.out.x.c1; have x2 := N4.out.x.c2)
    | (go_at_call 13; (with_reducible refine (hasx_no (x := x) (nt_zero N4.out.z)).mono ?_); rintro e w5 ⟨rfl, b5⟩; have N5 := Lib.hid (N4.out.below b5); have hn5 := Lib.hid ((b5.block i9 (Array.getElem?_eq_some_iff.1 hn4.out).1).trans hn4.out); clear b5 N4 hn4 x0 x1 x2; have x0 := N5.out.x.c0; have x1 := N5.out.x.c1; have x2 := N5.out.x.c2)
    | (go_at_call 17; (with_reducible refine (len_no (nt_zero N5.out.z)).mono ?_); rintro e w20 ⟨rfl, hq⟩; obtain rfl := hq.symm)
    | (go_at_call 15; (with_reducible refine (items_no (nt_zero N5.out.z)).mono ?_); rintro e w6 ⟨rfl, b6⟩; have N6 := Lib.hid (N5.out.below b6); have hn6 := Lib.hid ((b6.block i9 (Array.getElem?_eq_some_iff.1 hn5.out).1).trans hn5.out); clear b6 N5 hn5 x0 x1 x2; have x0 := N6.out.x.c0; have x1 := N6.out.x.c1; have x2 := N6.out.x.c2; have n0 : w6.cell? ⟨i9, 0, none⟩ = some (.int .i64 0) := (by rw [cell_of_row w6 _ _ _ _ (0, 0) hn6.out]; rfl); have n1 : w6.cell? ⟨i9, 1, none⟩ = some (.int .i64 0) := (by rw [cell_of_row w6 _ _ _ _ (0, 0) hn6.out]; rfl); have n2 : w6.cell? ⟨i9, 2, none⟩ = some (.int .i64 0) := (by rw [cell_of_row w6 _ _ _ _ (0, 0) hn6.out]; rfl); have n3 : w6.cell? ⟨i9, 3, none⟩ = some (.int .i64 0) := (by rw [cell_of_row w6 _ _ _ _ (0, 0) hn6.out]; rfl); have n4 : w6.cell? ⟨i9, 4, none⟩ = some (.int .i64 0) := (by rw [cell_of_row w6 _ _ _ _ (0, 0) hn6.out]; rfl); have n5 : w6.cell? ⟨i9, 5, none⟩ = some (.int .i64 0) := (by rw [cell_of_row w6 _ _ _ _ (0, 0) hn6.out]; rfl); have n6 : w6.cell? ⟨i9, 6, none⟩ = some (.int .i64 0) := (by rw [cell_of_row w6 _ _ _ _ (0, 0) hn6.out]; rfl))
    | (go_at_call 20; (with_reducible refine (root_no (nt_zero N6.out.z)).mono ?_); rintro e w20 ⟨rfl, hq⟩; obtain rfl := hq.symm))
  rw [rounds_succ]
  go_wp2_with (go_at_call 7; (with_reducible refine (known_any _).mono ?_); rintro e w9 ⟨rfl, b9⟩; have B9 := Lib.hid b9; clear b9)
  go_ret
  exact ⟨rfl, bt N6.out.b B9.out⟩
end Go.Proofs.Ytpgmndbmcciniaa.Av
