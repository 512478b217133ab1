/-
  itree: the law's own functions: made, known.
-/
import Derived.Test.YtpgmndbmcciniaaItrEnds
import Derived.Test.YtpgmndbmcciniaaItrStab
import Derived.Test.YtpgmndbmcciniaaAvlTwo
namespace Go.Proofs.Ytpgmndbmcciniaa.Itr
open Go Go.RowKit Av
set_option linter.unusedSimpArgs false
set_option linter.unusedVariables false
attribute [local go_sem ↓] Go.wp_at_zero Go.wp_at_succ

/-- what lies in a tree into which a row of items was put -/
def putAll (l : List It) : List It := l.foldl (fun L x => (putA 1000 x L).2) []
theorem putAll_step {l : List It} {k : Nat} {x : It} (h : l[k]? = some x) : (putA 1000 x (putAll (l.take k))).2 = putAll (l.take (k + 1)) := by
  unfold putAll
  rw [List.take_add_one, h, List.foldl_append]; rfl
/-- a tree that a function of the law has made -/
def MadeIs (w w' : World) (b : Nat) (L : List It) : Prop := ∃ O, TreeIs w' w.heap.size b 1000 O L ∧ Below w.heap.size w w' ∧ ∀ z, O z → w.heap.size ≤ z
set_option maxRecDepth 100000 in
set_option maxHeartbeats 2000000 in
theorem made_is {w : World} {v : Value} {l : List It} (hl : ArgT w v l) (h1 : l.length ≤ 150) :
    Calls Try.prog 22 #[v] w fun e w' => ∃ b, e = .returned (.pointer (some ⟨b, 0, none⟩)) ∧ MadeIs w w' b (putAll l) := by
  obtain ⟨al, cl, rfl, hcl, cel⟩ := hl
  have CL := Lib.hid cel
  have HL := Lib.hid h1
  clear cel h1 hcl
  go_enter Try.func22, Try.ntmps22
  go_wp2_with (go_at_call 8; (with_reducible refine (new_is (w := w) (B := w.heap.size) (by omega) (by omega) (Nat.le_refl _)).mono ?_); rintro e w1 ⟨rfl, t1, b1⟩; have T1 := Lib.hid t1; have B1 := Lib.hid b1; clear t1 b1)
  have M1 : Hid (MadeIs w w1 w.heap.size []) := ⟨_, T1.out, B1.out, fun z hz => by have : z = _ := hz; omega⟩
  obtain ⟨b, hb⟩ : ∃ i, Hid (w.heap.size = i) := ⟨_, rfl⟩
  have M1 : Hid (MadeIs w w1 b []) := by show MadeIs _ _ _ _; rw [← hb.out]; exact M1.out
  rw [hb.out]
  clear T1 B1
  go_loopw [13] (fun i wr => ∃ (k : Nat), i = .int .i64 (k : Int) ∧ k ≤ l.length ∧ Hid (MadeIs w wr b (putAll (l.take k)))) (fun i _ => l.length - (intOf i).toNat)
  case atStart => exact ⟨0, rfl, by omega, M1.out⟩
  case round =>
    obtain ⟨wo, rfl⟩ : ∃ wo : World, wo = wr := ⟨_, rfl⟩
    clear M1
    obtain ⟨k, rfl, hk, M⟩ := hrel
    by_cases hkl : k < l.length
    · obtain ⟨x, hx⟩ : ∃ x, l[k]? = some x := ⟨_, List.getElem?_eq_getElem hkl⟩
      obtain ⟨bl, ol, rfl, hbl, c0, c1, c2⟩ := CL.out k x hx
      obtain ⟨O, T, BB, OO⟩ := M.out
      have e0 := (BB.cell (p := ⟨bl, _, none⟩) hbl).trans c0
      have e1 := (BB.cell (p := ⟨bl, _, none⟩) hbl).trans c1
      have e2 := (BB.cell (p := ⟨bl, _, none⟩) hbl).trans c2
      have i0 : (0 : Int) ≤ (k : Int) := by omega
      have i1 : (k : Int) < ((l.length : Nat) : Int) := by omega
      have HK := Lib.hid hkl
      have kw : IntKind.i64.wrap ((k : Int) + 1) = (k : Int) + 1 := by rw [IntWalk.i64_left]; exact IntWalk.wrap64_in _ (by have := HL.out; omega)
      have BA := ba wo (Obj.cells #[.int .i64 x.f, .int .i64 x.t, .int .i64 x.i] 33)
      have A1 := insert_is (x := x) (T.but (Below.but BA (fun _ => False)) (fun _ _ z => z))
      rw [putAll_step hx] at A1
      have B2 := Lib.hid (bt BB BA)
      have QQ := Lib.hid OO
      clear hx c0 c1 c2 hbl hk T BB BA OO
      go_wp2_with (go_at_call 9; (with_reducible refine A1.mono ?_); rintro e w5 ⟨rfl, t5⟩; have T5 := Lib.hid t5; clear t5 A1)
      go_roundw
      case rel =>
        obtain ⟨b5, O5, t5, o5⟩ := T5.out.trans B2.out QQ.out
        exact ⟨k + 1, rfl, by have := HK.out; omega, ⟨O5, t5, b5, o5⟩⟩
      case measure => show _ - ((k : Int) + 1).toNat < _ - ((k : Int)).toNat; have := HK.out; omega
    · have hke : k = l.length := by omega
      subst hke
      rw [List.take_length] at M
      clear hkl hk
      go_wp2_with fail
      go_ret
      exact ⟨b, rfl, M.out⟩
theorem three_arg (w : World) : ArgT (w.alloc (Obj.cells #[.int .i64 1, .int .i64 5, .int .i64 0, .int .i64 3, .int .i64 4, .int .i64 0, .int .i64 6, .int .i64 9, .int .i64 0] 33)) (.slice (some ⟨w.heap.size, 0, none⟩) 3 3) [⟨1, 5, 0⟩, ⟨3, 4, 0⟩, ⟨6, 9, 0⟩] := by
  refine ⟨some ⟨w.heap.size, 0, none⟩, 3, rfl, by decide, fun i x hx => ⟨w.heap.size, 0, rfl, by simp, ?_⟩⟩
  have hc := heap_alloc_new w (Obj.cells #[.int .i64 1, .int .i64 5, .int .i64 0, .int .i64 3, .int .i64 4, .int .i64 0, .int .i64 6, .int .i64 9, .int .i64 0] 33)
  match i, hx with
  | 0, hx => simp only [List.getElem?_cons_zero, Option.some.injEq] at hx; subst hx; refine ⟨?_, ?_, ?_⟩ <;> (rw [cell_of_row _ _ _ _ _ (0, 0) hc]; rfl)
  | 1, hx => simp only [List.getElem?_cons_succ, List.getElem?_cons_zero, Option.some.injEq] at hx; subst hx; refine ⟨?_, ?_, ?_⟩ <;> (rw [cell_of_row _ _ _ _ _ (0, 0) hc]; rfl)
  | 2, hx => simp only [List.getElem?_cons_succ, List.getElem?_cons_zero, Option.some.injEq] at hx; subst hx; refine ⟨?_, ?_, ?_⟩ <;> (rw [cell_of_row _ _ _ _ _ (0, 0) hc]; rfl)
  | i + 3, hx => simp at hx
def three : List It := [⟨1, 5, 0⟩, ⟨3, 4, 0⟩, ⟨6, 9, 0⟩]
theorem put_three : putAll [⟨1, 5, 0⟩, ⟨3, 4, 0⟩, ⟨6, 9, 0⟩] = three := by decide
set_option maxRecDepth 100000 in
set_option maxHeartbeats 2000000 in
theorem known9 (w : World) : Calls Try.prog 21 #[] w fun e w' => e = .returned (.bool true) ∧ Below w.heap.size w w' := by
  have A := made_is (three_arg w) (by decide)
  rw [put_three] at A
  have B0 := ba w (Obj.cells #[.int .i64 1, .int .i64 5, .int .i64 0, .int .i64 3, .int .i64 4, .int .i64 0, .int .i64 6, .int .i64 9, .int .i64 0] 33)
  go_enter Try.func21, Try.ntmps21
  go_upto_region 2 with (go_at_call 22; go_loud (with_reducible refine A.mono ?_); rintro e w1 ⟨b, rfl, m1⟩; have M1 := Lib.hid m1; clear m1 A)
  obtain ⟨O, T, BB, OO⟩ := M1.out
  have B1 := Lib.hid (bt B0 BB)
  have L1 := TreeIs.lt T
  clear M1 B0 BB OO
  have F := first_is T 2
  rw [show firstA 2 three = some ⟨3, 4, 0⟩ by decide] at F
  unfold itV at F
  dsimp only [Option.getD, Option.isSome] at F
  have T1 := Lib.hid T
  clear T
  go_upto_region 5 with (go_at_call 30; go_loud (with_reducible refine F.mono ?_); rintro e w2 ⟨rfl, b2⟩; have B2 := Lib.hid b2; clear b2 F)
  have T2 := (T1.out.but (Below.but B2.out (fun _ => False)) (fun _ _ z => z)).but (Below.but (ba w2 (Obj.cells #[.int .i64 3, .int .i64 4, .int .i64 0] 33)) (fun _ => False)) (fun _ _ z => z)
  have x2 := heap_alloc_new w2 (Obj.cells #[.int .i64 3, .int .i64 4, .int .i64 0] 33)
  have K2 := bt B2.out (ba w2 (Obj.cells #[.int .i64 3, .int .i64 4, .int .i64 0] 33))
  obtain ⟨w3, hw3⟩ : ∃ v, Hid (v = w2.alloc (Obj.cells #[.int .i64 3, .int .i64 4, .int .i64 0] 33)) := ⟨_, rfl⟩
  obtain ⟨i2, hi2⟩ : ∃ i, Hid (w2.heap.size = i) := ⟨_, rfl⟩
  rw [← hw3.out] at T2 x2 K2 ⊢
  rw [hi2.out] at x2 ⊢
  replace B1 := Lib.hid (bt B1.out K2)
  clear hw3 hi2 K2 B2 T1 L1
  have F := last_is T2 2
  rw [show lastA 2 three = some ⟨1, 5, 0⟩ by decide] at F
  unfold itV at F
  dsimp only [Option.getD, Option.isSome] at F
  have T3 := Lib.hid T2
  replace x2 := Lib.hid x2
  clear T2
  go_upto_region 6 with (go_at_call 31; go_loud (with_reducible refine F.mono ?_); rintro e w4 ⟨rfl, b4⟩; have B4 := Lib.hid b4; clear b4 F)
  have K4 := bt B4.out (ba w4 (Obj.cells #[.int .i64 1, .int .i64 5, .int .i64 0] 33))
  have x4 := heap_alloc_new w4 (Obj.cells #[.int .i64 1, .int .i64 5, .int .i64 0] 33)
  obtain ⟨w5, hw5⟩ : ∃ v, Hid (v = w4.alloc (Obj.cells #[.int .i64 1, .int .i64 5, .int .i64 0] 33)) := ⟨_, rfl⟩
  obtain ⟨i4, hi4⟩ : ∃ i, Hid (w4.heap.size = i) := ⟨_, rfl⟩
  rw [← hw5.out] at x4 K4 ⊢
  rw [hi4.out] at x4 ⊢
  have T5 := T3.out.but (Below.but K4 (fun _ => False)) (fun _ _ z => z)
  have x25 := (K4.block i2 (Array.getElem?_eq_some_iff.1 x2.out).1).trans x2.out
  replace B1 := Lib.hid (bt B1.out K4)
  clear hw5 hi4 K4 B4 T3 x2
  have S := stab_is T5 3 (by decide) (by decide)
  rw [show overS 3 (3 + 1) three = [⟨1, 5, 0⟩, ⟨3, 4, 0⟩] by decide] at S
  have X2 := Lib.hid x25
  have X4 := Lib.hid x4
  have TT := Lib.hid T5
  have D2 : ∀ w6, Below w5.heap.size w5 w6 → Calls Try.prog 24 #[.pointer (some ⟨b, 0, none⟩), .agg #[.int .i64 4, .int .i64 7]] w6 fun e w' => ∃ v, e = .returned v ∧ RowT w' w6.heap.size v [⟨1, 5, 0⟩, ⟨6, 9, 0⟩] ∧ Below w6.heap.size w6 w' := by
    intro w6 h6
    have := overlap_is (T5.but (Below.but h6 (fun _ => False)) (fun _ _ z => z)) 4 7
    rw [show overS 4 7 three = [⟨1, 5, 0⟩, ⟨6, 9, 0⟩] by decide] at this
    exact this
  replace D2 := Lib.hid D2
  clear x25 x4 T5
  go_wp2_with (first
    | (go_at_call 32; go_loud (with_reducible refine S.mono ?_); rintro e w6 ⟨v6, rfl, r6, b6⟩; obtain ⟨a6, c6, rfl, _⟩ := row_form r6; have D3 := D2.out w6 b6; have B6 := Lib.hid b6; clear b6 r6 S)
    | (go_at_call 24; go_loud (with_reducible refine D3.mono ?_); rintro e w7 ⟨v7, rfl, r7, b7⟩; obtain ⟨a7, c7, rfl, _⟩ := row_form r7; have K7 := bt B6.out b7; have y2 := k3 ((K7.block i2 (Array.getElem?_eq_some_iff.1 X2.out).1).trans X2.out); have y4 := k3 ((K7.block i4 (Array.getElem?_eq_some_iff.1 X4.out).1).trans X4.out); have z2 := y2.1; have z4 := y4.1; have B7 := Lib.hid K7; clear K7 y2 y4 b7 r7 D3))
  trace_state
  go_ret
  exact ⟨rfl, bt B1.out B7.out⟩
end Go.Proofs.Ytpgmndbmcciniaa.Itr
