/-
  timeline: At, Pieces, walked.
-/
import Derived.Test.YtmgljgmfipodeaaM35
import Derived.BigQuiet
/-
  timeline: At, Pieces, walked.
-/
namespace Go.Proofs.Ytmgljgmfipodeaa.Tl
open Go Go.RowKit Av Itr
set_option linter.unusedSimpArgs false
set_option linter.unusedVariables false
attribute [local go_sem ↓] Go.wp_at_zero Go.wp_at_succ
attribute [local go_sem] Oper.semAt_some

theorem calls_marks {P : Program} {f : FuncId} {fn : Func} {c : Code} {args : Array Value} {w : World} {R : Ending → World → Prop} (hf : P.funcs[f]? = some fn) (hb : fn.body = some c)
    (h : c.wp P (bodyPostM Fence.wide 10 P fn R) { tmps := args ++ Array.replicate (fn.ntmps - args.size) undef, defers := [] } w) : Calls P f args w R :=
  (callsIn_wide (n := 10)).1 (callsIn_of_wp_marks hf hb trivial (wpIn_wide.2 h) rfl)
set_option maxRecDepth 100000 in
/-- the greatest day: none -/
theorem stab_max {w : World} (v : Value) : Calls Try.prog 19 #[v, .int .i64 9223372036854775807] w fun e w' => e = .returned (.slice none 0 0) ∧ Below w.heap.size w w' := by
  have c0 := heap_alloc_new w (.cells #[.slice none 0 0] 51)
  have B0 := ba w (.cells #[.slice none 0 0] 51)
  refine calls_marks Try.func19 rfl ?_
  simp only [Try.ntmps19, List.size_toArray, List.length_cons, List.length_nil, Nat.reduceAdd, Nat.reduceSub, Array.replicate_succ, Array.replicate_zero, List.push_toArray, List.append_toArray, List.nil_append, List.cons_append]
  go_upto_region 1 with fail
  generalize World.alloc w _ = W0 at c0 B0 ⊢
  have V0 : Boxed W0 w.heap.size 51 (.slice none 0 0) := c0
  obtain ⟨i, hi⟩ : ∃ i, Hid (w.heap.size = i) := ⟨_, rfl⟩
  rw [hi.out] at B0 V0 ⊢
  have a0 := V0.cell
  have f0 := V0.frozen
  have V1 := V0.set (.slice none 0 0)
  have B1 := Lib.hid (B0.setCell (p := ⟨i, 0, none⟩) (Nat.le_refl _) (.slice none 0 0))
  clear c0 B0
  go_wp2_with fail
  generalize World.setCell W0 _ _ = W1 at B1 V1 ⊢
  have a1 := V1.cell
  show LeavesInM _ _ _ _ _ _ _ _ _
  refine ⟨.slice none 0 0, by simp [results, Try.results19, go_sem, a1], rfl, by rw [hi.out]; exact B1.out⟩
theorem rowT_cell0 {w : World} {B g cap : Nat} {xs : List It} {x : It} (h : RowT w B (.slice (some ⟨g, 0, none⟩) xs.length cap) xs) (hx : xs[0]? = some x) : w.cell? ⟨g, 2, none⟩ = some (.int .i64 x.i) := by
  rw [World.ownsRow.cellAt h 2 (by have := (List.getElem?_eq_some_iff.1 hx).1; omega)]
  cases xs with
  | nil => simp at hx
  | cons y ys => simp only [List.getElem?_cons_zero, Option.some.injEq] at hx; subst hx; rfl
set_option maxRecDepth 100000 in
set_option maxHeartbeats 1000000 in
theorem at_is {w : World} {B b : Nat} {T : Nat → Prop} {E : List Int} {L : List It} {vals free : List Int} {F : Int → Int} {day : Int} (h : LineIs w B b T L vals free) (hi : Inv E L vals free) (hf : Fn L vals F) (hd1 : -9223372036854775808 ≤ day) (hd2 : day ≤ 9223372036854775807) :
    Calls Try.prog 8 #[.pointer (some ⟨b, 0, none⟩), .int .i64 day] w fun e w' => e = .returned (.int .i64 (F day)) ∧ Below w.heap.size w w' := by
  obtain ⟨tb, O, vv, fv, h, _⟩ := h
  have A := none_is h.box
  have c0 := h.box.c0
  by_cases hm : day = 9223372036854775807
  · subst hm
    have z := Lib.hid (Fn.wide hi hf (d := 9223372036854775807) (by omega))
    have S := stab_max (w := w) (.pointer (some ⟨tb, 0, none⟩))
    clear h hi hf hd1 hd2
    go_enter Try.func8, Try.ntmps8
    go_wp2_with (first
      | (go_at_call 14; (with_reducible refine A.mono ?_); rintro e w20 ⟨rfl, hq⟩; obtain rfl := hq.symm; clear A)
      | (go_at_call 19; go_loud ((with_reducible refine S.mono ?_); rintro e w2 ⟨rfl, b2⟩; have B2 := Lib.hid b2; clear b2 S)))
    go_ret
    exact ⟨by rw [z.out]; rfl, B2.out⟩
  · have S := stab_is h.tr day (by rw [IntWalk.i64_left]; exact IntWalk.wrap64_in _ (by omega)) hm
    have HC := Lib.hid h
    cases hX : overS day (day + 1) L with
    | nil =>
      rw [hX] at S
      have z : F day = 0 := hf.2 day fun x hx k => by
        have : x ∈ overS day (day + 1) L := by
          unfold overS over
          rw [if_pos (by omega), List.mem_filter]
          exact ⟨hx, by simp; omega⟩
        rw [hX] at this; cases this
      replace z := Lib.hid z
      clear h hi hf hd1 hd2 hm hX
      go_enter Try.func8, Try.ntmps8
      go_wp2_with (first
        | (go_at_call 14; (with_reducible refine A.mono ?_); rintro e w20 ⟨rfl, hq⟩; obtain rfl := hq.symm; clear A)
        | (go_at_call 19; go_loud ((with_reducible refine S.mono ?_); rintro e w2 ⟨vx, rfl, r2, b2⟩; obtain ⟨ax, cx, rfl, _, _⟩ := row_form r2; have B2 := Lib.hid b2; clear b2 r2 S)))
      go_ret
      exact ⟨by rw [z.out]; rfl, B2.out⟩
    | cons x xs =>
      rw [hX] at S
      have hx : x ∈ overS day (day + 1) L := by rw [hX]; simp
      unfold overS over at hx
      rw [if_pos (by omega), List.mem_filter] at hx
      simp only [Bool.and_eq_true, decide_eq_true_eq] at hx
      have z : F day = va vals x.i := hf.1 x hx.1 day (by omega) (by omega)
      have id := hi.id x hx.1
      obtain ⟨f, t, i⟩ := x
      dsimp only at z id
      obtain ⟨n, rfl⟩ : ∃ n : Nat, (n : Int) = i := ⟨i.toNat, by omega⟩
      have hn : n < vals.length := by omega
      obtain ⟨u, hu⟩ : ∃ u, Hid (vals[n]? = some u) := ⟨_, List.getElem?_eq_getElem hn⟩
      have hva : va vals (n : Int) = u := by unfold va; rw [List.getD_eq_getElem?_getD, Int.toNat_natCast, hu.out]; rfl
      rw [hva] at z
      replace z := Lib.hid z
      have HI : Hid ((n : Int) < ((vals.length : Nat) : Int)) := id.2.1
      clear h hi hf hd1 hd2 hm hX hx id hva hn
      go_enter Try.func8, Try.ntmps8
      go_upto_region 4 with (first
        | (go_at_call 14; (with_reducible refine A.mono ?_); rintro e w20 ⟨rfl, hq⟩; obtain rfl := hq.symm; clear A)
        | (go_at_call 19; go_loud ((with_reducible refine S.mono ?_); rintro e w2 ⟨vx, rfl, r2, b2⟩; obtain ⟨ax, cx, rfl, _, hgx⟩ := row_form r2; have B2 := Lib.hid b2; have R2 := Lib.hid r2; clear b2 r2 S)))
      obtain ⟨gx, rfl⟩ := hgx (by simp)
      have x2 := rowT_cell0 R2.out rfl
      dsimp only at x2
      have C2 := HC.out.below B2.out
      obtain ⟨av, cv, ev, _, hgv⟩ := C2.rv.form
      obtain ⟨g, rfl⟩ := hgv (by have := HI.out; omega)
      subst ev
      have g0 := rowi_cell C2.rv n u hu.out
      have c1 := C2.box.c1
      have i0 : (0 : Int) ≤ (n : Int) := by omega
      have i1 : (n : Int) < ((vals.length : Nat) : Int) := HI.out
      obtain ⟨m, hm⟩ : ∃ m : Nat, Hid (xs.length = m) := ⟨xs.length, rfl⟩
      rw [hm.out]
      have m1 : (0 : Int) < (((m + 1 : Nat)) : Int) := by omega
      have m2 : (0 : Int) < (m : Int) + 1 := by omega
      clear C2 c0 hgv hgx
      go_upto_region 5 with fail
      go_quiet (fail)
      go_wp2_with fail
      go_ret
      exact ⟨by rw [z.out]; rfl, bdN B2.out nq⟩
theorem pieces_is {w : World} {B b : Nat} {T : Nat → Prop} {L : List It} {vals free : List Int} (h : LineIs w B b T L vals free) :
    Calls Try.prog 11 #[.pointer (some ⟨b, 0, none⟩)] w fun e w' => e = .returned (.int .i64 (L.length : Int)) ∧ w' = w := by
  obtain ⟨tb, O, vv, fv, h, _⟩ := h
  have A := none_is h.box
  have c0 := h.box.c0
  have LN := len_is h.tr
  clear h
  go_enter Try.func11, Try.ntmps11
  go_wp2_with (first
    | (go_at_call 14; (with_reducible refine A.mono ?_); rintro e w20 ⟨rfl, hq⟩; obtain rfl := hq.symm; clear A)
    | (go_at_call 22; (with_reducible refine LN.mono ?_); rintro e w20 ⟨rfl, hq⟩; obtain rfl := hq.symm; clear LN))
  go_ret
  exact ⟨rfl, rfl⟩
end Go.Proofs.Ytmgljgmfipodeaa.Tl
