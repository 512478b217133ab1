/-
  avl: AvlPlays' walk.
-/
import Derived.Test.YtpgmndbmcciniaaAvlPlay
namespace Go.Proofs.Ytpgmndbmcciniaa.Av
open Go Go.RowKit
set_option linter.unusedSimpArgs false
set_option linter.unusedVariables false
attribute [local go_sem ↓] Go.wp_at_zero Go.wp_at_succ

/-- a row of calls that came in -/
def ArgO (w : World) (v : Value) (xs : List (Int × It)) : Prop := ∃ (ao : Option Addr) (cap : Nat), v = .slice ao xs.length cap ∧ xs.length ≤ cap ∧ ∀ (i : Nat) (x : Int × It), xs[i]? = some x → ∃ b o : Nat, ao = some ⟨b, o, none⟩ ∧ b < w.heap.size ∧
  w.cell? ⟨b, o + i * 4, none⟩ = some (.int .i64 x.1) ∧ w.cell? ⟨b, o + i * 4 + 1, none⟩ = some (.int .i64 x.2.f) ∧ w.cell? ⟨b, o + i * 4 + 2, none⟩ = some (.int .i64 x.2.t) ∧ w.cell? ⟨b, o + i * 4 + 3, none⟩ = some (.int .i64 x.2.i)
/-- a variable that holds a call -/
def OpAt (w : World) (b : Nat) (x : Int × It) : Prop := w.heap[b]? = some (.cells #[.int .i64 x.1, .int .i64 x.2.f, .int .i64 x.2.t, .int .i64 x.2.i] 35 (0, 0))
theorem opAt_new (w : World) (x : Int × It) : OpAt (w.alloc (.cells #[.int .i64 x.1, .int .i64 x.2.f, .int .i64 x.2.t, .int .i64 x.2.i] 35)) w.heap.size x := heap_alloc_new w _
section
variable {w : World} {b : Nat} {x : Int × It}
theorem OpAt.lt (h : OpAt w b x) : b < w.heap.size := (Array.getElem?_eq_some_iff.1 h).1
theorem OpAt.but {S : Nat → Prop} {w' : World} (h : OpAt w b x) (hb : But S w w') (hs : ¬ S b) : OpAt w' b x := by
  unfold OpAt; rw [hb.block b h.lt hs]; exact h
theorem OpAt.c0 (h : OpAt w b x) : w.cell? ⟨b, 0, none⟩ = some (.int .i64 x.1) := by rw [cell_of_row w _ _ _ _ (0, 0) h]; rfl
theorem OpAt.c1 (h : OpAt w b x) : w.cell? ⟨b, 1, none⟩ = some (.int .i64 x.2.f) := by rw [cell_of_row w _ _ _ _ (0, 0) h]; rfl
theorem OpAt.c2 (h : OpAt w b x) : w.cell? ⟨b, 2, none⟩ = some (.int .i64 x.2.t) := by rw [cell_of_row w _ _ _ _ (0, 0) h]; rfl
theorem OpAt.c3 (h : OpAt w b x) : w.cell? ⟨b, 3, none⟩ = some (.int .i64 x.2.i) := by rw [cell_of_row w _ _ _ _ (0, 0) h]; rfl
end
set_option maxRecDepth 100000 in
set_option maxHeartbeats 4000000 in
theorem plays_main (most : Int) (vl : Value) (l : List (Int × It)) (w : World) (hl : ArgO w vl l) (h1 : l.length ≤ 200) (m1 : 1 ≤ most) (m2 : most ≤ 1000000) : Calls Try.prog 3 #[.int .i64 most, vl] w fun e w' => e = .returned (.bool true) ∧ Below w.heap.size w w' := by
  obtain ⟨al, cl, rfl, hcl, cel⟩ := hl
  have CL := Lib.hid cel
  have HL := Lib.hid h1
  have HM := Lib.hid (And.intro m1 m2)
  have d1 : decide ((200 : Int) < (l.length : Int)) = false := by simp; omega
  have d3 : decide (200 < l.length) = false := by simp; omega
  have e1 : decide (most < 1) = false := by simp; omega
  have e2 : decide (1000000 < most) = false := by simp; omega
  clear cel h1 hcl m1 m2
  go_enter Try.func3, Try.ntmps3
  go_upto_region 8 with (go_at_call 8; (with_reducible refine (new_is (w := w) (B := w.heap.size) (by have := HM.out; omega) (by have := HM.out; omega) (Nat.le_refl _)).mono ?_); rintro e w1 ⟨rfl, t1, b1⟩; have T1 := Lib.hid t1; have B1 := Lib.hid b1; clear t1 b1)
  clear d1 d3 e1 e2
  go_upto_region 9 with fail
  have P0 : Play w (w1.alloc (Obj.cells #[.int .i64 most, .slice none 0 0] 31)) w.heap.size w1.heap.size most (· = w.heap.size) (.slice none 0 0) [] [] := by
    have hs := T1.out.lt w.heap.size rfl
    refine ⟨T1.out.but (Below.but (ba w1 _) (fun _ => False)) (fun _ _ z => z), ⟨heap_alloc_new w1 _, World.ownsRow_nil _ _ _ _, by simp [Value.ownBlock]⟩, fun (z : w1.heap.size = _) => by omega, fun k hk => by simp [Value.ownBlock] at hk, fun k (hk : k = _) => by omega, B1.out.size, fun k hk => by simp [Value.ownBlock] at hk, bt B1.out (ba _ _)⟩
  obtain ⟨w2, hw2⟩ : ∃ z, Hid (z = w1.alloc (Obj.cells #[.int .i64 most, .slice none 0 0] 31)) := ⟨_, rfl⟩
  rw [← hw2.out] at P0 ⊢
  obtain ⟨t, ht⟩ : ∃ z, Hid (w.heap.size = z) := ⟨_, rfl⟩
  obtain ⟨r, hr⟩ : ∃ z, Hid (w1.heap.size = z) := ⟨_, rfl⟩
  rw [hr.out] at P0 ⊢
  have P0 : Hid (∃ O v, Play w w2 t r most O v [] []) := ⟨_, _, by rw [← ht.out]; exact P0⟩
  rw [ht.out] at ⊢
  clear T1 B1 hw2 hr
  go_wp2_with fail
  go_loopw [47] (fun i wr => ∃ (k : Nat) (L : List It), i = .int .i64 (k : Int) ∧ k ≤ l.length ∧ L.length ≤ k ∧ Hid (∃ O v, Play w wr t r most O v L L)) (fun i _ => l.length - (intOf i).toNat)
  case atStart => exact ⟨0, [], rfl, by omega, by simp, P0.out⟩
  case round =>
    obtain ⟨wo, rfl⟩ : ∃ wo : World, wo = wr := ⟨_, rfl⟩
    clear P0
    obtain ⟨k, L, rfl, hk, hLk, P0⟩ := hrel
    by_cases hkl : k < l.length
    · obtain ⟨x, hx⟩ : ∃ x, l[k]? = some x := ⟨_, List.getElem?_eq_getElem hkl⟩
      obtain ⟨O, v, P0⟩ := P0.out
      obtain ⟨bl, ol, rfl, hbl, c0, c1, c2, c3⟩ := CL.out k x hx
      have e0 := (P0.be.cell (p := ⟨bl, _, none⟩) hbl).trans c0
      have e1 := (P0.be.cell (p := ⟨bl, _, none⟩) hbl).trans c1
      have e2 := (P0.be.cell (p := ⟨bl, _, none⟩) hbl).trans c2
      have e3 := (P0.be.cell (p := ⟨bl, _, none⟩) hbl).trans c3
      have i0 : (0 : Int) ≤ (k : Int) := by omega
      have i1 : (k : Int) < ((l.length : Nat) : Int) := by omega
      have HK := Lib.hid hkl
      have kw : IntKind.i64.wrap ((k : Int) + 1) = (k : Int) + 1 := by rw [IntWalk.i64_left]; exact IntWalk.wrap64_in _ (by have := HL.out; omega)
      have P1 := P0.below (ba wo (Obj.cells #[.int .i64 x.1, .int .i64 x.2.f, .int .i64 x.2.t, .int .i64 x.2.i] 35))
      have X1 := opAt_new wo x
      have NO : Hid (¬ O wo.heap.size ∧ r ≠ wo.heap.size ∧ ∀ z, v.ownBlock = some z → z ≠ wo.heap.size) := ⟨fun z => by have := P0.ti.lt _ z; omega, by have := P0.ri.lt; omega, fun z hz => by have := P0.vlt z hz; omega⟩
      have SO : Hid (Tr.Sorted L) := P0.ti.sorted
      have LL : Hid (L.length ≤ 200) := by have := HL.out; show _ ≤ _; omega
      have HLK := Lib.hid hLk
      clear hx c0 c1 c2 c3 hbl hk hkl hLk P0
      go_upto_region 12 with fail
      clear e0 e1 e2 e3
      obtain ⟨wp, hwp⟩ : ∃ z, Hid (z = wo.alloc (Obj.cells #[.int .i64 x.1, .int .i64 x.2.f, .int .i64 x.2.t, .int .i64 x.2.i] 35)) := ⟨_, rfl⟩
      rw [← hwp.out] at P1 X1 ⊢
      obtain ⟨iv, hiv⟩ : ∃ z, Hid (wo.heap.size = z) := ⟨_, rfl⟩
      rw [hiv.out] at X1 NO ⊢
      clear hwp hiv
      have z0 := X1.c0
      by_cases k1 : x.1 = 1
      · rw [k1] at z0
        have A1 := play_insT (x := x.2) (P1.below ((Below.refl wp.heap.size wp).drew))
        have z1 := X1.c1
        have z2 := X1.c2
        have z3 := X1.c3
        have HS0 : (fun w' : World => w'.cell? ⟨iv, 1, none⟩ = some (.int .i64 x.2.f) ∧ w'.cell? ⟨iv, 2, none⟩ = some (.int .i64 x.2.t) ∧ w'.cell? ⟨iv, 3, none⟩ = some (.int .i64 x.2.i)) wp.drew := ⟨z1, z2, z3⟩
        obtain ⟨L6, hL6⟩ : ∃ q, Hid ((putA most x.2 L).2 = q) := ⟨_, rfl⟩
        have LN6 : Hid (L6.length ≤ L.length + 1) := by show _ ≤ _; rw [← hL6.out]; exact putA_lenM _ _ _
        rw [hL6.out] at A1
        obtain ⟨cd, hcd⟩ : ∃ q, Hid ((putA most x.2 L).1 = q) := ⟨_, rfl⟩
        rw [hcd.out] at A1
        go_upto_region 14 with fail
        go_region_held3 (fun w' : World => w'.cell? ⟨iv, 1, none⟩ = some (.int .i64 x.2.f) ∧ w'.cell? ⟨iv, 2, none⟩ = some (.int .i64 x.2.t) ∧ w'.cell? ⟨iv, 3, none⟩ = some (.int .i64 x.2.i))
          (first | with_reducible exact HS0 | with_reducible assumption)
          (first
            | (go_at_call 9; (with_reducible refine A1.mono ?_); rintro e w5 ⟨rfl, O6, p5, b5⟩; have P5 := Lib.hid p5; have X5 := OpAt.but (w := wp.drew) X1 b5 NO.out.1; have HS1 := And.intro X5.c1 (And.intro X5.c2 X5.c3); have NO6 : Hid (¬ (iv = r)) := (fun z => NO.out.2.1 z.symm); have A2 := play_insR (x := x.2) p5 SO.out (by have := LL.out; omega); (rw [hL6.out, hcd.out] at A2); clear p5 b5 A1)
            | (go_at_call 10; (with_reducible refine A2.mono ?_); rintro e W6 ⟨rfl, v6, p6, b6⟩; have P6 := Lib.hid p6; have X6 := OpAt.but X5 b6 NO6.out; have HS2 := And.intro X6.c1 (And.intro X6.c2 X6.c3); clear p6 b6 A2))
        clear HS0 HS1 HS2 X6 X5 X1 z1 z2 z3
        go_upto_region 22 with fail
        -- behind the switch: all items, Same, Len
        obtain ⟨av, cv, ev, hcv, hgv⟩ := row_form P6.out.ri.row
        subst ev
        have W6Z : Hid (w.heap.size ≤ W6.heap.size) := P6.out.be.size
        have LL6 : Hid (L6.length ≤ 201) := by have := LN6.out; have := LL.out; show _ ≤ _; omega
        have AI := items_is P6.out.ti
        go_upto_region 23 with (go_at_call 15; (with_reducible refine AI.mono ?_); rintro e w7 ⟨ug, rfl, r7, b7⟩; have R7 := Lib.hid r7; have P7 := Lib.hid (P6.out.below b7); have Z7 : Hid (∀ z, (∃ q, q = z ∧ (O6 z ∨ z = r ∨ (Value.slice av L6.length cv).ownBlock = some z)) → z < W6.heap.size) := (by rintro z ⟨q, rfl, h | h | h⟩; exact P6.out.ti.lt _ h; exact h ▸ P6.out.ri.lt; exact P6.out.vlt _ h); clear r7 b7 AI)
        obtain ⟨au, cu, eu, hcu, hgu⟩ := row_form R7.out
        subst eu
        have AU := rowT_cells R7.out
        have AV := rowT_cells P7.out.ri.row
        have S1 := same_eq (w := w7.drew) (AU.below ((Below.refl w7.heap.size w7).drew)) (AV.below ((Below.refl w7.heap.size w7).drew)) (by have := LL6.out; omega)
        have HS0 : (fun w' : World => w'.cell? ⟨r, 1, none⟩ = some (.slice av L6.length cv)) w7.drew := P7.out.ri.c1
        clear AU AV hcv hgv hcu hgu
        go_region_held3 (fun w' : World => w'.cell? ⟨r, 1, none⟩ = some (.slice av L6.length cv))
          (first | with_reducible exact HS0 | with_reducible assumption)
          (first
            | (go_at_call 16; (with_reducible refine S1.mono ?_); rintro e w8 ⟨rfl, b8⟩; have BB8 : Below w7.heap.size w7 w8 := bt ((Below.refl w7.heap.size w7).drew) b8; have P8 := Lib.hid (P7.out.below BB8); have HS1 := P8.out.ri.c1; have R8 := Lib.hid (owns_but R7.out (Below.but BB8 (fun _ => False)) (fun _ _ z => z)); have S2 := len_is P8.out.ti; clear b8 BB8 S1)
            | (go_at_call 17; (with_reducible refine S2.mono ?_); rintro e w20 ⟨rfl, hq⟩; obtain rfl := hq.symm; clear S2))
        clear HS0 HS1
        clear z0
        go_wp2_with fail
        go_loopw [107] (fun i wr => ∃ (j : Nat) (xs : List It), i = .int .i64 (j : Int) ∧ j ≤ L6.length ∧ Hid (xs.length = L6.length) ∧ Hid (RowT wr (W6.heap.size + 1) (.slice au L6.length cu) xs) ∧ Hid (Play w wr t r most O6 (.slice av L6.length cv) L6 L6)) (fun i _ => L6.length - (intOf i).toNat)
        case atStart => exact ⟨0, L6, rfl, by omega, by first | trivial | rfl, R8.out, P8.out⟩
        case round =>
          obtain ⟨wi, rfl⟩ : ∃ wi : World, wi = wr := ⟨_, rfl⟩
          clear R8 P8 R7 P7 P6 P5
          obtain ⟨j, xs, rfl, hj, HX, RR, PP⟩ := hrel
          by_cases hjl : j < L6.length
          · obtain ⟨y, hy⟩ : ∃ y, xs[j]? = some y := ⟨_, List.getElem?_eq_getElem (by rw [HX.out]; exact hjl)⟩
            have RR' : RowT wi (W6.heap.size + 1) (.slice au xs.length cu) xs := by rw [HX.out]; exact RR.out
            obtain ⟨gu, rfl⟩ : ∃ gu, au = some ⟨gu, 0, none⟩ := by
              obtain ⟨ao, cap, e, _, hg⟩ := row_form RR'
              obtain ⟨g, rfl⟩ := hg (by rw [HX.out]; omega)
              simp only [Value.slice.injEq] at e
              exact ⟨g, e.1⟩
            have q1 := rowT_at RR' hy
            have fz := World.ownsRow.frozenAt RR' (j * 3 + 1)
            have GU : Hid (W6.heap.size + 1 ≤ gu) := (World.ownsRow.lt RR' gu rfl).1
            obtain ⟨nt, hnt⟩ : ∃ z, IntKind.i64.wrap (y.t + 1) = z := ⟨_, rfl⟩
            have RS := Lib.hid (rowT_set RR' hy nt)
            have PS : Hid (Play w (wi.setCell ⟨gu, j * 3 + 1, none⟩ (.int .i64 nt)) t r most O6 (.slice av L6.length cv) L6 L6) := by
              refine PP.out.but ((But.refl (· = gu) wi).set (show _ = gu from rfl) _) (fun z hz e => ?_) (fun e => ?_) (fun z hz e => ?_) (fun z e => ?_)
              · have := Z7.out z ⟨z, rfl, .inl hz⟩; have := GU.out; have e : z = gu := e; omega
              · have := Z7.out r ⟨r, rfl, .inr (.inl rfl)⟩; have := GU.out; have e : r = gu := e; omega
              · have := Z7.out z ⟨z, rfl, .inr (.inr hz)⟩; have := GU.out; have e : z = gu := e; omega
              · have := GU.out; have e : z = gu := e; have := W6Z.out; omega
            have i0 : (0 : Int) ≤ (j : Int) := by omega
            have i1 : (j : Int) < ((L6.length : Nat) : Int) := by omega
            have HJ := Lib.hid hjl
            have jw : IntKind.i64.wrap ((j : Int) + 1) = (j : Int) + 1 := by rw [IntWalk.i64_left]; exact IntWalk.wrap64_in _ (by have := LL6.out; omega)
            clear hy hj hjl RR RR'
            go_wp2_with fail
            go_roundw
            case rel => exact ⟨j + 1, xs.set j { y with t := nt }, rfl, by have := HJ.out; omega, by show _ = _; rw [List.length_set]; exact HX.out, by have := RS.out; rw [List.length_set, HX.out] at this; exact this, PS.out⟩
            case measure => show _ - ((j : Int) + 1).toNat < _ - ((j : Int)).toNat; have := HJ.out; omega
          · have hje : j = L6.length := by omega
            subst hje
            clear hjl hj
            go_wp2_with fail
            go_roundw
            case rel => exact ⟨k + 1, L6, rfl, by have := HK.out; omega, by have := LN6.out; have := HLK.out; omega, ⟨_, _, PP.out⟩⟩
            case measure => show _ - ((k : Int) + 1).toNat < _ - ((k : Int)).toNat; have := HK.out; omega
      · by_cases k2 : x.1 = 2
        · rw [k2] at z0
          have A1 := play_delT (x := x.2) (P1.below ((Below.refl wp.heap.size wp).drew))
          have z1 := X1.c1
          have z2 := X1.c2
          have z3 := X1.c3
          have HS0 : (fun w' : World => w'.cell? ⟨iv, 1, none⟩ = some (.int .i64 x.2.f) ∧ w'.cell? ⟨iv, 2, none⟩ = some (.int .i64 x.2.t) ∧ w'.cell? ⟨iv, 3, none⟩ = some (.int .i64 x.2.i)) wp.drew := ⟨z1, z2, z3⟩
          obtain ⟨L6, hL6⟩ : ∃ q, Hid ((delA x.2 L).2 = q) := ⟨_, rfl⟩
          have LN6 : Hid (L6.length ≤ L.length + 1) := by show _ ≤ _; rw [← hL6.out]; have := delA_len x.2 L; omega
          rw [hL6.out] at A1
          obtain ⟨cd, hcd⟩ : ∃ q, Hid ((delA x.2 L).1 = q) := ⟨_, rfl⟩
          rw [hcd.out] at A1
          go_upto_region 17 with fail
          go_region_held3 (fun w' : World => w'.cell? ⟨iv, 1, none⟩ = some (.int .i64 x.2.f) ∧ w'.cell? ⟨iv, 2, none⟩ = some (.int .i64 x.2.t) ∧ w'.cell? ⟨iv, 3, none⟩ = some (.int .i64 x.2.i))
            (first | with_reducible exact HS0 | with_reducible assumption)
            (first
              | (go_at_call 11; (with_reducible refine A1.mono ?_); rintro e w5 ⟨rfl, O6, p5, b5⟩; have P5 := Lib.hid p5; have X5 := OpAt.but (w := wp.drew) X1 b5 NO.out.1; have HS1 := And.intro X5.c1 (And.intro X5.c2 X5.c3); have NO6 : Hid (¬ (iv = r)) := (fun z => NO.out.2.1 z.symm); have A2 := play_delR (x := x.2) p5 SO.out (by have := LL.out; omega); (rw [hL6.out, hcd.out] at A2); clear p5 b5 A1)
              | (go_at_call 12; (with_reducible refine A2.mono ?_); rintro e W6 ⟨rfl, v6, p6, b6⟩; have P6 := Lib.hid p6; have X6 := OpAt.but X5 b6 NO6.out; have HS2 := And.intro X6.c1 (And.intro X6.c2 X6.c3); clear p6 b6 A2))
          clear HS0 HS1 HS2 X6 X5 X1 z1 z2 z3
          go_upto_region 22 with fail
          -- behind the switch: all items, Same, Len
          obtain ⟨av, cv, ev, hcv, hgv⟩ := row_form P6.out.ri.row
          subst ev
          have W6Z : Hid (w.heap.size ≤ W6.heap.size) := P6.out.be.size
          have LL6 : Hid (L6.length ≤ 201) := by have := LN6.out; have := LL.out; show _ ≤ _; omega
          have AI := items_is P6.out.ti
          go_upto_region 23 with (go_at_call 15; (with_reducible refine AI.mono ?_); rintro e w7 ⟨ug, rfl, r7, b7⟩; have R7 := Lib.hid r7; have P7 := Lib.hid (P6.out.below b7); have Z7 : Hid (∀ z, (∃ q, q = z ∧ (O6 z ∨ z = r ∨ (Value.slice av L6.length cv).ownBlock = some z)) → z < W6.heap.size) := (by rintro z ⟨q, rfl, h | h | h⟩; exact P6.out.ti.lt _ h; exact h ▸ P6.out.ri.lt; exact P6.out.vlt _ h); clear r7 b7 AI)
          obtain ⟨au, cu, eu, hcu, hgu⟩ := row_form R7.out
          subst eu
          have AU := rowT_cells R7.out
          have AV := rowT_cells P7.out.ri.row
          have S1 := same_eq (w := w7.drew) (AU.below ((Below.refl w7.heap.size w7).drew)) (AV.below ((Below.refl w7.heap.size w7).drew)) (by have := LL6.out; omega)
          have HS0 : (fun w' : World => w'.cell? ⟨r, 1, none⟩ = some (.slice av L6.length cv)) w7.drew := P7.out.ri.c1
          clear AU AV hcv hgv hcu hgu
          go_region_held3 (fun w' : World => w'.cell? ⟨r, 1, none⟩ = some (.slice av L6.length cv))
            (first | with_reducible exact HS0 | with_reducible assumption)
            (first
              | (go_at_call 16; (with_reducible refine S1.mono ?_); rintro e w8 ⟨rfl, b8⟩; have BB8 : Below w7.heap.size w7 w8 := bt ((Below.refl w7.heap.size w7).drew) b8; have P8 := Lib.hid (P7.out.below BB8); have HS1 := P8.out.ri.c1; have R8 := Lib.hid (owns_but R7.out (Below.but BB8 (fun _ => False)) (fun _ _ z => z)); have S2 := len_is P8.out.ti; clear b8 BB8 S1)
              | (go_at_call 17; (with_reducible refine S2.mono ?_); rintro e w20 ⟨rfl, hq⟩; obtain rfl := hq.symm; clear S2))
          clear HS0 HS1
          clear z0
          go_wp2_with fail
          go_loopw [107] (fun i wr => ∃ (j : Nat) (xs : List It), i = .int .i64 (j : Int) ∧ j ≤ L6.length ∧ Hid (xs.length = L6.length) ∧ Hid (RowT wr (W6.heap.size + 1) (.slice au L6.length cu) xs) ∧ Hid (Play w wr t r most O6 (.slice av L6.length cv) L6 L6)) (fun i _ => L6.length - (intOf i).toNat)
          case atStart => exact ⟨0, L6, rfl, by omega, by first | trivial | rfl, R8.out, P8.out⟩
          case round =>
            obtain ⟨wi, rfl⟩ : ∃ wi : World, wi = wr := ⟨_, rfl⟩
            clear R8 P8 R7 P7 P6 P5
            obtain ⟨j, xs, rfl, hj, HX, RR, PP⟩ := hrel
            by_cases hjl : j < L6.length
            · obtain ⟨y, hy⟩ : ∃ y, xs[j]? = some y := ⟨_, List.getElem?_eq_getElem (by rw [HX.out]; exact hjl)⟩
              have RR' : RowT wi (W6.heap.size + 1) (.slice au xs.length cu) xs := by rw [HX.out]; exact RR.out
              obtain ⟨gu, rfl⟩ : ∃ gu, au = some ⟨gu, 0, none⟩ := by
                obtain ⟨ao, cap, e, _, hg⟩ := row_form RR'
                obtain ⟨g, rfl⟩ := hg (by rw [HX.out]; omega)
                simp only [Value.slice.injEq] at e
                exact ⟨g, e.1⟩
              have q1 := rowT_at RR' hy
              have fz := World.ownsRow.frozenAt RR' (j * 3 + 1)
              have GU : Hid (W6.heap.size + 1 ≤ gu) := (World.ownsRow.lt RR' gu rfl).1
              obtain ⟨nt, hnt⟩ : ∃ z, IntKind.i64.wrap (y.t + 1) = z := ⟨_, rfl⟩
              have RS := Lib.hid (rowT_set RR' hy nt)
              have PS : Hid (Play w (wi.setCell ⟨gu, j * 3 + 1, none⟩ (.int .i64 nt)) t r most O6 (.slice av L6.length cv) L6 L6) := by
                refine PP.out.but ((But.refl (· = gu) wi).set (show _ = gu from rfl) _) (fun z hz e => ?_) (fun e => ?_) (fun z hz e => ?_) (fun z e => ?_)
                · have := Z7.out z ⟨z, rfl, .inl hz⟩; have := GU.out; have e : z = gu := e; omega
                · have := Z7.out r ⟨r, rfl, .inr (.inl rfl)⟩; have := GU.out; have e : r = gu := e; omega
                · have := Z7.out z ⟨z, rfl, .inr (.inr hz)⟩; have := GU.out; have e : z = gu := e; omega
                · have := GU.out; have e : z = gu := e; have := W6Z.out; omega
              have i0 : (0 : Int) ≤ (j : Int) := by omega
              have i1 : (j : Int) < ((L6.length : Nat) : Int) := by omega
              have HJ := Lib.hid hjl
              have jw : IntKind.i64.wrap ((j : Int) + 1) = (j : Int) + 1 := by rw [IntWalk.i64_left]; exact IntWalk.wrap64_in _ (by have := LL6.out; omega)
              clear hy hj hjl RR RR'
              go_wp2_with fail
              go_roundw
              case rel => exact ⟨j + 1, xs.set j { y with t := nt }, rfl, by have := HJ.out; omega, by show _ = _; rw [List.length_set]; exact HX.out, by have := RS.out; rw [List.length_set, HX.out] at this; exact this, PS.out⟩
              case measure => show _ - ((j : Int) + 1).toNat < _ - ((j : Int)).toNat; have := HJ.out; omega
            · have hje : j = L6.length := by omega
              subst hje
              clear hjl hj
              go_wp2_with fail
              go_roundw
              case rel => exact ⟨k + 1, L6, rfl, by have := HK.out; omega, by have := LN6.out; have := HLK.out; omega, ⟨_, _, PP.out⟩⟩
              case measure => show _ - ((k : Int) + 1).toNat < _ - ((k : Int)).toNat; have := HK.out; omega
        · by_cases k3 : x.1 = 3
          · rw [k3] at z0
            have LN6 : Hid (L.length ≤ L.length + 1) := by show _ ≤ _; omega
            have A1 := has_is (x := x.2) (P1.below ((Below.refl wp.heap.size wp).drew)).ti
            have z1 := X1.c1
            have z2 := X1.c2
            have z3 := X1.c3
            have HS0 : (fun w' : World => w'.cell? ⟨iv, 1, none⟩ = some (.int .i64 x.2.f) ∧ w'.cell? ⟨iv, 2, none⟩ = some (.int .i64 x.2.t) ∧ w'.cell? ⟨iv, 3, none⟩ = some (.int .i64 x.2.i)) wp.drew := ⟨z1, z2, z3⟩
            obtain ⟨cd, hcd⟩ : ∃ q, Hid (decide (x.2 ∈ L) = q) := ⟨_, rfl⟩
            rw [hcd.out] at A1
            go_upto_region 20 with fail
            go_region_held3 (fun w' : World => w'.cell? ⟨iv, 1, none⟩ = some (.int .i64 x.2.f) ∧ w'.cell? ⟨iv, 2, none⟩ = some (.int .i64 x.2.t) ∧ w'.cell? ⟨iv, 3, none⟩ = some (.int .i64 x.2.i))
              (first | with_reducible exact HS0 | with_reducible assumption)
              (first
                | (go_at_call 13; (with_reducible refine A1.mono ?_); rintro e w5 ⟨rfl, b5⟩; have BB5 : Below wp.heap.size wp w5 := bt ((Below.refl wp.heap.size wp).drew) b5; have p5 := P1.below BB5; have P5 := Lib.hid p5; have X5 := OpAt.but X1 (Below.but BB5 (fun _ => False)) (fun z => z); have HS1 := And.intro X5.c1 (And.intro X5.c2 X5.c3); have A2 := rhas_any (x := x.2) p5.ri SO.out (by have := LL.out; omega); (rw [hcd.out] at A2); clear p5 b5 A1 BB5)
                | (go_at_call 14; (with_reducible refine A2.mono ?_); rintro e W6 ⟨rfl, b6⟩; have P6 := Lib.hid (P5.out.below b6); have X6 := OpAt.but X5 (Below.but b6 (fun _ => False)) (fun z => z); have HS2 := And.intro X6.c1 (And.intro X6.c2 X6.c3); clear b6 A2))
            clear HS0 HS1 HS2 X6 X5 X1 z1 z2 z3
            go_upto_region 22 with fail
            -- behind the switch: all items, Same, Len
            obtain ⟨av, cv, ev, hcv, hgv⟩ := row_form P6.out.ri.row
            subst ev
            have W6Z : Hid (w.heap.size ≤ W6.heap.size) := P6.out.be.size
            have LL6 : Hid (L.length ≤ 201) := by have := LN6.out; have := LL.out; show _ ≤ _; omega
            have AI := items_is P6.out.ti
            go_upto_region 23 with (go_at_call 15; (with_reducible refine AI.mono ?_); rintro e w7 ⟨ug, rfl, r7, b7⟩; have R7 := Lib.hid r7; have P7 := Lib.hid (P6.out.below b7); have Z7 : Hid (∀ z, (∃ q, q = z ∧ (O z ∨ z = r ∨ (Value.slice av L.length cv).ownBlock = some z)) → z < W6.heap.size) := (by rintro z ⟨q, rfl, h | h | h⟩; exact P6.out.ti.lt _ h; exact h ▸ P6.out.ri.lt; exact P6.out.vlt _ h); clear r7 b7 AI)
            obtain ⟨au, cu, eu, hcu, hgu⟩ := row_form R7.out
            subst eu
            have AU := rowT_cells R7.out
            have AV := rowT_cells P7.out.ri.row
            have S1 := same_eq (w := w7.drew) (AU.below ((Below.refl w7.heap.size w7).drew)) (AV.below ((Below.refl w7.heap.size w7).drew)) (by have := LL6.out; omega)
            have HS0 : (fun w' : World => w'.cell? ⟨r, 1, none⟩ = some (.slice av L.length cv)) w7.drew := P7.out.ri.c1
            clear AU AV hcv hgv hcu hgu
            go_region_held3 (fun w' : World => w'.cell? ⟨r, 1, none⟩ = some (.slice av L.length cv))
              (first | with_reducible exact HS0 | with_reducible assumption)
              (first
                | (go_at_call 16; (with_reducible refine S1.mono ?_); rintro e w8 ⟨rfl, b8⟩; have BB8 : Below w7.heap.size w7 w8 := bt ((Below.refl w7.heap.size w7).drew) b8; have P8 := Lib.hid (P7.out.below BB8); have HS1 := P8.out.ri.c1; have R8 := Lib.hid (owns_but R7.out (Below.but BB8 (fun _ => False)) (fun _ _ z => z)); have S2 := len_is P8.out.ti; clear b8 BB8 S1)
                | (go_at_call 17; (with_reducible refine S2.mono ?_); rintro e w20 ⟨rfl, hq⟩; obtain rfl := hq.symm; clear S2))
            clear HS0 HS1
            clear z0
            go_wp2_with fail
            go_loopw [107] (fun i wr => ∃ (j : Nat) (xs : List It), i = .int .i64 (j : Int) ∧ j ≤ L.length ∧ Hid (xs.length = L.length) ∧ Hid (RowT wr (W6.heap.size + 1) (.slice au L.length cu) xs) ∧ Hid (Play w wr t r most O (.slice av L.length cv) L L)) (fun i _ => L.length - (intOf i).toNat)
            case atStart => exact ⟨0, L, rfl, by omega, by first | trivial | rfl, R8.out, P8.out⟩
            case round =>
              obtain ⟨wi, rfl⟩ : ∃ wi : World, wi = wr := ⟨_, rfl⟩
              clear R8 P8 R7 P7 P6 P5
              obtain ⟨j, xs, rfl, hj, HX, RR, PP⟩ := hrel
              by_cases hjl : j < L.length
              · obtain ⟨y, hy⟩ : ∃ y, xs[j]? = some y := ⟨_, List.getElem?_eq_getElem (by rw [HX.out]; exact hjl)⟩
                have RR' : RowT wi (W6.heap.size + 1) (.slice au xs.length cu) xs := by rw [HX.out]; exact RR.out
                obtain ⟨gu, rfl⟩ : ∃ gu, au = some ⟨gu, 0, none⟩ := by
                  obtain ⟨ao, cap, e, _, hg⟩ := row_form RR'
                  obtain ⟨g, rfl⟩ := hg (by rw [HX.out]; omega)
                  simp only [Value.slice.injEq] at e
                  exact ⟨g, e.1⟩
                have q1 := rowT_at RR' hy
                have fz := World.ownsRow.frozenAt RR' (j * 3 + 1)
                have GU : Hid (W6.heap.size + 1 ≤ gu) := (World.ownsRow.lt RR' gu rfl).1
                obtain ⟨nt, hnt⟩ : ∃ z, IntKind.i64.wrap (y.t + 1) = z := ⟨_, rfl⟩
                have RS := Lib.hid (rowT_set RR' hy nt)
                have PS : Hid (Play w (wi.setCell ⟨gu, j * 3 + 1, none⟩ (.int .i64 nt)) t r most O (.slice av L.length cv) L L) := by
                  refine PP.out.but ((But.refl (· = gu) wi).set (show _ = gu from rfl) _) (fun z hz e => ?_) (fun e => ?_) (fun z hz e => ?_) (fun z e => ?_)
                  · have := Z7.out z ⟨z, rfl, .inl hz⟩; have := GU.out; have e : z = gu := e; omega
                  · have := Z7.out r ⟨r, rfl, .inr (.inl rfl)⟩; have := GU.out; have e : r = gu := e; omega
                  · have := Z7.out z ⟨z, rfl, .inr (.inr hz)⟩; have := GU.out; have e : z = gu := e; omega
                  · have := GU.out; have e : z = gu := e; have := W6Z.out; omega
                have i0 : (0 : Int) ≤ (j : Int) := by omega
                have i1 : (j : Int) < ((L.length : Nat) : Int) := by omega
                have HJ := Lib.hid hjl
                have jw : IntKind.i64.wrap ((j : Int) + 1) = (j : Int) + 1 := by rw [IntWalk.i64_left]; exact IntWalk.wrap64_in _ (by have := LL6.out; omega)
                clear hy hj hjl RR RR'
                go_wp2_with fail
                go_roundw
                case rel => exact ⟨j + 1, xs.set j { y with t := nt }, rfl, by have := HJ.out; omega, by show _ = _; rw [List.length_set]; exact HX.out, by have := RS.out; rw [List.length_set, HX.out] at this; exact this, PS.out⟩
                case measure => show _ - ((j : Int) + 1).toNat < _ - ((j : Int)).toNat; have := HJ.out; omega
              · have hje : j = L.length := by omega
                subst hje
                clear hjl hj
                go_wp2_with fail
                go_roundw
                case rel => exact ⟨k + 1, L, rfl, by have := HK.out; omega, by have := LN6.out; have := HLK.out; omega, ⟨_, _, PP.out⟩⟩
                case measure => show _ - ((k : Int) + 1).toNat < _ - ((k : Int)).toNat; have := HK.out; omega
          · have q1 : ¬ x.1 = 1 := k1
            have q2 : ¬ x.1 = 2 := k2
            have q3 : ¬ x.1 = 3 := k3
            clear k1 k2 k3
            have LN6 : Hid (L.length ≤ L.length + 1) := by show _ ≤ _; omega
            have P6 := Lib.hid P1
            clear X1
            go_upto_region 22 with fail
            -- behind the switch: all items, Same, Len
            obtain ⟨av, cv, ev, hcv, hgv⟩ := row_form P6.out.ri.row
            subst ev
            have W6Z : Hid (w.heap.size ≤ wp.heap.size) := P6.out.be.size
            have LL6 : Hid (L.length ≤ 201) := by have := LN6.out; have := LL.out; show _ ≤ _; omega
            have AI := items_is P6.out.ti
            go_upto_region 23 with (go_at_call 15; (with_reducible refine AI.mono ?_); rintro e w7 ⟨ug, rfl, r7, b7⟩; have R7 := Lib.hid r7; have P7 := Lib.hid (P6.out.below b7); have Z7 : Hid (∀ z, (∃ q, q = z ∧ (O z ∨ z = r ∨ (Value.slice av L.length cv).ownBlock = some z)) → z < wp.heap.size) := (by rintro z ⟨q, rfl, h | h | h⟩; exact P6.out.ti.lt _ h; exact h ▸ P6.out.ri.lt; exact P6.out.vlt _ h); clear r7 b7 AI)
            obtain ⟨au, cu, eu, hcu, hgu⟩ := row_form R7.out
            subst eu
            have AU := rowT_cells R7.out
            have AV := rowT_cells P7.out.ri.row
            have S1 := same_eq (w := w7.drew) (AU.below ((Below.refl w7.heap.size w7).drew)) (AV.below ((Below.refl w7.heap.size w7).drew)) (by have := LL6.out; omega)
            have HS0 : (fun w' : World => w'.cell? ⟨r, 1, none⟩ = some (.slice av L.length cv)) w7.drew := P7.out.ri.c1
            clear AU AV hcv hgv hcu hgu
            go_region_held3 (fun w' : World => w'.cell? ⟨r, 1, none⟩ = some (.slice av L.length cv))
              (first | with_reducible exact HS0 | with_reducible assumption)
              (first
                | (go_at_call 16; (with_reducible refine S1.mono ?_); rintro e w8 ⟨rfl, b8⟩; have BB8 : Below w7.heap.size w7 w8 := bt ((Below.refl w7.heap.size w7).drew) b8; have P8 := Lib.hid (P7.out.below BB8); have HS1 := P8.out.ri.c1; have R8 := Lib.hid (owns_but R7.out (Below.but BB8 (fun _ => False)) (fun _ _ z => z)); have S2 := len_is P8.out.ti; clear b8 BB8 S1)
                | (go_at_call 17; (with_reducible refine S2.mono ?_); rintro e w20 ⟨rfl, hq⟩; obtain rfl := hq.symm; clear S2))
            clear HS0 HS1
            clear z0
            go_wp2_with fail
            go_loopw [107] (fun i wr => ∃ (j : Nat) (xs : List It), i = .int .i64 (j : Int) ∧ j ≤ L.length ∧ Hid (xs.length = L.length) ∧ Hid (RowT wr (wp.heap.size + 1) (.slice au L.length cu) xs) ∧ Hid (Play w wr t r most O (.slice av L.length cv) L L)) (fun i _ => L.length - (intOf i).toNat)
            case atStart => exact ⟨0, L, rfl, by omega, by first | trivial | rfl, R8.out, P8.out⟩
            case round =>
              obtain ⟨wi, rfl⟩ : ∃ wi : World, wi = wr := ⟨_, rfl⟩
              clear R8 P8 R7 P7 P6
              obtain ⟨j, xs, rfl, hj, HX, RR, PP⟩ := hrel
              by_cases hjl : j < L.length
              · obtain ⟨y, hy⟩ : ∃ y, xs[j]? = some y := ⟨_, List.getElem?_eq_getElem (by rw [HX.out]; exact hjl)⟩
                have RR' : RowT wi (wp.heap.size + 1) (.slice au xs.length cu) xs := by rw [HX.out]; exact RR.out
                obtain ⟨gu, rfl⟩ : ∃ gu, au = some ⟨gu, 0, none⟩ := by
                  obtain ⟨ao, cap, e, _, hg⟩ := row_form RR'
                  obtain ⟨g, rfl⟩ := hg (by rw [HX.out]; omega)
                  simp only [Value.slice.injEq] at e
                  exact ⟨g, e.1⟩
                have q1 := rowT_at RR' hy
                have fz := World.ownsRow.frozenAt RR' (j * 3 + 1)
                have GU : Hid (wp.heap.size + 1 ≤ gu) := (World.ownsRow.lt RR' gu rfl).1
                obtain ⟨nt, hnt⟩ : ∃ z, IntKind.i64.wrap (y.t + 1) = z := ⟨_, rfl⟩
                have RS := Lib.hid (rowT_set RR' hy nt)
                have PS : Hid (Play w (wi.setCell ⟨gu, j * 3 + 1, none⟩ (.int .i64 nt)) t r most O (.slice av L.length cv) L L) := by
                  refine PP.out.but ((But.refl (· = gu) wi).set (show _ = gu from rfl) _) (fun z hz e => ?_) (fun e => ?_) (fun z hz e => ?_) (fun z e => ?_)
                  · have := Z7.out z ⟨z, rfl, .inl hz⟩; have := GU.out; have e : z = gu := e; omega
                  · have := Z7.out r ⟨r, rfl, .inr (.inl rfl)⟩; have := GU.out; have e : r = gu := e; omega
                  · have := Z7.out z ⟨z, rfl, .inr (.inr hz)⟩; have := GU.out; have e : z = gu := e; omega
                  · have := GU.out; have e : z = gu := e; have := W6Z.out; omega
                have i0 : (0 : Int) ≤ (j : Int) := by omega
                have i1 : (j : Int) < ((L.length : Nat) : Int) := by omega
                have HJ := Lib.hid hjl
                have jw : IntKind.i64.wrap ((j : Int) + 1) = (j : Int) + 1 := by rw [IntWalk.i64_left]; exact IntWalk.wrap64_in _ (by have := LL6.out; omega)
                clear hy hj hjl RR RR'
                go_wp2_with fail
                go_roundw
                case rel => exact ⟨j + 1, xs.set j { y with t := nt }, rfl, by have := HJ.out; omega, by show _ = _; rw [List.length_set]; exact HX.out, by have := RS.out; rw [List.length_set, HX.out] at this; exact this, PS.out⟩
                case measure => show _ - ((j : Int) + 1).toNat < _ - ((j : Int)).toNat; have := HJ.out; omega
              · have hje : j = L.length := by omega
                subst hje
                clear hjl hj
                go_wp2_with fail
                go_roundw
                case rel => exact ⟨k + 1, L, rfl, by have := HK.out; omega, by have := LN6.out; have := HLK.out; omega, ⟨_, _, PP.out⟩⟩
                case measure => show _ - ((k : Int) + 1).toNat < _ - ((k : Int)).toNat; have := HK.out; omega
    · have hke : k = l.length := by omega
      subst hke
      clear hkl hk
      go_wp2_with (go_at_call 7; (with_reducible refine (known_any _).mono ?_); rintro e w9 ⟨rfl, b9⟩; have B9 := Lib.hid b9; clear b9)
      go_ret
      obtain ⟨O, v, P0⟩ := P0.out
      exact ⟨rfl, bt P0.be B9.out⟩
theorem plays_law (most : Int) (vl : Value) (l : List (Int × It)) (w : World) (hl : ArgO w vl l) : Calls Try.prog 3 #[.int .i64 most, vl] w fun e w' => e = .returned (.bool true) ∧ Below w.heap.size w w' := by
  by_cases h1 : l.length ≤ 200
  · by_cases hm : 1 ≤ most ∧ most ≤ 1000000
    · exact plays_main most vl l w hl h1 hm.1 hm.2
    · obtain ⟨al, cl, rfl, _, _⟩ := hl
      have A := new_no (w := w) (m := most) (by omega)
      have d1 : decide ((200 : Int) < (l.length : Int)) = false := by simp; omega
      have d3 : decide (200 < l.length) = false := by simp; omega
      by_cases m1 : most < 1
      · have e1 : decide (most < 1) = true := by simpa using m1
        clear h1 hm
        go_enter Try.func3, Try.ntmps3
        go_wp2_with (first
          | (go_at_call 8; (with_reducible refine A.mono ?_); rintro e w20 ⟨rfl, hq⟩; obtain rfl := hq.symm)
          | (go_at_call 7; (with_reducible refine (known_any _).mono ?_); rintro e w9 ⟨rfl, b9⟩; have B9 := Lib.hid b9; clear b9))
        go_ret
        exact ⟨rfl, B9.out⟩
      · have m2 : 1000000 < most := by omega
        have e1 : decide (most < 1) = false := by simpa using m1
        have e2 : decide (1000000 < most) = true := by simpa using m2
        clear h1 hm
        go_enter Try.func3, Try.ntmps3
        go_wp2_with (first
          | (go_at_call 8; (with_reducible refine A.mono ?_); rintro e w20 ⟨rfl, hq⟩; obtain rfl := hq.symm)
          | (go_at_call 7; (with_reducible refine (known_any _).mono ?_); rintro e w9 ⟨rfl, b9⟩; have B9 := Lib.hid b9; clear b9))
        go_ret
        exact ⟨rfl, B9.out⟩
  · obtain ⟨al, cl, rfl, _, _⟩ := hl
    have d1 : decide ((200 : Int) < (l.length : Int)) = true := by simp; omega
    have d3 : decide (200 < l.length) = true := by simp; omega
    clear h1
    go_enter Try.func3, Try.ntmps3
    go_wp2_with (go_at_call 7; (with_reducible refine (known_any _).mono ?_); rintro e w9 ⟨rfl, b9⟩; have B9 := Lib.hid b9; clear b9)
    go_ret
    exact ⟨rfl, B9.out⟩
end Go.Proofs.Ytpgmndbmcciniaa.Av
