/-
  TIMELINES, plain: what a row of segments says, place by place; corrodylaw11.TimelineShape, walked.
-/
import Derived.Test.YtmgljgmfipodeaaM45
import Derived.Test.YtmgljgmfipodeaaM25
import Derived.Test.YtmgljgmfipodeaaM46
import Derived.Test.YtmgljgmfipodeaaM47
/-
  TIMELINES, plain: what a row of segments says, place by place.
-/
namespace Go.Proofs.Ytmgljgmfipodeaa.Tl
open Av

/-- where a segment begins, so many behind the first -/
def pos (a : Int) (out : List (Int × Int × Int)) : Nat → Int
  | 0 => a
  | k + 1 => match out[k]? with | some y => y.2.1 | none => a
theorem Row.le {F : Int → Int} : ∀ {out : List (Int × Int × Int)} {a : Int} {prev : Option Int} {e : Int}, Row F a prev out e → a ≤ e
  | [], a, prev, e, h => by have h : a = e := h; omega
  | y :: r, a, prev, e, h => by
    obtain ⟨h1, h2, _, _, _, h6⟩ := h
    have := Row.le h6
    omega
theorem Row.at {F : Int → Int} : ∀ {out : List (Int × Int × Int)} {a : Int} {prev : Option Int} {e : Int}, Row F a prev out e → ∀ {k : Nat} {y : Int × Int × Int}, out[k]? = some y →
    y.1 = pos a out k ∧ y.1 < y.2.1 ∧ F y.1 = y.2.2 ∧ F (y.2.1 - 1) = y.2.2 ∧ (a ≤ y.1 ∧ y.2.1 ≤ e) ∧ ∀ (j : Nat) x, k = j + 1 → out[j]? = some x → x.2.2 ≠ y.2.2
  | [], a, prev, e, h, k, y, hy => by simp at hy
  | z :: r, a, prev, e, h, 0, y, hy => by
    simp only [List.getElem?_cons_zero, Option.some.injEq] at hy
    subst hy
    obtain ⟨h1, h2, h3, h4, h5, h6⟩ := h
    exact ⟨h1, h2, h3, h4, ⟨by omega, Row.le h6⟩, fun j x hj => by omega⟩
  | z :: r, a, prev, e, h, k + 1, y, hy => by
    rw [List.getElem?_cons_succ] at hy
    obtain ⟨h1, h2, h3, h4, h5, h6⟩ := h
    obtain ⟨g1, g2, g3, g4, g5, g6⟩ := Row.at h6 hy
    refine ⟨?_, g2, g3, g4, ⟨by omega, g5.2⟩, fun j x hj hx => ?_⟩
    · rw [g1]
      cases k with
      | zero => rfl
      | succ k =>
        show (match r[k]? with | some y => y.2.1 | none => z.2.1) = (match (z :: r)[k + 1]? with | some y => y.2.1 | none => a)
        rw [List.getElem?_cons_succ]
        have : k < r.length := by have := (List.getElem?_eq_some_iff.1 hy).1; omega
        rw [List.getElem?_eq_getElem this]
    · obtain rfl : k = j := by omega
      cases k with
      | zero =>
        simp only [List.getElem?_cons_zero, Option.some.injEq] at hx
        subst hx
        cases r with
        | nil => simp at hy
        | cons y' r' =>
          simp only [List.getElem?_cons_zero, Option.some.injEq] at hy
          subst hy
          obtain ⟨_, _, _, _, q, _⟩ := h6
          exact fun e => q (by rw [e])
      | succ k =>
        rw [List.getElem?_cons_succ] at hx
        exact g6 k x rfl hx
theorem Row.ends {F : Int → Int} : ∀ {out : List (Int × Int × Int)} {a : Int} {prev : Option Int} {e : Int}, Row F a prev out e → pos a out out.length = e
  | [], a, prev, e, h => h
  | [z], a, prev, e, h => by obtain ⟨_, _, _, _, _, h6⟩ := h; exact h6
  | z :: z2 :: r, a, prev, e, h => by
    obtain ⟨_, _, _, _, _, h6⟩ := h
    have := Row.ends h6
    rw [← this]
    show (match (z :: z2 :: r)[(z2 :: r).length]? with | some y => y.2.1 | none => a) = (match (z2 :: r)[r.length]? with | some y => y.2.1 | none => z.2.1)
    rw [show (z2 :: r).length = r.length + 1 from rfl, List.getElem?_cons_succ]
    have hl : r.length < (z2 :: r).length := by simp
    rw [List.getElem?_eq_getElem hl]
theorem segs_is {E : List Int} {L : List It} {vals free : List Int} {F : Int → Int} {sF sT : Int} (hi : Inv E L vals free) (hf : Fn L vals F) (hs : Sharp L F) (so : Tr.Sorted L) (h : sF < sT) {X : List It} (hX : X = L.filter fun x => decide (x.f < sT) && decide (sF < x.t)) :
    Row F sF none (segs sT vals X (sF, [])).2 sT := by
  have mem : ∀ y, y ∈ X ↔ y ∈ L ∧ y.f < sT ∧ sF < y.t := fun y => by
    rw [hX, List.mem_filter]; simp
  refine segs_row h X sF [] rfl (Int.le_refl _) (by omega) (fun e => absurd rfl e) (fun d h1 h2 => ?_) (fun y hy => .inr ⟨rfl, rfl⟩) (fun y hy => ?_) ?_
  · by_cases c : ∃ y ∈ L, y.f ≤ d ∧ d < y.t
    · obtain ⟨y, hy, c⟩ := c
      exact .inl ⟨y, (mem y).2 ⟨hy, by omega, by omega⟩, c⟩
    · exact .inr (hf.2 d fun x hx k => c ⟨x, hx, k⟩)
  · obtain ⟨m1, m2, m3⟩ := (mem y).1 hy
    exact ⟨m2, m3, (hi.bd y m1).2.1, (hi.id y m1).2.2, fun d h1 h2 => hf.1 y m1 d h1 h2, (hs y m1).1⟩
  · have pw : X.Pairwise (fun x y => x.lt y) := by rw [hX]; exact List.Pairwise.filter _ so
    refine List.Pairwise.imp_of_mem ?_ pw
    intro x y hx hy hlt
    obtain ⟨m1, _⟩ := (mem x).1 hx
    obtain ⟨m2, _⟩ := (mem y).1 hy
    have ne : x ≠ y := fun e => by subst e; exact It.lt_irrefl _ hlt
    have d := hi.dis x m1 y m2 ne
    have b1 := hi.bd x m1
    have b2 := hi.bd y m2
    unfold It.lt at hlt
    omega
end Go.Proofs.Ytmgljgmfipodeaa.Tl
/-
  corrodylaw11.TimelineShape, walked.
-/
namespace Go.Proofs.Ytmgljgmfipodeaa.Tl
open Go Go.RowKit Av Itr
set_option linter.unusedSimpArgs false
set_option linter.unusedVariables false
attribute [local go_sem ↓] Go.wp_at_zero Go.wp_at_succ

theorem segs_tl {w W : World} {b n : Nat} {F : Int → Int} {sF sT : Int} (h : TlIs w W b F n) (hn : n ≤ 1000) (hm : mayS sF sT = true) : ∃ xs : List (Int × Int × Int), Row F sF none xs sT ∧ xs.length ≤ 3000 ∧
    Calls Try.prog 9 #[.pointer (some ⟨b, 0, none⟩), .agg #[.int .i64 sF, .int .i64 sT]] W fun e w' => ∃ v, e = .returned v ∧ segE.Row w' W.heap.size v xs ∧ Below W.heap.size W w' := by
  obtain ⟨T, E, L, vals, free, h1, h2, h3, h4, h5, h6⟩ := h
  have hm2 : 1 ≤ sF ∧ sF < sT ∧ sT ≤ 3652060 := by unfold mayS at hm; simpa using hm
  have S := segs_good h1 h2 (by omega) hm
  have hX : overS sF sT L = L.filter fun x => decide (x.f < sT) && decide (sF < x.t) := by unfold overS over; rw [if_pos hm2.2.1]
  have hx := segs_is h2 h4 h5 h1.sorted hm2.2.1 hX
  refine ⟨_, hx, ?_, S⟩
  rw [segs_fold]
  have l1 := addS_len (segP sT vals (overS sF sT L) (sF, [])) sT 0
  have l2 := segP_len sT vals (overS sF sT L) (sF, [])
  have l3 : (overS sF sT L).length ≤ L.length := over_len _ _ _
  have := h2.len; have := h2.most
  simp only [List.length_nil] at l2
  omega
theorem segs_no {w W : World} {b n : Nat} {F : Int → Int} {sF sT : Int} (h : TlIs w W b F n) (hm : mayS sF sT = false) :
    Calls Try.prog 9 #[.pointer (some ⟨b, 0, none⟩), .agg #[.int .i64 sF, .int .i64 sT]] W fun e w' => e = .returned (.slice none 0 0) ∧ Below W.heap.size W w' := by
  obtain ⟨T, E, L, vals, free, h1, h2, h3, h4, h5, h6⟩ := h
  exact segs_bad h1 hm
set_option maxRecDepth 100000 in
theorem ends_no {w W : World} {b n : Nat} {F : Int → Int} {sF sT : Int} (h : TlIs w W b F n) (hm : mayS sF sT = false) :
    Calls Try.prog 10 #[.pointer (some ⟨b, 0, none⟩), .agg #[.int .i64 sF, .int .i64 sT]] W fun e w' => e = .returned (.slice none 0 0) ∧ Below W.heap.size W w' := by
  have B0 := ba W (.cells #[.int .i64 sF, .int .i64 sT] 24)
  have S := segs_no (h.below B0) hm
  clear h hm
  go_enter Try.func10, Try.ntmps10
  go_upto_region 2 with (go_at_call 9; go_loud ((with_reducible refine S.mono ?_); rintro e w2 ⟨rfl, b2⟩; have B2 := Lib.hid b2; clear b2 S))
  refine (wp_loop_rounds 1 ?_)
  rw [rounds_succ]
  go_wp2_with fail
  go_ret
  exact ⟨rfl, bt B0 B2.out⟩
set_option maxRecDepth 100000 in
theorem shape_many (vl : Value) (l : List (Int × Int × Int)) (sF sT : Int) (w : World) (hl : opE.Arg w vl l) (h60 : ¬ l.length ≤ 60) :
    Calls Try.prog 4 #[vl, .agg #[.int .i64 sF, .int .i64 sT]] w fun e w' => e = .returned (.bool true) ∧ Below w.heap.size w w' := by
  obtain ⟨al, cl, rfl, _⟩ := argOp hl
  have d1 : decide (60 < l.length) = true := by simp; omega
  have d2 : (60 : Int) < (l.length : Int) := by omega
  have B0 := ba w (.cells #[.int .i64 sF, .int .i64 sT] 24)
  have KN := knownT_any (w.alloc (.cells #[.int .i64 sF, .int .i64 sT] 24))
  clear hl h60
  go_enter Try.func4, Try.ntmps4
  go_wp2_with (go_at_call 5; go_loud ((with_reducible refine KN.mono ?_); rintro e w4 ⟨rfl, b4⟩; have B4 := Lib.hid b4; clear b4 KN))
  go_ret
  exact ⟨rfl, bt B0 B4.out⟩
set_option maxRecDepth 100000 in
set_option maxHeartbeats 4000000 in
theorem shape_main (vl : Value) (l : List (Int × Int × Int)) (sF sT : Int) (w : World) (hl : opE.Arg w vl l) (h60 : l.length ≤ 60) :
    Calls Try.prog 4 #[vl, .agg #[.int .i64 sF, .int .i64 sT]] w fun e w' => e = .returned (.bool true) ∧ Below w.heap.size w w' := by
  obtain ⟨al, cl, rfl, hcell⟩ := argOp hl
  have d1 : decide (60 < l.length) = false := by simp; omega
  have d2 : ¬ (60 : Int) < (l.length : Int) := by omega
  have B0 := ba w (.cells #[.int .i64 sF, .int .i64 sT] 24)
  have O0 := heap_alloc_new w (.cells #[.int .i64 sF, .int .i64 sT] 24)
  have HL := Lib.hid h60
  have HC := Lib.hid hcell
  clear hl h60 hcell
  go_enter Try.func4, Try.ntmps4
  go_upto_region 3 with fail
  obtain ⟨wa, hwa⟩ : ∃ z, Hid (z = w.alloc (.cells #[.int .i64 sF, .int .i64 sT] 24)) := ⟨_, rfl⟩
  rw [← hwa.out] at B0 O0 ⊢
  obtain ⟨i0, hi0⟩ : ∃ i, Hid (w.heap.size = i) := ⟨_, rfl⟩
  have ILT : Hid (i0 < wa.heap.size) := by show _ < _; rw [← hi0.out]; exact (Array.getElem?_eq_some_iff.1 O0).1
  rw [hi0.out] at O0 ⊢
  have HO := Lib.hid O0
  have HB0 := Lib.hid B0
  clear O0 B0 hwa
  go_upto_region 4 with (go_at_call 6; (with_reducible refine (new_tl (w := wa)).mono ?_); rintro e w1 ⟨b, rfl, t1⟩; have T1 := Lib.hid t1; clear t1)
  go_wp2_with fail
  go_loopw [21] (fun i wr => ∃ (k : Nat) (F : Int → Int), i = .int .i64 (k : Int) ∧ k ≤ l.length ∧ Hid (TlIs wa wr b F (2 * k))) (fun i _ => l.length - (intOf i).toNat)
  case atStart => exact ⟨0, F0, rfl, by omega, T1.out⟩
  case round =>
    obtain ⟨wo, rfl⟩ : ∃ wo : World, wo = wr := ⟨_, rfl⟩
    clear T1
    obtain ⟨k, F, rfl, hk, TT⟩ := hrel
    by_cases hkl : k < l.length
    · obtain ⟨x, hx⟩ : ∃ x, l[k]? = some x := ⟨_, List.getElem?_eq_getElem hkl⟩
      obtain ⟨bl, ol, rfl, hbl, c0, c1, c2⟩ := HC.out k x hx
      have BB := HB0.out.trans (TT.out.bel.mono HB0.out.size)
      have e0 := (BB.cell (p := ⟨bl, _, none⟩) hbl).trans c0
      have e1 := (BB.cell (p := ⟨bl, _, none⟩) hbl).trans c1
      have e2 := (BB.cell (p := ⟨bl, _, none⟩) hbl).trans c2
      have j0 : (0 : Int) ≤ (k : Int) := by omega
      have j1 : (k : Int) < ((l.length : Nat) : Int) := by omega
      have HK := Lib.hid hkl
      have kw : IntKind.i64.wrap ((k : Int) + 1) = (k : Int) + 1 := by rw [IntWalk.i64_left]; exact IntWalk.wrap64_in _ (by have := HL.out; omega)
      have A1 := put_tl (sF := x.1) (sT := x.2.1) (v := x.2.2) (TT.out.below (ba wo (Obj.cells #[.int .i64 x.1, .int .i64 x.2.1, .int .i64 x.2.2] 26))) (by have := HL.out; omega)
      clear hx c0 c1 c2 hbl hk hkl BB
      go_wp2_with (go_at_call 7; (with_reducible refine A1.mono ?_); rintro e w5 ⟨rfl, t5⟩; have T5 := Lib.hid t5; clear t5 A1)
      go_roundw
      case rel => exact ⟨k + 1, _, rfl, by have := HK.out; omega, by show TlIs _ _ _ _ (2 * (k + 1)); exact T5.out⟩
      case measure => show _ - ((k : Int) + 1).toNat < _ - ((k : Int)).toNat; have := HK.out; omega
    · have hke : k = l.length := by omega
      subst hke
      clear hkl hk
      have kf : ¬ ((l.length : Int) < (l.length : Int)) := by omega
      have O2 := (TT.out.bel.block i0 ILT.out).trans HO.out
      have o0 : wo.cell? ⟨i0, 0, none⟩ = some (.int .i64 sF) := by rw [cell_of_row wo _ _ _ _ (0, 0) O2]; rfl
      have o1 : wo.cell? ⟨i0, 1, none⟩ = some (.int .i64 sT) := by rw [cell_of_row wo _ _ _ _ (0, 0) O2]; rfl
      clear O2
      have KN := Lib.hid knownT_any
      by_cases hm : mayS sF sT = true
      · have hm2 : 1 ≤ sF ∧ sF < sT ∧ sT ≤ 3652060 := by unfold mayS at hm; simpa using hm
        obtain ⟨xs, hR, hxl, S⟩ := segs_tl TT.out (by have := HL.out; omega) hm
        have HR := Lib.hid hR; have HXL := Lib.hid hxl; have HM := Lib.hid hm2
        clear hR hxl hm hm2
        go_upto_region 12 with (go_at_call 9; go_loud ((with_reducible refine S.mono ?_); rintro e w2 ⟨v2, rfl, r2, b2⟩; have R2 := Lib.hid r2; have B2 := Lib.hid b2; clear r2 b2 S))
        clear o0 o1 kf
        have T2 := Lib.hid (TT.out.below B2.out)
        have O2 := (T2.out.bel.block i0 ILT.out).trans HO.out
        have o0 : w2.cell? ⟨i0, 0, none⟩ = some (.int .i64 sF) := by rw [cell_of_row w2 _ _ _ _ (0, 0) O2]; rfl
        have o1 : w2.cell? ⟨i0, 1, none⟩ = some (.int .i64 sT) := by rw [cell_of_row w2 _ _ _ _ (0, 0) O2]; rfl
        have q1 : decide (sF < 1) = false := by have := HM.out; simp; omega
        have q2 : decide (sT ≤ sF) = false := by have := HM.out; simp; omega
        have q3 : decide (3652060 < sT) = false := by have := HM.out; simp; omega
        obtain ⟨ax, cx, rfl, hx3⟩ := argG R2.out.arg
        have HX := Lib.hid hx3
        clear O2 hx3
        go_wp2_with fail
        clear o0 o1 q1 q2 q3
        have HP := Lib.hid (Row.ends HR.out)
        go_loopw [9, 65] (fun a i wr => ∃ (k : Nat), a = .int .i64 (pos sF xs k) ∧ i = .int .i64 (k : Int) ∧ k ≤ xs.length ∧ Hid (Below w2.heap.size w2 wr)) (fun a i _ => xs.length - (intOf i).toNat)
        case atStart => exact ⟨0, rfl, rfl, by omega, Below.refl _ _⟩
        case round =>
          obtain ⟨wq, rfl⟩ : ∃ wq : World, wq = wr := ⟨_, rfl⟩
          obtain ⟨k, rfl, rfl, hk, BQ⟩ := hrel
          by_cases hkl : k < xs.length
          · obtain ⟨y, hy⟩ : ∃ y, xs[k]? = some y := ⟨_, List.getElem?_eq_getElem hkl⟩
            obtain ⟨bx, ox, rfl, hbx, c0, c1, c2⟩ := HX.out k y hy
            replace c0 := (BQ.out.cell (p := ⟨bx, _, none⟩) hbx).trans c0
            replace c1 := (BQ.out.cell (p := ⟨bx, _, none⟩) hbx).trans c1
            replace c2 := (BQ.out.cell (p := ⟨bx, _, none⟩) hbx).trans c2
            obtain ⟨g1, g2, g3, g4, g5, g6⟩ := HR.out.at hy
            have hpos : pos sF xs (k + 1) = y.2.1 := by show (match xs[k]? with | some y => y.2.1 | none => sF) = _; rw [hy]
            obtain ⟨yf, yt, yv⟩ := y
            dsimp only at c0 c1 c2 g1 g2 g3 g4 g5 g6 hpos
            rw [← g1]
            have HPOS := Lib.hid hpos
            have i0' : (0 : Int) ≤ (k : Int) := by omega
            have i1 : (k : Int) < ((xs.length : Nat) : Int) := by omega
            have HK := Lib.hid hkl
            have kw : IntKind.i64.wrap ((k : Int) + 1) = (k : Int) + 1 := by rw [IntWalk.i64_left]; exact IntWalk.wrap64_in _ (by have := HXL.out; omega)
            have X0 := heap_alloc_new wq (.cells #[.int .i64 yf, .int .i64 yt, .int .i64 yv] 39)
            have BX := bt BQ.out (ba wq (.cells #[.int .i64 yf, .int .i64 yt, .int .i64 yv] 39))
            obtain ⟨wz, hwz⟩ : ∃ z, Hid (z = wq.alloc (.cells #[.int .i64 yf, .int .i64 yt, .int .i64 yv] 39)) := ⟨_, rfl⟩
            obtain ⟨iz, hiz⟩ : ∃ z, Hid (wq.heap.size = z) := ⟨_, rfl⟩
            rw [← hwz.out, hiz.out] at X0
            rw [← hwz.out] at BX
            have HX0 := Lib.hid X0; have HBX := Lib.hid BX; have HY := Lib.hid hy
            have x0 : wz.cell? ⟨iz, 0, none⟩ = some (.int .i64 yf) := by rw [cell_of_row wz _ _ _ _ (0, 0) X0]; rfl
            have x1 : wz.cell? ⟨iz, 1, none⟩ = some (.int .i64 yt) := by rw [cell_of_row wz _ _ _ _ (0, 0) X0]; rfl
            have x2 : wz.cell? ⟨iz, 2, none⟩ = some (.int .i64 yv) := by rw [cell_of_row wz _ _ _ _ (0, 0) X0]; rfl
            have yw : IntKind.i64.wrap (yt - 1) = yt - 1 := by rw [IntWalk.i64_left]; exact IntWalk.wrap64_in _ (by have := HM.out; omega)
            have TZ := Lib.hid (T2.out.below BX)
            have A1 := at_tl (day := yf) (TZ.out.below ((Below.refl wz.heap.size wz).drew)) (by have := HM.out; omega) (by have := HM.out; omega)
            rw [g3] at A1
            have HG5 := Lib.hid g5; have HG4 := Lib.hid g4
            have q2 : decide (yt ≤ yf) = false := by simp; omega
            have q1 : (yf != yf) = false := by simp
            have q3 : (yv != yv) = false := by simp
            have Y2 : Hid (yf < yt) := g2
            clear X0 BX g1 g2 g3 g4 g5 hkl hk hpos
            go_upto_region 18 with fail
            rw [← hwz.out, hiz.out]
            clear c0 c1 c2
            by_cases hk0 : k = 0
            · have dk : decide ((0 : Int) < (k : Int)) = false := by simp; omega
              have dk2 : decide (0 < k) = false := by simp; omega
              clear hk0 g6 hy
              have HS0 : (fun w' : World => w'.cell? ⟨iz, 0, none⟩ = some (.int .i64 yf) ∧ w'.cell? ⟨iz, 1, none⟩ = some (.int .i64 yt) ∧ w'.cell? ⟨iz, 2, none⟩ = some (.int .i64 yv)) wz.drew := ⟨x0, x1, x2⟩
              have mkS : ∀ w', Below wz.heap.size wz w' → (w'.cell? ⟨iz, 0, none⟩ = some (.int .i64 yf) ∧ w'.cell? ⟨iz, 1, none⟩ = some (.int .i64 yt) ∧ w'.cell? ⟨iz, 2, none⟩ = some (.int .i64 yv)) := fun w' hb => by
                have h := (hb.block iz (Array.getElem?_eq_some_iff.1 HX0.out).1).trans HX0.out
                exact ⟨by rw [cell_of_row w' _ _ _ _ (0, 0) h]; rfl, by rw [cell_of_row w' _ _ _ _ (0, 0) h]; rfl, by rw [cell_of_row w' _ _ _ _ (0, 0) h]; rfl⟩
              refine wp_region_held_drew (S := fun w' : World => w'.cell? ⟨iz, 0, none⟩ = some (.int .i64 yf) ∧ w'.cell? ⟨iz, 1, none⟩ = some (.int .i64 yt) ∧ w'.cell? ⟨iz, 2, none⟩ = some (.int .i64 yv)) (by kernel_rfl) HS0 (fun HS0 => ?_)
              (refine wpAnyH_take (i := 0) (oi := { dst := some 70, op := Op.fieldAddr 39 (Operand.tmp 11) 0, type := 0, pos := _, after := #[], guard := none }) (v := ?_) rfl (by kernel_rfl) (by kernel_rfl) (by kernel_rfl) (fun _ _ _ h => h) (Or.inl ⟨by rfl, ?_⟩) HS0 ?_; case refine_2 => (intro w hSw; (try dsimp only at hSw); go_simp; try with_reducible rfl)); (try simp only [Act.put, List.setIfInBounds_toArray, List.set_cons_zero, List.set_cons_succ])
              (refine wpAnyH_take (i := 1) (oi := { dst := some 71, op := Op.load 3 (Operand.tmp 70), type := 3, pos := _, after := #[{ on := 0, ground := Ground.data }], guard := none }) (v := ?_) rfl (by kernel_rfl) (by kernel_rfl) (by kernel_rfl) (fun _ _ _ h => h) (Or.inl ⟨by rfl, ?_⟩) HS0 ?_; case refine_2 => (intro w hSw; (try dsimp only at hSw); go_simp; try with_reducible rfl)); (try simp only [Act.put, List.setIfInBounds_toArray, List.set_cons_zero, List.set_cons_succ])
              (refine wpAnyH_take (i := 2) (oi := { dst := some 72, op := Op.move (Operand.tmp 9), type := 3, pos := _, after := #[], guard := none }) (v := ?_) rfl (by kernel_rfl) (by kernel_rfl) (by kernel_rfl) (fun _ _ _ h => h) (Or.inl ⟨by rfl, ?_⟩) HS0 ?_; case refine_2 => (intro w hSw; (try dsimp only at hSw); go_simp; try with_reducible rfl)); (try simp only [Act.put, List.setIfInBounds_toArray, List.set_cons_zero, List.set_cons_succ])
              (refine wpAnyH_take (i := 3) (oi := { dst := some 73, op := Op.binOp BinOp.neq 3 (Operand.tmp 71) (Operand.tmp 72) 3, type := 4, pos := _, after := #[{ on := 1, ground := Ground.data }, { on := 2, ground := Ground.data }], guard := none }) (v := ?_) rfl (by kernel_rfl) (by kernel_rfl) (by kernel_rfl) (fun _ _ _ h => h) (Or.inl ⟨by rfl, ?_⟩) HS0 ?_; case refine_2 => (intro w hSw; (try dsimp only at hSw); go_simp; try with_reducible rfl)); (try simp only [Act.put, List.setIfInBounds_toArray, List.set_cons_zero, List.set_cons_succ])
              (refine wpAnyH_take (i := 4) (oi := { dst := some 74, op := Op.move (Operand.tmp 73), type := 4, pos := _, after := #[{ on := 3, ground := Ground.data }], guard := none }) (v := ?_) rfl (by kernel_rfl) (by kernel_rfl) (by kernel_rfl) (fun _ _ _ h => h) (Or.inl ⟨by rfl, ?_⟩) HS0 ?_; case refine_2 => (intro w hSw; (try dsimp only at hSw); go_simp; try with_reducible rfl)); (try simp only [Act.put, List.setIfInBounds_toArray, List.set_cons_zero, List.set_cons_succ])
              (refine wpAnyH_take (i := 5) (oi := { dst := some 75, op := Op.fieldAddr 39 (Operand.tmp 11) 1, type := 0, pos := _, after := #[{ on := 4, ground := Ground.guard }], guard := some (4, false) }) (v := ?_) rfl (by kernel_rfl) (by kernel_rfl) (by kernel_rfl) (fun _ _ _ h => h) (Or.inl ⟨by rfl, ?_⟩) HS0 ?_; case refine_2 => (intro w hSw; (try dsimp only at hSw); go_simp; try with_reducible rfl)); (try simp only [Act.put, List.setIfInBounds_toArray, List.set_cons_zero, List.set_cons_succ])
              (refine wpAnyH_take (i := 6) (oi := { dst := some 76, op := Op.load 3 (Operand.tmp 75), type := 3, pos := _, after := #[{ on := 5, ground := Ground.data }, { on := 4, ground := Ground.guard }], guard := some (4, false) }) (v := ?_) rfl (by kernel_rfl) (by kernel_rfl) (by kernel_rfl) (fun _ _ _ h => h) (Or.inl ⟨by rfl, ?_⟩) HS0 ?_; case refine_2 => (intro w hSw; (try dsimp only at hSw); go_simp; try with_reducible rfl)); (try simp only [Act.put, List.setIfInBounds_toArray, List.set_cons_zero, List.set_cons_succ])
              (refine wpAnyH_take (i := 7) (oi := { dst := some 77, op := Op.fieldAddr 39 (Operand.tmp 11) 0, type := 0, pos := _, after := #[{ on := 4, ground := Ground.guard }], guard := some (4, false) }) (v := ?_) rfl (by kernel_rfl) (by kernel_rfl) (by kernel_rfl) (fun _ _ _ h => h) (Or.inl ⟨by rfl, ?_⟩) HS0 ?_; case refine_2 => (intro w hSw; (try dsimp only at hSw); go_simp; try with_reducible rfl)); (try simp only [Act.put, List.setIfInBounds_toArray, List.set_cons_zero, List.set_cons_succ])
              (refine wpAnyH_take (i := 8) (oi := { dst := some 78, op := Op.load 3 (Operand.tmp 77), type := 3, pos := _, after := #[{ on := 7, ground := Ground.data }, { on := 4, ground := Ground.guard }], guard := some (4, false) }) (v := ?_) rfl (by kernel_rfl) (by kernel_rfl) (by kernel_rfl) (fun _ _ _ h => h) (Or.inl ⟨by rfl, ?_⟩) HS0 ?_; case refine_2 => (intro w hSw; (try dsimp only at hSw); go_simp; try with_reducible rfl)); (try simp only [Act.put, List.setIfInBounds_toArray, List.set_cons_zero, List.set_cons_succ])
              (refine wpAnyH_take (i := 9) (oi := { dst := some 79, op := Op.binOp BinOp.leq 3 (Operand.tmp 76) (Operand.tmp 78) 3, type := 4, pos := _, after := #[{ on := 6, ground := Ground.data }, { on := 8, ground := Ground.data }, { on := 4, ground := Ground.guard }], guard := some (4, false) }) (v := ?_) rfl (by kernel_rfl) (by kernel_rfl) (by kernel_rfl) (fun _ _ _ h => h) (Or.inl ⟨by rfl, ?_⟩) HS0 ?_; case refine_2 => (intro w hSw; (try dsimp only at hSw); go_simp; try with_reducible rfl)); (try simp only [Act.put, List.setIfInBounds_toArray, List.set_cons_zero, List.set_cons_succ])
              (refine wpAnyH_take (i := 10) (oi := { dst := some 80, op := Op.pick (Operand.tmp 74) (Operand.const (Value.bool true)) (Operand.tmp 79), type := 4, pos := _, after := #[{ on := 4, ground := Ground.data }, { on := 9, ground := Ground.data }], guard := none }) (v := ?_) rfl (by kernel_rfl) (by kernel_rfl) (by kernel_rfl) (fun _ _ _ h => h) (Or.inl ⟨by rfl, ?_⟩) HS0 ?_; case refine_2 => (intro w hSw; (try dsimp only at hSw); go_simp; try with_reducible rfl)); (try simp only [Act.put, List.setIfInBounds_toArray, List.set_cons_zero, List.set_cons_succ])
              (refine wpAnyH_take (i := 11) (oi := { dst := some 81, op := Op.move (Operand.tmp 80), type := 4, pos := _, after := #[{ on := 10, ground := Ground.data }, { on := 4, ground := Ground.chain }], guard := none }) (v := ?_) rfl (by kernel_rfl) (by kernel_rfl) (by kernel_rfl) (fun _ _ _ h => h) (Or.inl ⟨by rfl, ?_⟩) HS0 ?_; case refine_2 => (intro w hSw; (try dsimp only at hSw); go_simp; try with_reducible rfl)); (try simp only [Act.put, List.setIfInBounds_toArray, List.set_cons_zero, List.set_cons_succ])
              (refine wpAnyH_take (i := 12) (oi := { dst := some 82, op := Op.move (Operand.tmp 5), type := 28, pos := _, after := #[{ on := 11, ground := Ground.guard }], guard := some (11, false) }) (v := ?_) rfl (by kernel_rfl) (by kernel_rfl) (by kernel_rfl) (fun _ _ _ h => h) (Or.inl ⟨by rfl, ?_⟩) HS0 ?_; case refine_2 => (intro w hSw; (try dsimp only at hSw); go_simp; try with_reducible rfl)); (try simp only [Act.put, List.setIfInBounds_toArray, List.set_cons_zero, List.set_cons_succ])
              (refine wpAnyH_take (i := 13) (oi := { dst := some 83, op := Op.fieldAddr 39 (Operand.tmp 11) 0, type := 0, pos := _, after := #[{ on := 11, ground := Ground.guard }], guard := some (11, false) }) (v := ?_) rfl (by kernel_rfl) (by kernel_rfl) (by kernel_rfl) (fun _ _ _ h => h) (Or.inl ⟨by rfl, ?_⟩) HS0 ?_; case refine_2 => (intro w hSw; (try dsimp only at hSw); go_simp; try with_reducible rfl)); (try simp only [Act.put, List.setIfInBounds_toArray, List.set_cons_zero, List.set_cons_succ])
              (refine wpAnyH_take (i := 14) (oi := { dst := some 84, op := Op.load 3 (Operand.tmp 83), type := 3, pos := _, after := #[{ on := 13, ground := Ground.data }, { on := 11, ground := Ground.guard }], guard := some (11, false) }) (v := ?_) rfl (by kernel_rfl) (by kernel_rfl) (by kernel_rfl) (fun _ _ _ h => h) (Or.inl ⟨by rfl, ?_⟩) HS0 ?_; case refine_2 => (intro w hSw; (try dsimp only at hSw); go_simp; try with_reducible rfl)); (try simp only [Act.put, List.setIfInBounds_toArray, List.set_cons_zero, List.set_cons_succ])
              (refine wpAnyH_take (i := 16) (oi := { dst := some 86, op := Op.fieldAddr 39 (Operand.tmp 11) 2, type := 0, pos := _, after := #[{ on := 11, ground := Ground.guard }], guard := some (11, false) }) (v := ?_) rfl (by kernel_rfl) (by kernel_rfl) (by kernel_rfl) (fun _ _ _ h => h) (Or.inl ⟨by rfl, ?_⟩) HS0 ?_; case refine_2 => (intro w hSw; (try dsimp only at hSw); go_simp; try with_reducible rfl)); (try simp only [Act.put, List.setIfInBounds_toArray, List.set_cons_zero, List.set_cons_succ])
              (refine wpAnyH_take (i := 17) (oi := { dst := some 87, op := Op.load 3 (Operand.tmp 86), type := 3, pos := _, after := #[{ on := 16, ground := Ground.data }, { on := 11, ground := Ground.guard }], guard := some (11, false) }) (v := ?_) rfl (by kernel_rfl) (by kernel_rfl) (by kernel_rfl) (fun _ _ _ h => h) (Or.inl ⟨by rfl, ?_⟩) HS0 ?_; case refine_2 => (intro w hSw; (try dsimp only at hSw); go_simp; try with_reducible rfl)); (try simp only [Act.put, List.setIfInBounds_toArray, List.set_cons_zero, List.set_cons_succ])
              refine wpAnyH_ready (rs := [15]) (by kernel_rfl) (by simp) ?_
              refine (AllReadyH.cons (o := _) rfl (fun K hK => ?_) AllReadyH.nil)
              go_simp
              go_at_call 8
              (with_reducible refine A1.mono ?_)
              rintro e w5 ⟨rfl, t5, b5⟩
              have D5 := bt ((Below.refl wz.heap.size wz).drew) b5
              have B5 := Lib.hid D5
              have A2 := at_tl (day := yt - 1) t5 (by have := HM.out; have := HG5.out; have := Y2.out; omega) (by have := HM.out; have := HG5.out; omega)
              rw [HG4.out] at A2
              refine hK.out _ _ (mkS w5 D5) (fun HS1 => ?_)
              clear t5 b5 D5 A1
              clear hK HS0
              have HS0 := HS1
              clear HS1
              (refine wpAnyH_take (i := 18) (oi := { dst := some 88, op := Op.binOp BinOp.neq 3 (Operand.tmp 85) (Operand.tmp 87) 3, type := 4, pos := _, after := #[{ on := 15, ground := Ground.data }, { on := 17, ground := Ground.data }, { on := 11, ground := Ground.guard }], guard := some (11, false) }) (v := ?_) rfl (by kernel_rfl) (by kernel_rfl) (by kernel_rfl) (fun _ _ _ h => h) (Or.inl ⟨by rfl, ?_⟩) HS0 ?_; case refine_2 => (intro w hSw; (try dsimp only at hSw); go_simp; try with_reducible rfl)); (try simp only [Act.put, List.setIfInBounds_toArray, List.set_cons_zero, List.set_cons_succ])
              (refine wpAnyH_take (i := 19) (oi := { dst := some 89, op := Op.pick (Operand.tmp 81) (Operand.const (Value.bool true)) (Operand.tmp 88), type := 4, pos := _, after := #[{ on := 11, ground := Ground.data }, { on := 18, ground := Ground.data }], guard := none }) (v := ?_) rfl (by kernel_rfl) (by kernel_rfl) (by kernel_rfl) (fun _ _ _ h => h) (Or.inl ⟨by rfl, ?_⟩) HS0 ?_; case refine_2 => (intro w hSw; (try dsimp only at hSw); go_simp; try with_reducible rfl)); (try simp only [Act.put, List.setIfInBounds_toArray, List.set_cons_zero, List.set_cons_succ])
              (refine wpAnyH_take (i := 20) (oi := { dst := some 90, op := Op.move (Operand.tmp 89), type := 4, pos := _, after := #[{ on := 19, ground := Ground.data }, { on := 15, ground := Ground.chain }], guard := none }) (v := ?_) rfl (by kernel_rfl) (by kernel_rfl) (by kernel_rfl) (fun _ _ _ h => h) (Or.inl ⟨by rfl, ?_⟩) HS0 ?_; case refine_2 => (intro w hSw; (try dsimp only at hSw); go_simp; try with_reducible rfl)); (try simp only [Act.put, List.setIfInBounds_toArray, List.set_cons_zero, List.set_cons_succ])
              (refine wpAnyH_take (i := 21) (oi := { dst := some 91, op := Op.move (Operand.tmp 5), type := 28, pos := _, after := #[{ on := 20, ground := Ground.guard }], guard := some (20, false) }) (v := ?_) rfl (by kernel_rfl) (by kernel_rfl) (by kernel_rfl) (fun _ _ _ h => h) (Or.inl ⟨by rfl, ?_⟩) HS0 ?_; case refine_2 => (intro w hSw; (try dsimp only at hSw); go_simp; try with_reducible rfl)); (try simp only [Act.put, List.setIfInBounds_toArray, List.set_cons_zero, List.set_cons_succ])
              (refine wpAnyH_take (i := 22) (oi := { dst := some 92, op := Op.fieldAddr 39 (Operand.tmp 11) 1, type := 0, pos := _, after := #[{ on := 20, ground := Ground.guard }], guard := some (20, false) }) (v := ?_) rfl (by kernel_rfl) (by kernel_rfl) (by kernel_rfl) (fun _ _ _ h => h) (Or.inl ⟨by rfl, ?_⟩) HS0 ?_; case refine_2 => (intro w hSw; (try dsimp only at hSw); go_simp; try with_reducible rfl)); (try simp only [Act.put, List.setIfInBounds_toArray, List.set_cons_zero, List.set_cons_succ])
              (refine wpAnyH_take (i := 23) (oi := { dst := some 93, op := Op.load 3 (Operand.tmp 92), type := 3, pos := _, after := #[{ on := 22, ground := Ground.data }, { on := 20, ground := Ground.guard }], guard := some (20, false) }) (v := ?_) rfl (by kernel_rfl) (by kernel_rfl) (by kernel_rfl) (fun _ _ _ h => h) (Or.inl ⟨by rfl, ?_⟩) HS0 ?_; case refine_2 => (intro w hSw; (try dsimp only at hSw); go_simp; try with_reducible rfl)); (try simp only [Act.put, List.setIfInBounds_toArray, List.set_cons_zero, List.set_cons_succ])
              (refine wpAnyH_take (i := 24) (oi := { dst := some 94, op := Op.binOp BinOp.sub 3 (Operand.tmp 93) (Operand.const (Value.int IntKind.i64 1)) 3, type := 3, pos := _, after := #[{ on := 23, ground := Ground.data }, { on := 20, ground := Ground.guard }], guard := some (20, false) }) (v := ?_) rfl (by kernel_rfl) (by kernel_rfl) (by kernel_rfl) (fun _ _ _ h => h) (Or.inl ⟨by rfl, ?_⟩) HS0 ?_; case refine_2 => (intro w hSw; (try dsimp only at hSw); go_simp; try with_reducible rfl)); (try simp only [Act.put, List.setIfInBounds_toArray, List.set_cons_zero, List.set_cons_succ])
              (refine wpAnyH_take (i := 26) (oi := { dst := some 96, op := Op.fieldAddr 39 (Operand.tmp 11) 2, type := 0, pos := _, after := #[{ on := 20, ground := Ground.guard }], guard := some (20, false) }) (v := ?_) rfl (by kernel_rfl) (by kernel_rfl) (by kernel_rfl) (fun _ _ _ h => h) (Or.inl ⟨by rfl, ?_⟩) HS0 ?_; case refine_2 => (intro w hSw; (try dsimp only at hSw); go_simp; try with_reducible rfl)); (try simp only [Act.put, List.setIfInBounds_toArray, List.set_cons_zero, List.set_cons_succ])
              (refine wpAnyH_take (i := 27) (oi := { dst := some 97, op := Op.load 3 (Operand.tmp 96), type := 3, pos := _, after := #[{ on := 26, ground := Ground.data }, { on := 20, ground := Ground.guard }], guard := some (20, false) }) (v := ?_) rfl (by kernel_rfl) (by kernel_rfl) (by kernel_rfl) (fun _ _ _ h => h) (Or.inl ⟨by rfl, ?_⟩) HS0 ?_; case refine_2 => (intro w hSw; (try dsimp only at hSw); go_simp; try with_reducible rfl)); (try simp only [Act.put, List.setIfInBounds_toArray, List.set_cons_zero, List.set_cons_succ])
              refine wpAnyH_ready (rs := [25]) (by kernel_rfl) (by simp) ?_
              refine (AllReadyH.cons (o := _) rfl (fun K hK => ?_) AllReadyH.nil)
              go_simp
              go_at_call 8
              (with_reducible refine A2.mono ?_)
              rintro e w6 ⟨rfl, t6, b6⟩
              have D6 := bt B5.out b6
              have B6 := Lib.hid D6
              refine hK.out _ _ (mkS w6 D6) (fun HS1 => ?_)
              clear t6 b6 D6 A2
              clear hK HS0
              have HS0 := HS1
              clear HS1
              (refine wpAnyH_take (i := 28) (oi := { dst := some 98, op := Op.binOp BinOp.neq 3 (Operand.tmp 95) (Operand.tmp 97) 3, type := 4, pos := _, after := #[{ on := 25, ground := Ground.data }, { on := 27, ground := Ground.data }, { on := 20, ground := Ground.guard }], guard := some (20, false) }) (v := ?_) rfl (by kernel_rfl) (by kernel_rfl) (by kernel_rfl) (fun _ _ _ h => h) (Or.inl ⟨by rfl, ?_⟩) HS0 ?_; case refine_2 => (intro w hSw; (try dsimp only at hSw); go_simp; try with_reducible rfl)); (try simp only [Act.put, List.setIfInBounds_toArray, List.set_cons_zero, List.set_cons_succ])
              (refine wpAnyH_take (i := 29) (oi := { dst := some 99, op := Op.pick (Operand.tmp 90) (Operand.const (Value.bool true)) (Operand.tmp 98), type := 4, pos := _, after := #[{ on := 20, ground := Ground.data }, { on := 28, ground := Ground.data }], guard := none }) (v := ?_) rfl (by kernel_rfl) (by kernel_rfl) (by kernel_rfl) (fun _ _ _ h => h) (Or.inl ⟨by rfl, ?_⟩) HS0 ?_; case refine_2 => (intro w hSw; (try dsimp only at hSw); go_simp; try with_reducible rfl)); (try simp only [Act.put, List.setIfInBounds_toArray, List.set_cons_zero, List.set_cons_succ])
              (refine wpAnyH_take (i := 30) (oi := { dst := some 100, op := Op.move (Operand.tmp 99), type := 4, pos := _, after := #[{ on := 29, ground := Ground.data }, { on := 25, ground := Ground.chain }], guard := none }) (v := ?_) rfl (by kernel_rfl) (by kernel_rfl) (by kernel_rfl) (fun _ _ _ h => h) (Or.inl ⟨by rfl, ?_⟩) HS0 ?_; case refine_2 => (intro w hSw; (try dsimp only at hSw); go_simp; try with_reducible rfl)); (try simp only [Act.put, List.setIfInBounds_toArray, List.set_cons_zero, List.set_cons_succ])
              (refine wpAnyH_take (i := 31) (oi := { dst := some 101, op := Op.move (Operand.tmp 10), type := 3, pos := _, after := #[{ on := 30, ground := Ground.guard }], guard := some (30, false) }) (v := ?_) rfl (by kernel_rfl) (by kernel_rfl) (by kernel_rfl) (fun _ _ _ h => h) (Or.inl ⟨by rfl, ?_⟩) HS0 ?_; case refine_2 => (intro w hSw; (try dsimp only at hSw); go_simp; try with_reducible rfl)); (try simp only [Act.put, List.setIfInBounds_toArray, List.set_cons_zero, List.set_cons_succ])
              (refine wpAnyH_take (i := 32) (oi := { dst := some 102, op := Op.binOp BinOp.gtr 3 (Operand.tmp 101) (Operand.const (Value.int IntKind.i64 0)) 3, type := 4, pos := _, after := #[{ on := 31, ground := Ground.data }, { on := 30, ground := Ground.guard }], guard := some (30, false) }) (v := ?_) rfl (by kernel_rfl) (by kernel_rfl) (by kernel_rfl) (fun _ _ _ h => h) (Or.inl ⟨by rfl, ?_⟩) HS0 ?_; case refine_2 => (intro w hSw; (try dsimp only at hSw); go_simp; try with_reducible rfl)); (try simp only [Act.put, List.setIfInBounds_toArray, List.set_cons_zero, List.set_cons_succ])
              (refine wpAnyH_take (i := 33) (oi := { dst := some 103, op := Op.move (Operand.tmp 102), type := 4, pos := _, after := #[{ on := 32, ground := Ground.data }, { on := 30, ground := Ground.chain }, { on := 30, ground := Ground.guard }], guard := some (30, false) }) (v := ?_) rfl (by kernel_rfl) (by kernel_rfl) (by kernel_rfl) (fun _ _ _ h => h) (Or.inl ⟨by rfl, ?_⟩) HS0 ?_; case refine_2 => (intro w hSw; (try dsimp only at hSw); go_simp; try with_reducible rfl)); (try simp only [Act.put, List.setIfInBounds_toArray, List.set_cons_zero, List.set_cons_succ])
              (refine wpAnyH_take (i := 34) (oi := { dst := some 104, op := Op.move (Operand.tmp 8), type := 34, pos := _, after := #[{ on := 33, ground := Ground.guard }], guard := some (33, true) }) (v := undef) rfl (by kernel_rfl) (by kernel_rfl) (by kernel_rfl) (fun _ _ _ h => h) (Or.inr ⟨by rfl, rfl⟩) HS0 ?_); (try simp only [Act.put, List.setIfInBounds_toArray, List.set_cons_zero, List.set_cons_succ])
              (refine wpAnyH_take (i := 35) (oi := { dst := some 105, op := Op.move (Operand.tmp 10), type := 3, pos := _, after := #[{ on := 33, ground := Ground.guard }], guard := some (33, true) }) (v := undef) rfl (by kernel_rfl) (by kernel_rfl) (by kernel_rfl) (fun _ _ _ h => h) (Or.inr ⟨by rfl, rfl⟩) HS0 ?_); (try simp only [Act.put, List.setIfInBounds_toArray, List.set_cons_zero, List.set_cons_succ])
              (refine wpAnyH_take (i := 36) (oi := { dst := some 106, op := Op.binOp BinOp.sub 3 (Operand.tmp 105) (Operand.const (Value.int IntKind.i64 1)) 3, type := 3, pos := _, after := #[{ on := 35, ground := Ground.data }, { on := 33, ground := Ground.guard }], guard := some (33, true) }) (v := undef) rfl (by kernel_rfl) (by kernel_rfl) (by kernel_rfl) (fun _ _ _ h => h) (Or.inr ⟨by rfl, rfl⟩) HS0 ?_); (try simp only [Act.put, List.setIfInBounds_toArray, List.set_cons_zero, List.set_cons_succ])
              (refine wpAnyH_take (i := 37) (oi := { dst := some 107, op := Op.indexAddr 34 (Operand.tmp 104) (Operand.tmp 106), type := 0, pos := _, after := #[{ on := 34, ground := Ground.data }, { on := 36, ground := Ground.data }, { on := 33, ground := Ground.guard }], guard := some (33, true) }) (v := undef) rfl (by kernel_rfl) (by kernel_rfl) (by kernel_rfl) (fun _ _ _ h => h) (Or.inr ⟨by rfl, rfl⟩) HS0 ?_); (try simp only [Act.put, List.setIfInBounds_toArray, List.set_cons_zero, List.set_cons_succ])
              (refine wpAnyH_take (i := 38) (oi := { dst := some 108, op := Op.fieldAddr 39 (Operand.tmp 107) 2, type := 0, pos := _, after := #[{ on := 37, ground := Ground.data }, { on := 33, ground := Ground.guard }], guard := some (33, true) }) (v := undef) rfl (by kernel_rfl) (by kernel_rfl) (by kernel_rfl) (fun _ _ _ h => h) (Or.inr ⟨by rfl, rfl⟩) HS0 ?_); (try simp only [Act.put, List.setIfInBounds_toArray, List.set_cons_zero, List.set_cons_succ])
              (refine wpAnyH_take (i := 39) (oi := { dst := some 109, op := Op.load 3 (Operand.tmp 108), type := 3, pos := _, after := #[{ on := 38, ground := Ground.data }, { on := 33, ground := Ground.guard }], guard := some (33, true) }) (v := undef) rfl (by kernel_rfl) (by kernel_rfl) (by kernel_rfl) (fun _ _ _ h => h) (Or.inr ⟨by rfl, rfl⟩) HS0 ?_); (try simp only [Act.put, List.setIfInBounds_toArray, List.set_cons_zero, List.set_cons_succ])
              (refine wpAnyH_take (i := 40) (oi := { dst := some 110, op := Op.fieldAddr 39 (Operand.tmp 11) 2, type := 0, pos := _, after := #[{ on := 33, ground := Ground.guard }], guard := some (33, true) }) (v := undef) rfl (by kernel_rfl) (by kernel_rfl) (by kernel_rfl) (fun _ _ _ h => h) (Or.inr ⟨by rfl, rfl⟩) HS0 ?_); (try simp only [Act.put, List.setIfInBounds_toArray, List.set_cons_zero, List.set_cons_succ])
              (refine wpAnyH_take (i := 41) (oi := { dst := some 111, op := Op.load 3 (Operand.tmp 110), type := 3, pos := _, after := #[{ on := 40, ground := Ground.data }, { on := 33, ground := Ground.guard }], guard := some (33, true) }) (v := undef) rfl (by kernel_rfl) (by kernel_rfl) (by kernel_rfl) (fun _ _ _ h => h) (Or.inr ⟨by rfl, rfl⟩) HS0 ?_); (try simp only [Act.put, List.setIfInBounds_toArray, List.set_cons_zero, List.set_cons_succ])
              (refine wpAnyH_take (i := 42) (oi := { dst := some 112, op := Op.binOp BinOp.eql 3 (Operand.tmp 109) (Operand.tmp 111) 3, type := 4, pos := _, after := #[{ on := 39, ground := Ground.data }, { on := 41, ground := Ground.data }, { on := 33, ground := Ground.guard }], guard := some (33, true) }) (v := undef) rfl (by kernel_rfl) (by kernel_rfl) (by kernel_rfl) (fun _ _ _ h => h) (Or.inr ⟨by rfl, rfl⟩) HS0 ?_); (try simp only [Act.put, List.setIfInBounds_toArray, List.set_cons_zero, List.set_cons_succ])
              (refine wpAnyH_take (i := 43) (oi := { dst := some 113, op := Op.pick (Operand.tmp 103) (Operand.tmp 112) (Operand.const (Value.bool false)), type := 4, pos := _, after := #[{ on := 33, ground := Ground.data }, { on := 42, ground := Ground.data }, { on := 30, ground := Ground.guard }], guard := some (30, false) }) (v := ?_) rfl (by kernel_rfl) (by kernel_rfl) (by kernel_rfl) (fun _ _ _ h => h) (Or.inl ⟨by rfl, ?_⟩) HS0 ?_; case refine_2 => (intro w hSw; (try dsimp only at hSw); go_simp; try with_reducible rfl)); (try simp only [Act.put, List.setIfInBounds_toArray, List.set_cons_zero, List.set_cons_succ])
              (refine wpAnyH_take (i := 44) (oi := { dst := some 114, op := Op.pick (Operand.tmp 100) (Operand.const (Value.bool true)) (Operand.tmp 113), type := 4, pos := _, after := #[{ on := 30, ground := Ground.data }, { on := 43, ground := Ground.data }], guard := none }) (v := ?_) rfl (by kernel_rfl) (by kernel_rfl) (by kernel_rfl) (fun _ _ _ h => h) (Or.inl ⟨by rfl, ?_⟩) HS0 ?_; case refine_2 => (intro w hSw; (try dsimp only at hSw); go_simp; try with_reducible rfl)); (try simp only [Act.put, List.setIfInBounds_toArray, List.set_cons_zero, List.set_cons_succ])
              refine wpAnyH_done (by kernel_rfl) ?_ _
              clear mkS x0 x1 x2
              obtain ⟨x0, x1, x2⟩ := HS0
              go_wp2_with fail
              go_roundw
              case rel => exact ⟨k + 1, by rw [HPOS.out], rfl, by have := HK.out; omega, bt HBX.out B6.out⟩
              case measure => show _ - ((k : Int) + 1).toNat < _ - ((k : Int)).toNat; have := HK.out; omega
            · obtain ⟨n, hn⟩ : ∃ n, Hid (k = n + 1) := ⟨k - 1, by show _ = _; omega⟩
              obtain ⟨x', hx'⟩ : ∃ x', xs[n]? = some x' := ⟨_, List.getElem?_eq_getElem (by have := hn.out; have := HK.out; omega)⟩
              obtain ⟨b1', o1', ee, hb', _, _, z2⟩ := HX.out n x' hx'
              simp only [Option.some.injEq, Addr.mk.injEq, and_true] at ee
              obtain ⟨e1, e2⟩ := ee
              subst e1; subst e2
              have ne := g6 n x' hn.out hx'
              obtain ⟨pf, pt, pv⟩ := x'
              dsimp only at z2 ne
              have q4 : decide (pv = yv) = false := by simpa using ne
              have q5 : (pv == yv) = false := by simpa using ne
              have z2' := (HBX.out.cell (p := ⟨bx, _, none⟩) hb').trans z2
              have HBP : Hid (bx < wz.heap.size) := by have := HBX.out.size; show _ < _; omega
              have n0 : (0 : Int) ≤ (n : Int) := by omega
              have n1 : (n : Int) < ((xs.length : Nat) : Int) := by have := hn.out; have := HK.out; omega
              have kw2 : IntKind.i64.wrap ((k : Int) - 1) = (n : Int) := by rw [IntWalk.i64_left, IntWalk.wrap64_in _ (by have := HXL.out; have := HK.out; omega)]; have := hn.out; omega
              have dk : decide ((0 : Int) < (k : Int)) = true := by simp; omega
              have dk2 : decide (0 < k) = true := by simp; omega
              clear ne z2 hx' hb'
              clear hk0 g6 hy
              have HS0 : (fun w' : World => w'.cell? ⟨iz, 0, none⟩ = some (.int .i64 yf) ∧ w'.cell? ⟨iz, 1, none⟩ = some (.int .i64 yt) ∧ w'.cell? ⟨iz, 2, none⟩ = some (.int .i64 yv) ∧ w'.cell? ⟨bx, ox + n * 3 + 2, none⟩ = some (.int .i64 pv)) wz.drew := ⟨x0, x1, x2, z2'⟩
              have mkS : ∀ w', Below wz.heap.size wz w' → (w'.cell? ⟨iz, 0, none⟩ = some (.int .i64 yf) ∧ w'.cell? ⟨iz, 1, none⟩ = some (.int .i64 yt) ∧ w'.cell? ⟨iz, 2, none⟩ = some (.int .i64 yv) ∧ w'.cell? ⟨bx, ox + n * 3 + 2, none⟩ = some (.int .i64 pv)) := fun w' hb => by
                have h := (hb.block iz (Array.getElem?_eq_some_iff.1 HX0.out).1).trans HX0.out
                exact ⟨by rw [cell_of_row w' _ _ _ _ (0, 0) h]; rfl, by rw [cell_of_row w' _ _ _ _ (0, 0) h]; rfl, by rw [cell_of_row w' _ _ _ _ (0, 0) h]; rfl, (hb.cell (p := ⟨bx, _, none⟩) HBP.out).trans z2'⟩
              refine wp_region_held_drew (S := fun w' : World => w'.cell? ⟨iz, 0, none⟩ = some (.int .i64 yf) ∧ w'.cell? ⟨iz, 1, none⟩ = some (.int .i64 yt) ∧ w'.cell? ⟨iz, 2, none⟩ = some (.int .i64 yv) ∧ w'.cell? ⟨bx, ox + n * 3 + 2, none⟩ = some (.int .i64 pv)) (by kernel_rfl) HS0 (fun HS0 => ?_)
              (refine wpAnyH_take (i := 0) (oi := { dst := some 70, op := Op.fieldAddr 39 (Operand.tmp 11) 0, type := 0, pos := _, after := #[], guard := none }) (v := ?_) rfl (by kernel_rfl) (by kernel_rfl) (by kernel_rfl) (fun _ _ _ h => h) (Or.inl ⟨by rfl, ?_⟩) HS0 ?_; case refine_2 => (intro w hSw; (try dsimp only at hSw); go_simp; try with_reducible rfl)); (try simp only [Act.put, List.setIfInBounds_toArray, List.set_cons_zero, List.set_cons_succ])
              (refine wpAnyH_take (i := 1) (oi := { dst := some 71, op := Op.load 3 (Operand.tmp 70), type := 3, pos := _, after := #[{ on := 0, ground := Ground.data }], guard := none }) (v := ?_) rfl (by kernel_rfl) (by kernel_rfl) (by kernel_rfl) (fun _ _ _ h => h) (Or.inl ⟨by rfl, ?_⟩) HS0 ?_; case refine_2 => (intro w hSw; (try dsimp only at hSw); go_simp; try with_reducible rfl)); (try simp only [Act.put, List.setIfInBounds_toArray, List.set_cons_zero, List.set_cons_succ])
              (refine wpAnyH_take (i := 2) (oi := { dst := some 72, op := Op.move (Operand.tmp 9), type := 3, pos := _, after := #[], guard := none }) (v := ?_) rfl (by kernel_rfl) (by kernel_rfl) (by kernel_rfl) (fun _ _ _ h => h) (Or.inl ⟨by rfl, ?_⟩) HS0 ?_; case refine_2 => (intro w hSw; (try dsimp only at hSw); go_simp; try with_reducible rfl)); (try simp only [Act.put, List.setIfInBounds_toArray, List.set_cons_zero, List.set_cons_succ])
              (refine wpAnyH_take (i := 3) (oi := { dst := some 73, op := Op.binOp BinOp.neq 3 (Operand.tmp 71) (Operand.tmp 72) 3, type := 4, pos := _, after := #[{ on := 1, ground := Ground.data }, { on := 2, ground := Ground.data }], guard := none }) (v := ?_) rfl (by kernel_rfl) (by kernel_rfl) (by kernel_rfl) (fun _ _ _ h => h) (Or.inl ⟨by rfl, ?_⟩) HS0 ?_; case refine_2 => (intro w hSw; (try dsimp only at hSw); go_simp; try with_reducible rfl)); (try simp only [Act.put, List.setIfInBounds_toArray, List.set_cons_zero, List.set_cons_succ])
              (refine wpAnyH_take (i := 4) (oi := { dst := some 74, op := Op.move (Operand.tmp 73), type := 4, pos := _, after := #[{ on := 3, ground := Ground.data }], guard := none }) (v := ?_) rfl (by kernel_rfl) (by kernel_rfl) (by kernel_rfl) (fun _ _ _ h => h) (Or.inl ⟨by rfl, ?_⟩) HS0 ?_; case refine_2 => (intro w hSw; (try dsimp only at hSw); go_simp; try with_reducible rfl)); (try simp only [Act.put, List.setIfInBounds_toArray, List.set_cons_zero, List.set_cons_succ])
              (refine wpAnyH_take (i := 5) (oi := { dst := some 75, op := Op.fieldAddr 39 (Operand.tmp 11) 1, type := 0, pos := _, after := #[{ on := 4, ground := Ground.guard }], guard := some (4, false) }) (v := ?_) rfl (by kernel_rfl) (by kernel_rfl) (by kernel_rfl) (fun _ _ _ h => h) (Or.inl ⟨by rfl, ?_⟩) HS0 ?_; case refine_2 => (intro w hSw; (try dsimp only at hSw); go_simp; try with_reducible rfl)); (try simp only [Act.put, List.setIfInBounds_toArray, List.set_cons_zero, List.set_cons_succ])
              (refine wpAnyH_take (i := 6) (oi := { dst := some 76, op := Op.load 3 (Operand.tmp 75), type := 3, pos := _, after := #[{ on := 5, ground := Ground.data }, { on := 4, ground := Ground.guard }], guard := some (4, false) }) (v := ?_) rfl (by kernel_rfl) (by kernel_rfl) (by kernel_rfl) (fun _ _ _ h => h) (Or.inl ⟨by rfl, ?_⟩) HS0 ?_; case refine_2 => (intro w hSw; (try dsimp only at hSw); go_simp; try with_reducible rfl)); (try simp only [Act.put, List.setIfInBounds_toArray, List.set_cons_zero, List.set_cons_succ])
              (refine wpAnyH_take (i := 7) (oi := { dst := some 77, op := Op.fieldAddr 39 (Operand.tmp 11) 0, type := 0, pos := _, after := #[{ on := 4, ground := Ground.guard }], guard := some (4, false) }) (v := ?_) rfl (by kernel_rfl) (by kernel_rfl) (by kernel_rfl) (fun _ _ _ h => h) (Or.inl ⟨by rfl, ?_⟩) HS0 ?_; case refine_2 => (intro w hSw; (try dsimp only at hSw); go_simp; try with_reducible rfl)); (try simp only [Act.put, List.setIfInBounds_toArray, List.set_cons_zero, List.set_cons_succ])
              (refine wpAnyH_take (i := 8) (oi := { dst := some 78, op := Op.load 3 (Operand.tmp 77), type := 3, pos := _, after := #[{ on := 7, ground := Ground.data }, { on := 4, ground := Ground.guard }], guard := some (4, false) }) (v := ?_) rfl (by kernel_rfl) (by kernel_rfl) (by kernel_rfl) (fun _ _ _ h => h) (Or.inl ⟨by rfl, ?_⟩) HS0 ?_; case refine_2 => (intro w hSw; (try dsimp only at hSw); go_simp; try with_reducible rfl)); (try simp only [Act.put, List.setIfInBounds_toArray, List.set_cons_zero, List.set_cons_succ])
              (refine wpAnyH_take (i := 9) (oi := { dst := some 79, op := Op.binOp BinOp.leq 3 (Operand.tmp 76) (Operand.tmp 78) 3, type := 4, pos := _, after := #[{ on := 6, ground := Ground.data }, { on := 8, ground := Ground.data }, { on := 4, ground := Ground.guard }], guard := some (4, false) }) (v := ?_) rfl (by kernel_rfl) (by kernel_rfl) (by kernel_rfl) (fun _ _ _ h => h) (Or.inl ⟨by rfl, ?_⟩) HS0 ?_; case refine_2 => (intro w hSw; (try dsimp only at hSw); go_simp; try with_reducible rfl)); (try simp only [Act.put, List.setIfInBounds_toArray, List.set_cons_zero, List.set_cons_succ])
              (refine wpAnyH_take (i := 10) (oi := { dst := some 80, op := Op.pick (Operand.tmp 74) (Operand.const (Value.bool true)) (Operand.tmp 79), type := 4, pos := _, after := #[{ on := 4, ground := Ground.data }, { on := 9, ground := Ground.data }], guard := none }) (v := ?_) rfl (by kernel_rfl) (by kernel_rfl) (by kernel_rfl) (fun _ _ _ h => h) (Or.inl ⟨by rfl, ?_⟩) HS0 ?_; case refine_2 => (intro w hSw; (try dsimp only at hSw); go_simp; try with_reducible rfl)); (try simp only [Act.put, List.setIfInBounds_toArray, List.set_cons_zero, List.set_cons_succ])
              (refine wpAnyH_take (i := 11) (oi := { dst := some 81, op := Op.move (Operand.tmp 80), type := 4, pos := _, after := #[{ on := 10, ground := Ground.data }, { on := 4, ground := Ground.chain }], guard := none }) (v := ?_) rfl (by kernel_rfl) (by kernel_rfl) (by kernel_rfl) (fun _ _ _ h => h) (Or.inl ⟨by rfl, ?_⟩) HS0 ?_; case refine_2 => (intro w hSw; (try dsimp only at hSw); go_simp; try with_reducible rfl)); (try simp only [Act.put, List.setIfInBounds_toArray, List.set_cons_zero, List.set_cons_succ])
              (refine wpAnyH_take (i := 12) (oi := { dst := some 82, op := Op.move (Operand.tmp 5), type := 28, pos := _, after := #[{ on := 11, ground := Ground.guard }], guard := some (11, false) }) (v := ?_) rfl (by kernel_rfl) (by kernel_rfl) (by kernel_rfl) (fun _ _ _ h => h) (Or.inl ⟨by rfl, ?_⟩) HS0 ?_; case refine_2 => (intro w hSw; (try dsimp only at hSw); go_simp; try with_reducible rfl)); (try simp only [Act.put, List.setIfInBounds_toArray, List.set_cons_zero, List.set_cons_succ])
              (refine wpAnyH_take (i := 13) (oi := { dst := some 83, op := Op.fieldAddr 39 (Operand.tmp 11) 0, type := 0, pos := _, after := #[{ on := 11, ground := Ground.guard }], guard := some (11, false) }) (v := ?_) rfl (by kernel_rfl) (by kernel_rfl) (by kernel_rfl) (fun _ _ _ h => h) (Or.inl ⟨by rfl, ?_⟩) HS0 ?_; case refine_2 => (intro w hSw; (try dsimp only at hSw); go_simp; try with_reducible rfl)); (try simp only [Act.put, List.setIfInBounds_toArray, List.set_cons_zero, List.set_cons_succ])
              (refine wpAnyH_take (i := 14) (oi := { dst := some 84, op := Op.load 3 (Operand.tmp 83), type := 3, pos := _, after := #[{ on := 13, ground := Ground.data }, { on := 11, ground := Ground.guard }], guard := some (11, false) }) (v := ?_) rfl (by kernel_rfl) (by kernel_rfl) (by kernel_rfl) (fun _ _ _ h => h) (Or.inl ⟨by rfl, ?_⟩) HS0 ?_; case refine_2 => (intro w hSw; (try dsimp only at hSw); go_simp; try with_reducible rfl)); (try simp only [Act.put, List.setIfInBounds_toArray, List.set_cons_zero, List.set_cons_succ])
              (refine wpAnyH_take (i := 16) (oi := { dst := some 86, op := Op.fieldAddr 39 (Operand.tmp 11) 2, type := 0, pos := _, after := #[{ on := 11, ground := Ground.guard }], guard := some (11, false) }) (v := ?_) rfl (by kernel_rfl) (by kernel_rfl) (by kernel_rfl) (fun _ _ _ h => h) (Or.inl ⟨by rfl, ?_⟩) HS0 ?_; case refine_2 => (intro w hSw; (try dsimp only at hSw); go_simp; try with_reducible rfl)); (try simp only [Act.put, List.setIfInBounds_toArray, List.set_cons_zero, List.set_cons_succ])
              (refine wpAnyH_take (i := 17) (oi := { dst := some 87, op := Op.load 3 (Operand.tmp 86), type := 3, pos := _, after := #[{ on := 16, ground := Ground.data }, { on := 11, ground := Ground.guard }], guard := some (11, false) }) (v := ?_) rfl (by kernel_rfl) (by kernel_rfl) (by kernel_rfl) (fun _ _ _ h => h) (Or.inl ⟨by rfl, ?_⟩) HS0 ?_; case refine_2 => (intro w hSw; (try dsimp only at hSw); go_simp; try with_reducible rfl)); (try simp only [Act.put, List.setIfInBounds_toArray, List.set_cons_zero, List.set_cons_succ])
              refine wpAnyH_ready (rs := [15]) (by kernel_rfl) (by simp) ?_
              refine (AllReadyH.cons (o := _) rfl (fun K hK => ?_) AllReadyH.nil)
              go_simp
              go_at_call 8
              (with_reducible refine A1.mono ?_)
              rintro e w5 ⟨rfl, t5, b5⟩
              have D5 := bt ((Below.refl wz.heap.size wz).drew) b5
              have B5 := Lib.hid D5
              have A2 := at_tl (day := yt - 1) t5 (by have := HM.out; have := HG5.out; have := Y2.out; omega) (by have := HM.out; have := HG5.out; omega)
              rw [HG4.out] at A2
              refine hK.out _ _ (mkS w5 D5) (fun HS1 => ?_)
              clear t5 b5 D5 A1
              clear hK HS0
              have HS0 := HS1
              clear HS1
              (refine wpAnyH_take (i := 18) (oi := { dst := some 88, op := Op.binOp BinOp.neq 3 (Operand.tmp 85) (Operand.tmp 87) 3, type := 4, pos := _, after := #[{ on := 15, ground := Ground.data }, { on := 17, ground := Ground.data }, { on := 11, ground := Ground.guard }], guard := some (11, false) }) (v := ?_) rfl (by kernel_rfl) (by kernel_rfl) (by kernel_rfl) (fun _ _ _ h => h) (Or.inl ⟨by rfl, ?_⟩) HS0 ?_; case refine_2 => (intro w hSw; (try dsimp only at hSw); go_simp; try with_reducible rfl)); (try simp only [Act.put, List.setIfInBounds_toArray, List.set_cons_zero, List.set_cons_succ])
              (refine wpAnyH_take (i := 19) (oi := { dst := some 89, op := Op.pick (Operand.tmp 81) (Operand.const (Value.bool true)) (Operand.tmp 88), type := 4, pos := _, after := #[{ on := 11, ground := Ground.data }, { on := 18, ground := Ground.data }], guard := none }) (v := ?_) rfl (by kernel_rfl) (by kernel_rfl) (by kernel_rfl) (fun _ _ _ h => h) (Or.inl ⟨by rfl, ?_⟩) HS0 ?_; case refine_2 => (intro w hSw; (try dsimp only at hSw); go_simp; try with_reducible rfl)); (try simp only [Act.put, List.setIfInBounds_toArray, List.set_cons_zero, List.set_cons_succ])
              (refine wpAnyH_take (i := 20) (oi := { dst := some 90, op := Op.move (Operand.tmp 89), type := 4, pos := _, after := #[{ on := 19, ground := Ground.data }, { on := 15, ground := Ground.chain }], guard := none }) (v := ?_) rfl (by kernel_rfl) (by kernel_rfl) (by kernel_rfl) (fun _ _ _ h => h) (Or.inl ⟨by rfl, ?_⟩) HS0 ?_; case refine_2 => (intro w hSw; (try dsimp only at hSw); go_simp; try with_reducible rfl)); (try simp only [Act.put, List.setIfInBounds_toArray, List.set_cons_zero, List.set_cons_succ])
              (refine wpAnyH_take (i := 21) (oi := { dst := some 91, op := Op.move (Operand.tmp 5), type := 28, pos := _, after := #[{ on := 20, ground := Ground.guard }], guard := some (20, false) }) (v := ?_) rfl (by kernel_rfl) (by kernel_rfl) (by kernel_rfl) (fun _ _ _ h => h) (Or.inl ⟨by rfl, ?_⟩) HS0 ?_; case refine_2 => (intro w hSw; (try dsimp only at hSw); go_simp; try with_reducible rfl)); (try simp only [Act.put, List.setIfInBounds_toArray, List.set_cons_zero, List.set_cons_succ])
              (refine wpAnyH_take (i := 22) (oi := { dst := some 92, op := Op.fieldAddr 39 (Operand.tmp 11) 1, type := 0, pos := _, after := #[{ on := 20, ground := Ground.guard }], guard := some (20, false) }) (v := ?_) rfl (by kernel_rfl) (by kernel_rfl) (by kernel_rfl) (fun _ _ _ h => h) (Or.inl ⟨by rfl, ?_⟩) HS0 ?_; case refine_2 => (intro w hSw; (try dsimp only at hSw); go_simp; try with_reducible rfl)); (try simp only [Act.put, List.setIfInBounds_toArray, List.set_cons_zero, List.set_cons_succ])
              (refine wpAnyH_take (i := 23) (oi := { dst := some 93, op := Op.load 3 (Operand.tmp 92), type := 3, pos := _, after := #[{ on := 22, ground := Ground.data }, { on := 20, ground := Ground.guard }], guard := some (20, false) }) (v := ?_) rfl (by kernel_rfl) (by kernel_rfl) (by kernel_rfl) (fun _ _ _ h => h) (Or.inl ⟨by rfl, ?_⟩) HS0 ?_; case refine_2 => (intro w hSw; (try dsimp only at hSw); go_simp; try with_reducible rfl)); (try simp only [Act.put, List.setIfInBounds_toArray, List.set_cons_zero, List.set_cons_succ])
              (refine wpAnyH_take (i := 24) (oi := { dst := some 94, op := Op.binOp BinOp.sub 3 (Operand.tmp 93) (Operand.const (Value.int IntKind.i64 1)) 3, type := 3, pos := _, after := #[{ on := 23, ground := Ground.data }, { on := 20, ground := Ground.guard }], guard := some (20, false) }) (v := ?_) rfl (by kernel_rfl) (by kernel_rfl) (by kernel_rfl) (fun _ _ _ h => h) (Or.inl ⟨by rfl, ?_⟩) HS0 ?_; case refine_2 => (intro w hSw; (try dsimp only at hSw); go_simp; try with_reducible rfl)); (try simp only [Act.put, List.setIfInBounds_toArray, List.set_cons_zero, List.set_cons_succ])
              (refine wpAnyH_take (i := 26) (oi := { dst := some 96, op := Op.fieldAddr 39 (Operand.tmp 11) 2, type := 0, pos := _, after := #[{ on := 20, ground := Ground.guard }], guard := some (20, false) }) (v := ?_) rfl (by kernel_rfl) (by kernel_rfl) (by kernel_rfl) (fun _ _ _ h => h) (Or.inl ⟨by rfl, ?_⟩) HS0 ?_; case refine_2 => (intro w hSw; (try dsimp only at hSw); go_simp; try with_reducible rfl)); (try simp only [Act.put, List.setIfInBounds_toArray, List.set_cons_zero, List.set_cons_succ])
              (refine wpAnyH_take (i := 27) (oi := { dst := some 97, op := Op.load 3 (Operand.tmp 96), type := 3, pos := _, after := #[{ on := 26, ground := Ground.data }, { on := 20, ground := Ground.guard }], guard := some (20, false) }) (v := ?_) rfl (by kernel_rfl) (by kernel_rfl) (by kernel_rfl) (fun _ _ _ h => h) (Or.inl ⟨by rfl, ?_⟩) HS0 ?_; case refine_2 => (intro w hSw; (try dsimp only at hSw); go_simp; try with_reducible rfl)); (try simp only [Act.put, List.setIfInBounds_toArray, List.set_cons_zero, List.set_cons_succ])
              refine wpAnyH_ready (rs := [25]) (by kernel_rfl) (by simp) ?_
              refine (AllReadyH.cons (o := _) rfl (fun K hK => ?_) AllReadyH.nil)
              go_simp
              go_at_call 8
              (with_reducible refine A2.mono ?_)
              rintro e w6 ⟨rfl, t6, b6⟩
              have D6 := bt B5.out b6
              have B6 := Lib.hid D6
              refine hK.out _ _ (mkS w6 D6) (fun HS1 => ?_)
              clear t6 b6 D6 A2
              clear hK HS0
              have HS0 := HS1
              clear HS1
              (refine wpAnyH_take (i := 28) (oi := { dst := some 98, op := Op.binOp BinOp.neq 3 (Operand.tmp 95) (Operand.tmp 97) 3, type := 4, pos := _, after := #[{ on := 25, ground := Ground.data }, { on := 27, ground := Ground.data }, { on := 20, ground := Ground.guard }], guard := some (20, false) }) (v := ?_) rfl (by kernel_rfl) (by kernel_rfl) (by kernel_rfl) (fun _ _ _ h => h) (Or.inl ⟨by rfl, ?_⟩) HS0 ?_; case refine_2 => (intro w hSw; (try dsimp only at hSw); go_simp; try with_reducible rfl)); (try simp only [Act.put, List.setIfInBounds_toArray, List.set_cons_zero, List.set_cons_succ])
              (refine wpAnyH_take (i := 29) (oi := { dst := some 99, op := Op.pick (Operand.tmp 90) (Operand.const (Value.bool true)) (Operand.tmp 98), type := 4, pos := _, after := #[{ on := 20, ground := Ground.data }, { on := 28, ground := Ground.data }], guard := none }) (v := ?_) rfl (by kernel_rfl) (by kernel_rfl) (by kernel_rfl) (fun _ _ _ h => h) (Or.inl ⟨by rfl, ?_⟩) HS0 ?_; case refine_2 => (intro w hSw; (try dsimp only at hSw); go_simp; try with_reducible rfl)); (try simp only [Act.put, List.setIfInBounds_toArray, List.set_cons_zero, List.set_cons_succ])
              (refine wpAnyH_take (i := 30) (oi := { dst := some 100, op := Op.move (Operand.tmp 99), type := 4, pos := _, after := #[{ on := 29, ground := Ground.data }, { on := 25, ground := Ground.chain }], guard := none }) (v := ?_) rfl (by kernel_rfl) (by kernel_rfl) (by kernel_rfl) (fun _ _ _ h => h) (Or.inl ⟨by rfl, ?_⟩) HS0 ?_; case refine_2 => (intro w hSw; (try dsimp only at hSw); go_simp; try with_reducible rfl)); (try simp only [Act.put, List.setIfInBounds_toArray, List.set_cons_zero, List.set_cons_succ])
              (refine wpAnyH_take (i := 31) (oi := { dst := some 101, op := Op.move (Operand.tmp 10), type := 3, pos := _, after := #[{ on := 30, ground := Ground.guard }], guard := some (30, false) }) (v := ?_) rfl (by kernel_rfl) (by kernel_rfl) (by kernel_rfl) (fun _ _ _ h => h) (Or.inl ⟨by rfl, ?_⟩) HS0 ?_; case refine_2 => (intro w hSw; (try dsimp only at hSw); go_simp; try with_reducible rfl)); (try simp only [Act.put, List.setIfInBounds_toArray, List.set_cons_zero, List.set_cons_succ])
              (refine wpAnyH_take (i := 32) (oi := { dst := some 102, op := Op.binOp BinOp.gtr 3 (Operand.tmp 101) (Operand.const (Value.int IntKind.i64 0)) 3, type := 4, pos := _, after := #[{ on := 31, ground := Ground.data }, { on := 30, ground := Ground.guard }], guard := some (30, false) }) (v := ?_) rfl (by kernel_rfl) (by kernel_rfl) (by kernel_rfl) (fun _ _ _ h => h) (Or.inl ⟨by rfl, ?_⟩) HS0 ?_; case refine_2 => (intro w hSw; (try dsimp only at hSw); go_simp; try with_reducible rfl)); (try simp only [Act.put, List.setIfInBounds_toArray, List.set_cons_zero, List.set_cons_succ])
              (refine wpAnyH_take (i := 33) (oi := { dst := some 103, op := Op.move (Operand.tmp 102), type := 4, pos := _, after := #[{ on := 32, ground := Ground.data }, { on := 30, ground := Ground.chain }, { on := 30, ground := Ground.guard }], guard := some (30, false) }) (v := ?_) rfl (by kernel_rfl) (by kernel_rfl) (by kernel_rfl) (fun _ _ _ h => h) (Or.inl ⟨by rfl, ?_⟩) HS0 ?_; case refine_2 => (intro w hSw; (try dsimp only at hSw); go_simp; try with_reducible rfl)); (try simp only [Act.put, List.setIfInBounds_toArray, List.set_cons_zero, List.set_cons_succ])
              (refine wpAnyH_take (i := 34) (oi := { dst := some 104, op := Op.move (Operand.tmp 8), type := 34, pos := _, after := #[{ on := 33, ground := Ground.guard }], guard := some (33, true) }) (v := ?_) rfl (by kernel_rfl) (by kernel_rfl) (by kernel_rfl) (fun _ _ _ h => h) (Or.inl ⟨by rfl, ?_⟩) HS0 ?_; case refine_2 => (intro w hSw; (try dsimp only at hSw); go_simp; try with_reducible rfl)); (try simp only [Act.put, List.setIfInBounds_toArray, List.set_cons_zero, List.set_cons_succ])
              (refine wpAnyH_take (i := 35) (oi := { dst := some 105, op := Op.move (Operand.tmp 10), type := 3, pos := _, after := #[{ on := 33, ground := Ground.guard }], guard := some (33, true) }) (v := ?_) rfl (by kernel_rfl) (by kernel_rfl) (by kernel_rfl) (fun _ _ _ h => h) (Or.inl ⟨by rfl, ?_⟩) HS0 ?_; case refine_2 => (intro w hSw; (try dsimp only at hSw); go_simp; try with_reducible rfl)); (try simp only [Act.put, List.setIfInBounds_toArray, List.set_cons_zero, List.set_cons_succ])
              (refine wpAnyH_take (i := 36) (oi := { dst := some 106, op := Op.binOp BinOp.sub 3 (Operand.tmp 105) (Operand.const (Value.int IntKind.i64 1)) 3, type := 3, pos := _, after := #[{ on := 35, ground := Ground.data }, { on := 33, ground := Ground.guard }], guard := some (33, true) }) (v := ?_) rfl (by kernel_rfl) (by kernel_rfl) (by kernel_rfl) (fun _ _ _ h => h) (Or.inl ⟨by rfl, ?_⟩) HS0 ?_; case refine_2 => (intro w hSw; (try dsimp only at hSw); go_simp; try with_reducible rfl)); (try simp only [Act.put, List.setIfInBounds_toArray, List.set_cons_zero, List.set_cons_succ])
              (refine wpAnyH_take (i := 37) (oi := { dst := some 107, op := Op.indexAddr 34 (Operand.tmp 104) (Operand.tmp 106), type := 0, pos := _, after := #[{ on := 34, ground := Ground.data }, { on := 36, ground := Ground.data }, { on := 33, ground := Ground.guard }], guard := some (33, true) }) (v := ?_) rfl (by kernel_rfl) (by kernel_rfl) (by kernel_rfl) (fun _ _ _ h => h) (Or.inl ⟨by rfl, ?_⟩) HS0 ?_; case refine_2 => (intro w hSw; (try dsimp only at hSw); go_simp; try with_reducible rfl)); (try simp only [Act.put, List.setIfInBounds_toArray, List.set_cons_zero, List.set_cons_succ])
              (refine wpAnyH_take (i := 38) (oi := { dst := some 108, op := Op.fieldAddr 39 (Operand.tmp 107) 2, type := 0, pos := _, after := #[{ on := 37, ground := Ground.data }, { on := 33, ground := Ground.guard }], guard := some (33, true) }) (v := ?_) rfl (by kernel_rfl) (by kernel_rfl) (by kernel_rfl) (fun _ _ _ h => h) (Or.inl ⟨by rfl, ?_⟩) HS0 ?_; case refine_2 => (intro w hSw; (try dsimp only at hSw); go_simp; try with_reducible rfl)); (try simp only [Act.put, List.setIfInBounds_toArray, List.set_cons_zero, List.set_cons_succ])
              (refine wpAnyH_take (i := 39) (oi := { dst := some 109, op := Op.load 3 (Operand.tmp 108), type := 3, pos := _, after := #[{ on := 38, ground := Ground.data }, { on := 33, ground := Ground.guard }], guard := some (33, true) }) (v := ?_) rfl (by kernel_rfl) (by kernel_rfl) (by kernel_rfl) (fun _ _ _ h => h) (Or.inl ⟨by rfl, ?_⟩) HS0 ?_; case refine_2 => (intro w hSw; (try dsimp only at hSw); go_simp; try with_reducible rfl)); (try simp only [Act.put, List.setIfInBounds_toArray, List.set_cons_zero, List.set_cons_succ])
              (refine wpAnyH_take (i := 40) (oi := { dst := some 110, op := Op.fieldAddr 39 (Operand.tmp 11) 2, type := 0, pos := _, after := #[{ on := 33, ground := Ground.guard }], guard := some (33, true) }) (v := ?_) rfl (by kernel_rfl) (by kernel_rfl) (by kernel_rfl) (fun _ _ _ h => h) (Or.inl ⟨by rfl, ?_⟩) HS0 ?_; case refine_2 => (intro w hSw; (try dsimp only at hSw); go_simp; try with_reducible rfl)); (try simp only [Act.put, List.setIfInBounds_toArray, List.set_cons_zero, List.set_cons_succ])
              (refine wpAnyH_take (i := 41) (oi := { dst := some 111, op := Op.load 3 (Operand.tmp 110), type := 3, pos := _, after := #[{ on := 40, ground := Ground.data }, { on := 33, ground := Ground.guard }], guard := some (33, true) }) (v := ?_) rfl (by kernel_rfl) (by kernel_rfl) (by kernel_rfl) (fun _ _ _ h => h) (Or.inl ⟨by rfl, ?_⟩) HS0 ?_; case refine_2 => (intro w hSw; (try dsimp only at hSw); go_simp; try with_reducible rfl)); (try simp only [Act.put, List.setIfInBounds_toArray, List.set_cons_zero, List.set_cons_succ])
              (refine wpAnyH_take (i := 42) (oi := { dst := some 112, op := Op.binOp BinOp.eql 3 (Operand.tmp 109) (Operand.tmp 111) 3, type := 4, pos := _, after := #[{ on := 39, ground := Ground.data }, { on := 41, ground := Ground.data }, { on := 33, ground := Ground.guard }], guard := some (33, true) }) (v := ?_) rfl (by kernel_rfl) (by kernel_rfl) (by kernel_rfl) (fun _ _ _ h => h) (Or.inl ⟨by rfl, ?_⟩) HS0 ?_; case refine_2 => (intro w hSw; (try dsimp only at hSw); go_simp; try with_reducible rfl)); (try simp only [Act.put, List.setIfInBounds_toArray, List.set_cons_zero, List.set_cons_succ])
              (refine wpAnyH_take (i := 43) (oi := { dst := some 113, op := Op.pick (Operand.tmp 103) (Operand.tmp 112) (Operand.const (Value.bool false)), type := 4, pos := _, after := #[{ on := 33, ground := Ground.data }, { on := 42, ground := Ground.data }, { on := 30, ground := Ground.guard }], guard := some (30, false) }) (v := ?_) rfl (by kernel_rfl) (by kernel_rfl) (by kernel_rfl) (fun _ _ _ h => h) (Or.inl ⟨by rfl, ?_⟩) HS0 ?_; case refine_2 => (intro w hSw; (try dsimp only at hSw); go_simp; try with_reducible rfl)); (try simp only [Act.put, List.setIfInBounds_toArray, List.set_cons_zero, List.set_cons_succ])
              (refine wpAnyH_take (i := 44) (oi := { dst := some 114, op := Op.pick (Operand.tmp 100) (Operand.const (Value.bool true)) (Operand.tmp 113), type := 4, pos := _, after := #[{ on := 30, ground := Ground.data }, { on := 43, ground := Ground.data }], guard := none }) (v := ?_) rfl (by kernel_rfl) (by kernel_rfl) (by kernel_rfl) (fun _ _ _ h => h) (Or.inl ⟨by rfl, ?_⟩) HS0 ?_; case refine_2 => (intro w hSw; (try dsimp only at hSw); go_simp; try with_reducible rfl)); (try simp only [Act.put, List.setIfInBounds_toArray, List.set_cons_zero, List.set_cons_succ])
              refine wpAnyH_done (by kernel_rfl) ?_ _
              clear mkS x0 x1 x2
              obtain ⟨x0, x1, x2, _⟩ := HS0
              go_wp2_with fail
              go_roundw
              case rel => exact ⟨k + 1, by rw [HPOS.out], rfl, by have := HK.out; omega, bt HBX.out B6.out⟩
              case measure => show _ - ((k : Int) + 1).toNat < _ - ((k : Int)).toNat; have := HK.out; omega
          · have hke : k = xs.length := by omega
            subst hke
            clear hkl hk
            have e0 : pos sF xs xs.length = sT := HP.out
            rw [e0]
            have O3 := (BQ.out.block i0 (by have := T2.out.bel.size; have := ILT.out; omega)).trans ((T2.out.bel.block i0 ILT.out).trans HO.out)
            have o1 : wq.cell? ⟨i0, 1, none⟩ = some (.int .i64 sT) := by rw [cell_of_row wq _ _ _ _ (0, 0) O3]; rfl
            have KN4 := KN.out wq
            clear O3 e0
            go_wp2_with (go_at_call 5; (with_reducible refine KN4.mono ?_); rintro e w5 ⟨rfl, b5⟩; have B5 := Lib.hid b5; clear b5)
            go_ret
            exact ⟨rfl, HB0.out.trans ((T2.out.bel.trans ((bt BQ.out B5.out).mono T2.out.bel.size)).mono HB0.out.size)⟩
      · have hm' : mayS sF sT = false := by simpa using hm
        have hm3 : ¬ (1 ≤ sF ∧ sF < sT ∧ sT ≤ 3652060) := by unfold mayS at hm'; simpa using hm'
        have S := segs_no TT.out hm'
        have EN : Hid (∀ W, TlIs wa W b F (2 * l.length) → Calls Try.prog 10 #[.pointer (some ⟨b, 0, none⟩), .agg #[.int .i64 sF, .int .i64 sT]] W fun e w' => e = .returned (.slice none 0 0) ∧ Below W.heap.size W w') := fun W h => ends_no h hm'
        clear hm hm'
        go_upto_region 12 with (go_at_call 9; go_loud ((with_reducible refine S.mono ?_); rintro e w2 ⟨rfl, b2⟩; have B2 := Lib.hid b2; clear b2 S))
        clear o0 o1 kf
        have T2 := Lib.hid (TT.out.below B2.out)
        have O2 := (T2.out.bel.block i0 ILT.out).trans HO.out
        have o0 : w2.cell? ⟨i0, 0, none⟩ = some (.int .i64 sF) := by rw [cell_of_row w2 _ _ _ _ (0, 0) O2]; rfl
        have o1 : w2.cell? ⟨i0, 1, none⟩ = some (.int .i64 sT) := by rw [cell_of_row w2 _ _ _ _ (0, 0) O2]; rfl
        have A2 := EN.out w2 T2.out
        clear O2
        by_cases h1 : 1 ≤ sF
        · have q1 : decide (sF < 1) = false := by simp; omega
          by_cases h2 : sF < sT
          · have q2 : decide (sT ≤ sF) = false := by simp; omega
            have q3 : decide (3652060 < sT) = true := by simp; omega
            clear hm3
            go_wp2_with (first
              | (go_at_call 10; go_loud ((with_reducible refine A2.mono ?_); rintro e w3 ⟨rfl, b3⟩; have B3 := Lib.hid b3; have KN4 := KN.out w3; clear b3 A2))
              | (go_at_call 5; (with_reducible refine KN4.mono ?_); rintro e w5 ⟨rfl, b5⟩; have B5 := Lib.hid b5; clear b5))
            go_ret
            exact ⟨rfl, HB0.out.trans ((T2.out.bel.trans ((bt B3.out B5.out).mono T2.out.bel.size)).mono HB0.out.size)⟩
          · have q2 : decide (sT ≤ sF) = true := by simp; omega
            clear hm3
            go_wp2_with (first
              | (go_at_call 10; go_loud ((with_reducible refine A2.mono ?_); rintro e w3 ⟨rfl, b3⟩; have B3 := Lib.hid b3; have KN4 := KN.out w3; clear b3 A2))
              | (go_at_call 5; (with_reducible refine KN4.mono ?_); rintro e w5 ⟨rfl, b5⟩; have B5 := Lib.hid b5; clear b5))
            go_ret
            exact ⟨rfl, HB0.out.trans ((T2.out.bel.trans ((bt B3.out B5.out).mono T2.out.bel.size)).mono HB0.out.size)⟩
        · have q1 : decide (sF < 1) = true := by simp; omega
          clear hm3
          go_wp2_with (first
            | (go_at_call 10; go_loud ((with_reducible refine A2.mono ?_); rintro e w3 ⟨rfl, b3⟩; have B3 := Lib.hid b3; have KN4 := KN.out w3; clear b3 A2))
            | (go_at_call 5; (with_reducible refine KN4.mono ?_); rintro e w5 ⟨rfl, b5⟩; have B5 := Lib.hid b5; clear b5))
          go_ret
          exact ⟨rfl, HB0.out.trans ((T2.out.bel.trans ((bt B3.out B5.out).mono T2.out.bel.size)).mono HB0.out.size)⟩
theorem shape_law (vl : Value) (l : List (Int × Int × Int)) (sF sT : Int) (w : World) (hl : opE.Arg w vl l) :
    Calls Try.prog 4 #[vl, .agg #[.int .i64 sF, .int .i64 sT]] w fun e w' => e = .returned (.bool true) ∧ Below w.heap.size w w' := by
  by_cases h : l.length ≤ 60
  · exact shape_main vl l sF sT w hl h
  · exact shape_many vl l sF sT w hl h
end Go.Proofs.Ytmgljgmfipodeaa.Tl
