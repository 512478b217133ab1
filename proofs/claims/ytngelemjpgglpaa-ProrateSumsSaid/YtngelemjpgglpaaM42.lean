/-
  The law ProrateSums, walked.
-/
import Derived.Test.YtngelemjpgglpaaM41
import Derived.OrdersHeld
import Derived.Deep.RegionHeld3
/-
  The law ProrateSums, walked.
-/
namespace Go.Proofs.Ytngelemjpgglpaa.Pro
open Go Go.RowKit
set_option linter.unusedSimpArgs false
set_option linter.unusedVariables false
attribute [local go_sem ↓] Go.wp_at_zero Go.wp_at_succ

/-- a variable of type N with a number -/
def NB (wr : World) (i K : Nat) (z : Int) : Prop := ∃ (b : Bool) (a : Option Addr) (n c : Nat), BoxAt wr i (.bool b) (.slice a n c) ∧ Num K wr (.agg #[.bool b, .slice a n c]) z
theorem NB.below {w w' : World} {i K : Nat} {z : Int} (h : NB w i K z) (k : Below w.heap.size w w') : NB w' i K z := by
  obtain ⟨b, a, n, c, h1, h2⟩ := h
  exact ⟨b, a, n, c, boxAt_below h1 k, num_below h2 k⟩
theorem NB.lt {w : World} {i K : Nat} {z : Int} (h : NB w i K z) : i < w.heap.size := by
  obtain ⟨b, a, n, c, h1, h2⟩ := h
  exact h1.lt
theorem NB.other {w : World} {i j K : Nat} {z : Int} {v0 v1 : Value} (h : NB w i K z) (hj : BoxAt w j v0 v1) (ne : i ≠ j) (u0 u1 : Value) : NB ((w.setCell ⟨j, 0, none⟩ u0).setCell ⟨j, 1, none⟩ u1) i K z := by
  obtain ⟨b, a, n, c, h1, h2⟩ := h
  exact ⟨b, a, n, c, boxAt_other2 _ _ h1 ne, num_set2 _ _ h2 hj⟩
theorem NB.set {w : World} {i K K' : Nat} {z z' : Int} {b : Bool} {a : Option Addr} {n c : Nat} (h : NB w i K z) (hn : Num K' w (.agg #[.bool b, .slice a n c]) z') : NB ((w.setCell ⟨i, 0, none⟩ (.bool b)).setCell ⟨i, 1, none⟩ (.slice a n c)) i K' z' := by
  obtain ⟨b0, a0, n0, c0, h1, h2⟩ := h
  exact ⟨b, a, n, c, boxAt_set2 _ _ h1, num_set2 _ _ hn h1⟩
theorem row_set {w : World} {B j : Nat} {v v0 v1 : Value} {xs : List (Int × Nat)} (h : RowD w B v xs) (hj : BoxAt w j v0 v1) (u0 u1 : Value) : RowD ((w.setCell ⟨j, 0, none⟩ u0).setCell ⟨j, 1, none⟩ u1) B v xs := by
  have ne := h.ne hj (by decide)
  refine h.block fun g hg => ?_
  have gj : g ≠ j := fun e => ne (by rw [hg, e])
  exact (Below.heap_setCell _ _ _ _ gj).trans (Below.heap_setCell _ _ _ _ gj)
theorem row_set1 {w : World} {B j : Nat} {v v0 v1 : Value} {xs : List (Int × Nat)} (h : RowD w B v xs) (hj : BoxAt w j v0 v1) (u0 : Value) : RowD (w.setCell ⟨j, 0, none⟩ u0) B v xs := by
  have ne := h.ne hj (by decide)
  refine h.block fun g hg => ?_
  have gj : g ≠ j := fun e => ne (by rw [hg, e])
  exact Below.heap_setCell _ _ _ _ gj
theorem num_set1 {k : Nat} {w : World} {v : Value} {z : Int} {b : Nat} {v0 v1 : Value} (u0 : Value) (h : Num k w v z) (hb : BoxAt w b v0 v1) : Num k (w.setCell ⟨b, 0, none⟩ u0) v z := by
  obtain ⟨s, ds, e, hr, hc, hv, hk⟩ := h; exact ⟨s, ds, e, rowW_set u0 hr hb (by decide), hc, hv, hk⟩
theorem NB.other1 {w : World} {i j K : Nat} {z : Int} {v0 v1 : Value} (h : NB w i K z) (hj : BoxAt w j v0 v1) (ne : i ≠ j) (u0 : Value) : NB (w.setCell ⟨j, 0, none⟩ u0) i K z := by
  obtain ⟨b, a, n, c, h1, h2⟩ := h
  exact ⟨b, a, n, c, boxAt_set_other _ _ h1 ne, num_set1 _ h2 hj⟩
/-- a new variable of type N with a number -/
def BoxF (W : World) (K : Nat) (z : Int) (s : Value) (wx : World) : Prop :=
  ∃ (i : Nat) (b : Bool) (a : Option Addr) (n c : Nat), s = .pointer (some ⟨i, 0, none⟩) ∧ W.heap.size ≤ i ∧ BoxAt wx i (.bool b) (.slice a n c) ∧ Num K wx (.agg #[.bool b, .slice a n c]) z ∧ Below W.heap.size W wx
theorem boxAt_set0 {w : World} {b : Nat} {v0 v1 : Value} (u0 : Value) (h : BoxAt w b v0 v1) : BoxAt (w.setCell ⟨b, 0, none⟩ u0) b u0 v1 := heap_set u0 h
set_option maxRecDepth 100000 in
set_option maxHeartbeats 40000000 in
theorem sumsLaw_ok (c : Int) (m S aln : Nat) (v : Value) (ws : List Int) (w : World) (u : Int) (hc : fits c) (ha : ArgI w v ws) (hl : ws.length ≤ 60) (hm : m ≤ 9) (hS : S ≤ 9) (ho : ∀ x ∈ ws, okW x) (hal : ws.sum = (aln : Int)) (h0 : 0 < aln) (hb : aln ≤ 3652059)
    (hu : unitsA c m S = u) (hfit : allFit u (aln : Int) S ws ws.length) (hsa : sharesA c (m : Int) (S : Int) ws = (rowA u (aln : Int) S ws ws.length, 0)) :
    Calls Try.prog 4 #[.agg #[.int .i64 c, .int .i64 (m : Int)], .int .i64 (S : Int), v] w fun e w' => e = .returned (.bool true) ∧ Below w.heap.size w w' := by
  obtain ⟨ao, cap, rfl, hcap, hcell⟩ := id ha
  have SM := Lib.hid (small_of29 ho (by omega))
  have HO := Lib.hid ho; have HC := Lib.hid hc; have HA := Lib.hid ha; have HL := Lib.hid hl; have HM := Lib.hid hm; have HS := Lib.hid hS; have HAL := Lib.hid hal
  have AP : Hid (0 < aln ∧ aln ≤ 3652059) := ⟨h0, hb⟩
  have HU := Lib.hid hu
  have HFT := Lib.hid hfit
  have d0 : decide (60 < (ws.length : Int)) = false := by simp; omega
  have d0' : decide (60 < ws.length) = false := by simp; omega
  have X0 := Lib.hid (dAt_new w c (m : Int))
  have B0 := Lib.hid (ba w (.cells #[.int .i64 c, .int .i64 (m : Int)] 23))
  have SH := shares_any (w := w.alloc (.cells #[.int .i64 c, .int .i64 (m : Int)] 23)) c (m : Int) (S : Int) hc (ArgI.below ha B0.out) (by omega)
  unfold SharesPost at SH
  rw [hsa] at SH
  obtain ⟨row, hrow⟩ : ∃ r, Hid (rowA u (aln : Int) S ws ws.length = r) := ⟨_, rfl⟩
  have HRL : Hid (row.length = ws.length) := by show _ = _; rw [← hrow.out, rowA_len]
  rw [hrow.out] at SH
  have HSH := Lib.hid SH
  have HR : Hid (∀ k, k < ws.length → row[k]? = some (trim (share u (aln : Int) ws k) S)) := fun k hk => by rw [← hrow.out]; exact rowA_get u (aln : Int) S ws ws.length k hk
  clear hcell ha hl hm hS ho hal h0 hb hu hfit hsa hc SH hrow
  go_enter Try.func4, Try.ntmps4
  go_upto_region 3 with fail
  obtain ⟨w0, hw0⟩ : ∃ x, Hid (x = w.alloc (.cells #[.int .i64 c, .int .i64 (m : Int)] 23)) := ⟨_, rfl⟩
  rw [← hw0.out] at X0 B0 HSH ⊢
  obtain ⟨i0, hi0⟩ : ∃ k, Hid (w.heap.size = k) := ⟨_, rfl⟩
  rw [hi0.out] at X0 ⊢
  have x0 := X0.out.c0; have x1 := X0.out.c1
  clear hw0
  go_upto_region 4 with (go_at_call 7; (with_reducible refine HSH.out.mono ?_); rintro e w1 ⟨v1, rfl, r1, b1⟩; have R1 := Lib.hid r1; have X1 := Lib.hid (DAt.below X0.out b1); have B1 := Lib.hid (bt B0.out b1); clear r1 b1 x0 x1 HSH)
  obtain ⟨xa, xcap, rfl, _, _⟩ := R1.out.form
  rw [HRL.out] at R1 ⊢
  have e1 : ((ws.length : Int) != (ws.length : Int)) = false := by simp
  go_upto_region 8 with fail
  have x0 := X1.out.c0; have x1 := X1.out.c1
  go_upto_region 9 with (go_at_call 10; (with_reducible refine (unitsR_any c m S _ HC.out HM.out HS.out).mono ?_); rintro e w2 ⟨vu, hz, rfl, b2⟩; obtain ⟨ub, ua, un, uc, rfl⟩ := num_agg hz; rw [HU.out] at hz; have N2 := Lib.hid hz; have R2 := Lib.hid (Elem.Row.below R1.out b2); have B2 := Lib.hid (bt B1.out b2); clear hz b2 x0 x1)
  have b3 := ba w2 (.cells #[.bool ub, .slice ua un uc] 33)
  have U3 : Hid (NB (w2.alloc (.cells #[.bool ub, .slice ua un uc] 33)) w2.heap.size 44 u) := ⟨ub, ua, un, uc, boxAt_new _ _ _, num_below N2.out b3⟩
  have R3 := Lib.hid (Elem.Row.below R2.out b3); have B3 := Lib.hid (bt B2.out b3)
  obtain ⟨iU, hiU⟩ : ∃ k, Hid (w2.heap.size = k) := ⟨_, rfl⟩
  obtain ⟨w3, hw3⟩ : ∃ x, Hid (x = w2.alloc (.cells #[.bool ub, .slice ua un uc] 33)) := ⟨_, rfl⟩
  have lU : Hid (w.heap.size ≤ iU) := by show _ ≤ _; rw [← hiU.out]; exact B2.out.size
  rw [← hw3.out] at U3 R3 B3 ⊢
  rw [hiU.out] at U3 ⊢
  clear hw3 hiU b3 N2 R2 B2 R1 X1 B1 X0 B0
  go_wp2_with fail
  go_loop [11, 56] (fun a i => ∃ (k : Nat), a = .int .i64 (pre ws k) ∧ i = .int .i64 (k : Int) ∧ k ≤ ws.length) (fun _ i => ws.length - (intOf i).toNat)
  case atStart => exact ⟨0, by rw [pre_zero], rfl, by omega⟩
  case round =>
    obtain ⟨k, rfl, rfl, hk⟩ := hrel
    by_cases hkl : k < ws.length
    · obtain ⟨x, hx⟩ : ∃ x, ws[k]? = some x := ⟨_, List.getElem?_eq_getElem hkl⟩
      obtain ⟨_, _, e, _, hcell⟩ := (ArgI.below HA.out B3.out)
      cases e
      obtain ⟨bl, ol, rfl, hbl, c0⟩ := hcell k x hx
      have i0' : (0 : Int) ≤ (k : Int) := by omega
      have i1 : (k : Int) < ((ws.length : Nat) : Int) := by omega
      have HK := Lib.hid hkl
      have kw : IntKind.i64.wrap ((k : Int) + 1) = (k : Int) + 1 := by rw [IntWalk.i64_left]; exact IntWalk.wrap64_in _ (by have := HL.out; omega)
      have pw : IntKind.i64.wrap (pre ws k + x) = pre ws (k + 1) := by rw [pre_succ hx, IntWalk.i64_left]; exact IntWalk.wrap64_in _ (by have := SM.out (k + 1); rw [pre_succ hx] at this; omega)
      obtain ⟨py, hpy⟩ : ∃ i, Hid (pre ws (k + 1) = i) := ⟨_, rfl⟩
      rw [hpy.out] at pw
      clear hx hcell hk hkl
      go_wp2_with fail
      go_round
      case rel => exact ⟨k + 1, by rw [hpy.out], rfl, by have := HK.out; omega⟩
      case measure => show _ - ((k : Int) + 1).toNat < _ - ((k : Int)).toNat; have := HK.out; omega
    · have hke : k = ws.length := by omega
      subst hke
      clear hkl hk
      rw [pre_all ws (Nat.le_refl _), HAL.out]
      have aw : IntKind.u64.wrap (aln : Int) = (aln : Int) := by rw [IntKind.wrap_u64]; have := AP.out; omega
      go_upto_region 15 with fail
      have WZ := word_any 0 w3 (by omega) (by omega)
      go_upto_region 16 with (go_at_call 11; (with_reducible refine WZ.mono ?_); rintro e w4 ⟨v4, hz, rfl, b4⟩; obtain ⟨sb, sa, sn, sc, rfl⟩ := num_agg hz; have N4 := Lib.hid hz; have b4 := Lib.hid b4; clear hz WZ)
      have b5 := bt b4.out (ba w4 (.cells #[.bool sb, .slice sa sn sc] 33))
      have S5 : Hid (NB (w4.alloc (.cells #[.bool sb, .slice sa sn sc] 33)) w4.heap.size 50 (low u (aln : Int) ws 0)) := ⟨sb, sa, sn, sc, boxAt_new _ _ _, by rw [low_zero]; exact num_up (num_below N4.out (ba _ _)) (by omega)⟩
      have U5 := Lib.hid (U3.out.below b5); have R5 := Lib.hid (Elem.Row.below R3.out b5); have B5 := Lib.hid (bt B3.out b5)
      obtain ⟨iS, hiS⟩ : ∃ k, Hid (w4.heap.size = k) := ⟨_, rfl⟩
      have lS : Hid (iU < iS) := by show _ < _; rw [← hiS.out]; have := U3.out.lt; have := b4.out.size; omega
      obtain ⟨w5, hw5⟩ : ∃ x, Hid (x = w4.alloc (.cells #[.bool sb, .slice sa sn sc] 33)) := ⟨_, rfl⟩
      rw [← hw5.out] at S5 U5 R5 B5 ⊢
      rw [hiS.out] at S5 ⊢
      clear hw5 hiS b5 b4 N4 U3 R3 B3
      go_upto_region 17 with (go_at_call 11; (with_reducible refine (word_any (aln : Int) _ (by omega) (by have := AP.out; omega)).mono ?_); rintro e w6 ⟨v6, hz, rfl, b6⟩; obtain ⟨wb, wa, wn, wc', rfl⟩ := num_agg hz; have N6 := Lib.hid hz; have b6 := Lib.hid b6; clear hz)
      have b7 := bt b6.out (ba w6 (.cells #[.bool wb, .slice wa wn wc'] 33))
      have W7 : Hid (NB (w6.alloc (.cells #[.bool wb, .slice wa wn wc'] 33)) w6.heap.size 7 (aln : Int)) := ⟨wb, wa, wn, wc', boxAt_new _ _ _, num_below N6.out (ba _ _)⟩
      have U7 := Lib.hid (U5.out.below b7); have S7 := Lib.hid (S5.out.below b7); have R7 := Lib.hid (Elem.Row.below R5.out b7); have B7 := Lib.hid (bt B5.out b7)
      obtain ⟨iW, hiW⟩ : ∃ k, Hid (w6.heap.size = k) := ⟨_, rfl⟩
      have lW : Hid (iS < iW) := by show _ < _; rw [← hiW.out]; have := S5.out.lt; have := b6.out.size; omega
      obtain ⟨w7, hw7⟩ : ∃ x, Hid (x = w6.alloc (.cells #[.bool wb, .slice wa wn wc'] 33)) := ⟨_, rfl⟩
      rw [← hw7.out] at W7 U7 S7 R7 B7 ⊢
      rw [hiW.out] at W7 ⊢
      clear hw7 hiW b7 b6 N6 U5 S5 R5 B5 aw
      go_wp2_with fail
      have HZZ : Hid (∀ r, w0.heap.size = r → True) := fun _ _ => trivial
      obtain ⟨RB, hRB⟩ : ∃ r, Hid (w0.heap.size = r) := ⟨_, rfl⟩
      rw [hRB.out] at R7
      clear hRB HZZ
      go_loopw [15, 70] (fun p i wr => ∃ (k : Nat), i = .int .i64 (k : Int) ∧ p = .int .i64 (pre ws k) ∧ k ≤ ws.length ∧ Hid (NB wr iS (50 + k) (low u (aln : Int) ws k)) ∧ Hid (NB wr iU 44 u) ∧ Hid (NB wr iW 7 (aln : Int)) ∧ Hid (RowD wr RB (.slice xa ws.length xcap) row) ∧ Hid (Below w.heap.size w wr)) (fun _ i _ => ws.length - (intOf i).toNat)
      case atStart => exact ⟨0, rfl, by rw [pre_zero], by omega, S7, U7, W7, R7, B7⟩
      case round =>
        obtain ⟨wo, rfl⟩ : ∃ wo : World, wo = wr := ⟨_, rfl⟩
        clear S7 U7 W7 R7 B7
        obtain ⟨k, rfl, rfl, hk, S0, U0, W0, R0, B0⟩ := hrel
        by_cases hkl : k < ws.length
        · obtain ⟨x, hx⟩ : ∃ x, ws[k]? = some x := ⟨_, List.getElem?_eq_getElem hkl⟩
          obtain ⟨_, _, e, _, hcell⟩ := (ArgI.below HA.out B0.out)
          cases e
          obtain ⟨bl, ol, rfl, hbl, c0⟩ := hcell k x hx
          obtain ⟨sh, hsh⟩ : ∃ z, Hid (share u (aln : Int) ws k = z) := ⟨_, rfl⟩
          obtain ⟨p1, p2, hp⟩ : ∃ (p1 : Int) (p2 : Nat), Hid (trim sh S = (p1, p2)) := ⟨_, _, rfl⟩
          have hrk := HR.out k hkl
          rw [hsh.out, hp.out] at hrk
          obtain ⟨_, _, ex, hxc⟩ := argD (R0.out.arg)
          simp only [Value.slice.injEq] at ex
          obtain ⟨rfl, ex2, rfl⟩ := ex
          clear ex2
          obtain ⟨bx, ox, rfl, hbx, y0, y1⟩ := hxc k _ hrk
          dsimp only at y0 y1
          have hok := HO.out x (List.mem_of_getElem? hx)
          have HX : Hid (0 ≤ x ∧ x < 18446744073709551616) := ⟨hok.1, by have := hok.2; omega⟩
          have xw : IntKind.u64.wrap x = x := by rw [IntKind.wrap_u64]; have := HX.out; omega
          have MAY := trim_may sh S HS.out
          have TU := trim_units sh S HS.out
          rw [hp.out] at MAY TU
          dsimp only at MAY TU
          have HTU := Lib.hid TU.1
          have HOK : Hid (decide ((trim p1 p2).2 ≤ S) = true) := by show _ = _; simpa using TU.2
          have HP2 : Hid (p2 ≤ 9) := by show _ ≤ _; have h := trim_le sh S; rw [hp.out] at h; have := HS.out; exact Nat.le_trans h this
          have OFF : Hid (cmpZ (((sh * (aln : Int) - u * x).natAbs : Nat) : Int) (aln : Int) = -1) := by
            show _ = _
            have h := off_lt u aln ws k x hx AP.out.1
            rw [hsh.out] at h
            unfold cmpZ
            rw [if_neg (by omega), if_pos (by omega)]
          have i0' : (0 : Int) ≤ (k : Int) := by omega
          have i1 : (k : Int) < ((ws.length : Nat) : Int) := by omega
          have kw : IntKind.i64.wrap ((k : Int) + 1) = (k : Int) + 1 := by rw [IntWalk.i64_left]; exact IntWalk.wrap64_in _ (by have := HL.out; omega)
          have pw : IntKind.i64.wrap (pre ws k + x) = pre ws (k + 1) := by rw [pre_succ hx, IntWalk.i64_left]; exact IntWalk.wrap64_in _ (by have := SM.out (k + 1); rw [pre_succ hx] at this; omega)
          have LS := Lib.hid (low_succ u (aln : Int) ws k)
          rw [hsh.out] at LS
          obtain ⟨pk, hpk⟩ : ∃ i, Hid (pre ws (k + 1) = i) := ⟨_, rfl⟩
          rw [hpk.out] at pw
          have HPK : Hid (0 ≤ pk ∧ pk < 18446744073709551616) := by
            show _ ∧ _
            have h1 := (pre_bound HO.out (k + 1)).1
            have h2 := pre_mono HO.out (show k + 1 ≤ ws.length by omega)
            rw [pre_all ws (Nat.le_refl _), HAL.out] at h2
            have := AP.out
            rw [hpk.out] at h1 h2
            omega
          have pkw : IntKind.u64.wrap pk = pk := by rw [IntKind.wrap_u64]; have := HPK.out; omega
          have PFIT : Hid (fits p1) := by have h := HFT.out k hkl; rw [hsh.out, hp.out] at h; exact h
          have HK := Lib.hid hkl
          clear hx hkl hk hcell hrk hxc TU hok
          have LOWK : Hid (low u (aln : Int) ws (k + 1) = u * pk / (aln : Int)) := by show _ = _; rw [← hpk.out]; rfl
          go_upto_region 20 with fail
          have MC := rMay_any p1 (p2 : Int) wo PFIT.out
          rw [MAY] at MC
          clear MAY c0
          go_upto_region 22 with (go_at_call 12; (with_reducible refine MC.mono ?_); rintro e wm ⟨rfl, bm⟩; have BM := Lib.hid bm; clear bm MC)
          have Y0 := (BM.out.cell (p := ⟨bx, _, none⟩) hbx).trans y0; have Y1 := (BM.out.cell (p := ⟨bx, _, none⟩) hbx).trans y1
          clear y0 y1
          have UC := unitsR_any p1 p2 S wm PFIT.out HP2.out HS.out
          unfold UnitsPost at UC
          rw [HTU.out, HOK.out] at UC
          go_upto_region 23 with (go_at_call 10; (with_reducible refine UC.mono ?_); rintro e w2 ⟨vd, hz, rfl, b2⟩; obtain ⟨db, da, dn, dc, rfl⟩ := num_agg hz; have N2 := Lib.hid hz; have B2 := Lib.hid (bt BM.out b2); clear hz b2 UC)
          clear Y0 Y1
          have b3 := bt B2.out (ba w2 (.cells #[.bool db, .slice da dn dc] 33))
          have D3 := Lib.hid (boxAt_new w2 (.bool db) (.slice da dn dc))
          have ND3 := Lib.hid (num_below N2.out (ba w2 (.cells #[.bool db, .slice da dn dc] 33)))
          obtain ⟨yb, ya, yn, yc, Y3', NY3'⟩ := W0.out.below b3
          obtain ⟨ub, ua, un, uc, U3', NU3'⟩ := U0.out.below b3
          have S3 := Lib.hid (S0.out.below b3); have R3 := Lib.hid (Elem.Row.below R0.out b3); have B3 := Lib.hid (bt B0.out b3)
          have Y3 := Lib.hid Y3'; have NY3 := Lib.hid NY3'; have U3 := Lib.hid U3'; have NU3 := Lib.hid NU3'
          have lD : Hid (iW < w2.heap.size) := by show _ < _; have := W0.out.lt; have := B2.out.size; omega
          obtain ⟨iD, hiD⟩ : ∃ k, Hid (w2.heap.size = k) := ⟨_, rfl⟩
          obtain ⟨w3, hw3⟩ : ∃ x, Hid (x = w2.alloc (.cells #[.bool db, .slice da dn dc] 33)) := ⟨_, rfl⟩
          rw [← hw3.out] at D3 ND3 Y3 NY3 U3 NU3 S3 R3 B3 ⊢
          rw [hiD.out] at D3 lD ⊢
          clear hw3 hiD b3 N2 B2 BM Y3' NY3' U3' NU3' S0 U0 W0 R0 B0
          go_cut [21] from 71 to 128 (fun s wx => BoxF w3 52 (sh * (aln : Int) - u * x) s wx)
          case first =>
            have DW : Hid (Below w3.heap.size w3 w3.drew) := (Below.refl _ _).drew
            have lt_D : Hid (iD < w3.heap.size) := (Array.getElem?_eq_some_iff.1 D3.out).1
            have lt_Y : Hid (iW < w3.heap.size) := (Array.getElem?_eq_some_iff.1 Y3.out).1
            have lt_U : Hid (iU < w3.heap.size) := (Array.getElem?_eq_some_iff.1 U3.out).1
            have D_0 := Lib.hid (boxAt_below (D3.out) DW.out)
            have Y_0 := Lib.hid (boxAt_below (Y3.out) DW.out)
            have U_0 := Lib.hid (boxAt_below (U3.out) DW.out)
            have ND_0 := Lib.hid (num_below (ND3.out) DW.out)
            have NY_0 := Lib.hid (num_below (NY3.out) DW.out)
            have NU_0 := Lib.hid (num_below (NU3.out) DW.out)
            refine wp_region_held_drew (S := fun w' => w'.cell? ⟨iD, 0, none⟩ = some (.bool db) ∧ w'.cell? ⟨iD, 1, none⟩ = some (.slice da dn dc) ∧ w'.cell? ⟨iW, 0, none⟩ = some (.bool yb) ∧ w'.cell? ⟨iW, 1, none⟩ = some (.slice ya yn yc) ∧ w'.cell? ⟨iU, 0, none⟩ = some (.bool ub) ∧ w'.cell? ⟨iU, 1, none⟩ = some (.slice ua un uc)) (by kernel_rfl) ⟨D_0.out.c0, D_0.out.c1, Y_0.out.c0, Y_0.out.c1, U_0.out.c0, U_0.out.c1⟩ (fun HS0 => ?_)
            obtain ⟨w_0, hw_0⟩ : ∃ v, Hid (v = w3.drew) := ⟨_, rfl⟩
            rw [← hw_0.out] at DW D_0 Y_0 U_0 ND_0 NY_0 NU_0 HS0 ⊢
            clear hw_0
            (refine wpAnyH_take (i := 0) (v := ?_) rfl (by kernel_rfl) (by kernel_rfl) (by kernel_rfl) (fun _ _ _ h => h) (Or.inl ⟨by rfl, ?_⟩) HS0 ?_; case refine_2 => (intro w hSw; (try dsimp only at hSw); go_simp; try with_reducible rfl); try simp only [Act.put, List.setIfInBounds_toArray, List.set_cons_zero, List.set_cons_succ])
            (refine wpAnyH_take (i := 1) (v := ?_) rfl (by kernel_rfl) (by kernel_rfl) (by kernel_rfl) (fun _ _ _ h => h) (Or.inl ⟨by rfl, ?_⟩) HS0 ?_; case refine_2 => (intro w hSw; (try dsimp only at hSw); go_simp; try with_reducible rfl); try simp only [Act.put, List.setIfInBounds_toArray, List.set_cons_zero, List.set_cons_succ])
            (refine wpAnyH_take (i := 3) (v := ?_) rfl (by kernel_rfl) (by kernel_rfl) (by kernel_rfl) (fun _ _ _ h => h) (Or.inl ⟨by rfl, ?_⟩) HS0 ?_; case refine_2 => (intro w hSw; (try dsimp only at hSw); go_simp; try with_reducible rfl); try simp only [Act.put, List.setIfInBounds_toArray, List.set_cons_zero, List.set_cons_succ])
            (refine wpAnyH_take (i := 4) (v := ?_) rfl (by kernel_rfl) (by kernel_rfl) (by kernel_rfl) (fun _ _ _ h => h) (Or.inl ⟨by rfl, ?_⟩) HS0 ?_; case refine_2 => (intro w hSw; (try dsimp only at hSw); go_simp; try with_reducible rfl); try simp only [Act.put, List.setIfInBounds_toArray, List.set_cons_zero, List.set_cons_succ])
            (refine wpAnyH_take (i := 5) (v := ?_) rfl (by kernel_rfl) (by kernel_rfl) (by kernel_rfl) (fun _ _ _ h => h) (Or.inl ⟨by rfl, ?_⟩) HS0 ?_; case refine_2 => (intro w hSw; (try dsimp only at hSw); go_simp; try with_reducible rfl); try simp only [Act.put, List.setIfInBounds_toArray, List.set_cons_zero, List.set_cons_succ])
            refine wpAnyH_ready (rs := [2, 9]) (by kernel_rfl) (by simp) ?_
            refine (AllReadyH.cons (o := _) rfl (fun K hK => ?_) (AllReadyH.cons (o := _) rfl (fun K hK => ?_) AllReadyH.nil))
            · skip
              go_simp
              go_at_call 14
              (with_reducible refine (mul_any 44 7 _ _ sh (aln : Int) _ ND_0.out NY_0.out (by omega) (by omega)).mono ?_)
              rintro e w_1 ⟨v_1, hz, rfl, b_1⟩
              replace b_1 := Lib.hid b_1
              have D_1 := Lib.hid (boxAt_below (D_0.out) b_1.out); have Y_1 := Lib.hid (boxAt_below (Y_0.out) b_1.out); have U_1 := Lib.hid (boxAt_below (U_0.out) b_1.out); have ND_1 := Lib.hid (num_below (ND_0.out) b_1.out); have NY_1 := Lib.hid (num_below (NY_0.out) b_1.out); have NU_1 := Lib.hid (num_below (NU_0.out) b_1.out); clear D_0 Y_0 U_0 ND_0 NY_0 NU_0
              have d_1 := Lib.hid (bt DW.out b_1.out)
              clear b_1
              have hM_1 := Lib.hid hz
              clear hz
              refine hK.out _ _ ⟨D_1.out.c0, D_1.out.c1, Y_1.out.c0, Y_1.out.c1, U_1.out.c0, U_1.out.c1⟩ (fun HS1 => ?_)
              clear hK HS0; have HS0 := HS1; clear HS1
              refine wpAnyH_ready (rs := [6, 9]) (by kernel_rfl) (by simp) ?_
              refine (AllReadyH.cons (o := _) rfl (fun K hK => ?_) (AllReadyH.cons (o := _) rfl (fun K hK => ?_) AllReadyH.nil))
              · skip
                go_simp
                go_at_call 11
                (with_reducible refine (word_any x _ HX.out.1 HX.out.2).mono ?_)
                rintro e w_2 ⟨v_2, hz, rfl, b_2⟩
                replace b_2 := Lib.hid b_2
                have D_2 := Lib.hid (boxAt_below (D_1.out) b_2.out); have Y_2 := Lib.hid (boxAt_below (Y_1.out) b_2.out); have U_2 := Lib.hid (boxAt_below (U_1.out) b_2.out); have ND_2 := Lib.hid (num_below (ND_1.out) b_2.out); have NY_2 := Lib.hid (num_below (NY_1.out) b_2.out); have NU_2 := Lib.hid (num_below (NU_1.out) b_2.out); have M_2 := Lib.hid (num_below (hM_1.out) b_2.out); clear D_1 Y_1 U_1 ND_1 NY_1 NU_1 hM_1
                have d_2 := Lib.hid (bt d_1.out b_2.out)
                clear b_2
                have hV_2 := Lib.hid hz
                clear hz
                refine hK.out _ _ ⟨D_2.out.c0, D_2.out.c1, Y_2.out.c0, Y_2.out.c1, U_2.out.c0, U_2.out.c1⟩ (fun HS1 => ?_)
                clear hK HS0; have HS0 := HS1; clear HS1
                refine wpAnyH_ready (rs := [7, 9]) (by kernel_rfl) (by simp) ?_
                refine (AllReadyH.cons (o := _) rfl (fun K hK => ?_) (AllReadyH.cons (o := _) rfl (fun K hK => ?_) AllReadyH.nil))
                · skip
                  go_simp
                  go_at_call 14
                  (with_reducible refine (mul_any 44 7 _ _ u x _ NU_2.out hV_2.out (by omega) (by omega)).mono ?_)
                  rintro e w_3 ⟨v_3, hz, rfl, b_3⟩
                  replace b_3 := Lib.hid b_3
                  have D_3 := Lib.hid (boxAt_below (D_2.out) b_3.out); have Y_3 := Lib.hid (boxAt_below (Y_2.out) b_3.out); have U_3 := Lib.hid (boxAt_below (U_2.out) b_3.out); have ND_3 := Lib.hid (num_below (ND_2.out) b_3.out); have NY_3 := Lib.hid (num_below (NY_2.out) b_3.out); have NU_3 := Lib.hid (num_below (NU_2.out) b_3.out); have M_3 := Lib.hid (num_below (M_2.out) b_3.out); have V_3 := Lib.hid (num_below (hV_2.out) b_3.out); clear D_2 Y_2 U_2 ND_2 NY_2 NU_2 M_2 hV_2
                  have d_3 := Lib.hid (bt d_2.out b_3.out)
                  clear b_3
                  have hO_3 := Lib.hid hz
                  clear hz
                  refine hK.out _ _ ⟨D_3.out.c0, D_3.out.c1, Y_3.out.c0, Y_3.out.c1, U_3.out.c0, U_3.out.c1⟩ (fun HS1 => ?_)
                  clear hK HS0; have HS0 := HS1; clear HS1
                  refine wpAnyH_ready (rs := [8, 9]) (by kernel_rfl) (by simp) ?_
                  refine (AllReadyH.cons (o := _) rfl (fun K hK => ?_) (AllReadyH.cons (o := _) rfl (fun K hK => ?_) AllReadyH.nil))
                  · skip
                    go_simp
                    go_at_call 13
                    (with_reducible refine (sub_any 51 51 _ _ _ _ _ M_3.out hO_3.out (by omega) (by omega)).mono ?_)
                    rintro e w_4 ⟨v_4, hz, rfl, b_4⟩
                    replace b_4 := Lib.hid b_4
                    have D_4 := Lib.hid (boxAt_below (D_3.out) b_4.out); have Y_4 := Lib.hid (boxAt_below (Y_3.out) b_4.out); have U_4 := Lib.hid (boxAt_below (U_3.out) b_4.out); have ND_4 := Lib.hid (num_below (ND_3.out) b_4.out); have NY_4 := Lib.hid (num_below (NY_3.out) b_4.out); have NU_4 := Lib.hid (num_below (NU_3.out) b_4.out); have M_4 := Lib.hid (num_below (M_3.out) b_4.out); have V_4 := Lib.hid (num_below (V_3.out) b_4.out); have O_4 := Lib.hid (num_below (hO_3.out) b_4.out); clear D_3 Y_3 U_3 ND_3 NY_3 NU_3 M_3 V_3 hO_3
                    have d_4 := Lib.hid (bt d_3.out b_4.out)
                    clear b_4
                    obtain ⟨qb9, qa9, qn9, qc9, rfl⟩ := num_agg hz
                    have hQ_4 := Lib.hid hz
                    clear hz
                    refine hK.out _ _ ⟨D_4.out.c0, D_4.out.c1, Y_4.out.c0, Y_4.out.c1, U_4.out.c0, U_4.out.c1⟩ (fun HS1 => ?_)
                    clear hK HS0; have HS0 := HS1; clear HS1
                    refine wpAnyH_ready (rs := [9]) (by kernel_rfl) (by simp) ?_
                    refine (AllReadyH.cons (o := _) rfl (fun K hK => ?_) AllReadyH.nil)
                    go_simp
                    have ba_5 := Lib.hid (ba w_4 (.cells #[.bool false, .slice none 0 0] 33))
                    have D_5 := Lib.hid (boxAt_below (D_4.out) ba_5.out); have Y_5 := Lib.hid (boxAt_below (Y_4.out) ba_5.out); have U_5 := Lib.hid (boxAt_below (U_4.out) ba_5.out); have ND_5 := Lib.hid (num_below (ND_4.out) ba_5.out); have NY_5 := Lib.hid (num_below (NY_4.out) ba_5.out); have NU_5 := Lib.hid (num_below (NU_4.out) ba_5.out); have M_5 := Lib.hid (num_below (M_4.out) ba_5.out); have V_5 := Lib.hid (num_below (V_4.out) ba_5.out); have O_5 := Lib.hid (num_below (O_4.out) ba_5.out); have Q_5 := Lib.hid (num_below (hQ_4.out) ba_5.out); clear D_4 Y_4 U_4 ND_4 NY_4 NU_4 M_4 V_4 O_4 hQ_4
                    have E_5 := Lib.hid (boxAt_new w_4 (.bool false) (.slice none 0 0))
                    have l_5 : Hid (w3.heap.size ≤ w_4.heap.size) := d_4.out.size
                    have d_5 := Lib.hid (bt d_4.out ba_5.out)
                    obtain ⟨i_E, hi_5⟩ : ∃ m, Hid (w_4.heap.size = m) := ⟨_, rfl⟩
                    obtain ⟨w_5, hw_5⟩ : ∃ v, Hid (v = w_4.alloc (.cells #[.bool false, .slice none 0 0] 33)) := ⟨_, rfl⟩
                    refine hK.out _ _ ⟨D_5.out.c0, D_5.out.c1, Y_5.out.c0, Y_5.out.c1, U_5.out.c0, U_5.out.c1⟩ (fun HS1 => ?_)
                    clear hK HS0; have HS0 := HS1; clear HS1
                    rw [← hw_5.out] at HS0 d_5 D_5 Y_5 U_5 ND_5 NY_5 NU_5 M_5 V_5 O_5 Q_5 E_5 ⊢
                    rw [hi_5.out] at E_5 l_5 ⊢
                    clear hw_5 hi_5 ba_5
                    refine wpAnyH_ready (rs := [10]) (by kernel_rfl) (by simp) ?_
                    refine (AllReadyH.cons (o := _) rfl (fun K hK => ?_) AllReadyH.nil)
                    have xc0 := E_5.out.c0; have xf0 := E_5.out.f0
                    have xc1 := E_5.out.c1; have xf1 := E_5.out.f1
                    go_simp
                    clear xc0 xf0 xc1 xf1
                    have D_6 := Lib.hid (boxAt_set_other 1 (.slice qa9 qn9 qc9) (boxAt_set_other 0 (.bool qb9) (D_5.out) (show iD ≠ i_E by have h1 := lt_D.out; have h2 := l_5.out; omega)) (show iD ≠ i_E by have h1 := lt_D.out; have h2 := l_5.out; omega))
                    clear D_5
                    have Y_6 := Lib.hid (boxAt_set_other 1 (.slice qa9 qn9 qc9) (boxAt_set_other 0 (.bool qb9) (Y_5.out) (show iW ≠ i_E by have h1 := lt_Y.out; have h2 := l_5.out; omega)) (show iW ≠ i_E by have h1 := lt_Y.out; have h2 := l_5.out; omega))
                    clear Y_5
                    have U_6 := Lib.hid (boxAt_set_other 1 (.slice qa9 qn9 qc9) (boxAt_set_other 0 (.bool qb9) (U_5.out) (show iU ≠ i_E by have h1 := lt_U.out; have h2 := l_5.out; omega)) (show iU ≠ i_E by have h1 := lt_U.out; have h2 := l_5.out; omega))
                    clear U_5
                    have ND_6 := Lib.hid (num_set2 (.bool qb9) (.slice qa9 qn9 qc9) (ND_5.out) E_5.out)
                    clear ND_5
                    have NY_6 := Lib.hid (num_set2 (.bool qb9) (.slice qa9 qn9 qc9) (NY_5.out) E_5.out)
                    clear NY_5
                    have NU_6 := Lib.hid (num_set2 (.bool qb9) (.slice qa9 qn9 qc9) (NU_5.out) E_5.out)
                    clear NU_5
                    have M_6 := Lib.hid (num_set2 (.bool qb9) (.slice qa9 qn9 qc9) (M_5.out) E_5.out)
                    clear M_5
                    have V_6 := Lib.hid (num_set2 (.bool qb9) (.slice qa9 qn9 qc9) (V_5.out) E_5.out)
                    clear V_5
                    have O_6 := Lib.hid (num_set2 (.bool qb9) (.slice qa9 qn9 qc9) (O_5.out) E_5.out)
                    clear O_5
                    have Q_6 := Lib.hid (num_set2 (.bool qb9) (.slice qa9 qn9 qc9) (Q_5.out) E_5.out)
                    clear Q_5
                    have E_6 := Lib.hid (boxAt_set2 (.bool qb9) (.slice qa9 qn9 qc9) (E_5.out))
                    have d_6 : Hid (Below w3.heap.size w3 ((w_5.setCell ⟨i_E, 0, none⟩ (.bool qb9)).setCell ⟨i_E, 1, none⟩ (.slice qa9 qn9 qc9))) := (Below.setCell (p := ⟨i_E, 1, none⟩) (Below.setCell (p := ⟨i_E, 0, none⟩) d_5.out (l_5.out) (.bool qb9)) (l_5.out) (.slice qa9 qn9 qc9))
                    clear E_5
                    refine hK.out _ _ ⟨D_6.out.c0, D_6.out.c1, Y_6.out.c0, Y_6.out.c1, U_6.out.c0, U_6.out.c1⟩ (fun HS1 => ?_)
                    clear hK HS0; have HS0 := HS1; clear HS1
                    refine wpAnyH_done (by kernel_rfl) ?_ _
                    dsimp only [Exit.then]
                    refine ‹∀ (a' : Act) (w' : World), Met _ a' w' → _› _ _ ?_
                    go_meet
                    case rel => exact ⟨_, _, _, _, _, rfl, l_5.out, E_6.out, Q_6.out, d_6.out⟩
                  · skip
                    go_simp
                    have ba_7 := Lib.hid (ba w_3 (.cells #[.bool false, .slice none 0 0] 33))
                    have D_7 := Lib.hid (boxAt_below (D_3.out) ba_7.out); have Y_7 := Lib.hid (boxAt_below (Y_3.out) ba_7.out); have U_7 := Lib.hid (boxAt_below (U_3.out) ba_7.out); have ND_7 := Lib.hid (num_below (ND_3.out) ba_7.out); have NY_7 := Lib.hid (num_below (NY_3.out) ba_7.out); have NU_7 := Lib.hid (num_below (NU_3.out) ba_7.out); have M_7 := Lib.hid (num_below (M_3.out) ba_7.out); have V_7 := Lib.hid (num_below (V_3.out) ba_7.out); have O_7 := Lib.hid (num_below (hO_3.out) ba_7.out); clear D_3 Y_3 U_3 ND_3 NY_3 NU_3 M_3 V_3 hO_3
                    have E_7 := Lib.hid (boxAt_new w_3 (.bool false) (.slice none 0 0))
                    have l_7 : Hid (w3.heap.size ≤ w_3.heap.size) := d_3.out.size
                    have d_7 := Lib.hid (bt d_3.out ba_7.out)
                    obtain ⟨i_E, hi_7⟩ : ∃ m, Hid (w_3.heap.size = m) := ⟨_, rfl⟩
                    obtain ⟨w_7, hw_7⟩ : ∃ v, Hid (v = w_3.alloc (.cells #[.bool false, .slice none 0 0] 33)) := ⟨_, rfl⟩
                    refine hK.out _ _ ⟨D_7.out.c0, D_7.out.c1, Y_7.out.c0, Y_7.out.c1, U_7.out.c0, U_7.out.c1⟩ (fun HS1 => ?_)
                    clear hK HS0; have HS0 := HS1; clear HS1
                    rw [← hw_7.out] at HS0 d_7 D_7 Y_7 U_7 ND_7 NY_7 NU_7 M_7 V_7 O_7 E_7 ⊢
                    rw [hi_7.out] at E_7 l_7 ⊢
                    clear hw_7 hi_7 ba_7
                    refine wpAnyH_ready (rs := [8]) (by kernel_rfl) (by simp) ?_
                    refine (AllReadyH.cons (o := _) rfl (fun K hK => ?_) AllReadyH.nil)
                    go_simp
                    go_at_call 13
                    (with_reducible refine (sub_any 51 51 _ _ _ _ _ M_7.out O_7.out (by omega) (by omega)).mono ?_)
                    rintro e w_8 ⟨v_8, hz, rfl, b_8⟩
                    replace b_8 := Lib.hid b_8
                    have D_8 := Lib.hid (boxAt_below (D_7.out) b_8.out); have Y_8 := Lib.hid (boxAt_below (Y_7.out) b_8.out); have U_8 := Lib.hid (boxAt_below (U_7.out) b_8.out); have ND_8 := Lib.hid (num_below (ND_7.out) b_8.out); have NY_8 := Lib.hid (num_below (NY_7.out) b_8.out); have NU_8 := Lib.hid (num_below (NU_7.out) b_8.out); have M_8 := Lib.hid (num_below (M_7.out) b_8.out); have V_8 := Lib.hid (num_below (V_7.out) b_8.out); have O_8 := Lib.hid (num_below (O_7.out) b_8.out); have E_8 := Lib.hid (boxAt_below (E_7.out) b_8.out); clear D_7 Y_7 U_7 ND_7 NY_7 NU_7 M_7 V_7 O_7 E_7
                    have d_8 := Lib.hid (bt d_7.out b_8.out)
                    clear b_8
                    obtain ⟨qb9, qa9, qn9, qc9, rfl⟩ := num_agg hz
                    have hQ_8 := Lib.hid hz
                    clear hz
                    refine hK.out _ _ ⟨D_8.out.c0, D_8.out.c1, Y_8.out.c0, Y_8.out.c1, U_8.out.c0, U_8.out.c1⟩ (fun HS1 => ?_)
                    clear hK HS0; have HS0 := HS1; clear HS1
                    refine wpAnyH_ready (rs := [10]) (by kernel_rfl) (by simp) ?_
                    refine (AllReadyH.cons (o := _) rfl (fun K hK => ?_) AllReadyH.nil)
                    have xc0 := E_8.out.c0; have xf0 := E_8.out.f0
                    have xc1 := E_8.out.c1; have xf1 := E_8.out.f1
                    go_simp
                    clear xc0 xf0 xc1 xf1
                    have D_9 := Lib.hid (boxAt_set_other 1 (.slice qa9 qn9 qc9) (boxAt_set_other 0 (.bool qb9) (D_8.out) (show iD ≠ i_E by have h1 := lt_D.out; have h2 := l_7.out; omega)) (show iD ≠ i_E by have h1 := lt_D.out; have h2 := l_7.out; omega))
                    clear D_8
                    have Y_9 := Lib.hid (boxAt_set_other 1 (.slice qa9 qn9 qc9) (boxAt_set_other 0 (.bool qb9) (Y_8.out) (show iW ≠ i_E by have h1 := lt_Y.out; have h2 := l_7.out; omega)) (show iW ≠ i_E by have h1 := lt_Y.out; have h2 := l_7.out; omega))
                    clear Y_8
                    have U_9 := Lib.hid (boxAt_set_other 1 (.slice qa9 qn9 qc9) (boxAt_set_other 0 (.bool qb9) (U_8.out) (show iU ≠ i_E by have h1 := lt_U.out; have h2 := l_7.out; omega)) (show iU ≠ i_E by have h1 := lt_U.out; have h2 := l_7.out; omega))
                    clear U_8
                    have ND_9 := Lib.hid (num_set2 (.bool qb9) (.slice qa9 qn9 qc9) (ND_8.out) E_8.out)
                    clear ND_8
                    have NY_9 := Lib.hid (num_set2 (.bool qb9) (.slice qa9 qn9 qc9) (NY_8.out) E_8.out)
                    clear NY_8
                    have NU_9 := Lib.hid (num_set2 (.bool qb9) (.slice qa9 qn9 qc9) (NU_8.out) E_8.out)
                    clear NU_8
                    have M_9 := Lib.hid (num_set2 (.bool qb9) (.slice qa9 qn9 qc9) (M_8.out) E_8.out)
                    clear M_8
                    have V_9 := Lib.hid (num_set2 (.bool qb9) (.slice qa9 qn9 qc9) (V_8.out) E_8.out)
                    clear V_8
                    have O_9 := Lib.hid (num_set2 (.bool qb9) (.slice qa9 qn9 qc9) (O_8.out) E_8.out)
                    clear O_8
                    have Q_9 := Lib.hid (num_set2 (.bool qb9) (.slice qa9 qn9 qc9) (hQ_8.out) E_8.out)
                    clear hQ_8
                    have E_9 := Lib.hid (boxAt_set2 (.bool qb9) (.slice qa9 qn9 qc9) (E_8.out))
                    have d_9 : Hid (Below w3.heap.size w3 ((w_8.setCell ⟨i_E, 0, none⟩ (.bool qb9)).setCell ⟨i_E, 1, none⟩ (.slice qa9 qn9 qc9))) := (Below.setCell (p := ⟨i_E, 1, none⟩) (Below.setCell (p := ⟨i_E, 0, none⟩) d_8.out (l_7.out) (.bool qb9)) (l_7.out) (.slice qa9 qn9 qc9))
                    clear E_8
                    refine hK.out _ _ ⟨D_9.out.c0, D_9.out.c1, Y_9.out.c0, Y_9.out.c1, U_9.out.c0, U_9.out.c1⟩ (fun HS1 => ?_)
                    clear hK HS0; have HS0 := HS1; clear HS1
                    refine wpAnyH_done (by kernel_rfl) ?_ _
                    dsimp only [Exit.then]
                    refine ‹∀ (a' : Act) (w' : World), Met _ a' w' → _› _ _ ?_
                    go_meet
                    case rel => exact ⟨_, _, _, _, _, rfl, l_7.out, E_9.out, Q_9.out, d_9.out⟩
                · skip
                  go_simp
                  have ba_10 := Lib.hid (ba w_2 (.cells #[.bool false, .slice none 0 0] 33))
                  have D_10 := Lib.hid (boxAt_below (D_2.out) ba_10.out); have Y_10 := Lib.hid (boxAt_below (Y_2.out) ba_10.out); have U_10 := Lib.hid (boxAt_below (U_2.out) ba_10.out); have ND_10 := Lib.hid (num_below (ND_2.out) ba_10.out); have NY_10 := Lib.hid (num_below (NY_2.out) ba_10.out); have NU_10 := Lib.hid (num_below (NU_2.out) ba_10.out); have M_10 := Lib.hid (num_below (M_2.out) ba_10.out); have V_10 := Lib.hid (num_below (hV_2.out) ba_10.out); clear D_2 Y_2 U_2 ND_2 NY_2 NU_2 M_2 hV_2
                  have E_10 := Lib.hid (boxAt_new w_2 (.bool false) (.slice none 0 0))
                  have l_10 : Hid (w3.heap.size ≤ w_2.heap.size) := d_2.out.size
                  have d_10 := Lib.hid (bt d_2.out ba_10.out)
                  obtain ⟨i_E, hi_10⟩ : ∃ m, Hid (w_2.heap.size = m) := ⟨_, rfl⟩
                  obtain ⟨w_10, hw_10⟩ : ∃ v, Hid (v = w_2.alloc (.cells #[.bool false, .slice none 0 0] 33)) := ⟨_, rfl⟩
                  refine hK.out _ _ ⟨D_10.out.c0, D_10.out.c1, Y_10.out.c0, Y_10.out.c1, U_10.out.c0, U_10.out.c1⟩ (fun HS1 => ?_)
                  clear hK HS0; have HS0 := HS1; clear HS1
                  rw [← hw_10.out] at HS0 d_10 D_10 Y_10 U_10 ND_10 NY_10 NU_10 M_10 V_10 E_10 ⊢
                  rw [hi_10.out] at E_10 l_10 ⊢
                  clear hw_10 hi_10 ba_10
                  refine wpAnyH_ready (rs := [7]) (by kernel_rfl) (by simp) ?_
                  refine (AllReadyH.cons (o := _) rfl (fun K hK => ?_) AllReadyH.nil)
                  go_simp
                  go_at_call 14
                  (with_reducible refine (mul_any 44 7 _ _ u x _ NU_10.out V_10.out (by omega) (by omega)).mono ?_)
                  rintro e w_11 ⟨v_11, hz, rfl, b_11⟩
                  replace b_11 := Lib.hid b_11
                  have D_11 := Lib.hid (boxAt_below (D_10.out) b_11.out); have Y_11 := Lib.hid (boxAt_below (Y_10.out) b_11.out); have U_11 := Lib.hid (boxAt_below (U_10.out) b_11.out); have ND_11 := Lib.hid (num_below (ND_10.out) b_11.out); have NY_11 := Lib.hid (num_below (NY_10.out) b_11.out); have NU_11 := Lib.hid (num_below (NU_10.out) b_11.out); have M_11 := Lib.hid (num_below (M_10.out) b_11.out); have V_11 := Lib.hid (num_below (V_10.out) b_11.out); have E_11 := Lib.hid (boxAt_below (E_10.out) b_11.out); clear D_10 Y_10 U_10 ND_10 NY_10 NU_10 M_10 V_10 E_10
                  have d_11 := Lib.hid (bt d_10.out b_11.out)
                  clear b_11
                  have hO_11 := Lib.hid hz
                  clear hz
                  refine hK.out _ _ ⟨D_11.out.c0, D_11.out.c1, Y_11.out.c0, Y_11.out.c1, U_11.out.c0, U_11.out.c1⟩ (fun HS1 => ?_)
                  clear hK HS0; have HS0 := HS1; clear HS1
                  refine wpAnyH_ready (rs := [8]) (by kernel_rfl) (by simp) ?_
                  refine (AllReadyH.cons (o := _) rfl (fun K hK => ?_) AllReadyH.nil)
                  go_simp
                  go_at_call 13
                  (with_reducible refine (sub_any 51 51 _ _ _ _ _ M_11.out hO_11.out (by omega) (by omega)).mono ?_)
                  rintro e w_12 ⟨v_12, hz, rfl, b_12⟩
                  replace b_12 := Lib.hid b_12
                  have D_12 := Lib.hid (boxAt_below (D_11.out) b_12.out); have Y_12 := Lib.hid (boxAt_below (Y_11.out) b_12.out); have U_12 := Lib.hid (boxAt_below (U_11.out) b_12.out); have ND_12 := Lib.hid (num_below (ND_11.out) b_12.out); have NY_12 := Lib.hid (num_below (NY_11.out) b_12.out); have NU_12 := Lib.hid (num_below (NU_11.out) b_12.out); have M_12 := Lib.hid (num_below (M_11.out) b_12.out); have V_12 := Lib.hid (num_below (V_11.out) b_12.out); have E_12 := Lib.hid (boxAt_below (E_11.out) b_12.out); have O_12 := Lib.hid (num_below (hO_11.out) b_12.out); clear D_11 Y_11 U_11 ND_11 NY_11 NU_11 M_11 V_11 E_11 hO_11
                  have d_12 := Lib.hid (bt d_11.out b_12.out)
                  clear b_12
                  obtain ⟨qb9, qa9, qn9, qc9, rfl⟩ := num_agg hz
                  have hQ_12 := Lib.hid hz
                  clear hz
                  refine hK.out _ _ ⟨D_12.out.c0, D_12.out.c1, Y_12.out.c0, Y_12.out.c1, U_12.out.c0, U_12.out.c1⟩ (fun HS1 => ?_)
                  clear hK HS0; have HS0 := HS1; clear HS1
                  refine wpAnyH_ready (rs := [10]) (by kernel_rfl) (by simp) ?_
                  refine (AllReadyH.cons (o := _) rfl (fun K hK => ?_) AllReadyH.nil)
                  have xc0 := E_12.out.c0; have xf0 := E_12.out.f0
                  have xc1 := E_12.out.c1; have xf1 := E_12.out.f1
                  go_simp
                  clear xc0 xf0 xc1 xf1
                  have D_13 := Lib.hid (boxAt_set_other 1 (.slice qa9 qn9 qc9) (boxAt_set_other 0 (.bool qb9) (D_12.out) (show iD ≠ i_E by have h1 := lt_D.out; have h2 := l_10.out; omega)) (show iD ≠ i_E by have h1 := lt_D.out; have h2 := l_10.out; omega))
                  clear D_12
                  have Y_13 := Lib.hid (boxAt_set_other 1 (.slice qa9 qn9 qc9) (boxAt_set_other 0 (.bool qb9) (Y_12.out) (show iW ≠ i_E by have h1 := lt_Y.out; have h2 := l_10.out; omega)) (show iW ≠ i_E by have h1 := lt_Y.out; have h2 := l_10.out; omega))
                  clear Y_12
                  have U_13 := Lib.hid (boxAt_set_other 1 (.slice qa9 qn9 qc9) (boxAt_set_other 0 (.bool qb9) (U_12.out) (show iU ≠ i_E by have h1 := lt_U.out; have h2 := l_10.out; omega)) (show iU ≠ i_E by have h1 := lt_U.out; have h2 := l_10.out; omega))
                  clear U_12
                  have ND_13 := Lib.hid (num_set2 (.bool qb9) (.slice qa9 qn9 qc9) (ND_12.out) E_12.out)
                  clear ND_12
                  have NY_13 := Lib.hid (num_set2 (.bool qb9) (.slice qa9 qn9 qc9) (NY_12.out) E_12.out)
                  clear NY_12
                  have NU_13 := Lib.hid (num_set2 (.bool qb9) (.slice qa9 qn9 qc9) (NU_12.out) E_12.out)
                  clear NU_12
                  have M_13 := Lib.hid (num_set2 (.bool qb9) (.slice qa9 qn9 qc9) (M_12.out) E_12.out)
                  clear M_12
                  have V_13 := Lib.hid (num_set2 (.bool qb9) (.slice qa9 qn9 qc9) (V_12.out) E_12.out)
                  clear V_12
                  have O_13 := Lib.hid (num_set2 (.bool qb9) (.slice qa9 qn9 qc9) (O_12.out) E_12.out)
                  clear O_12
                  have Q_13 := Lib.hid (num_set2 (.bool qb9) (.slice qa9 qn9 qc9) (hQ_12.out) E_12.out)
                  clear hQ_12
                  have E_13 := Lib.hid (boxAt_set2 (.bool qb9) (.slice qa9 qn9 qc9) (E_12.out))
                  have d_13 : Hid (Below w3.heap.size w3 ((w_12.setCell ⟨i_E, 0, none⟩ (.bool qb9)).setCell ⟨i_E, 1, none⟩ (.slice qa9 qn9 qc9))) := (Below.setCell (p := ⟨i_E, 1, none⟩) (Below.setCell (p := ⟨i_E, 0, none⟩) d_12.out (l_10.out) (.bool qb9)) (l_10.out) (.slice qa9 qn9 qc9))
                  clear E_12
                  refine hK.out _ _ ⟨D_13.out.c0, D_13.out.c1, Y_13.out.c0, Y_13.out.c1, U_13.out.c0, U_13.out.c1⟩ (fun HS1 => ?_)
                  clear hK HS0; have HS0 := HS1; clear HS1
                  refine wpAnyH_done (by kernel_rfl) ?_ _
                  dsimp only [Exit.then]
                  refine ‹∀ (a' : Act) (w' : World), Met _ a' w' → _› _ _ ?_
                  go_meet
                  case rel => exact ⟨_, _, _, _, _, rfl, l_10.out, E_13.out, Q_13.out, d_13.out⟩
              · skip
                go_simp
                have ba_14 := Lib.hid (ba w_1 (.cells #[.bool false, .slice none 0 0] 33))
                have D_14 := Lib.hid (boxAt_below (D_1.out) ba_14.out); have Y_14 := Lib.hid (boxAt_below (Y_1.out) ba_14.out); have U_14 := Lib.hid (boxAt_below (U_1.out) ba_14.out); have ND_14 := Lib.hid (num_below (ND_1.out) ba_14.out); have NY_14 := Lib.hid (num_below (NY_1.out) ba_14.out); have NU_14 := Lib.hid (num_below (NU_1.out) ba_14.out); have M_14 := Lib.hid (num_below (hM_1.out) ba_14.out); clear D_1 Y_1 U_1 ND_1 NY_1 NU_1 hM_1
                have E_14 := Lib.hid (boxAt_new w_1 (.bool false) (.slice none 0 0))
                have l_14 : Hid (w3.heap.size ≤ w_1.heap.size) := d_1.out.size
                have d_14 := Lib.hid (bt d_1.out ba_14.out)
                obtain ⟨i_E, hi_14⟩ : ∃ m, Hid (w_1.heap.size = m) := ⟨_, rfl⟩
                obtain ⟨w_14, hw_14⟩ : ∃ v, Hid (v = w_1.alloc (.cells #[.bool false, .slice none 0 0] 33)) := ⟨_, rfl⟩
                refine hK.out _ _ ⟨D_14.out.c0, D_14.out.c1, Y_14.out.c0, Y_14.out.c1, U_14.out.c0, U_14.out.c1⟩ (fun HS1 => ?_)
                clear hK HS0; have HS0 := HS1; clear HS1
                rw [← hw_14.out] at HS0 d_14 D_14 Y_14 U_14 ND_14 NY_14 NU_14 M_14 E_14 ⊢
                rw [hi_14.out] at E_14 l_14 ⊢
                clear hw_14 hi_14 ba_14
                refine wpAnyH_ready (rs := [6]) (by kernel_rfl) (by simp) ?_
                refine (AllReadyH.cons (o := _) rfl (fun K hK => ?_) AllReadyH.nil)
                go_simp
                go_at_call 11
                (with_reducible refine (word_any x _ HX.out.1 HX.out.2).mono ?_)
                rintro e w_15 ⟨v_15, hz, rfl, b_15⟩
                replace b_15 := Lib.hid b_15
                have D_15 := Lib.hid (boxAt_below (D_14.out) b_15.out); have Y_15 := Lib.hid (boxAt_below (Y_14.out) b_15.out); have U_15 := Lib.hid (boxAt_below (U_14.out) b_15.out); have ND_15 := Lib.hid (num_below (ND_14.out) b_15.out); have NY_15 := Lib.hid (num_below (NY_14.out) b_15.out); have NU_15 := Lib.hid (num_below (NU_14.out) b_15.out); have M_15 := Lib.hid (num_below (M_14.out) b_15.out); have E_15 := Lib.hid (boxAt_below (E_14.out) b_15.out); clear D_14 Y_14 U_14 ND_14 NY_14 NU_14 M_14 E_14
                have d_15 := Lib.hid (bt d_14.out b_15.out)
                clear b_15
                have hV_15 := Lib.hid hz
                clear hz
                refine hK.out _ _ ⟨D_15.out.c0, D_15.out.c1, Y_15.out.c0, Y_15.out.c1, U_15.out.c0, U_15.out.c1⟩ (fun HS1 => ?_)
                clear hK HS0; have HS0 := HS1; clear HS1
                refine wpAnyH_ready (rs := [7]) (by kernel_rfl) (by simp) ?_
                refine (AllReadyH.cons (o := _) rfl (fun K hK => ?_) AllReadyH.nil)
                go_simp
                go_at_call 14
                (with_reducible refine (mul_any 44 7 _ _ u x _ NU_15.out hV_15.out (by omega) (by omega)).mono ?_)
                rintro e w_16 ⟨v_16, hz, rfl, b_16⟩
                replace b_16 := Lib.hid b_16
                have D_16 := Lib.hid (boxAt_below (D_15.out) b_16.out); have Y_16 := Lib.hid (boxAt_below (Y_15.out) b_16.out); have U_16 := Lib.hid (boxAt_below (U_15.out) b_16.out); have ND_16 := Lib.hid (num_below (ND_15.out) b_16.out); have NY_16 := Lib.hid (num_below (NY_15.out) b_16.out); have NU_16 := Lib.hid (num_below (NU_15.out) b_16.out); have M_16 := Lib.hid (num_below (M_15.out) b_16.out); have E_16 := Lib.hid (boxAt_below (E_15.out) b_16.out); have V_16 := Lib.hid (num_below (hV_15.out) b_16.out); clear D_15 Y_15 U_15 ND_15 NY_15 NU_15 M_15 E_15 hV_15
                have d_16 := Lib.hid (bt d_15.out b_16.out)
                clear b_16
                have hO_16 := Lib.hid hz
                clear hz
                refine hK.out _ _ ⟨D_16.out.c0, D_16.out.c1, Y_16.out.c0, Y_16.out.c1, U_16.out.c0, U_16.out.c1⟩ (fun HS1 => ?_)
                clear hK HS0; have HS0 := HS1; clear HS1
                refine wpAnyH_ready (rs := [8]) (by kernel_rfl) (by simp) ?_
                refine (AllReadyH.cons (o := _) rfl (fun K hK => ?_) AllReadyH.nil)
                go_simp
                go_at_call 13
                (with_reducible refine (sub_any 51 51 _ _ _ _ _ M_16.out hO_16.out (by omega) (by omega)).mono ?_)
                rintro e w_17 ⟨v_17, hz, rfl, b_17⟩
                replace b_17 := Lib.hid b_17
                have D_17 := Lib.hid (boxAt_below (D_16.out) b_17.out); have Y_17 := Lib.hid (boxAt_below (Y_16.out) b_17.out); have U_17 := Lib.hid (boxAt_below (U_16.out) b_17.out); have ND_17 := Lib.hid (num_below (ND_16.out) b_17.out); have NY_17 := Lib.hid (num_below (NY_16.out) b_17.out); have NU_17 := Lib.hid (num_below (NU_16.out) b_17.out); have M_17 := Lib.hid (num_below (M_16.out) b_17.out); have E_17 := Lib.hid (boxAt_below (E_16.out) b_17.out); have V_17 := Lib.hid (num_below (V_16.out) b_17.out); have O_17 := Lib.hid (num_below (hO_16.out) b_17.out); clear D_16 Y_16 U_16 ND_16 NY_16 NU_16 M_16 E_16 V_16 hO_16
                have d_17 := Lib.hid (bt d_16.out b_17.out)
                clear b_17
                obtain ⟨qb9, qa9, qn9, qc9, rfl⟩ := num_agg hz
                have hQ_17 := Lib.hid hz
                clear hz
                refine hK.out _ _ ⟨D_17.out.c0, D_17.out.c1, Y_17.out.c0, Y_17.out.c1, U_17.out.c0, U_17.out.c1⟩ (fun HS1 => ?_)
                clear hK HS0; have HS0 := HS1; clear HS1
                refine wpAnyH_ready (rs := [10]) (by kernel_rfl) (by simp) ?_
                refine (AllReadyH.cons (o := _) rfl (fun K hK => ?_) AllReadyH.nil)
                have xc0 := E_17.out.c0; have xf0 := E_17.out.f0
                have xc1 := E_17.out.c1; have xf1 := E_17.out.f1
                go_simp
                clear xc0 xf0 xc1 xf1
                have D_18 := Lib.hid (boxAt_set_other 1 (.slice qa9 qn9 qc9) (boxAt_set_other 0 (.bool qb9) (D_17.out) (show iD ≠ i_E by have h1 := lt_D.out; have h2 := l_14.out; omega)) (show iD ≠ i_E by have h1 := lt_D.out; have h2 := l_14.out; omega))
                clear D_17
                have Y_18 := Lib.hid (boxAt_set_other 1 (.slice qa9 qn9 qc9) (boxAt_set_other 0 (.bool qb9) (Y_17.out) (show iW ≠ i_E by have h1 := lt_Y.out; have h2 := l_14.out; omega)) (show iW ≠ i_E by have h1 := lt_Y.out; have h2 := l_14.out; omega))
                clear Y_17
                have U_18 := Lib.hid (boxAt_set_other 1 (.slice qa9 qn9 qc9) (boxAt_set_other 0 (.bool qb9) (U_17.out) (show iU ≠ i_E by have h1 := lt_U.out; have h2 := l_14.out; omega)) (show iU ≠ i_E by have h1 := lt_U.out; have h2 := l_14.out; omega))
                clear U_17
                have ND_18 := Lib.hid (num_set2 (.bool qb9) (.slice qa9 qn9 qc9) (ND_17.out) E_17.out)
                clear ND_17
                have NY_18 := Lib.hid (num_set2 (.bool qb9) (.slice qa9 qn9 qc9) (NY_17.out) E_17.out)
                clear NY_17
                have NU_18 := Lib.hid (num_set2 (.bool qb9) (.slice qa9 qn9 qc9) (NU_17.out) E_17.out)
                clear NU_17
                have M_18 := Lib.hid (num_set2 (.bool qb9) (.slice qa9 qn9 qc9) (M_17.out) E_17.out)
                clear M_17
                have V_18 := Lib.hid (num_set2 (.bool qb9) (.slice qa9 qn9 qc9) (V_17.out) E_17.out)
                clear V_17
                have O_18 := Lib.hid (num_set2 (.bool qb9) (.slice qa9 qn9 qc9) (O_17.out) E_17.out)
                clear O_17
                have Q_18 := Lib.hid (num_set2 (.bool qb9) (.slice qa9 qn9 qc9) (hQ_17.out) E_17.out)
                clear hQ_17
                have E_18 := Lib.hid (boxAt_set2 (.bool qb9) (.slice qa9 qn9 qc9) (E_17.out))
                have d_18 : Hid (Below w3.heap.size w3 ((w_17.setCell ⟨i_E, 0, none⟩ (.bool qb9)).setCell ⟨i_E, 1, none⟩ (.slice qa9 qn9 qc9))) := (Below.setCell (p := ⟨i_E, 1, none⟩) (Below.setCell (p := ⟨i_E, 0, none⟩) d_17.out (l_14.out) (.bool qb9)) (l_14.out) (.slice qa9 qn9 qc9))
                clear E_17
                refine hK.out _ _ ⟨D_18.out.c0, D_18.out.c1, Y_18.out.c0, Y_18.out.c1, U_18.out.c0, U_18.out.c1⟩ (fun HS1 => ?_)
                clear hK HS0; have HS0 := HS1; clear HS1
                refine wpAnyH_done (by kernel_rfl) ?_ _
                dsimp only [Exit.then]
                refine ‹∀ (a' : Act) (w' : World), Met _ a' w' → _› _ _ ?_
                go_meet
                case rel => exact ⟨_, _, _, _, _, rfl, l_14.out, E_18.out, Q_18.out, d_18.out⟩
            · skip
              go_simp
              have ba_19 := Lib.hid (ba w_0 (.cells #[.bool false, .slice none 0 0] 33))
              have D_19 := Lib.hid (boxAt_below (D_0.out) ba_19.out); have Y_19 := Lib.hid (boxAt_below (Y_0.out) ba_19.out); have U_19 := Lib.hid (boxAt_below (U_0.out) ba_19.out); have ND_19 := Lib.hid (num_below (ND_0.out) ba_19.out); have NY_19 := Lib.hid (num_below (NY_0.out) ba_19.out); have NU_19 := Lib.hid (num_below (NU_0.out) ba_19.out); clear D_0 Y_0 U_0 ND_0 NY_0 NU_0
              have E_19 := Lib.hid (boxAt_new w_0 (.bool false) (.slice none 0 0))
              have l_19 : Hid (w3.heap.size ≤ w_0.heap.size) := DW.out.size
              have d_19 := Lib.hid (bt DW.out ba_19.out)
              obtain ⟨i_E, hi_19⟩ : ∃ m, Hid (w_0.heap.size = m) := ⟨_, rfl⟩
              obtain ⟨w_19, hw_19⟩ : ∃ v, Hid (v = w_0.alloc (.cells #[.bool false, .slice none 0 0] 33)) := ⟨_, rfl⟩
              refine hK.out _ _ ⟨D_19.out.c0, D_19.out.c1, Y_19.out.c0, Y_19.out.c1, U_19.out.c0, U_19.out.c1⟩ (fun HS1 => ?_)
              clear hK HS0; have HS0 := HS1; clear HS1
              rw [← hw_19.out] at HS0 d_19 D_19 Y_19 U_19 ND_19 NY_19 NU_19 E_19 ⊢
              rw [hi_19.out] at E_19 l_19 ⊢
              clear hw_19 hi_19 ba_19
              refine wpAnyH_ready (rs := [2]) (by kernel_rfl) (by simp) ?_
              refine (AllReadyH.cons (o := _) rfl (fun K hK => ?_) AllReadyH.nil)
              go_simp
              go_at_call 14
              (with_reducible refine (mul_any 44 7 _ _ sh (aln : Int) _ ND_19.out NY_19.out (by omega) (by omega)).mono ?_)
              rintro e w_20 ⟨v_20, hz, rfl, b_20⟩
              replace b_20 := Lib.hid b_20
              have D_20 := Lib.hid (boxAt_below (D_19.out) b_20.out); have Y_20 := Lib.hid (boxAt_below (Y_19.out) b_20.out); have U_20 := Lib.hid (boxAt_below (U_19.out) b_20.out); have ND_20 := Lib.hid (num_below (ND_19.out) b_20.out); have NY_20 := Lib.hid (num_below (NY_19.out) b_20.out); have NU_20 := Lib.hid (num_below (NU_19.out) b_20.out); have E_20 := Lib.hid (boxAt_below (E_19.out) b_20.out); clear D_19 Y_19 U_19 ND_19 NY_19 NU_19 E_19
              have d_20 := Lib.hid (bt d_19.out b_20.out)
              clear b_20
              have hM_20 := Lib.hid hz
              clear hz
              refine hK.out _ _ ⟨D_20.out.c0, D_20.out.c1, Y_20.out.c0, Y_20.out.c1, U_20.out.c0, U_20.out.c1⟩ (fun HS1 => ?_)
              clear hK HS0; have HS0 := HS1; clear HS1
              refine wpAnyH_ready (rs := [6]) (by kernel_rfl) (by simp) ?_
              refine (AllReadyH.cons (o := _) rfl (fun K hK => ?_) AllReadyH.nil)
              go_simp
              go_at_call 11
              (with_reducible refine (word_any x _ HX.out.1 HX.out.2).mono ?_)
              rintro e w_21 ⟨v_21, hz, rfl, b_21⟩
              replace b_21 := Lib.hid b_21
              have D_21 := Lib.hid (boxAt_below (D_20.out) b_21.out); have Y_21 := Lib.hid (boxAt_below (Y_20.out) b_21.out); have U_21 := Lib.hid (boxAt_below (U_20.out) b_21.out); have ND_21 := Lib.hid (num_below (ND_20.out) b_21.out); have NY_21 := Lib.hid (num_below (NY_20.out) b_21.out); have NU_21 := Lib.hid (num_below (NU_20.out) b_21.out); have E_21 := Lib.hid (boxAt_below (E_20.out) b_21.out); have M_21 := Lib.hid (num_below (hM_20.out) b_21.out); clear D_20 Y_20 U_20 ND_20 NY_20 NU_20 E_20 hM_20
              have d_21 := Lib.hid (bt d_20.out b_21.out)
              clear b_21
              have hV_21 := Lib.hid hz
              clear hz
              refine hK.out _ _ ⟨D_21.out.c0, D_21.out.c1, Y_21.out.c0, Y_21.out.c1, U_21.out.c0, U_21.out.c1⟩ (fun HS1 => ?_)
              clear hK HS0; have HS0 := HS1; clear HS1
              refine wpAnyH_ready (rs := [7]) (by kernel_rfl) (by simp) ?_
              refine (AllReadyH.cons (o := _) rfl (fun K hK => ?_) AllReadyH.nil)
              go_simp
              go_at_call 14
              (with_reducible refine (mul_any 44 7 _ _ u x _ NU_21.out hV_21.out (by omega) (by omega)).mono ?_)
              rintro e w_22 ⟨v_22, hz, rfl, b_22⟩
              replace b_22 := Lib.hid b_22
              have D_22 := Lib.hid (boxAt_below (D_21.out) b_22.out); have Y_22 := Lib.hid (boxAt_below (Y_21.out) b_22.out); have U_22 := Lib.hid (boxAt_below (U_21.out) b_22.out); have ND_22 := Lib.hid (num_below (ND_21.out) b_22.out); have NY_22 := Lib.hid (num_below (NY_21.out) b_22.out); have NU_22 := Lib.hid (num_below (NU_21.out) b_22.out); have E_22 := Lib.hid (boxAt_below (E_21.out) b_22.out); have M_22 := Lib.hid (num_below (M_21.out) b_22.out); have V_22 := Lib.hid (num_below (hV_21.out) b_22.out); clear D_21 Y_21 U_21 ND_21 NY_21 NU_21 E_21 M_21 hV_21
              have d_22 := Lib.hid (bt d_21.out b_22.out)
              clear b_22
              have hO_22 := Lib.hid hz
              clear hz
              refine hK.out _ _ ⟨D_22.out.c0, D_22.out.c1, Y_22.out.c0, Y_22.out.c1, U_22.out.c0, U_22.out.c1⟩ (fun HS1 => ?_)
              clear hK HS0; have HS0 := HS1; clear HS1
              refine wpAnyH_ready (rs := [8]) (by kernel_rfl) (by simp) ?_
              refine (AllReadyH.cons (o := _) rfl (fun K hK => ?_) AllReadyH.nil)
              go_simp
              go_at_call 13
              (with_reducible refine (sub_any 51 51 _ _ _ _ _ M_22.out hO_22.out (by omega) (by omega)).mono ?_)
              rintro e w_23 ⟨v_23, hz, rfl, b_23⟩
              replace b_23 := Lib.hid b_23
              have D_23 := Lib.hid (boxAt_below (D_22.out) b_23.out); have Y_23 := Lib.hid (boxAt_below (Y_22.out) b_23.out); have U_23 := Lib.hid (boxAt_below (U_22.out) b_23.out); have ND_23 := Lib.hid (num_below (ND_22.out) b_23.out); have NY_23 := Lib.hid (num_below (NY_22.out) b_23.out); have NU_23 := Lib.hid (num_below (NU_22.out) b_23.out); have E_23 := Lib.hid (boxAt_below (E_22.out) b_23.out); have M_23 := Lib.hid (num_below (M_22.out) b_23.out); have V_23 := Lib.hid (num_below (V_22.out) b_23.out); have O_23 := Lib.hid (num_below (hO_22.out) b_23.out); clear D_22 Y_22 U_22 ND_22 NY_22 NU_22 E_22 M_22 V_22 hO_22
              have d_23 := Lib.hid (bt d_22.out b_23.out)
              clear b_23
              obtain ⟨qb9, qa9, qn9, qc9, rfl⟩ := num_agg hz
              have hQ_23 := Lib.hid hz
              clear hz
              refine hK.out _ _ ⟨D_23.out.c0, D_23.out.c1, Y_23.out.c0, Y_23.out.c1, U_23.out.c0, U_23.out.c1⟩ (fun HS1 => ?_)
              clear hK HS0; have HS0 := HS1; clear HS1
              refine wpAnyH_ready (rs := [10]) (by kernel_rfl) (by simp) ?_
              refine (AllReadyH.cons (o := _) rfl (fun K hK => ?_) AllReadyH.nil)
              have xc0 := E_23.out.c0; have xf0 := E_23.out.f0
              have xc1 := E_23.out.c1; have xf1 := E_23.out.f1
              go_simp
              clear xc0 xf0 xc1 xf1
              have D_24 := Lib.hid (boxAt_set_other 1 (.slice qa9 qn9 qc9) (boxAt_set_other 0 (.bool qb9) (D_23.out) (show iD ≠ i_E by have h1 := lt_D.out; have h2 := l_19.out; omega)) (show iD ≠ i_E by have h1 := lt_D.out; have h2 := l_19.out; omega))
              clear D_23
              have Y_24 := Lib.hid (boxAt_set_other 1 (.slice qa9 qn9 qc9) (boxAt_set_other 0 (.bool qb9) (Y_23.out) (show iW ≠ i_E by have h1 := lt_Y.out; have h2 := l_19.out; omega)) (show iW ≠ i_E by have h1 := lt_Y.out; have h2 := l_19.out; omega))
              clear Y_23
              have U_24 := Lib.hid (boxAt_set_other 1 (.slice qa9 qn9 qc9) (boxAt_set_other 0 (.bool qb9) (U_23.out) (show iU ≠ i_E by have h1 := lt_U.out; have h2 := l_19.out; omega)) (show iU ≠ i_E by have h1 := lt_U.out; have h2 := l_19.out; omega))
              clear U_23
              have ND_24 := Lib.hid (num_set2 (.bool qb9) (.slice qa9 qn9 qc9) (ND_23.out) E_23.out)
              clear ND_23
              have NY_24 := Lib.hid (num_set2 (.bool qb9) (.slice qa9 qn9 qc9) (NY_23.out) E_23.out)
              clear NY_23
              have NU_24 := Lib.hid (num_set2 (.bool qb9) (.slice qa9 qn9 qc9) (NU_23.out) E_23.out)
              clear NU_23
              have M_24 := Lib.hid (num_set2 (.bool qb9) (.slice qa9 qn9 qc9) (M_23.out) E_23.out)
              clear M_23
              have V_24 := Lib.hid (num_set2 (.bool qb9) (.slice qa9 qn9 qc9) (V_23.out) E_23.out)
              clear V_23
              have O_24 := Lib.hid (num_set2 (.bool qb9) (.slice qa9 qn9 qc9) (O_23.out) E_23.out)
              clear O_23
              have Q_24 := Lib.hid (num_set2 (.bool qb9) (.slice qa9 qn9 qc9) (hQ_23.out) E_23.out)
              clear hQ_23
              have E_24 := Lib.hid (boxAt_set2 (.bool qb9) (.slice qa9 qn9 qc9) (E_23.out))
              have d_24 : Hid (Below w3.heap.size w3 ((w_23.setCell ⟨i_E, 0, none⟩ (.bool qb9)).setCell ⟨i_E, 1, none⟩ (.slice qa9 qn9 qc9))) := (Below.setCell (p := ⟨i_E, 1, none⟩) (Below.setCell (p := ⟨i_E, 0, none⟩) d_23.out (l_19.out) (.bool qb9)) (l_19.out) (.slice qa9 qn9 qc9))
              clear E_23
              refine hK.out _ _ ⟨D_24.out.c0, D_24.out.c1, Y_24.out.c0, Y_24.out.c1, U_24.out.c0, U_24.out.c1⟩ (fun HS1 => ?_)
              clear hK HS0; have HS0 := HS1; clear HS1
              refine wpAnyH_done (by kernel_rfl) ?_ _
              dsimp only [Exit.then]
              refine ‹∀ (a' : Act) (w' : World), Met _ a' w' → _› _ _ ?_
              go_meet
              case rel => exact ⟨_, _, _, _, _, rfl, l_19.out, E_24.out, Q_24.out, d_24.out⟩
          case rest =>
            obtain ⟨iE, eb, ea, en, ec, rfl, lE, hE, hNE, bE⟩ := hcut
            have lD3 := D3.out.lt
            have kE : iS < iE ∧ iU < iE ∧ iW < iE ∧ iD < iE := by have := lU.out; have := lS.out; have := lW.out; have := lD.out; omega
            have KE := Lib.hid kE
            have E4 := Lib.hid (boxAt_set0 (.bool false) hE)
            have NE4 := Lib.hid (num_abs (num_set1 (.bool false) hNE hE))
            have D4 := Lib.hid (NB.other1 (NB.below ⟨db, da, dn, dc, D3.out, ND3.out⟩ bE) hE (by omega) (.bool false))
            have W4 := Lib.hid (NB.other1 (NB.below ⟨yb, ya, yn, yc, Y3.out, NY3.out⟩ bE) hE (by omega) (.bool false))
            have U4 := Lib.hid (NB.other1 (NB.below ⟨ub, ua, un, uc, U3.out, NU3.out⟩ bE) hE (by omega) (.bool false))
            have S4 := Lib.hid (NB.other1 (S3.out.below bE) hE (by omega) (.bool false))
            have R4 := Lib.hid (row_set1 (Elem.Row.below R3.out bE) hE (.bool false))
            have B4 : Hid (Below w.heap.size w (wc.setCell ⟨iE, 0, none⟩ (.bool false))) := (bt B3.out bE).setCell (by have := lU.out; show _ ≤ iE; omega) _
            have e0 := hE.c0; have e1' := hE.f0
            have HEE := Lib.hid hE
            clear hE hNE bE kE lE lD3 D3 ND3 Y3 NY3 U3 NU3 S3 R3 B3
            go_upto_region 25 with fail
            obtain ⟨w4, hw4⟩ : ∃ v, Hid (v = wc.setCell ⟨iE, 0, none⟩ (.bool false)) := ⟨_, rfl⟩
            rw [← hw4.out] at E4 NE4 D4 W4 U4 S4 R4 B4 ⊢
            clear hw4 e0 e1' HEE
            obtain ⟨yb, ya, yn, yc, Y4, NY4⟩ := W4.out
            have z0 := E4.out.c0; have z1 := E4.out.c1; have z2 := Y4.c0; have z3 := Y4.c1
            have CC := cmp_c 52 7 _ _ _ _ _ w4 NE4.out NY4 (by omega) (by omega) OFF.out
            clear Y4 NY4
            go_upto_region 27 with (go_at_call 15; (with_reducible refine CC.mono ?_); rintro e w5 ⟨rfl, b5⟩; have D5 := Lib.hid (D4.out.below b5); have W5 := Lib.hid (W4.out.below b5); have U5 := Lib.hid (U4.out.below b5); have S5 := Lib.hid (S4.out.below b5); have R5 := Lib.hid (Elem.Row.below R4.out b5); have B5 := Lib.hid (bt B4.out b5); clear b5 CC)
            clear z0 z1 z2 z3 D4 W4 U4 S4 R4 B4 E4 NE4
            obtain ⟨sb, sa, sn, sc, T5, NT5⟩ := id S5.out
            obtain ⟨db, da, dn, dc, D5', ND5⟩ := id D5.out
            have z0 := T5.c0; have z1 := T5.c1; have z2 := D5'.c0; have z3 := D5'.c1
            have AD := add_any (50 + k) 44 _ _ _ _ w5 NT5 ND5 (by have := HK.out; have := HL.out; omega) (by omega)
            rw [LS.out] at AD
            clear T5 NT5 D5' ND5
            go_upto_region 28 with (go_at_call 16; (with_reducible refine AD.mono ?_); rintro e w55 ⟨v6, hz, rfl, b6⟩; obtain ⟨tb, ta, tn, tc, rfl⟩ := num_agg hz; have N6 := Lib.hid hz; have b6 := Lib.hid b6; clear hz AD; have S55 := Lib.hid (S5.out.below b6.out); obtain ⟨sb', sa', sn', sc', T55, _⟩ := id S55.out; have T55' := Lib.hid T55; have z4 := T55.c0; have z5 := T55.c1; have z6 := T55.f0; have z7 := T55.f1; clear T55)
            have S6 := Lib.hid (NB.set S55.out (num_up N6.out (show max (50 + k) 44 + 1 ≤ 50 + (k + 1) by omega)))
            have W6 := Lib.hid (NB.other (W5.out.below b6.out) T55'.out (by have := lW.out; omega) (.bool tb) (.slice ta tn tc))
            have U6' := Lib.hid (NB.other (U5.out.below b6.out) T55'.out (by have := lS.out; omega) (.bool tb) (.slice ta tn tc))
            have R6 := Lib.hid (row_set (Elem.Row.below R5.out b6.out) T55'.out (.bool tb) (.slice ta tn tc))
            have lSw : w.heap.size ≤ iS := by have := lU.out; have := lS.out; omega
            have B6 : Hid (Below w.heap.size w ((w55.setCell ⟨iS, 0, none⟩ (.bool tb)).setCell ⟨iS, 1, none⟩ (.slice ta tn tc))) := ((bt B5.out b6.out).setCell lSw _).setCell lSw _
            obtain ⟨w6, hw6⟩ : ∃ v, Hid (v = (w55.setCell ⟨iS, 0, none⟩ (.bool tb)).setCell ⟨iS, 1, none⟩ (.slice ta tn tc)) := ⟨_, rfl⟩
            rw [← hw6.out] at S6 W6 U6' R6 B6 ⊢
            clear hw6 z0 z1 z2 z3 z4 z5 z6 z7 b6 N6 S55 T55' D5 W5 U5 S5 R5 B5 lSw
            obtain ⟨yb, ya, yn, yc, Y6', NY6'⟩ := id W6.out
            obtain ⟨ub, ua, un, uc, U6'', NU6'⟩ := id U6'.out
            have Y6 := Lib.hid Y6'; have NY6 := Lib.hid NY6'; have U6 := Lib.hid U6''; have NU6 := Lib.hid NU6'
            clear Y6' NY6' U6'' NU6'
            go_cut [22] from 71 to 128 (fun s wx => BoxF w6 59 (u * pk / (aln : Int)) s wx)
            case first =>
              have DW : Hid (Below w6.heap.size w6 w6.drew) := (Below.refl _ _).drew
              have lt_Y : Hid (iW < w6.heap.size) := (Array.getElem?_eq_some_iff.1 Y6.out).1
              have lt_U : Hid (iU < w6.heap.size) := (Array.getElem?_eq_some_iff.1 U6.out).1
              have Y_0 := Lib.hid (boxAt_below (Y6.out) DW.out)
              have U_0 := Lib.hid (boxAt_below (U6.out) DW.out)
              have NY_0 := Lib.hid (num_below (NY6.out) DW.out)
              have NU_0 := Lib.hid (num_below (NU6.out) DW.out)
              refine wp_region_held_drew (S := fun w' => w'.cell? ⟨iU, 0, none⟩ = some (.bool ub) ∧ w'.cell? ⟨iU, 1, none⟩ = some (.slice ua un uc) ∧ w'.cell? ⟨iW, 0, none⟩ = some (.bool yb) ∧ w'.cell? ⟨iW, 1, none⟩ = some (.slice ya yn yc)) (by kernel_rfl) ⟨U_0.out.c0, U_0.out.c1, Y_0.out.c0, Y_0.out.c1⟩ (fun HS0 => ?_)
              obtain ⟨w_0, hw_0⟩ : ∃ v, Hid (v = w6.drew) := ⟨_, rfl⟩
              rw [← hw_0.out] at DW Y_0 U_0 NY_0 NU_0 HS0 ⊢
              clear hw_0
              (refine wpAnyH_take (i := 0) (v := ?_) rfl (by kernel_rfl) (by kernel_rfl) (by kernel_rfl) (fun _ _ _ h => h) (Or.inl ⟨by rfl, ?_⟩) HS0 ?_; case refine_2 => (intro w hSw; (try dsimp only at hSw); go_simp; try with_reducible rfl); try simp only [Act.put, List.setIfInBounds_toArray, List.set_cons_zero, List.set_cons_succ])
              (refine wpAnyH_take (i := 1) (v := ?_) rfl (by kernel_rfl) (by kernel_rfl) (by kernel_rfl) (fun _ _ _ h => h) (Or.inl ⟨by rfl, ?_⟩) HS0 ?_; case refine_2 => (intro w hSw; (try dsimp only at hSw); go_simp; try with_reducible rfl); try simp only [Act.put, List.setIfInBounds_toArray, List.set_cons_zero, List.set_cons_succ])
              (refine wpAnyH_take (i := 2) (v := ?_) rfl (by kernel_rfl) (by kernel_rfl) (by kernel_rfl) (fun _ _ _ h => h) (Or.inl ⟨by rfl, ?_⟩) HS0 ?_; case refine_2 => (intro w hSw; (try dsimp only at hSw); go_simp; try with_reducible rfl); try simp only [Act.put, List.setIfInBounds_toArray, List.set_cons_zero, List.set_cons_succ])
              (refine wpAnyH_take (i := 5) (v := ?_) rfl (by kernel_rfl) (by kernel_rfl) (by kernel_rfl) (fun _ _ _ h => h) (Or.inl ⟨by rfl, ?_⟩) HS0 ?_; case refine_2 => (intro w hSw; (try dsimp only at hSw); go_simp; try with_reducible rfl); try simp only [Act.put, List.setIfInBounds_toArray, List.set_cons_zero, List.set_cons_succ])
              refine wpAnyH_ready (rs := [3, 10, 11]) (by kernel_rfl) (by simp) ?_
              refine (AllReadyH.cons (o := _) rfl (fun K hK => ?_) (AllReadyH.cons (o := _) rfl (fun K hK => ?_) (AllReadyH.cons (o := _) rfl (fun K hK => ?_) AllReadyH.nil)))
              · skip
                go_simp
                go_at_call 11
                (with_reducible refine (word_any pk _ HPK.out.1 HPK.out.2).mono ?_)
                rintro e w_1 ⟨v_1, hz, rfl, b_1⟩
                replace b_1 := Lib.hid b_1
                have Y_1 := Lib.hid (boxAt_below (Y_0.out) b_1.out); have U_1 := Lib.hid (boxAt_below (U_0.out) b_1.out); have NY_1 := Lib.hid (num_below (NY_0.out) b_1.out); have NU_1 := Lib.hid (num_below (NU_0.out) b_1.out); clear Y_0 U_0 NY_0 NU_0
                have d_1 := Lib.hid (bt DW.out b_1.out)
                clear b_1
                have hV_1 := Lib.hid hz
                clear hz
                refine hK.out _ _ ⟨U_1.out.c0, U_1.out.c1, Y_1.out.c0, Y_1.out.c1⟩ (fun HS1 => ?_)
                clear hK HS0; have HS0 := HS1; clear HS1
                refine wpAnyH_ready (rs := [4, 10, 11]) (by kernel_rfl) (by simp) ?_
                refine (AllReadyH.cons (o := _) rfl (fun K hK => ?_) (AllReadyH.cons (o := _) rfl (fun K hK => ?_) (AllReadyH.cons (o := _) rfl (fun K hK => ?_) AllReadyH.nil)))
                · skip
                  go_simp
                  go_at_call 14
                  (with_reducible refine (mul_any 44 7 _ _ u pk _ NU_1.out hV_1.out (by omega) (by omega)).mono ?_)
                  rintro e w_2 ⟨v_2, hz, rfl, b_2⟩
                  replace b_2 := Lib.hid b_2
                  have Y_2 := Lib.hid (boxAt_below (Y_1.out) b_2.out); have U_2 := Lib.hid (boxAt_below (U_1.out) b_2.out); have NY_2 := Lib.hid (num_below (NY_1.out) b_2.out); have NU_2 := Lib.hid (num_below (NU_1.out) b_2.out); have V_2 := Lib.hid (num_below (hV_1.out) b_2.out); clear Y_1 U_1 NY_1 NU_1 hV_1
                  have d_2 := Lib.hid (bt d_1.out b_2.out)
                  clear b_2
                  have hO_2 := Lib.hid hz
                  clear hz
                  refine hK.out _ _ ⟨U_2.out.c0, U_2.out.c1, Y_2.out.c0, Y_2.out.c1⟩ (fun HS1 => ?_)
                  clear hK HS0; have HS0 := HS1; clear HS1
                  refine wpAnyH_ready (rs := [6, 10, 11]) (by kernel_rfl) (by simp) ?_
                  refine (AllReadyH.cons (o := _) rfl (fun K hK => ?_) (AllReadyH.cons (o := _) rfl (fun K hK => ?_) (AllReadyH.cons (o := _) rfl (fun K hK => ?_) AllReadyH.nil)))
                  · skip
                    go_simp
                    go_at_call 17
                    (with_reducible refine (down_any 51 7 _ _ (u * pk) aln _ hO_2.out NY_2.out AP.out.1 (by omega) (by omega)).mono ?_)
                    rintro e w_3 ⟨vq, vr, hz, hz2, rfl, b_3⟩
                    replace b_3 := Lib.hid b_3
                    have Y_3 := Lib.hid (boxAt_below (Y_2.out) b_3.out); have U_3 := Lib.hid (boxAt_below (U_2.out) b_3.out); have NY_3 := Lib.hid (num_below (NY_2.out) b_3.out); have NU_3 := Lib.hid (num_below (NU_2.out) b_3.out); have V_3 := Lib.hid (num_below (V_2.out) b_3.out); have O_3 := Lib.hid (num_below (hO_2.out) b_3.out); clear Y_2 U_2 NY_2 NU_2 V_2 hO_2
                    have d_3 := Lib.hid (bt d_2.out b_3.out)
                    clear b_3
                    obtain ⟨qb9, qa9, qn9, qc9, rfl⟩ := num_agg hz
                    obtain ⟨rb9, ra9, rn9, rc9, rfl⟩ := num_agg hz2
                    have hQ_3 := Lib.hid hz
                    clear hz hz2
                    refine hK.out _ _ ⟨U_3.out.c0, U_3.out.c1, Y_3.out.c0, Y_3.out.c1⟩ (fun HS1 => ?_)
                    clear hK HS0; have HS0 := HS1; clear HS1
                    (refine wpAnyH_take (i := 7) (v := ?_) rfl (by kernel_rfl) (by kernel_rfl) (by kernel_rfl) (fun _ _ _ h => h) (Or.inl ⟨by rfl, ?_⟩) HS0 ?_; case refine_2 => (intro w hSw; (try dsimp only at hSw); go_simp; try with_reducible rfl); try simp only [Act.put, List.setIfInBounds_toArray, List.set_cons_zero, List.set_cons_succ])
                    (refine wpAnyH_take (i := 8) (v := ?_) rfl (by kernel_rfl) (by kernel_rfl) (by kernel_rfl) (fun _ _ _ h => h) (Or.inl ⟨by rfl, ?_⟩) HS0 ?_; case refine_2 => (intro w hSw; (try dsimp only at hSw); go_simp; try with_reducible rfl); try simp only [Act.put, List.setIfInBounds_toArray, List.set_cons_zero, List.set_cons_succ])
                    (refine wpAnyH_take (i := 9) (v := ?_) rfl (by kernel_rfl) (by kernel_rfl) (by kernel_rfl) (fun _ _ _ h => h) (Or.inl ⟨by rfl, ?_⟩) HS0 ?_; case refine_2 => (intro w hSw; (try dsimp only at hSw); go_simp; try with_reducible rfl); try simp only [Act.put, List.setIfInBounds_toArray, List.set_cons_zero, List.set_cons_succ])
                    refine wpAnyH_ready (rs := [10, 11]) (by kernel_rfl) (by simp) ?_
                    refine (AllReadyH.cons (o := _) rfl (fun K hK => ?_) (AllReadyH.cons (o := _) rfl (fun K hK => ?_) AllReadyH.nil))
                    · skip
                      go_simp
                      have ba_4 := Lib.hid (ba w_3 (.cells #[.bool false, .slice none 0 0] 33))
                      have Y_4 := Lib.hid (boxAt_below (Y_3.out) ba_4.out); have U_4 := Lib.hid (boxAt_below (U_3.out) ba_4.out); have NY_4 := Lib.hid (num_below (NY_3.out) ba_4.out); have NU_4 := Lib.hid (num_below (NU_3.out) ba_4.out); have V_4 := Lib.hid (num_below (V_3.out) ba_4.out); have O_4 := Lib.hid (num_below (O_3.out) ba_4.out); have Q_4 := Lib.hid (num_below (hQ_3.out) ba_4.out); clear Y_3 U_3 NY_3 NU_3 V_3 O_3 hQ_3
                      have E_4 := Lib.hid (boxAt_new w_3 (.bool false) (.slice none 0 0))
                      have l_4 : Hid (w6.heap.size ≤ w_3.heap.size) := d_3.out.size
                      have d_4 := Lib.hid (bt d_3.out ba_4.out)
                      obtain ⟨i_E, hi_4⟩ : ∃ m, Hid (w_3.heap.size = m) := ⟨_, rfl⟩
                      obtain ⟨w_4, hw_4⟩ : ∃ v, Hid (v = w_3.alloc (.cells #[.bool false, .slice none 0 0] 33)) := ⟨_, rfl⟩
                      refine hK.out _ _ ⟨U_4.out.c0, U_4.out.c1, Y_4.out.c0, Y_4.out.c1⟩ (fun HS1 => ?_)
                      clear hK HS0; have HS0 := HS1; clear HS1
                      rw [← hw_4.out] at HS0 d_4 Y_4 U_4 NY_4 NU_4 V_4 O_4 Q_4 E_4 ⊢
                      rw [hi_4.out] at E_4 l_4 ⊢
                      clear hw_4 hi_4 ba_4
                      refine wpAnyH_ready (rs := [11]) (by kernel_rfl) (by simp) ?_
                      refine (AllReadyH.cons (o := _) rfl (fun K hK => ?_) AllReadyH.nil)
                      go_simp
                      have ba_5 := Lib.hid (ba w_4 (.cells #[.bool false, .slice none 0 0] 33))
                      have m_5_E : Hid (i_E < w_4.heap.size) := (Array.getElem?_eq_some_iff.1 E_4.out).1
                      have Y_5 := Lib.hid (boxAt_below (Y_4.out) ba_5.out); have U_5 := Lib.hid (boxAt_below (U_4.out) ba_5.out); have NY_5 := Lib.hid (num_below (NY_4.out) ba_5.out); have NU_5 := Lib.hid (num_below (NU_4.out) ba_5.out); have V_5 := Lib.hid (num_below (V_4.out) ba_5.out); have O_5 := Lib.hid (num_below (O_4.out) ba_5.out); have Q_5 := Lib.hid (num_below (Q_4.out) ba_5.out); have E_5 := Lib.hid (boxAt_below (E_4.out) ba_5.out); clear Y_4 U_4 NY_4 NU_4 V_4 O_4 Q_4 E_4
                      have F_5 := Lib.hid (boxAt_new w_4 (.bool false) (.slice none 0 0))
                      have l_5 : Hid (w6.heap.size ≤ w_4.heap.size) := d_4.out.size
                      have d_5 := Lib.hid (bt d_4.out ba_5.out)
                      obtain ⟨i_F, hi_5⟩ : ∃ m, Hid (w_4.heap.size = m) := ⟨_, rfl⟩
                      obtain ⟨w_5, hw_5⟩ : ∃ v, Hid (v = w_4.alloc (.cells #[.bool false, .slice none 0 0] 33)) := ⟨_, rfl⟩
                      refine hK.out _ _ ⟨U_5.out.c0, U_5.out.c1, Y_5.out.c0, Y_5.out.c1⟩ (fun HS1 => ?_)
                      clear hK HS0; have HS0 := HS1; clear HS1
                      rw [← hw_5.out] at HS0 d_5 Y_5 U_5 NY_5 NU_5 V_5 O_5 Q_5 E_5 F_5 ⊢
                      rw [hi_5.out] at F_5 l_5 m_5_E ⊢
                      clear hw_5 hi_5 ba_5
                      refine wpAnyH_ready (rs := [12]) (by kernel_rfl) (by simp) ?_
                      refine (AllReadyH.cons (o := _) rfl (fun K hK => ?_) AllReadyH.nil)
                      have xc0 := E_5.out.c0; have xf0 := E_5.out.f0
                      have xc1 := E_5.out.c1; have xf1 := E_5.out.f1
                      go_simp
                      clear xc0 xf0 xc1 xf1
                      have Y_6 := Lib.hid (boxAt_set_other 1 (.slice qa9 qn9 qc9) (boxAt_set_other 0 (.bool qb9) (Y_5.out) (show iW ≠ i_E by have h1 := lt_Y.out; have h2 := l_4.out; omega)) (show iW ≠ i_E by have h1 := lt_Y.out; have h2 := l_4.out; omega))
                      clear Y_5
                      have U_6 := Lib.hid (boxAt_set_other 1 (.slice qa9 qn9 qc9) (boxAt_set_other 0 (.bool qb9) (U_5.out) (show iU ≠ i_E by have h1 := lt_U.out; have h2 := l_4.out; omega)) (show iU ≠ i_E by have h1 := lt_U.out; have h2 := l_4.out; omega))
                      clear U_5
                      have NY_6 := Lib.hid (num_set2 (.bool qb9) (.slice qa9 qn9 qc9) (NY_5.out) E_5.out)
                      clear NY_5
                      have NU_6 := Lib.hid (num_set2 (.bool qb9) (.slice qa9 qn9 qc9) (NU_5.out) E_5.out)
                      clear NU_5
                      have V_6 := Lib.hid (num_set2 (.bool qb9) (.slice qa9 qn9 qc9) (V_5.out) E_5.out)
                      clear V_5
                      have O_6 := Lib.hid (num_set2 (.bool qb9) (.slice qa9 qn9 qc9) (O_5.out) E_5.out)
                      clear O_5
                      have Q_6 := Lib.hid (num_set2 (.bool qb9) (.slice qa9 qn9 qc9) (Q_5.out) E_5.out)
                      clear Q_5
                      have F_6 := Lib.hid (boxAt_set_other 1 (.slice qa9 qn9 qc9) (boxAt_set_other 0 (.bool qb9) (F_5.out) (show i_F ≠ i_E by have h1 := m_5_E.out; omega)) (show i_F ≠ i_E by have h1 := m_5_E.out; omega))
                      clear F_5
                      have E_6 := Lib.hid (boxAt_set2 (.bool qb9) (.slice qa9 qn9 qc9) (E_5.out))
                      have d_6 : Hid (Below w6.heap.size w6 ((w_5.setCell ⟨i_E, 0, none⟩ (.bool qb9)).setCell ⟨i_E, 1, none⟩ (.slice qa9 qn9 qc9))) := (Below.setCell (p := ⟨i_E, 1, none⟩) (Below.setCell (p := ⟨i_E, 0, none⟩) d_5.out (l_4.out) (.bool qb9)) (l_4.out) (.slice qa9 qn9 qc9))
                      clear E_5
                      refine hK.out _ _ ⟨U_6.out.c0, U_6.out.c1, Y_6.out.c0, Y_6.out.c1⟩ (fun HS1 => ?_)
                      clear hK HS0; have HS0 := HS1; clear HS1
                      refine wpAnyH_ready (rs := [13]) (by kernel_rfl) (by simp) ?_
                      refine (AllReadyH.cons (o := _) rfl (fun K hK => ?_) AllReadyH.nil)
                      have xc0 := F_6.out.c0; have xf0 := F_6.out.f0
                      have xc1 := F_6.out.c1; have xf1 := F_6.out.f1
                      go_simp
                      clear xc0 xf0 xc1 xf1
                      have Y_7 := Lib.hid (boxAt_set_other 1 (.slice ra9 rn9 rc9) (boxAt_set_other 0 (.bool rb9) (Y_6.out) (show iW ≠ i_F by have h1 := lt_Y.out; have h2 := l_5.out; omega)) (show iW ≠ i_F by have h1 := lt_Y.out; have h2 := l_5.out; omega))
                      clear Y_6
                      have U_7 := Lib.hid (boxAt_set_other 1 (.slice ra9 rn9 rc9) (boxAt_set_other 0 (.bool rb9) (U_6.out) (show iU ≠ i_F by have h1 := lt_U.out; have h2 := l_5.out; omega)) (show iU ≠ i_F by have h1 := lt_U.out; have h2 := l_5.out; omega))
                      clear U_6
                      have NY_7 := Lib.hid (num_set2 (.bool rb9) (.slice ra9 rn9 rc9) (NY_6.out) F_6.out)
                      clear NY_6
                      have NU_7 := Lib.hid (num_set2 (.bool rb9) (.slice ra9 rn9 rc9) (NU_6.out) F_6.out)
                      clear NU_6
                      have V_7 := Lib.hid (num_set2 (.bool rb9) (.slice ra9 rn9 rc9) (V_6.out) F_6.out)
                      clear V_6
                      have O_7 := Lib.hid (num_set2 (.bool rb9) (.slice ra9 rn9 rc9) (O_6.out) F_6.out)
                      clear O_6
                      have Q_7 := Lib.hid (num_set2 (.bool rb9) (.slice ra9 rn9 rc9) (Q_6.out) F_6.out)
                      clear Q_6
                      have E_7 := Lib.hid (boxAt_set_other 1 (.slice ra9 rn9 rc9) (boxAt_set_other 0 (.bool rb9) (E_6.out) (show i_E ≠ i_F by have h1 := m_5_E.out; omega)) (show i_E ≠ i_F by have h1 := m_5_E.out; omega))
                      clear E_6
                      have F_7 := Lib.hid (boxAt_set2 (.bool rb9) (.slice ra9 rn9 rc9) (F_6.out))
                      have d_7 : Hid (Below w6.heap.size w6 ((((w_5.setCell ⟨i_E, 0, none⟩ (.bool qb9)).setCell ⟨i_E, 1, none⟩ (.slice qa9 qn9 qc9)).setCell ⟨i_F, 0, none⟩ (.bool rb9)).setCell ⟨i_F, 1, none⟩ (.slice ra9 rn9 rc9))) := (Below.setCell (p := ⟨i_F, 1, none⟩) (Below.setCell (p := ⟨i_F, 0, none⟩) d_6.out (l_5.out) (.bool rb9)) (l_5.out) (.slice ra9 rn9 rc9))
                      clear F_6
                      refine hK.out _ _ ⟨U_7.out.c0, U_7.out.c1, Y_7.out.c0, Y_7.out.c1⟩ (fun HS1 => ?_)
                      clear hK HS0; have HS0 := HS1; clear HS1
                      refine wpAnyH_done (by kernel_rfl) ?_ _
                      dsimp only [Exit.then]
                      refine ‹∀ (a' : Act) (w' : World), Met _ a' w' → _› _ _ ?_
                      go_meet
                      case rel => exact ⟨_, _, _, _, _, rfl, l_4.out, E_7.out, Q_7.out, d_7.out⟩
                    · skip
                      go_simp
                      have ba_8 := Lib.hid (ba w_3 (.cells #[.bool false, .slice none 0 0] 33))
                      have Y_8 := Lib.hid (boxAt_below (Y_3.out) ba_8.out); have U_8 := Lib.hid (boxAt_below (U_3.out) ba_8.out); have NY_8 := Lib.hid (num_below (NY_3.out) ba_8.out); have NU_8 := Lib.hid (num_below (NU_3.out) ba_8.out); have V_8 := Lib.hid (num_below (V_3.out) ba_8.out); have O_8 := Lib.hid (num_below (O_3.out) ba_8.out); have Q_8 := Lib.hid (num_below (hQ_3.out) ba_8.out); clear Y_3 U_3 NY_3 NU_3 V_3 O_3 hQ_3
                      have F_8 := Lib.hid (boxAt_new w_3 (.bool false) (.slice none 0 0))
                      have l_8 : Hid (w6.heap.size ≤ w_3.heap.size) := d_3.out.size
                      have d_8 := Lib.hid (bt d_3.out ba_8.out)
                      obtain ⟨i_F, hi_8⟩ : ∃ m, Hid (w_3.heap.size = m) := ⟨_, rfl⟩
                      obtain ⟨w_8, hw_8⟩ : ∃ v, Hid (v = w_3.alloc (.cells #[.bool false, .slice none 0 0] 33)) := ⟨_, rfl⟩
                      refine hK.out _ _ ⟨U_8.out.c0, U_8.out.c1, Y_8.out.c0, Y_8.out.c1⟩ (fun HS1 => ?_)
                      clear hK HS0; have HS0 := HS1; clear HS1
                      rw [← hw_8.out] at HS0 d_8 Y_8 U_8 NY_8 NU_8 V_8 O_8 Q_8 F_8 ⊢
                      rw [hi_8.out] at F_8 l_8 ⊢
                      clear hw_8 hi_8 ba_8
                      refine wpAnyH_ready (rs := [10]) (by kernel_rfl) (by simp) ?_
                      refine (AllReadyH.cons (o := _) rfl (fun K hK => ?_) AllReadyH.nil)
                      go_simp
                      have ba_9 := Lib.hid (ba w_8 (.cells #[.bool false, .slice none 0 0] 33))
                      have m_9_F : Hid (i_F < w_8.heap.size) := (Array.getElem?_eq_some_iff.1 F_8.out).1
                      have Y_9 := Lib.hid (boxAt_below (Y_8.out) ba_9.out); have U_9 := Lib.hid (boxAt_below (U_8.out) ba_9.out); have NY_9 := Lib.hid (num_below (NY_8.out) ba_9.out); have NU_9 := Lib.hid (num_below (NU_8.out) ba_9.out); have V_9 := Lib.hid (num_below (V_8.out) ba_9.out); have O_9 := Lib.hid (num_below (O_8.out) ba_9.out); have Q_9 := Lib.hid (num_below (Q_8.out) ba_9.out); have F_9 := Lib.hid (boxAt_below (F_8.out) ba_9.out); clear Y_8 U_8 NY_8 NU_8 V_8 O_8 Q_8 F_8
                      have E_9 := Lib.hid (boxAt_new w_8 (.bool false) (.slice none 0 0))
                      have l_9 : Hid (w6.heap.size ≤ w_8.heap.size) := d_8.out.size
                      have d_9 := Lib.hid (bt d_8.out ba_9.out)
                      obtain ⟨i_E, hi_9⟩ : ∃ m, Hid (w_8.heap.size = m) := ⟨_, rfl⟩
                      obtain ⟨w_9, hw_9⟩ : ∃ v, Hid (v = w_8.alloc (.cells #[.bool false, .slice none 0 0] 33)) := ⟨_, rfl⟩
                      refine hK.out _ _ ⟨U_9.out.c0, U_9.out.c1, Y_9.out.c0, Y_9.out.c1⟩ (fun HS1 => ?_)
                      clear hK HS0; have HS0 := HS1; clear HS1
                      rw [← hw_9.out] at HS0 d_9 Y_9 U_9 NY_9 NU_9 V_9 O_9 Q_9 F_9 E_9 ⊢
                      rw [hi_9.out] at E_9 l_9 m_9_F ⊢
                      clear hw_9 hi_9 ba_9
                      refine wpAnyH_ready (rs := [12]) (by kernel_rfl) (by simp) ?_
                      refine (AllReadyH.cons (o := _) rfl (fun K hK => ?_) AllReadyH.nil)
                      have xc0 := E_9.out.c0; have xf0 := E_9.out.f0
                      have xc1 := E_9.out.c1; have xf1 := E_9.out.f1
                      go_simp
                      clear xc0 xf0 xc1 xf1
                      have Y_10 := Lib.hid (boxAt_set_other 1 (.slice qa9 qn9 qc9) (boxAt_set_other 0 (.bool qb9) (Y_9.out) (show iW ≠ i_E by have h1 := lt_Y.out; have h2 := l_9.out; omega)) (show iW ≠ i_E by have h1 := lt_Y.out; have h2 := l_9.out; omega))
                      clear Y_9
                      have U_10 := Lib.hid (boxAt_set_other 1 (.slice qa9 qn9 qc9) (boxAt_set_other 0 (.bool qb9) (U_9.out) (show iU ≠ i_E by have h1 := lt_U.out; have h2 := l_9.out; omega)) (show iU ≠ i_E by have h1 := lt_U.out; have h2 := l_9.out; omega))
                      clear U_9
                      have NY_10 := Lib.hid (num_set2 (.bool qb9) (.slice qa9 qn9 qc9) (NY_9.out) E_9.out)
                      clear NY_9
                      have NU_10 := Lib.hid (num_set2 (.bool qb9) (.slice qa9 qn9 qc9) (NU_9.out) E_9.out)
                      clear NU_9
                      have V_10 := Lib.hid (num_set2 (.bool qb9) (.slice qa9 qn9 qc9) (V_9.out) E_9.out)
                      clear V_9
                      have O_10 := Lib.hid (num_set2 (.bool qb9) (.slice qa9 qn9 qc9) (O_9.out) E_9.out)
                      clear O_9
                      have Q_10 := Lib.hid (num_set2 (.bool qb9) (.slice qa9 qn9 qc9) (Q_9.out) E_9.out)
                      clear Q_9
                      have F_10 := Lib.hid (boxAt_set_other 1 (.slice qa9 qn9 qc9) (boxAt_set_other 0 (.bool qb9) (F_9.out) (show i_F ≠ i_E by have h1 := m_9_F.out; omega)) (show i_F ≠ i_E by have h1 := m_9_F.out; omega))
                      clear F_9
                      have E_10 := Lib.hid (boxAt_set2 (.bool qb9) (.slice qa9 qn9 qc9) (E_9.out))
                      have d_10 : Hid (Below w6.heap.size w6 ((w_9.setCell ⟨i_E, 0, none⟩ (.bool qb9)).setCell ⟨i_E, 1, none⟩ (.slice qa9 qn9 qc9))) := (Below.setCell (p := ⟨i_E, 1, none⟩) (Below.setCell (p := ⟨i_E, 0, none⟩) d_9.out (l_9.out) (.bool qb9)) (l_9.out) (.slice qa9 qn9 qc9))
                      clear E_9
                      refine hK.out _ _ ⟨U_10.out.c0, U_10.out.c1, Y_10.out.c0, Y_10.out.c1⟩ (fun HS1 => ?_)
                      clear hK HS0; have HS0 := HS1; clear HS1
                      refine wpAnyH_ready (rs := [13]) (by kernel_rfl) (by simp) ?_
                      refine (AllReadyH.cons (o := _) rfl (fun K hK => ?_) AllReadyH.nil)
                      have xc0 := F_10.out.c0; have xf0 := F_10.out.f0
                      have xc1 := F_10.out.c1; have xf1 := F_10.out.f1
                      go_simp
                      clear xc0 xf0 xc1 xf1
                      have Y_11 := Lib.hid (boxAt_set_other 1 (.slice ra9 rn9 rc9) (boxAt_set_other 0 (.bool rb9) (Y_10.out) (show iW ≠ i_F by have h1 := lt_Y.out; have h2 := l_8.out; omega)) (show iW ≠ i_F by have h1 := lt_Y.out; have h2 := l_8.out; omega))
                      clear Y_10
                      have U_11 := Lib.hid (boxAt_set_other 1 (.slice ra9 rn9 rc9) (boxAt_set_other 0 (.bool rb9) (U_10.out) (show iU ≠ i_F by have h1 := lt_U.out; have h2 := l_8.out; omega)) (show iU ≠ i_F by have h1 := lt_U.out; have h2 := l_8.out; omega))
                      clear U_10
                      have NY_11 := Lib.hid (num_set2 (.bool rb9) (.slice ra9 rn9 rc9) (NY_10.out) F_10.out)
                      clear NY_10
                      have NU_11 := Lib.hid (num_set2 (.bool rb9) (.slice ra9 rn9 rc9) (NU_10.out) F_10.out)
                      clear NU_10
                      have V_11 := Lib.hid (num_set2 (.bool rb9) (.slice ra9 rn9 rc9) (V_10.out) F_10.out)
                      clear V_10
                      have O_11 := Lib.hid (num_set2 (.bool rb9) (.slice ra9 rn9 rc9) (O_10.out) F_10.out)
                      clear O_10
                      have Q_11 := Lib.hid (num_set2 (.bool rb9) (.slice ra9 rn9 rc9) (Q_10.out) F_10.out)
                      clear Q_10
                      have E_11 := Lib.hid (boxAt_set_other 1 (.slice ra9 rn9 rc9) (boxAt_set_other 0 (.bool rb9) (E_10.out) (show i_E ≠ i_F by have h1 := m_9_F.out; omega)) (show i_E ≠ i_F by have h1 := m_9_F.out; omega))
                      clear E_10
                      have F_11 := Lib.hid (boxAt_set2 (.bool rb9) (.slice ra9 rn9 rc9) (F_10.out))
                      have d_11 : Hid (Below w6.heap.size w6 ((((w_9.setCell ⟨i_E, 0, none⟩ (.bool qb9)).setCell ⟨i_E, 1, none⟩ (.slice qa9 qn9 qc9)).setCell ⟨i_F, 0, none⟩ (.bool rb9)).setCell ⟨i_F, 1, none⟩ (.slice ra9 rn9 rc9))) := (Below.setCell (p := ⟨i_F, 1, none⟩) (Below.setCell (p := ⟨i_F, 0, none⟩) d_10.out (l_8.out) (.bool rb9)) (l_8.out) (.slice ra9 rn9 rc9))
                      clear F_10
                      refine hK.out _ _ ⟨U_11.out.c0, U_11.out.c1, Y_11.out.c0, Y_11.out.c1⟩ (fun HS1 => ?_)
                      clear hK HS0; have HS0 := HS1; clear HS1
                      refine wpAnyH_done (by kernel_rfl) ?_ _
                      dsimp only [Exit.then]
                      refine ‹∀ (a' : Act) (w' : World), Met _ a' w' → _› _ _ ?_
                      go_meet
                      case rel => exact ⟨_, _, _, _, _, rfl, l_9.out, E_11.out, Q_11.out, d_11.out⟩
                  · skip
                    go_simp
                    have ba_12 := Lib.hid (ba w_2 (.cells #[.bool false, .slice none 0 0] 33))
                    have Y_12 := Lib.hid (boxAt_below (Y_2.out) ba_12.out); have U_12 := Lib.hid (boxAt_below (U_2.out) ba_12.out); have NY_12 := Lib.hid (num_below (NY_2.out) ba_12.out); have NU_12 := Lib.hid (num_below (NU_2.out) ba_12.out); have V_12 := Lib.hid (num_below (V_2.out) ba_12.out); have O_12 := Lib.hid (num_below (hO_2.out) ba_12.out); clear Y_2 U_2 NY_2 NU_2 V_2 hO_2
                    have E_12 := Lib.hid (boxAt_new w_2 (.bool false) (.slice none 0 0))
                    have l_12 : Hid (w6.heap.size ≤ w_2.heap.size) := d_2.out.size
                    have d_12 := Lib.hid (bt d_2.out ba_12.out)
                    obtain ⟨i_E, hi_12⟩ : ∃ m, Hid (w_2.heap.size = m) := ⟨_, rfl⟩
                    obtain ⟨w_12, hw_12⟩ : ∃ v, Hid (v = w_2.alloc (.cells #[.bool false, .slice none 0 0] 33)) := ⟨_, rfl⟩
                    refine hK.out _ _ ⟨U_12.out.c0, U_12.out.c1, Y_12.out.c0, Y_12.out.c1⟩ (fun HS1 => ?_)
                    clear hK HS0; have HS0 := HS1; clear HS1
                    rw [← hw_12.out] at HS0 d_12 Y_12 U_12 NY_12 NU_12 V_12 O_12 E_12 ⊢
                    rw [hi_12.out] at E_12 l_12 ⊢
                    clear hw_12 hi_12 ba_12
                    refine wpAnyH_ready (rs := [6, 11]) (by kernel_rfl) (by simp) ?_
                    refine (AllReadyH.cons (o := _) rfl (fun K hK => ?_) (AllReadyH.cons (o := _) rfl (fun K hK => ?_) AllReadyH.nil))
                    · skip
                      go_simp
                      go_at_call 17
                      (with_reducible refine (down_any 51 7 _ _ (u * pk) aln _ O_12.out NY_12.out AP.out.1 (by omega) (by omega)).mono ?_)
                      rintro e w_13 ⟨vq, vr, hz, hz2, rfl, b_13⟩
                      replace b_13 := Lib.hid b_13
                      have Y_13 := Lib.hid (boxAt_below (Y_12.out) b_13.out); have U_13 := Lib.hid (boxAt_below (U_12.out) b_13.out); have NY_13 := Lib.hid (num_below (NY_12.out) b_13.out); have NU_13 := Lib.hid (num_below (NU_12.out) b_13.out); have V_13 := Lib.hid (num_below (V_12.out) b_13.out); have O_13 := Lib.hid (num_below (O_12.out) b_13.out); have E_13 := Lib.hid (boxAt_below (E_12.out) b_13.out); clear Y_12 U_12 NY_12 NU_12 V_12 O_12 E_12
                      have d_13 := Lib.hid (bt d_12.out b_13.out)
                      clear b_13
                      obtain ⟨qb9, qa9, qn9, qc9, rfl⟩ := num_agg hz
                      obtain ⟨rb9, ra9, rn9, rc9, rfl⟩ := num_agg hz2
                      have hQ_13 := Lib.hid hz
                      clear hz hz2
                      refine hK.out _ _ ⟨U_13.out.c0, U_13.out.c1, Y_13.out.c0, Y_13.out.c1⟩ (fun HS1 => ?_)
                      clear hK HS0; have HS0 := HS1; clear HS1
                      (refine wpAnyH_take (i := 7) (v := ?_) rfl (by kernel_rfl) (by kernel_rfl) (by kernel_rfl) (fun _ _ _ h => h) (Or.inl ⟨by rfl, ?_⟩) HS0 ?_; case refine_2 => (intro w hSw; (try dsimp only at hSw); go_simp; try with_reducible rfl); try simp only [Act.put, List.setIfInBounds_toArray, List.set_cons_zero, List.set_cons_succ])
                      (refine wpAnyH_take (i := 8) (v := ?_) rfl (by kernel_rfl) (by kernel_rfl) (by kernel_rfl) (fun _ _ _ h => h) (Or.inl ⟨by rfl, ?_⟩) HS0 ?_; case refine_2 => (intro w hSw; (try dsimp only at hSw); go_simp; try with_reducible rfl); try simp only [Act.put, List.setIfInBounds_toArray, List.set_cons_zero, List.set_cons_succ])
                      (refine wpAnyH_take (i := 9) (v := ?_) rfl (by kernel_rfl) (by kernel_rfl) (by kernel_rfl) (fun _ _ _ h => h) (Or.inl ⟨by rfl, ?_⟩) HS0 ?_; case refine_2 => (intro w hSw; (try dsimp only at hSw); go_simp; try with_reducible rfl); try simp only [Act.put, List.setIfInBounds_toArray, List.set_cons_zero, List.set_cons_succ])
                      refine wpAnyH_ready (rs := [11]) (by kernel_rfl) (by simp) ?_
                      refine (AllReadyH.cons (o := _) rfl (fun K hK => ?_) AllReadyH.nil)
                      go_simp
                      have ba_14 := Lib.hid (ba w_13 (.cells #[.bool false, .slice none 0 0] 33))
                      have m_14_E : Hid (i_E < w_13.heap.size) := (Array.getElem?_eq_some_iff.1 E_13.out).1
                      have Y_14 := Lib.hid (boxAt_below (Y_13.out) ba_14.out); have U_14 := Lib.hid (boxAt_below (U_13.out) ba_14.out); have NY_14 := Lib.hid (num_below (NY_13.out) ba_14.out); have NU_14 := Lib.hid (num_below (NU_13.out) ba_14.out); have V_14 := Lib.hid (num_below (V_13.out) ba_14.out); have O_14 := Lib.hid (num_below (O_13.out) ba_14.out); have E_14 := Lib.hid (boxAt_below (E_13.out) ba_14.out); have Q_14 := Lib.hid (num_below (hQ_13.out) ba_14.out); clear Y_13 U_13 NY_13 NU_13 V_13 O_13 E_13 hQ_13
                      have F_14 := Lib.hid (boxAt_new w_13 (.bool false) (.slice none 0 0))
                      have l_14 : Hid (w6.heap.size ≤ w_13.heap.size) := d_13.out.size
                      have d_14 := Lib.hid (bt d_13.out ba_14.out)
                      obtain ⟨i_F, hi_14⟩ : ∃ m, Hid (w_13.heap.size = m) := ⟨_, rfl⟩
                      obtain ⟨w_14, hw_14⟩ : ∃ v, Hid (v = w_13.alloc (.cells #[.bool false, .slice none 0 0] 33)) := ⟨_, rfl⟩
                      refine hK.out _ _ ⟨U_14.out.c0, U_14.out.c1, Y_14.out.c0, Y_14.out.c1⟩ (fun HS1 => ?_)
                      clear hK HS0; have HS0 := HS1; clear HS1
                      rw [← hw_14.out] at HS0 d_14 Y_14 U_14 NY_14 NU_14 V_14 O_14 E_14 Q_14 F_14 ⊢
                      rw [hi_14.out] at F_14 l_14 m_14_E ⊢
                      clear hw_14 hi_14 ba_14
                      refine wpAnyH_ready (rs := [12]) (by kernel_rfl) (by simp) ?_
                      refine (AllReadyH.cons (o := _) rfl (fun K hK => ?_) AllReadyH.nil)
                      have xc0 := E_14.out.c0; have xf0 := E_14.out.f0
                      have xc1 := E_14.out.c1; have xf1 := E_14.out.f1
                      go_simp
                      clear xc0 xf0 xc1 xf1
                      have Y_15 := Lib.hid (boxAt_set_other 1 (.slice qa9 qn9 qc9) (boxAt_set_other 0 (.bool qb9) (Y_14.out) (show iW ≠ i_E by have h1 := lt_Y.out; have h2 := l_12.out; omega)) (show iW ≠ i_E by have h1 := lt_Y.out; have h2 := l_12.out; omega))
                      clear Y_14
                      have U_15 := Lib.hid (boxAt_set_other 1 (.slice qa9 qn9 qc9) (boxAt_set_other 0 (.bool qb9) (U_14.out) (show iU ≠ i_E by have h1 := lt_U.out; have h2 := l_12.out; omega)) (show iU ≠ i_E by have h1 := lt_U.out; have h2 := l_12.out; omega))
                      clear U_14
                      have NY_15 := Lib.hid (num_set2 (.bool qb9) (.slice qa9 qn9 qc9) (NY_14.out) E_14.out)
                      clear NY_14
                      have NU_15 := Lib.hid (num_set2 (.bool qb9) (.slice qa9 qn9 qc9) (NU_14.out) E_14.out)
                      clear NU_14
                      have V_15 := Lib.hid (num_set2 (.bool qb9) (.slice qa9 qn9 qc9) (V_14.out) E_14.out)
                      clear V_14
                      have O_15 := Lib.hid (num_set2 (.bool qb9) (.slice qa9 qn9 qc9) (O_14.out) E_14.out)
                      clear O_14
                      have Q_15 := Lib.hid (num_set2 (.bool qb9) (.slice qa9 qn9 qc9) (Q_14.out) E_14.out)
                      clear Q_14
                      have F_15 := Lib.hid (boxAt_set_other 1 (.slice qa9 qn9 qc9) (boxAt_set_other 0 (.bool qb9) (F_14.out) (show i_F ≠ i_E by have h1 := m_14_E.out; omega)) (show i_F ≠ i_E by have h1 := m_14_E.out; omega))
                      clear F_14
                      have E_15 := Lib.hid (boxAt_set2 (.bool qb9) (.slice qa9 qn9 qc9) (E_14.out))
                      have d_15 : Hid (Below w6.heap.size w6 ((w_14.setCell ⟨i_E, 0, none⟩ (.bool qb9)).setCell ⟨i_E, 1, none⟩ (.slice qa9 qn9 qc9))) := (Below.setCell (p := ⟨i_E, 1, none⟩) (Below.setCell (p := ⟨i_E, 0, none⟩) d_14.out (l_12.out) (.bool qb9)) (l_12.out) (.slice qa9 qn9 qc9))
                      clear E_14
                      refine hK.out _ _ ⟨U_15.out.c0, U_15.out.c1, Y_15.out.c0, Y_15.out.c1⟩ (fun HS1 => ?_)
                      clear hK HS0; have HS0 := HS1; clear HS1
                      refine wpAnyH_ready (rs := [13]) (by kernel_rfl) (by simp) ?_
                      refine (AllReadyH.cons (o := _) rfl (fun K hK => ?_) AllReadyH.nil)
                      have xc0 := F_15.out.c0; have xf0 := F_15.out.f0
                      have xc1 := F_15.out.c1; have xf1 := F_15.out.f1
                      go_simp
                      clear xc0 xf0 xc1 xf1
                      have Y_16 := Lib.hid (boxAt_set_other 1 (.slice ra9 rn9 rc9) (boxAt_set_other 0 (.bool rb9) (Y_15.out) (show iW ≠ i_F by have h1 := lt_Y.out; have h2 := l_14.out; omega)) (show iW ≠ i_F by have h1 := lt_Y.out; have h2 := l_14.out; omega))
                      clear Y_15
                      have U_16 := Lib.hid (boxAt_set_other 1 (.slice ra9 rn9 rc9) (boxAt_set_other 0 (.bool rb9) (U_15.out) (show iU ≠ i_F by have h1 := lt_U.out; have h2 := l_14.out; omega)) (show iU ≠ i_F by have h1 := lt_U.out; have h2 := l_14.out; omega))
                      clear U_15
                      have NY_16 := Lib.hid (num_set2 (.bool rb9) (.slice ra9 rn9 rc9) (NY_15.out) F_15.out)
                      clear NY_15
                      have NU_16 := Lib.hid (num_set2 (.bool rb9) (.slice ra9 rn9 rc9) (NU_15.out) F_15.out)
                      clear NU_15
                      have V_16 := Lib.hid (num_set2 (.bool rb9) (.slice ra9 rn9 rc9) (V_15.out) F_15.out)
                      clear V_15
                      have O_16 := Lib.hid (num_set2 (.bool rb9) (.slice ra9 rn9 rc9) (O_15.out) F_15.out)
                      clear O_15
                      have E_16 := Lib.hid (boxAt_set_other 1 (.slice ra9 rn9 rc9) (boxAt_set_other 0 (.bool rb9) (E_15.out) (show i_E ≠ i_F by have h1 := m_14_E.out; omega)) (show i_E ≠ i_F by have h1 := m_14_E.out; omega))
                      clear E_15
                      have Q_16 := Lib.hid (num_set2 (.bool rb9) (.slice ra9 rn9 rc9) (Q_15.out) F_15.out)
                      clear Q_15
                      have F_16 := Lib.hid (boxAt_set2 (.bool rb9) (.slice ra9 rn9 rc9) (F_15.out))
                      have d_16 : Hid (Below w6.heap.size w6 ((((w_14.setCell ⟨i_E, 0, none⟩ (.bool qb9)).setCell ⟨i_E, 1, none⟩ (.slice qa9 qn9 qc9)).setCell ⟨i_F, 0, none⟩ (.bool rb9)).setCell ⟨i_F, 1, none⟩ (.slice ra9 rn9 rc9))) := (Below.setCell (p := ⟨i_F, 1, none⟩) (Below.setCell (p := ⟨i_F, 0, none⟩) d_15.out (l_14.out) (.bool rb9)) (l_14.out) (.slice ra9 rn9 rc9))
                      clear F_15
                      refine hK.out _ _ ⟨U_16.out.c0, U_16.out.c1, Y_16.out.c0, Y_16.out.c1⟩ (fun HS1 => ?_)
                      clear hK HS0; have HS0 := HS1; clear HS1
                      refine wpAnyH_done (by kernel_rfl) ?_ _
                      dsimp only [Exit.then]
                      refine ‹∀ (a' : Act) (w' : World), Met _ a' w' → _› _ _ ?_
                      go_meet
                      case rel => exact ⟨_, _, _, _, _, rfl, l_12.out, E_16.out, Q_16.out, d_16.out⟩
                    · skip
                      go_simp
                      have ba_17 := Lib.hid (ba w_12 (.cells #[.bool false, .slice none 0 0] 33))
                      have m_17_E : Hid (i_E < w_12.heap.size) := (Array.getElem?_eq_some_iff.1 E_12.out).1
                      have Y_17 := Lib.hid (boxAt_below (Y_12.out) ba_17.out); have U_17 := Lib.hid (boxAt_below (U_12.out) ba_17.out); have NY_17 := Lib.hid (num_below (NY_12.out) ba_17.out); have NU_17 := Lib.hid (num_below (NU_12.out) ba_17.out); have V_17 := Lib.hid (num_below (V_12.out) ba_17.out); have O_17 := Lib.hid (num_below (O_12.out) ba_17.out); have E_17 := Lib.hid (boxAt_below (E_12.out) ba_17.out); clear Y_12 U_12 NY_12 NU_12 V_12 O_12 E_12
                      have F_17 := Lib.hid (boxAt_new w_12 (.bool false) (.slice none 0 0))
                      have l_17 : Hid (w6.heap.size ≤ w_12.heap.size) := d_12.out.size
                      have d_17 := Lib.hid (bt d_12.out ba_17.out)
                      obtain ⟨i_F, hi_17⟩ : ∃ m, Hid (w_12.heap.size = m) := ⟨_, rfl⟩
                      obtain ⟨w_17, hw_17⟩ : ∃ v, Hid (v = w_12.alloc (.cells #[.bool false, .slice none 0 0] 33)) := ⟨_, rfl⟩
                      refine hK.out _ _ ⟨U_17.out.c0, U_17.out.c1, Y_17.out.c0, Y_17.out.c1⟩ (fun HS1 => ?_)
                      clear hK HS0; have HS0 := HS1; clear HS1
                      rw [← hw_17.out] at HS0 d_17 Y_17 U_17 NY_17 NU_17 V_17 O_17 E_17 F_17 ⊢
                      rw [hi_17.out] at F_17 l_17 m_17_E ⊢
                      clear hw_17 hi_17 ba_17
                      refine wpAnyH_ready (rs := [6]) (by kernel_rfl) (by simp) ?_
                      refine (AllReadyH.cons (o := _) rfl (fun K hK => ?_) AllReadyH.nil)
                      go_simp
                      go_at_call 17
                      (with_reducible refine (down_any 51 7 _ _ (u * pk) aln _ O_17.out NY_17.out AP.out.1 (by omega) (by omega)).mono ?_)
                      rintro e w_18 ⟨vq, vr, hz, hz2, rfl, b_18⟩
                      replace b_18 := Lib.hid b_18
                      have Y_18 := Lib.hid (boxAt_below (Y_17.out) b_18.out); have U_18 := Lib.hid (boxAt_below (U_17.out) b_18.out); have NY_18 := Lib.hid (num_below (NY_17.out) b_18.out); have NU_18 := Lib.hid (num_below (NU_17.out) b_18.out); have V_18 := Lib.hid (num_below (V_17.out) b_18.out); have O_18 := Lib.hid (num_below (O_17.out) b_18.out); have E_18 := Lib.hid (boxAt_below (E_17.out) b_18.out); have F_18 := Lib.hid (boxAt_below (F_17.out) b_18.out); clear Y_17 U_17 NY_17 NU_17 V_17 O_17 E_17 F_17
                      have d_18 := Lib.hid (bt d_17.out b_18.out)
                      clear b_18
                      obtain ⟨qb9, qa9, qn9, qc9, rfl⟩ := num_agg hz
                      obtain ⟨rb9, ra9, rn9, rc9, rfl⟩ := num_agg hz2
                      have hQ_18 := Lib.hid hz
                      clear hz hz2
                      refine hK.out _ _ ⟨U_18.out.c0, U_18.out.c1, Y_18.out.c0, Y_18.out.c1⟩ (fun HS1 => ?_)
                      clear hK HS0; have HS0 := HS1; clear HS1
                      (refine wpAnyH_take (i := 7) (v := ?_) rfl (by kernel_rfl) (by kernel_rfl) (by kernel_rfl) (fun _ _ _ h => h) (Or.inl ⟨by rfl, ?_⟩) HS0 ?_; case refine_2 => (intro w hSw; (try dsimp only at hSw); go_simp; try with_reducible rfl); try simp only [Act.put, List.setIfInBounds_toArray, List.set_cons_zero, List.set_cons_succ])
                      (refine wpAnyH_take (i := 8) (v := ?_) rfl (by kernel_rfl) (by kernel_rfl) (by kernel_rfl) (fun _ _ _ h => h) (Or.inl ⟨by rfl, ?_⟩) HS0 ?_; case refine_2 => (intro w hSw; (try dsimp only at hSw); go_simp; try with_reducible rfl); try simp only [Act.put, List.setIfInBounds_toArray, List.set_cons_zero, List.set_cons_succ])
                      (refine wpAnyH_take (i := 9) (v := ?_) rfl (by kernel_rfl) (by kernel_rfl) (by kernel_rfl) (fun _ _ _ h => h) (Or.inl ⟨by rfl, ?_⟩) HS0 ?_; case refine_2 => (intro w hSw; (try dsimp only at hSw); go_simp; try with_reducible rfl); try simp only [Act.put, List.setIfInBounds_toArray, List.set_cons_zero, List.set_cons_succ])
                      refine wpAnyH_ready (rs := [12]) (by kernel_rfl) (by simp) ?_
                      refine (AllReadyH.cons (o := _) rfl (fun K hK => ?_) AllReadyH.nil)
                      have xc0 := E_18.out.c0; have xf0 := E_18.out.f0
                      have xc1 := E_18.out.c1; have xf1 := E_18.out.f1
                      go_simp
                      clear xc0 xf0 xc1 xf1
                      have Y_19 := Lib.hid (boxAt_set_other 1 (.slice qa9 qn9 qc9) (boxAt_set_other 0 (.bool qb9) (Y_18.out) (show iW ≠ i_E by have h1 := lt_Y.out; have h2 := l_12.out; omega)) (show iW ≠ i_E by have h1 := lt_Y.out; have h2 := l_12.out; omega))
                      clear Y_18
                      have U_19 := Lib.hid (boxAt_set_other 1 (.slice qa9 qn9 qc9) (boxAt_set_other 0 (.bool qb9) (U_18.out) (show iU ≠ i_E by have h1 := lt_U.out; have h2 := l_12.out; omega)) (show iU ≠ i_E by have h1 := lt_U.out; have h2 := l_12.out; omega))
                      clear U_18
                      have NY_19 := Lib.hid (num_set2 (.bool qb9) (.slice qa9 qn9 qc9) (NY_18.out) E_18.out)
                      clear NY_18
                      have NU_19 := Lib.hid (num_set2 (.bool qb9) (.slice qa9 qn9 qc9) (NU_18.out) E_18.out)
                      clear NU_18
                      have V_19 := Lib.hid (num_set2 (.bool qb9) (.slice qa9 qn9 qc9) (V_18.out) E_18.out)
                      clear V_18
                      have O_19 := Lib.hid (num_set2 (.bool qb9) (.slice qa9 qn9 qc9) (O_18.out) E_18.out)
                      clear O_18
                      have F_19 := Lib.hid (boxAt_set_other 1 (.slice qa9 qn9 qc9) (boxAt_set_other 0 (.bool qb9) (F_18.out) (show i_F ≠ i_E by have h1 := m_17_E.out; omega)) (show i_F ≠ i_E by have h1 := m_17_E.out; omega))
                      clear F_18
                      have Q_19 := Lib.hid (num_set2 (.bool qb9) (.slice qa9 qn9 qc9) (hQ_18.out) E_18.out)
                      clear hQ_18
                      have E_19 := Lib.hid (boxAt_set2 (.bool qb9) (.slice qa9 qn9 qc9) (E_18.out))
                      have d_19 : Hid (Below w6.heap.size w6 ((w_18.setCell ⟨i_E, 0, none⟩ (.bool qb9)).setCell ⟨i_E, 1, none⟩ (.slice qa9 qn9 qc9))) := (Below.setCell (p := ⟨i_E, 1, none⟩) (Below.setCell (p := ⟨i_E, 0, none⟩) d_18.out (l_12.out) (.bool qb9)) (l_12.out) (.slice qa9 qn9 qc9))
                      clear E_18
                      refine hK.out _ _ ⟨U_19.out.c0, U_19.out.c1, Y_19.out.c0, Y_19.out.c1⟩ (fun HS1 => ?_)
                      clear hK HS0; have HS0 := HS1; clear HS1
                      refine wpAnyH_ready (rs := [13]) (by kernel_rfl) (by simp) ?_
                      refine (AllReadyH.cons (o := _) rfl (fun K hK => ?_) AllReadyH.nil)
                      have xc0 := F_19.out.c0; have xf0 := F_19.out.f0
                      have xc1 := F_19.out.c1; have xf1 := F_19.out.f1
                      go_simp
                      clear xc0 xf0 xc1 xf1
                      have Y_20 := Lib.hid (boxAt_set_other 1 (.slice ra9 rn9 rc9) (boxAt_set_other 0 (.bool rb9) (Y_19.out) (show iW ≠ i_F by have h1 := lt_Y.out; have h2 := l_17.out; omega)) (show iW ≠ i_F by have h1 := lt_Y.out; have h2 := l_17.out; omega))
                      clear Y_19
                      have U_20 := Lib.hid (boxAt_set_other 1 (.slice ra9 rn9 rc9) (boxAt_set_other 0 (.bool rb9) (U_19.out) (show iU ≠ i_F by have h1 := lt_U.out; have h2 := l_17.out; omega)) (show iU ≠ i_F by have h1 := lt_U.out; have h2 := l_17.out; omega))
                      clear U_19
                      have NY_20 := Lib.hid (num_set2 (.bool rb9) (.slice ra9 rn9 rc9) (NY_19.out) F_19.out)
                      clear NY_19
                      have NU_20 := Lib.hid (num_set2 (.bool rb9) (.slice ra9 rn9 rc9) (NU_19.out) F_19.out)
                      clear NU_19
                      have V_20 := Lib.hid (num_set2 (.bool rb9) (.slice ra9 rn9 rc9) (V_19.out) F_19.out)
                      clear V_19
                      have O_20 := Lib.hid (num_set2 (.bool rb9) (.slice ra9 rn9 rc9) (O_19.out) F_19.out)
                      clear O_19
                      have E_20 := Lib.hid (boxAt_set_other 1 (.slice ra9 rn9 rc9) (boxAt_set_other 0 (.bool rb9) (E_19.out) (show i_E ≠ i_F by have h1 := m_17_E.out; omega)) (show i_E ≠ i_F by have h1 := m_17_E.out; omega))
                      clear E_19
                      have Q_20 := Lib.hid (num_set2 (.bool rb9) (.slice ra9 rn9 rc9) (Q_19.out) F_19.out)
                      clear Q_19
                      have F_20 := Lib.hid (boxAt_set2 (.bool rb9) (.slice ra9 rn9 rc9) (F_19.out))
                      have d_20 : Hid (Below w6.heap.size w6 ((((w_18.setCell ⟨i_E, 0, none⟩ (.bool qb9)).setCell ⟨i_E, 1, none⟩ (.slice qa9 qn9 qc9)).setCell ⟨i_F, 0, none⟩ (.bool rb9)).setCell ⟨i_F, 1, none⟩ (.slice ra9 rn9 rc9))) := (Below.setCell (p := ⟨i_F, 1, none⟩) (Below.setCell (p := ⟨i_F, 0, none⟩) d_19.out (l_17.out) (.bool rb9)) (l_17.out) (.slice ra9 rn9 rc9))
                      clear F_19
                      refine hK.out _ _ ⟨U_20.out.c0, U_20.out.c1, Y_20.out.c0, Y_20.out.c1⟩ (fun HS1 => ?_)
                      clear hK HS0; have HS0 := HS1; clear HS1
                      refine wpAnyH_done (by kernel_rfl) ?_ _
                      dsimp only [Exit.then]
                      refine ‹∀ (a' : Act) (w' : World), Met _ a' w' → _› _ _ ?_
                      go_meet
                      case rel => exact ⟨_, _, _, _, _, rfl, l_12.out, E_20.out, Q_20.out, d_20.out⟩
                  · skip
                    go_simp
                    have ba_21 := Lib.hid (ba w_2 (.cells #[.bool false, .slice none 0 0] 33))
                    have Y_21 := Lib.hid (boxAt_below (Y_2.out) ba_21.out); have U_21 := Lib.hid (boxAt_below (U_2.out) ba_21.out); have NY_21 := Lib.hid (num_below (NY_2.out) ba_21.out); have NU_21 := Lib.hid (num_below (NU_2.out) ba_21.out); have V_21 := Lib.hid (num_below (V_2.out) ba_21.out); have O_21 := Lib.hid (num_below (hO_2.out) ba_21.out); clear Y_2 U_2 NY_2 NU_2 V_2 hO_2
                    have F_21 := Lib.hid (boxAt_new w_2 (.bool false) (.slice none 0 0))
                    have l_21 : Hid (w6.heap.size ≤ w_2.heap.size) := d_2.out.size
                    have d_21 := Lib.hid (bt d_2.out ba_21.out)
                    obtain ⟨i_F, hi_21⟩ : ∃ m, Hid (w_2.heap.size = m) := ⟨_, rfl⟩
                    obtain ⟨w_21, hw_21⟩ : ∃ v, Hid (v = w_2.alloc (.cells #[.bool false, .slice none 0 0] 33)) := ⟨_, rfl⟩
                    refine hK.out _ _ ⟨U_21.out.c0, U_21.out.c1, Y_21.out.c0, Y_21.out.c1⟩ (fun HS1 => ?_)
                    clear hK HS0; have HS0 := HS1; clear HS1
                    rw [← hw_21.out] at HS0 d_21 Y_21 U_21 NY_21 NU_21 V_21 O_21 F_21 ⊢
                    rw [hi_21.out] at F_21 l_21 ⊢
                    clear hw_21 hi_21 ba_21
                    refine wpAnyH_ready (rs := [6, 10]) (by kernel_rfl) (by simp) ?_
                    refine (AllReadyH.cons (o := _) rfl (fun K hK => ?_) (AllReadyH.cons (o := _) rfl (fun K hK => ?_) AllReadyH.nil))
                    · skip
                      go_simp
                      go_at_call 17
                      (with_reducible refine (down_any 51 7 _ _ (u * pk) aln _ O_21.out NY_21.out AP.out.1 (by omega) (by omega)).mono ?_)
                      rintro e w_22 ⟨vq, vr, hz, hz2, rfl, b_22⟩
                      replace b_22 := Lib.hid b_22
                      have Y_22 := Lib.hid (boxAt_below (Y_21.out) b_22.out); have U_22 := Lib.hid (boxAt_below (U_21.out) b_22.out); have NY_22 := Lib.hid (num_below (NY_21.out) b_22.out); have NU_22 := Lib.hid (num_below (NU_21.out) b_22.out); have V_22 := Lib.hid (num_below (V_21.out) b_22.out); have O_22 := Lib.hid (num_below (O_21.out) b_22.out); have F_22 := Lib.hid (boxAt_below (F_21.out) b_22.out); clear Y_21 U_21 NY_21 NU_21 V_21 O_21 F_21
                      have d_22 := Lib.hid (bt d_21.out b_22.out)
                      clear b_22
                      obtain ⟨qb9, qa9, qn9, qc9, rfl⟩ := num_agg hz
                      obtain ⟨rb9, ra9, rn9, rc9, rfl⟩ := num_agg hz2
                      have hQ_22 := Lib.hid hz
                      clear hz hz2
                      refine hK.out _ _ ⟨U_22.out.c0, U_22.out.c1, Y_22.out.c0, Y_22.out.c1⟩ (fun HS1 => ?_)
                      clear hK HS0; have HS0 := HS1; clear HS1
                      (refine wpAnyH_take (i := 7) (v := ?_) rfl (by kernel_rfl) (by kernel_rfl) (by kernel_rfl) (fun _ _ _ h => h) (Or.inl ⟨by rfl, ?_⟩) HS0 ?_; case refine_2 => (intro w hSw; (try dsimp only at hSw); go_simp; try with_reducible rfl); try simp only [Act.put, List.setIfInBounds_toArray, List.set_cons_zero, List.set_cons_succ])
                      (refine wpAnyH_take (i := 8) (v := ?_) rfl (by kernel_rfl) (by kernel_rfl) (by kernel_rfl) (fun _ _ _ h => h) (Or.inl ⟨by rfl, ?_⟩) HS0 ?_; case refine_2 => (intro w hSw; (try dsimp only at hSw); go_simp; try with_reducible rfl); try simp only [Act.put, List.setIfInBounds_toArray, List.set_cons_zero, List.set_cons_succ])
                      (refine wpAnyH_take (i := 9) (v := ?_) rfl (by kernel_rfl) (by kernel_rfl) (by kernel_rfl) (fun _ _ _ h => h) (Or.inl ⟨by rfl, ?_⟩) HS0 ?_; case refine_2 => (intro w hSw; (try dsimp only at hSw); go_simp; try with_reducible rfl); try simp only [Act.put, List.setIfInBounds_toArray, List.set_cons_zero, List.set_cons_succ])
                      refine wpAnyH_ready (rs := [10]) (by kernel_rfl) (by simp) ?_
                      refine (AllReadyH.cons (o := _) rfl (fun K hK => ?_) AllReadyH.nil)
                      go_simp
                      have ba_23 := Lib.hid (ba w_22 (.cells #[.bool false, .slice none 0 0] 33))
                      have m_23_F : Hid (i_F < w_22.heap.size) := (Array.getElem?_eq_some_iff.1 F_22.out).1
                      have Y_23 := Lib.hid (boxAt_below (Y_22.out) ba_23.out); have U_23 := Lib.hid (boxAt_below (U_22.out) ba_23.out); have NY_23 := Lib.hid (num_below (NY_22.out) ba_23.out); have NU_23 := Lib.hid (num_below (NU_22.out) ba_23.out); have V_23 := Lib.hid (num_below (V_22.out) ba_23.out); have O_23 := Lib.hid (num_below (O_22.out) ba_23.out); have F_23 := Lib.hid (boxAt_below (F_22.out) ba_23.out); have Q_23 := Lib.hid (num_below (hQ_22.out) ba_23.out); clear Y_22 U_22 NY_22 NU_22 V_22 O_22 F_22 hQ_22
                      have E_23 := Lib.hid (boxAt_new w_22 (.bool false) (.slice none 0 0))
                      have l_23 : Hid (w6.heap.size ≤ w_22.heap.size) := d_22.out.size
                      have d_23 := Lib.hid (bt d_22.out ba_23.out)
                      obtain ⟨i_E, hi_23⟩ : ∃ m, Hid (w_22.heap.size = m) := ⟨_, rfl⟩
                      obtain ⟨w_23, hw_23⟩ : ∃ v, Hid (v = w_22.alloc (.cells #[.bool false, .slice none 0 0] 33)) := ⟨_, rfl⟩
                      refine hK.out _ _ ⟨U_23.out.c0, U_23.out.c1, Y_23.out.c0, Y_23.out.c1⟩ (fun HS1 => ?_)
                      clear hK HS0; have HS0 := HS1; clear HS1
                      rw [← hw_23.out] at HS0 d_23 Y_23 U_23 NY_23 NU_23 V_23 O_23 F_23 Q_23 E_23 ⊢
                      rw [hi_23.out] at E_23 l_23 m_23_F ⊢
                      clear hw_23 hi_23 ba_23
                      refine wpAnyH_ready (rs := [12]) (by kernel_rfl) (by simp) ?_
                      refine (AllReadyH.cons (o := _) rfl (fun K hK => ?_) AllReadyH.nil)
                      have xc0 := E_23.out.c0; have xf0 := E_23.out.f0
                      have xc1 := E_23.out.c1; have xf1 := E_23.out.f1
                      go_simp
                      clear xc0 xf0 xc1 xf1
                      have Y_24 := Lib.hid (boxAt_set_other 1 (.slice qa9 qn9 qc9) (boxAt_set_other 0 (.bool qb9) (Y_23.out) (show iW ≠ i_E by have h1 := lt_Y.out; have h2 := l_23.out; omega)) (show iW ≠ i_E by have h1 := lt_Y.out; have h2 := l_23.out; omega))
                      clear Y_23
                      have U_24 := Lib.hid (boxAt_set_other 1 (.slice qa9 qn9 qc9) (boxAt_set_other 0 (.bool qb9) (U_23.out) (show iU ≠ i_E by have h1 := lt_U.out; have h2 := l_23.out; omega)) (show iU ≠ i_E by have h1 := lt_U.out; have h2 := l_23.out; omega))
                      clear U_23
                      have NY_24 := Lib.hid (num_set2 (.bool qb9) (.slice qa9 qn9 qc9) (NY_23.out) E_23.out)
                      clear NY_23
                      have NU_24 := Lib.hid (num_set2 (.bool qb9) (.slice qa9 qn9 qc9) (NU_23.out) E_23.out)
                      clear NU_23
                      have V_24 := Lib.hid (num_set2 (.bool qb9) (.slice qa9 qn9 qc9) (V_23.out) E_23.out)
                      clear V_23
                      have O_24 := Lib.hid (num_set2 (.bool qb9) (.slice qa9 qn9 qc9) (O_23.out) E_23.out)
                      clear O_23
                      have F_24 := Lib.hid (boxAt_set_other 1 (.slice qa9 qn9 qc9) (boxAt_set_other 0 (.bool qb9) (F_23.out) (show i_F ≠ i_E by have h1 := m_23_F.out; omega)) (show i_F ≠ i_E by have h1 := m_23_F.out; omega))
                      clear F_23
                      have Q_24 := Lib.hid (num_set2 (.bool qb9) (.slice qa9 qn9 qc9) (Q_23.out) E_23.out)
                      clear Q_23
                      have E_24 := Lib.hid (boxAt_set2 (.bool qb9) (.slice qa9 qn9 qc9) (E_23.out))
                      have d_24 : Hid (Below w6.heap.size w6 ((w_23.setCell ⟨i_E, 0, none⟩ (.bool qb9)).setCell ⟨i_E, 1, none⟩ (.slice qa9 qn9 qc9))) := (Below.setCell (p := ⟨i_E, 1, none⟩) (Below.setCell (p := ⟨i_E, 0, none⟩) d_23.out (l_23.out) (.bool qb9)) (l_23.out) (.slice qa9 qn9 qc9))
                      clear E_23
                      refine hK.out _ _ ⟨U_24.out.c0, U_24.out.c1, Y_24.out.c0, Y_24.out.c1⟩ (fun HS1 => ?_)
                      clear hK HS0; have HS0 := HS1; clear HS1
                      refine wpAnyH_ready (rs := [13]) (by kernel_rfl) (by simp) ?_
                      refine (AllReadyH.cons (o := _) rfl (fun K hK => ?_) AllReadyH.nil)
                      have xc0 := F_24.out.c0; have xf0 := F_24.out.f0
                      have xc1 := F_24.out.c1; have xf1 := F_24.out.f1
                      go_simp
                      clear xc0 xf0 xc1 xf1
                      have Y_25 := Lib.hid (boxAt_set_other 1 (.slice ra9 rn9 rc9) (boxAt_set_other 0 (.bool rb9) (Y_24.out) (show iW ≠ i_F by have h1 := lt_Y.out; have h2 := l_21.out; omega)) (show iW ≠ i_F by have h1 := lt_Y.out; have h2 := l_21.out; omega))
                      clear Y_24
                      have U_25 := Lib.hid (boxAt_set_other 1 (.slice ra9 rn9 rc9) (boxAt_set_other 0 (.bool rb9) (U_24.out) (show iU ≠ i_F by have h1 := lt_U.out; have h2 := l_21.out; omega)) (show iU ≠ i_F by have h1 := lt_U.out; have h2 := l_21.out; omega))
                      clear U_24
                      have NY_25 := Lib.hid (num_set2 (.bool rb9) (.slice ra9 rn9 rc9) (NY_24.out) F_24.out)
                      clear NY_24
                      have NU_25 := Lib.hid (num_set2 (.bool rb9) (.slice ra9 rn9 rc9) (NU_24.out) F_24.out)
                      clear NU_24
                      have V_25 := Lib.hid (num_set2 (.bool rb9) (.slice ra9 rn9 rc9) (V_24.out) F_24.out)
                      clear V_24
                      have O_25 := Lib.hid (num_set2 (.bool rb9) (.slice ra9 rn9 rc9) (O_24.out) F_24.out)
                      clear O_24
                      have Q_25 := Lib.hid (num_set2 (.bool rb9) (.slice ra9 rn9 rc9) (Q_24.out) F_24.out)
                      clear Q_24
                      have E_25 := Lib.hid (boxAt_set_other 1 (.slice ra9 rn9 rc9) (boxAt_set_other 0 (.bool rb9) (E_24.out) (show i_E ≠ i_F by have h1 := m_23_F.out; omega)) (show i_E ≠ i_F by have h1 := m_23_F.out; omega))
                      clear E_24
                      have F_25 := Lib.hid (boxAt_set2 (.bool rb9) (.slice ra9 rn9 rc9) (F_24.out))
                      have d_25 : Hid (Below w6.heap.size w6 ((((w_23.setCell ⟨i_E, 0, none⟩ (.bool qb9)).setCell ⟨i_E, 1, none⟩ (.slice qa9 qn9 qc9)).setCell ⟨i_F, 0, none⟩ (.bool rb9)).setCell ⟨i_F, 1, none⟩ (.slice ra9 rn9 rc9))) := (Below.setCell (p := ⟨i_F, 1, none⟩) (Below.setCell (p := ⟨i_F, 0, none⟩) d_24.out (l_21.out) (.bool rb9)) (l_21.out) (.slice ra9 rn9 rc9))
                      clear F_24
                      refine hK.out _ _ ⟨U_25.out.c0, U_25.out.c1, Y_25.out.c0, Y_25.out.c1⟩ (fun HS1 => ?_)
                      clear hK HS0; have HS0 := HS1; clear HS1
                      refine wpAnyH_done (by kernel_rfl) ?_ _
                      dsimp only [Exit.then]
                      refine ‹∀ (a' : Act) (w' : World), Met _ a' w' → _› _ _ ?_
                      go_meet
                      case rel => exact ⟨_, _, _, _, _, rfl, l_23.out, E_25.out, Q_25.out, d_25.out⟩
                    · skip
                      go_simp
                      have ba_26 := Lib.hid (ba w_21 (.cells #[.bool false, .slice none 0 0] 33))
                      have m_26_F : Hid (i_F < w_21.heap.size) := (Array.getElem?_eq_some_iff.1 F_21.out).1
                      have Y_26 := Lib.hid (boxAt_below (Y_21.out) ba_26.out); have U_26 := Lib.hid (boxAt_below (U_21.out) ba_26.out); have NY_26 := Lib.hid (num_below (NY_21.out) ba_26.out); have NU_26 := Lib.hid (num_below (NU_21.out) ba_26.out); have V_26 := Lib.hid (num_below (V_21.out) ba_26.out); have O_26 := Lib.hid (num_below (O_21.out) ba_26.out); have F_26 := Lib.hid (boxAt_below (F_21.out) ba_26.out); clear Y_21 U_21 NY_21 NU_21 V_21 O_21 F_21
                      have E_26 := Lib.hid (boxAt_new w_21 (.bool false) (.slice none 0 0))
                      have l_26 : Hid (w6.heap.size ≤ w_21.heap.size) := d_21.out.size
                      have d_26 := Lib.hid (bt d_21.out ba_26.out)
                      obtain ⟨i_E, hi_26⟩ : ∃ m, Hid (w_21.heap.size = m) := ⟨_, rfl⟩
                      obtain ⟨w_26, hw_26⟩ : ∃ v, Hid (v = w_21.alloc (.cells #[.bool false, .slice none 0 0] 33)) := ⟨_, rfl⟩
                      refine hK.out _ _ ⟨U_26.out.c0, U_26.out.c1, Y_26.out.c0, Y_26.out.c1⟩ (fun HS1 => ?_)
                      clear hK HS0; have HS0 := HS1; clear HS1
                      rw [← hw_26.out] at HS0 d_26 Y_26 U_26 NY_26 NU_26 V_26 O_26 F_26 E_26 ⊢
                      rw [hi_26.out] at E_26 l_26 m_26_F ⊢
                      clear hw_26 hi_26 ba_26
                      refine wpAnyH_ready (rs := [6]) (by kernel_rfl) (by simp) ?_
                      refine (AllReadyH.cons (o := _) rfl (fun K hK => ?_) AllReadyH.nil)
                      go_simp
                      go_at_call 17
                      (with_reducible refine (down_any 51 7 _ _ (u * pk) aln _ O_26.out NY_26.out AP.out.1 (by omega) (by omega)).mono ?_)
                      rintro e w_27 ⟨vq, vr, hz, hz2, rfl, b_27⟩
                      replace b_27 := Lib.hid b_27
                      have Y_27 := Lib.hid (boxAt_below (Y_26.out) b_27.out); have U_27 := Lib.hid (boxAt_below (U_26.out) b_27.out); have NY_27 := Lib.hid (num_below (NY_26.out) b_27.out); have NU_27 := Lib.hid (num_below (NU_26.out) b_27.out); have V_27 := Lib.hid (num_below (V_26.out) b_27.out); have O_27 := Lib.hid (num_below (O_26.out) b_27.out); have F_27 := Lib.hid (boxAt_below (F_26.out) b_27.out); have E_27 := Lib.hid (boxAt_below (E_26.out) b_27.out); clear Y_26 U_26 NY_26 NU_26 V_26 O_26 F_26 E_26
                      have d_27 := Lib.hid (bt d_26.out b_27.out)
                      clear b_27
                      obtain ⟨qb9, qa9, qn9, qc9, rfl⟩ := num_agg hz
                      obtain ⟨rb9, ra9, rn9, rc9, rfl⟩ := num_agg hz2
                      have hQ_27 := Lib.hid hz
                      clear hz hz2
                      refine hK.out _ _ ⟨U_27.out.c0, U_27.out.c1, Y_27.out.c0, Y_27.out.c1⟩ (fun HS1 => ?_)
                      clear hK HS0; have HS0 := HS1; clear HS1
                      (refine wpAnyH_take (i := 7) (v := ?_) rfl (by kernel_rfl) (by kernel_rfl) (by kernel_rfl) (fun _ _ _ h => h) (Or.inl ⟨by rfl, ?_⟩) HS0 ?_; case refine_2 => (intro w hSw; (try dsimp only at hSw); go_simp; try with_reducible rfl); try simp only [Act.put, List.setIfInBounds_toArray, List.set_cons_zero, List.set_cons_succ])
                      (refine wpAnyH_take (i := 8) (v := ?_) rfl (by kernel_rfl) (by kernel_rfl) (by kernel_rfl) (fun _ _ _ h => h) (Or.inl ⟨by rfl, ?_⟩) HS0 ?_; case refine_2 => (intro w hSw; (try dsimp only at hSw); go_simp; try with_reducible rfl); try simp only [Act.put, List.setIfInBounds_toArray, List.set_cons_zero, List.set_cons_succ])
                      (refine wpAnyH_take (i := 9) (v := ?_) rfl (by kernel_rfl) (by kernel_rfl) (by kernel_rfl) (fun _ _ _ h => h) (Or.inl ⟨by rfl, ?_⟩) HS0 ?_; case refine_2 => (intro w hSw; (try dsimp only at hSw); go_simp; try with_reducible rfl); try simp only [Act.put, List.setIfInBounds_toArray, List.set_cons_zero, List.set_cons_succ])
                      refine wpAnyH_ready (rs := [12]) (by kernel_rfl) (by simp) ?_
                      refine (AllReadyH.cons (o := _) rfl (fun K hK => ?_) AllReadyH.nil)
                      have xc0 := E_27.out.c0; have xf0 := E_27.out.f0
                      have xc1 := E_27.out.c1; have xf1 := E_27.out.f1
                      go_simp
                      clear xc0 xf0 xc1 xf1
                      have Y_28 := Lib.hid (boxAt_set_other 1 (.slice qa9 qn9 qc9) (boxAt_set_other 0 (.bool qb9) (Y_27.out) (show iW ≠ i_E by have h1 := lt_Y.out; have h2 := l_26.out; omega)) (show iW ≠ i_E by have h1 := lt_Y.out; have h2 := l_26.out; omega))
                      clear Y_27
                      have U_28 := Lib.hid (boxAt_set_other 1 (.slice qa9 qn9 qc9) (boxAt_set_other 0 (.bool qb9) (U_27.out) (show iU ≠ i_E by have h1 := lt_U.out; have h2 := l_26.out; omega)) (show iU ≠ i_E by have h1 := lt_U.out; have h2 := l_26.out; omega))
                      clear U_27
                      have NY_28 := Lib.hid (num_set2 (.bool qb9) (.slice qa9 qn9 qc9) (NY_27.out) E_27.out)
                      clear NY_27
                      have NU_28 := Lib.hid (num_set2 (.bool qb9) (.slice qa9 qn9 qc9) (NU_27.out) E_27.out)
                      clear NU_27
                      have V_28 := Lib.hid (num_set2 (.bool qb9) (.slice qa9 qn9 qc9) (V_27.out) E_27.out)
                      clear V_27
                      have O_28 := Lib.hid (num_set2 (.bool qb9) (.slice qa9 qn9 qc9) (O_27.out) E_27.out)
                      clear O_27
                      have F_28 := Lib.hid (boxAt_set_other 1 (.slice qa9 qn9 qc9) (boxAt_set_other 0 (.bool qb9) (F_27.out) (show i_F ≠ i_E by have h1 := m_26_F.out; omega)) (show i_F ≠ i_E by have h1 := m_26_F.out; omega))
                      clear F_27
                      have Q_28 := Lib.hid (num_set2 (.bool qb9) (.slice qa9 qn9 qc9) (hQ_27.out) E_27.out)
                      clear hQ_27
                      have E_28 := Lib.hid (boxAt_set2 (.bool qb9) (.slice qa9 qn9 qc9) (E_27.out))
                      have d_28 : Hid (Below w6.heap.size w6 ((w_27.setCell ⟨i_E, 0, none⟩ (.bool qb9)).setCell ⟨i_E, 1, none⟩ (.slice qa9 qn9 qc9))) := (Below.setCell (p := ⟨i_E, 1, none⟩) (Below.setCell (p := ⟨i_E, 0, none⟩) d_27.out (l_26.out) (.bool qb9)) (l_26.out) (.slice qa9 qn9 qc9))
                      clear E_27
                      refine hK.out _ _ ⟨U_28.out.c0, U_28.out.c1, Y_28.out.c0, Y_28.out.c1⟩ (fun HS1 => ?_)
                      clear hK HS0; have HS0 := HS1; clear HS1
                      refine wpAnyH_ready (rs := [13]) (by kernel_rfl) (by simp) ?_
                      refine (AllReadyH.cons (o := _) rfl (fun K hK => ?_) AllReadyH.nil)
                      have xc0 := F_28.out.c0; have xf0 := F_28.out.f0
                      have xc1 := F_28.out.c1; have xf1 := F_28.out.f1
                      go_simp
                      clear xc0 xf0 xc1 xf1
                      have Y_29 := Lib.hid (boxAt_set_other 1 (.slice ra9 rn9 rc9) (boxAt_set_other 0 (.bool rb9) (Y_28.out) (show iW ≠ i_F by have h1 := lt_Y.out; have h2 := l_21.out; omega)) (show iW ≠ i_F by have h1 := lt_Y.out; have h2 := l_21.out; omega))
                      clear Y_28
                      have U_29 := Lib.hid (boxAt_set_other 1 (.slice ra9 rn9 rc9) (boxAt_set_other 0 (.bool rb9) (U_28.out) (show iU ≠ i_F by have h1 := lt_U.out; have h2 := l_21.out; omega)) (show iU ≠ i_F by have h1 := lt_U.out; have h2 := l_21.out; omega))
                      clear U_28
                      have NY_29 := Lib.hid (num_set2 (.bool rb9) (.slice ra9 rn9 rc9) (NY_28.out) F_28.out)
                      clear NY_28
                      have NU_29 := Lib.hid (num_set2 (.bool rb9) (.slice ra9 rn9 rc9) (NU_28.out) F_28.out)
                      clear NU_28
                      have V_29 := Lib.hid (num_set2 (.bool rb9) (.slice ra9 rn9 rc9) (V_28.out) F_28.out)
                      clear V_28
                      have O_29 := Lib.hid (num_set2 (.bool rb9) (.slice ra9 rn9 rc9) (O_28.out) F_28.out)
                      clear O_28
                      have E_29 := Lib.hid (boxAt_set_other 1 (.slice ra9 rn9 rc9) (boxAt_set_other 0 (.bool rb9) (E_28.out) (show i_E ≠ i_F by have h1 := m_26_F.out; omega)) (show i_E ≠ i_F by have h1 := m_26_F.out; omega))
                      clear E_28
                      have Q_29 := Lib.hid (num_set2 (.bool rb9) (.slice ra9 rn9 rc9) (Q_28.out) F_28.out)
                      clear Q_28
                      have F_29 := Lib.hid (boxAt_set2 (.bool rb9) (.slice ra9 rn9 rc9) (F_28.out))
                      have d_29 : Hid (Below w6.heap.size w6 ((((w_27.setCell ⟨i_E, 0, none⟩ (.bool qb9)).setCell ⟨i_E, 1, none⟩ (.slice qa9 qn9 qc9)).setCell ⟨i_F, 0, none⟩ (.bool rb9)).setCell ⟨i_F, 1, none⟩ (.slice ra9 rn9 rc9))) := (Below.setCell (p := ⟨i_F, 1, none⟩) (Below.setCell (p := ⟨i_F, 0, none⟩) d_28.out (l_21.out) (.bool rb9)) (l_21.out) (.slice ra9 rn9 rc9))
                      clear F_28
                      refine hK.out _ _ ⟨U_29.out.c0, U_29.out.c1, Y_29.out.c0, Y_29.out.c1⟩ (fun HS1 => ?_)
                      clear hK HS0; have HS0 := HS1; clear HS1
                      refine wpAnyH_done (by kernel_rfl) ?_ _
                      dsimp only [Exit.then]
                      refine ‹∀ (a' : Act) (w' : World), Met _ a' w' → _› _ _ ?_
                      go_meet
                      case rel => exact ⟨_, _, _, _, _, rfl, l_26.out, E_29.out, Q_29.out, d_29.out⟩
                · skip
                  go_simp
                  have ba_30 := Lib.hid (ba w_1 (.cells #[.bool false, .slice none 0 0] 33))
                  have Y_30 := Lib.hid (boxAt_below (Y_1.out) ba_30.out); have U_30 := Lib.hid (boxAt_below (U_1.out) ba_30.out); have NY_30 := Lib.hid (num_below (NY_1.out) ba_30.out); have NU_30 := Lib.hid (num_below (NU_1.out) ba_30.out); have V_30 := Lib.hid (num_below (hV_1.out) ba_30.out); clear Y_1 U_1 NY_1 NU_1 hV_1
                  have E_30 := Lib.hid (boxAt_new w_1 (.bool false) (.slice none 0 0))
                  have l_30 : Hid (w6.heap.size ≤ w_1.heap.size) := d_1.out.size
                  have d_30 := Lib.hid (bt d_1.out ba_30.out)
                  obtain ⟨i_E, hi_30⟩ : ∃ m, Hid (w_1.heap.size = m) := ⟨_, rfl⟩
                  obtain ⟨w_30, hw_30⟩ : ∃ v, Hid (v = w_1.alloc (.cells #[.bool false, .slice none 0 0] 33)) := ⟨_, rfl⟩
                  refine hK.out _ _ ⟨U_30.out.c0, U_30.out.c1, Y_30.out.c0, Y_30.out.c1⟩ (fun HS1 => ?_)
                  clear hK HS0; have HS0 := HS1; clear HS1
                  rw [← hw_30.out] at HS0 d_30 Y_30 U_30 NY_30 NU_30 V_30 E_30 ⊢
                  rw [hi_30.out] at E_30 l_30 ⊢
                  clear hw_30 hi_30 ba_30
                  refine wpAnyH_ready (rs := [4, 11]) (by kernel_rfl) (by simp) ?_
                  refine (AllReadyH.cons (o := _) rfl (fun K hK => ?_) (AllReadyH.cons (o := _) rfl (fun K hK => ?_) AllReadyH.nil))
                  · skip
                    go_simp
                    go_at_call 14
                    (with_reducible refine (mul_any 44 7 _ _ u pk _ NU_30.out V_30.out (by omega) (by omega)).mono ?_)
                    rintro e w_31 ⟨v_31, hz, rfl, b_31⟩
                    replace b_31 := Lib.hid b_31
                    have Y_31 := Lib.hid (boxAt_below (Y_30.out) b_31.out); have U_31 := Lib.hid (boxAt_below (U_30.out) b_31.out); have NY_31 := Lib.hid (num_below (NY_30.out) b_31.out); have NU_31 := Lib.hid (num_below (NU_30.out) b_31.out); have V_31 := Lib.hid (num_below (V_30.out) b_31.out); have E_31 := Lib.hid (boxAt_below (E_30.out) b_31.out); clear Y_30 U_30 NY_30 NU_30 V_30 E_30
                    have d_31 := Lib.hid (bt d_30.out b_31.out)
                    clear b_31
                    have hO_31 := Lib.hid hz
                    clear hz
                    refine hK.out _ _ ⟨U_31.out.c0, U_31.out.c1, Y_31.out.c0, Y_31.out.c1⟩ (fun HS1 => ?_)
                    clear hK HS0; have HS0 := HS1; clear HS1
                    refine wpAnyH_ready (rs := [6, 11]) (by kernel_rfl) (by simp) ?_
                    refine (AllReadyH.cons (o := _) rfl (fun K hK => ?_) (AllReadyH.cons (o := _) rfl (fun K hK => ?_) AllReadyH.nil))
                    · skip
                      go_simp
                      go_at_call 17
                      (with_reducible refine (down_any 51 7 _ _ (u * pk) aln _ hO_31.out NY_31.out AP.out.1 (by omega) (by omega)).mono ?_)
                      rintro e w_32 ⟨vq, vr, hz, hz2, rfl, b_32⟩
                      replace b_32 := Lib.hid b_32
                      have Y_32 := Lib.hid (boxAt_below (Y_31.out) b_32.out); have U_32 := Lib.hid (boxAt_below (U_31.out) b_32.out); have NY_32 := Lib.hid (num_below (NY_31.out) b_32.out); have NU_32 := Lib.hid (num_below (NU_31.out) b_32.out); have V_32 := Lib.hid (num_below (V_31.out) b_32.out); have E_32 := Lib.hid (boxAt_below (E_31.out) b_32.out); have O_32 := Lib.hid (num_below (hO_31.out) b_32.out); clear Y_31 U_31 NY_31 NU_31 V_31 E_31 hO_31
                      have d_32 := Lib.hid (bt d_31.out b_32.out)
                      clear b_32
                      obtain ⟨qb9, qa9, qn9, qc9, rfl⟩ := num_agg hz
                      obtain ⟨rb9, ra9, rn9, rc9, rfl⟩ := num_agg hz2
                      have hQ_32 := Lib.hid hz
                      clear hz hz2
                      refine hK.out _ _ ⟨U_32.out.c0, U_32.out.c1, Y_32.out.c0, Y_32.out.c1⟩ (fun HS1 => ?_)
                      clear hK HS0; have HS0 := HS1; clear HS1
                      (refine wpAnyH_take (i := 7) (v := ?_) rfl (by kernel_rfl) (by kernel_rfl) (by kernel_rfl) (fun _ _ _ h => h) (Or.inl ⟨by rfl, ?_⟩) HS0 ?_; case refine_2 => (intro w hSw; (try dsimp only at hSw); go_simp; try with_reducible rfl); try simp only [Act.put, List.setIfInBounds_toArray, List.set_cons_zero, List.set_cons_succ])
                      (refine wpAnyH_take (i := 8) (v := ?_) rfl (by kernel_rfl) (by kernel_rfl) (by kernel_rfl) (fun _ _ _ h => h) (Or.inl ⟨by rfl, ?_⟩) HS0 ?_; case refine_2 => (intro w hSw; (try dsimp only at hSw); go_simp; try with_reducible rfl); try simp only [Act.put, List.setIfInBounds_toArray, List.set_cons_zero, List.set_cons_succ])
                      (refine wpAnyH_take (i := 9) (v := ?_) rfl (by kernel_rfl) (by kernel_rfl) (by kernel_rfl) (fun _ _ _ h => h) (Or.inl ⟨by rfl, ?_⟩) HS0 ?_; case refine_2 => (intro w hSw; (try dsimp only at hSw); go_simp; try with_reducible rfl); try simp only [Act.put, List.setIfInBounds_toArray, List.set_cons_zero, List.set_cons_succ])
                      refine wpAnyH_ready (rs := [11]) (by kernel_rfl) (by simp) ?_
                      refine (AllReadyH.cons (o := _) rfl (fun K hK => ?_) AllReadyH.nil)
                      go_simp
                      have ba_33 := Lib.hid (ba w_32 (.cells #[.bool false, .slice none 0 0] 33))
                      have m_33_E : Hid (i_E < w_32.heap.size) := (Array.getElem?_eq_some_iff.1 E_32.out).1
                      have Y_33 := Lib.hid (boxAt_below (Y_32.out) ba_33.out); have U_33 := Lib.hid (boxAt_below (U_32.out) ba_33.out); have NY_33 := Lib.hid (num_below (NY_32.out) ba_33.out); have NU_33 := Lib.hid (num_below (NU_32.out) ba_33.out); have V_33 := Lib.hid (num_below (V_32.out) ba_33.out); have E_33 := Lib.hid (boxAt_below (E_32.out) ba_33.out); have O_33 := Lib.hid (num_below (O_32.out) ba_33.out); have Q_33 := Lib.hid (num_below (hQ_32.out) ba_33.out); clear Y_32 U_32 NY_32 NU_32 V_32 E_32 O_32 hQ_32
                      have F_33 := Lib.hid (boxAt_new w_32 (.bool false) (.slice none 0 0))
                      have l_33 : Hid (w6.heap.size ≤ w_32.heap.size) := d_32.out.size
                      have d_33 := Lib.hid (bt d_32.out ba_33.out)
                      obtain ⟨i_F, hi_33⟩ : ∃ m, Hid (w_32.heap.size = m) := ⟨_, rfl⟩
                      obtain ⟨w_33, hw_33⟩ : ∃ v, Hid (v = w_32.alloc (.cells #[.bool false, .slice none 0 0] 33)) := ⟨_, rfl⟩
                      refine hK.out _ _ ⟨U_33.out.c0, U_33.out.c1, Y_33.out.c0, Y_33.out.c1⟩ (fun HS1 => ?_)
                      clear hK HS0; have HS0 := HS1; clear HS1
                      rw [← hw_33.out] at HS0 d_33 Y_33 U_33 NY_33 NU_33 V_33 E_33 O_33 Q_33 F_33 ⊢
                      rw [hi_33.out] at F_33 l_33 m_33_E ⊢
                      clear hw_33 hi_33 ba_33
                      refine wpAnyH_ready (rs := [12]) (by kernel_rfl) (by simp) ?_
                      refine (AllReadyH.cons (o := _) rfl (fun K hK => ?_) AllReadyH.nil)
                      have xc0 := E_33.out.c0; have xf0 := E_33.out.f0
                      have xc1 := E_33.out.c1; have xf1 := E_33.out.f1
                      go_simp
                      clear xc0 xf0 xc1 xf1
                      have Y_34 := Lib.hid (boxAt_set_other 1 (.slice qa9 qn9 qc9) (boxAt_set_other 0 (.bool qb9) (Y_33.out) (show iW ≠ i_E by have h1 := lt_Y.out; have h2 := l_30.out; omega)) (show iW ≠ i_E by have h1 := lt_Y.out; have h2 := l_30.out; omega))
                      clear Y_33
                      have U_34 := Lib.hid (boxAt_set_other 1 (.slice qa9 qn9 qc9) (boxAt_set_other 0 (.bool qb9) (U_33.out) (show iU ≠ i_E by have h1 := lt_U.out; have h2 := l_30.out; omega)) (show iU ≠ i_E by have h1 := lt_U.out; have h2 := l_30.out; omega))
                      clear U_33
                      have NY_34 := Lib.hid (num_set2 (.bool qb9) (.slice qa9 qn9 qc9) (NY_33.out) E_33.out)
                      clear NY_33
                      have NU_34 := Lib.hid (num_set2 (.bool qb9) (.slice qa9 qn9 qc9) (NU_33.out) E_33.out)
                      clear NU_33
                      have V_34 := Lib.hid (num_set2 (.bool qb9) (.slice qa9 qn9 qc9) (V_33.out) E_33.out)
                      clear V_33
                      have O_34 := Lib.hid (num_set2 (.bool qb9) (.slice qa9 qn9 qc9) (O_33.out) E_33.out)
                      clear O_33
                      have Q_34 := Lib.hid (num_set2 (.bool qb9) (.slice qa9 qn9 qc9) (Q_33.out) E_33.out)
                      clear Q_33
                      have F_34 := Lib.hid (boxAt_set_other 1 (.slice qa9 qn9 qc9) (boxAt_set_other 0 (.bool qb9) (F_33.out) (show i_F ≠ i_E by have h1 := m_33_E.out; omega)) (show i_F ≠ i_E by have h1 := m_33_E.out; omega))
                      clear F_33
                      have E_34 := Lib.hid (boxAt_set2 (.bool qb9) (.slice qa9 qn9 qc9) (E_33.out))
                      have d_34 : Hid (Below w6.heap.size w6 ((w_33.setCell ⟨i_E, 0, none⟩ (.bool qb9)).setCell ⟨i_E, 1, none⟩ (.slice qa9 qn9 qc9))) := (Below.setCell (p := ⟨i_E, 1, none⟩) (Below.setCell (p := ⟨i_E, 0, none⟩) d_33.out (l_30.out) (.bool qb9)) (l_30.out) (.slice qa9 qn9 qc9))
                      clear E_33
                      refine hK.out _ _ ⟨U_34.out.c0, U_34.out.c1, Y_34.out.c0, Y_34.out.c1⟩ (fun HS1 => ?_)
                      clear hK HS0; have HS0 := HS1; clear HS1
                      refine wpAnyH_ready (rs := [13]) (by kernel_rfl) (by simp) ?_
                      refine (AllReadyH.cons (o := _) rfl (fun K hK => ?_) AllReadyH.nil)
                      have xc0 := F_34.out.c0; have xf0 := F_34.out.f0
                      have xc1 := F_34.out.c1; have xf1 := F_34.out.f1
                      go_simp
                      clear xc0 xf0 xc1 xf1
                      have Y_35 := Lib.hid (boxAt_set_other 1 (.slice ra9 rn9 rc9) (boxAt_set_other 0 (.bool rb9) (Y_34.out) (show iW ≠ i_F by have h1 := lt_Y.out; have h2 := l_33.out; omega)) (show iW ≠ i_F by have h1 := lt_Y.out; have h2 := l_33.out; omega))
                      clear Y_34
                      have U_35 := Lib.hid (boxAt_set_other 1 (.slice ra9 rn9 rc9) (boxAt_set_other 0 (.bool rb9) (U_34.out) (show iU ≠ i_F by have h1 := lt_U.out; have h2 := l_33.out; omega)) (show iU ≠ i_F by have h1 := lt_U.out; have h2 := l_33.out; omega))
                      clear U_34
                      have NY_35 := Lib.hid (num_set2 (.bool rb9) (.slice ra9 rn9 rc9) (NY_34.out) F_34.out)
                      clear NY_34
                      have NU_35 := Lib.hid (num_set2 (.bool rb9) (.slice ra9 rn9 rc9) (NU_34.out) F_34.out)
                      clear NU_34
                      have V_35 := Lib.hid (num_set2 (.bool rb9) (.slice ra9 rn9 rc9) (V_34.out) F_34.out)
                      clear V_34
                      have E_35 := Lib.hid (boxAt_set_other 1 (.slice ra9 rn9 rc9) (boxAt_set_other 0 (.bool rb9) (E_34.out) (show i_E ≠ i_F by have h1 := m_33_E.out; omega)) (show i_E ≠ i_F by have h1 := m_33_E.out; omega))
                      clear E_34
                      have O_35 := Lib.hid (num_set2 (.bool rb9) (.slice ra9 rn9 rc9) (O_34.out) F_34.out)
                      clear O_34
                      have Q_35 := Lib.hid (num_set2 (.bool rb9) (.slice ra9 rn9 rc9) (Q_34.out) F_34.out)
                      clear Q_34
                      have F_35 := Lib.hid (boxAt_set2 (.bool rb9) (.slice ra9 rn9 rc9) (F_34.out))
                      have d_35 : Hid (Below w6.heap.size w6 ((((w_33.setCell ⟨i_E, 0, none⟩ (.bool qb9)).setCell ⟨i_E, 1, none⟩ (.slice qa9 qn9 qc9)).setCell ⟨i_F, 0, none⟩ (.bool rb9)).setCell ⟨i_F, 1, none⟩ (.slice ra9 rn9 rc9))) := (Below.setCell (p := ⟨i_F, 1, none⟩) (Below.setCell (p := ⟨i_F, 0, none⟩) d_34.out (l_33.out) (.bool rb9)) (l_33.out) (.slice ra9 rn9 rc9))
                      clear F_34
                      refine hK.out _ _ ⟨U_35.out.c0, U_35.out.c1, Y_35.out.c0, Y_35.out.c1⟩ (fun HS1 => ?_)
                      clear hK HS0; have HS0 := HS1; clear HS1
                      refine wpAnyH_done (by kernel_rfl) ?_ _
                      dsimp only [Exit.then]
                      refine ‹∀ (a' : Act) (w' : World), Met _ a' w' → _› _ _ ?_
                      go_meet
                      case rel => exact ⟨_, _, _, _, _, rfl, l_30.out, E_35.out, Q_35.out, d_35.out⟩
                    · skip
                      go_simp
                      have ba_36 := Lib.hid (ba w_31 (.cells #[.bool false, .slice none 0 0] 33))
                      have m_36_E : Hid (i_E < w_31.heap.size) := (Array.getElem?_eq_some_iff.1 E_31.out).1
                      have Y_36 := Lib.hid (boxAt_below (Y_31.out) ba_36.out); have U_36 := Lib.hid (boxAt_below (U_31.out) ba_36.out); have NY_36 := Lib.hid (num_below (NY_31.out) ba_36.out); have NU_36 := Lib.hid (num_below (NU_31.out) ba_36.out); have V_36 := Lib.hid (num_below (V_31.out) ba_36.out); have E_36 := Lib.hid (boxAt_below (E_31.out) ba_36.out); have O_36 := Lib.hid (num_below (hO_31.out) ba_36.out); clear Y_31 U_31 NY_31 NU_31 V_31 E_31 hO_31
                      have F_36 := Lib.hid (boxAt_new w_31 (.bool false) (.slice none 0 0))
                      have l_36 : Hid (w6.heap.size ≤ w_31.heap.size) := d_31.out.size
                      have d_36 := Lib.hid (bt d_31.out ba_36.out)
                      obtain ⟨i_F, hi_36⟩ : ∃ m, Hid (w_31.heap.size = m) := ⟨_, rfl⟩
                      obtain ⟨w_36, hw_36⟩ : ∃ v, Hid (v = w_31.alloc (.cells #[.bool false, .slice none 0 0] 33)) := ⟨_, rfl⟩
                      refine hK.out _ _ ⟨U_36.out.c0, U_36.out.c1, Y_36.out.c0, Y_36.out.c1⟩ (fun HS1 => ?_)
                      clear hK HS0; have HS0 := HS1; clear HS1
                      rw [← hw_36.out] at HS0 d_36 Y_36 U_36 NY_36 NU_36 V_36 E_36 O_36 F_36 ⊢
                      rw [hi_36.out] at F_36 l_36 m_36_E ⊢
                      clear hw_36 hi_36 ba_36
                      refine wpAnyH_ready (rs := [6]) (by kernel_rfl) (by simp) ?_
                      refine (AllReadyH.cons (o := _) rfl (fun K hK => ?_) AllReadyH.nil)
                      go_simp
                      go_at_call 17
                      (with_reducible refine (down_any 51 7 _ _ (u * pk) aln _ O_36.out NY_36.out AP.out.1 (by omega) (by omega)).mono ?_)
                      rintro e w_37 ⟨vq, vr, hz, hz2, rfl, b_37⟩
                      replace b_37 := Lib.hid b_37
                      have Y_37 := Lib.hid (boxAt_below (Y_36.out) b_37.out); have U_37 := Lib.hid (boxAt_below (U_36.out) b_37.out); have NY_37 := Lib.hid (num_below (NY_36.out) b_37.out); have NU_37 := Lib.hid (num_below (NU_36.out) b_37.out); have V_37 := Lib.hid (num_below (V_36.out) b_37.out); have E_37 := Lib.hid (boxAt_below (E_36.out) b_37.out); have O_37 := Lib.hid (num_below (O_36.out) b_37.out); have F_37 := Lib.hid (boxAt_below (F_36.out) b_37.out); clear Y_36 U_36 NY_36 NU_36 V_36 E_36 O_36 F_36
                      have d_37 := Lib.hid (bt d_36.out b_37.out)
                      clear b_37
                      obtain ⟨qb9, qa9, qn9, qc9, rfl⟩ := num_agg hz
                      obtain ⟨rb9, ra9, rn9, rc9, rfl⟩ := num_agg hz2
                      have hQ_37 := Lib.hid hz
                      clear hz hz2
                      refine hK.out _ _ ⟨U_37.out.c0, U_37.out.c1, Y_37.out.c0, Y_37.out.c1⟩ (fun HS1 => ?_)
                      clear hK HS0; have HS0 := HS1; clear HS1
                      (refine wpAnyH_take (i := 7) (v := ?_) rfl (by kernel_rfl) (by kernel_rfl) (by kernel_rfl) (fun _ _ _ h => h) (Or.inl ⟨by rfl, ?_⟩) HS0 ?_; case refine_2 => (intro w hSw; (try dsimp only at hSw); go_simp; try with_reducible rfl); try simp only [Act.put, List.setIfInBounds_toArray, List.set_cons_zero, List.set_cons_succ])
                      (refine wpAnyH_take (i := 8) (v := ?_) rfl (by kernel_rfl) (by kernel_rfl) (by kernel_rfl) (fun _ _ _ h => h) (Or.inl ⟨by rfl, ?_⟩) HS0 ?_; case refine_2 => (intro w hSw; (try dsimp only at hSw); go_simp; try with_reducible rfl); try simp only [Act.put, List.setIfInBounds_toArray, List.set_cons_zero, List.set_cons_succ])
                      (refine wpAnyH_take (i := 9) (v := ?_) rfl (by kernel_rfl) (by kernel_rfl) (by kernel_rfl) (fun _ _ _ h => h) (Or.inl ⟨by rfl, ?_⟩) HS0 ?_; case refine_2 => (intro w hSw; (try dsimp only at hSw); go_simp; try with_reducible rfl); try simp only [Act.put, List.setIfInBounds_toArray, List.set_cons_zero, List.set_cons_succ])
                      refine wpAnyH_ready (rs := [12]) (by kernel_rfl) (by simp) ?_
                      refine (AllReadyH.cons (o := _) rfl (fun K hK => ?_) AllReadyH.nil)
                      have xc0 := E_37.out.c0; have xf0 := E_37.out.f0
                      have xc1 := E_37.out.c1; have xf1 := E_37.out.f1
                      go_simp
                      clear xc0 xf0 xc1 xf1
                      have Y_38 := Lib.hid (boxAt_set_other 1 (.slice qa9 qn9 qc9) (boxAt_set_other 0 (.bool qb9) (Y_37.out) (show iW ≠ i_E by have h1 := lt_Y.out; have h2 := l_30.out; omega)) (show iW ≠ i_E by have h1 := lt_Y.out; have h2 := l_30.out; omega))
                      clear Y_37
                      have U_38 := Lib.hid (boxAt_set_other 1 (.slice qa9 qn9 qc9) (boxAt_set_other 0 (.bool qb9) (U_37.out) (show iU ≠ i_E by have h1 := lt_U.out; have h2 := l_30.out; omega)) (show iU ≠ i_E by have h1 := lt_U.out; have h2 := l_30.out; omega))
                      clear U_37
                      have NY_38 := Lib.hid (num_set2 (.bool qb9) (.slice qa9 qn9 qc9) (NY_37.out) E_37.out)
                      clear NY_37
                      have NU_38 := Lib.hid (num_set2 (.bool qb9) (.slice qa9 qn9 qc9) (NU_37.out) E_37.out)
                      clear NU_37
                      have V_38 := Lib.hid (num_set2 (.bool qb9) (.slice qa9 qn9 qc9) (V_37.out) E_37.out)
                      clear V_37
                      have O_38 := Lib.hid (num_set2 (.bool qb9) (.slice qa9 qn9 qc9) (O_37.out) E_37.out)
                      clear O_37
                      have F_38 := Lib.hid (boxAt_set_other 1 (.slice qa9 qn9 qc9) (boxAt_set_other 0 (.bool qb9) (F_37.out) (show i_F ≠ i_E by have h1 := m_36_E.out; omega)) (show i_F ≠ i_E by have h1 := m_36_E.out; omega))
                      clear F_37
                      have Q_38 := Lib.hid (num_set2 (.bool qb9) (.slice qa9 qn9 qc9) (hQ_37.out) E_37.out)
                      clear hQ_37
                      have E_38 := Lib.hid (boxAt_set2 (.bool qb9) (.slice qa9 qn9 qc9) (E_37.out))
                      have d_38 : Hid (Below w6.heap.size w6 ((w_37.setCell ⟨i_E, 0, none⟩ (.bool qb9)).setCell ⟨i_E, 1, none⟩ (.slice qa9 qn9 qc9))) := (Below.setCell (p := ⟨i_E, 1, none⟩) (Below.setCell (p := ⟨i_E, 0, none⟩) d_37.out (l_30.out) (.bool qb9)) (l_30.out) (.slice qa9 qn9 qc9))
                      clear E_37
                      refine hK.out _ _ ⟨U_38.out.c0, U_38.out.c1, Y_38.out.c0, Y_38.out.c1⟩ (fun HS1 => ?_)
                      clear hK HS0; have HS0 := HS1; clear HS1
                      refine wpAnyH_ready (rs := [13]) (by kernel_rfl) (by simp) ?_
                      refine (AllReadyH.cons (o := _) rfl (fun K hK => ?_) AllReadyH.nil)
                      have xc0 := F_38.out.c0; have xf0 := F_38.out.f0
                      have xc1 := F_38.out.c1; have xf1 := F_38.out.f1
                      go_simp
                      clear xc0 xf0 xc1 xf1
                      have Y_39 := Lib.hid (boxAt_set_other 1 (.slice ra9 rn9 rc9) (boxAt_set_other 0 (.bool rb9) (Y_38.out) (show iW ≠ i_F by have h1 := lt_Y.out; have h2 := l_36.out; omega)) (show iW ≠ i_F by have h1 := lt_Y.out; have h2 := l_36.out; omega))
                      clear Y_38
                      have U_39 := Lib.hid (boxAt_set_other 1 (.slice ra9 rn9 rc9) (boxAt_set_other 0 (.bool rb9) (U_38.out) (show iU ≠ i_F by have h1 := lt_U.out; have h2 := l_36.out; omega)) (show iU ≠ i_F by have h1 := lt_U.out; have h2 := l_36.out; omega))
                      clear U_38
                      have NY_39 := Lib.hid (num_set2 (.bool rb9) (.slice ra9 rn9 rc9) (NY_38.out) F_38.out)
                      clear NY_38
                      have NU_39 := Lib.hid (num_set2 (.bool rb9) (.slice ra9 rn9 rc9) (NU_38.out) F_38.out)
                      clear NU_38
                      have V_39 := Lib.hid (num_set2 (.bool rb9) (.slice ra9 rn9 rc9) (V_38.out) F_38.out)
                      clear V_38
                      have E_39 := Lib.hid (boxAt_set_other 1 (.slice ra9 rn9 rc9) (boxAt_set_other 0 (.bool rb9) (E_38.out) (show i_E ≠ i_F by have h1 := m_36_E.out; omega)) (show i_E ≠ i_F by have h1 := m_36_E.out; omega))
                      clear E_38
                      have O_39 := Lib.hid (num_set2 (.bool rb9) (.slice ra9 rn9 rc9) (O_38.out) F_38.out)
                      clear O_38
                      have Q_39 := Lib.hid (num_set2 (.bool rb9) (.slice ra9 rn9 rc9) (Q_38.out) F_38.out)
                      clear Q_38
                      have F_39 := Lib.hid (boxAt_set2 (.bool rb9) (.slice ra9 rn9 rc9) (F_38.out))
                      have d_39 : Hid (Below w6.heap.size w6 ((((w_37.setCell ⟨i_E, 0, none⟩ (.bool qb9)).setCell ⟨i_E, 1, none⟩ (.slice qa9 qn9 qc9)).setCell ⟨i_F, 0, none⟩ (.bool rb9)).setCell ⟨i_F, 1, none⟩ (.slice ra9 rn9 rc9))) := (Below.setCell (p := ⟨i_F, 1, none⟩) (Below.setCell (p := ⟨i_F, 0, none⟩) d_38.out (l_36.out) (.bool rb9)) (l_36.out) (.slice ra9 rn9 rc9))
                      clear F_38
                      refine hK.out _ _ ⟨U_39.out.c0, U_39.out.c1, Y_39.out.c0, Y_39.out.c1⟩ (fun HS1 => ?_)
                      clear hK HS0; have HS0 := HS1; clear HS1
                      refine wpAnyH_done (by kernel_rfl) ?_ _
                      dsimp only [Exit.then]
                      refine ‹∀ (a' : Act) (w' : World), Met _ a' w' → _› _ _ ?_
                      go_meet
                      case rel => exact ⟨_, _, _, _, _, rfl, l_30.out, E_39.out, Q_39.out, d_39.out⟩
                  · skip
                    go_simp
                    have ba_40 := Lib.hid (ba w_30 (.cells #[.bool false, .slice none 0 0] 33))
                    have m_40_E : Hid (i_E < w_30.heap.size) := (Array.getElem?_eq_some_iff.1 E_30.out).1
                    have Y_40 := Lib.hid (boxAt_below (Y_30.out) ba_40.out); have U_40 := Lib.hid (boxAt_below (U_30.out) ba_40.out); have NY_40 := Lib.hid (num_below (NY_30.out) ba_40.out); have NU_40 := Lib.hid (num_below (NU_30.out) ba_40.out); have V_40 := Lib.hid (num_below (V_30.out) ba_40.out); have E_40 := Lib.hid (boxAt_below (E_30.out) ba_40.out); clear Y_30 U_30 NY_30 NU_30 V_30 E_30
                    have F_40 := Lib.hid (boxAt_new w_30 (.bool false) (.slice none 0 0))
                    have l_40 : Hid (w6.heap.size ≤ w_30.heap.size) := d_30.out.size
                    have d_40 := Lib.hid (bt d_30.out ba_40.out)
                    obtain ⟨i_F, hi_40⟩ : ∃ m, Hid (w_30.heap.size = m) := ⟨_, rfl⟩
                    obtain ⟨w_40, hw_40⟩ : ∃ v, Hid (v = w_30.alloc (.cells #[.bool false, .slice none 0 0] 33)) := ⟨_, rfl⟩
                    refine hK.out _ _ ⟨U_40.out.c0, U_40.out.c1, Y_40.out.c0, Y_40.out.c1⟩ (fun HS1 => ?_)
                    clear hK HS0; have HS0 := HS1; clear HS1
                    rw [← hw_40.out] at HS0 d_40 Y_40 U_40 NY_40 NU_40 V_40 E_40 F_40 ⊢
                    rw [hi_40.out] at F_40 l_40 m_40_E ⊢
                    clear hw_40 hi_40 ba_40
                    refine wpAnyH_ready (rs := [4]) (by kernel_rfl) (by simp) ?_
                    refine (AllReadyH.cons (o := _) rfl (fun K hK => ?_) AllReadyH.nil)
                    go_simp
                    go_at_call 14
                    (with_reducible refine (mul_any 44 7 _ _ u pk _ NU_40.out V_40.out (by omega) (by omega)).mono ?_)
                    rintro e w_41 ⟨v_41, hz, rfl, b_41⟩
                    replace b_41 := Lib.hid b_41
                    have Y_41 := Lib.hid (boxAt_below (Y_40.out) b_41.out); have U_41 := Lib.hid (boxAt_below (U_40.out) b_41.out); have NY_41 := Lib.hid (num_below (NY_40.out) b_41.out); have NU_41 := Lib.hid (num_below (NU_40.out) b_41.out); have V_41 := Lib.hid (num_below (V_40.out) b_41.out); have E_41 := Lib.hid (boxAt_below (E_40.out) b_41.out); have F_41 := Lib.hid (boxAt_below (F_40.out) b_41.out); clear Y_40 U_40 NY_40 NU_40 V_40 E_40 F_40
                    have d_41 := Lib.hid (bt d_40.out b_41.out)
                    clear b_41
                    have hO_41 := Lib.hid hz
                    clear hz
                    refine hK.out _ _ ⟨U_41.out.c0, U_41.out.c1, Y_41.out.c0, Y_41.out.c1⟩ (fun HS1 => ?_)
                    clear hK HS0; have HS0 := HS1; clear HS1
                    refine wpAnyH_ready (rs := [6]) (by kernel_rfl) (by simp) ?_
                    refine (AllReadyH.cons (o := _) rfl (fun K hK => ?_) AllReadyH.nil)
                    go_simp
                    go_at_call 17
                    (with_reducible refine (down_any 51 7 _ _ (u * pk) aln _ hO_41.out NY_41.out AP.out.1 (by omega) (by omega)).mono ?_)
                    rintro e w_42 ⟨vq, vr, hz, hz2, rfl, b_42⟩
                    replace b_42 := Lib.hid b_42
                    have Y_42 := Lib.hid (boxAt_below (Y_41.out) b_42.out); have U_42 := Lib.hid (boxAt_below (U_41.out) b_42.out); have NY_42 := Lib.hid (num_below (NY_41.out) b_42.out); have NU_42 := Lib.hid (num_below (NU_41.out) b_42.out); have V_42 := Lib.hid (num_below (V_41.out) b_42.out); have E_42 := Lib.hid (boxAt_below (E_41.out) b_42.out); have F_42 := Lib.hid (boxAt_below (F_41.out) b_42.out); have O_42 := Lib.hid (num_below (hO_41.out) b_42.out); clear Y_41 U_41 NY_41 NU_41 V_41 E_41 F_41 hO_41
                    have d_42 := Lib.hid (bt d_41.out b_42.out)
                    clear b_42
                    obtain ⟨qb9, qa9, qn9, qc9, rfl⟩ := num_agg hz
                    obtain ⟨rb9, ra9, rn9, rc9, rfl⟩ := num_agg hz2
                    have hQ_42 := Lib.hid hz
                    clear hz hz2
                    refine hK.out _ _ ⟨U_42.out.c0, U_42.out.c1, Y_42.out.c0, Y_42.out.c1⟩ (fun HS1 => ?_)
                    clear hK HS0; have HS0 := HS1; clear HS1
                    (refine wpAnyH_take (i := 7) (v := ?_) rfl (by kernel_rfl) (by kernel_rfl) (by kernel_rfl) (fun _ _ _ h => h) (Or.inl ⟨by rfl, ?_⟩) HS0 ?_; case refine_2 => (intro w hSw; (try dsimp only at hSw); go_simp; try with_reducible rfl); try simp only [Act.put, List.setIfInBounds_toArray, List.set_cons_zero, List.set_cons_succ])
                    (refine wpAnyH_take (i := 8) (v := ?_) rfl (by kernel_rfl) (by kernel_rfl) (by kernel_rfl) (fun _ _ _ h => h) (Or.inl ⟨by rfl, ?_⟩) HS0 ?_; case refine_2 => (intro w hSw; (try dsimp only at hSw); go_simp; try with_reducible rfl); try simp only [Act.put, List.setIfInBounds_toArray, List.set_cons_zero, List.set_cons_succ])
                    (refine wpAnyH_take (i := 9) (v := ?_) rfl (by kernel_rfl) (by kernel_rfl) (by kernel_rfl) (fun _ _ _ h => h) (Or.inl ⟨by rfl, ?_⟩) HS0 ?_; case refine_2 => (intro w hSw; (try dsimp only at hSw); go_simp; try with_reducible rfl); try simp only [Act.put, List.setIfInBounds_toArray, List.set_cons_zero, List.set_cons_succ])
                    refine wpAnyH_ready (rs := [12]) (by kernel_rfl) (by simp) ?_
                    refine (AllReadyH.cons (o := _) rfl (fun K hK => ?_) AllReadyH.nil)
                    have xc0 := E_42.out.c0; have xf0 := E_42.out.f0
                    have xc1 := E_42.out.c1; have xf1 := E_42.out.f1
                    go_simp
                    clear xc0 xf0 xc1 xf1
                    have Y_43 := Lib.hid (boxAt_set_other 1 (.slice qa9 qn9 qc9) (boxAt_set_other 0 (.bool qb9) (Y_42.out) (show iW ≠ i_E by have h1 := lt_Y.out; have h2 := l_30.out; omega)) (show iW ≠ i_E by have h1 := lt_Y.out; have h2 := l_30.out; omega))
                    clear Y_42
                    have U_43 := Lib.hid (boxAt_set_other 1 (.slice qa9 qn9 qc9) (boxAt_set_other 0 (.bool qb9) (U_42.out) (show iU ≠ i_E by have h1 := lt_U.out; have h2 := l_30.out; omega)) (show iU ≠ i_E by have h1 := lt_U.out; have h2 := l_30.out; omega))
                    clear U_42
                    have NY_43 := Lib.hid (num_set2 (.bool qb9) (.slice qa9 qn9 qc9) (NY_42.out) E_42.out)
                    clear NY_42
                    have NU_43 := Lib.hid (num_set2 (.bool qb9) (.slice qa9 qn9 qc9) (NU_42.out) E_42.out)
                    clear NU_42
                    have V_43 := Lib.hid (num_set2 (.bool qb9) (.slice qa9 qn9 qc9) (V_42.out) E_42.out)
                    clear V_42
                    have F_43 := Lib.hid (boxAt_set_other 1 (.slice qa9 qn9 qc9) (boxAt_set_other 0 (.bool qb9) (F_42.out) (show i_F ≠ i_E by have h1 := m_40_E.out; omega)) (show i_F ≠ i_E by have h1 := m_40_E.out; omega))
                    clear F_42
                    have O_43 := Lib.hid (num_set2 (.bool qb9) (.slice qa9 qn9 qc9) (O_42.out) E_42.out)
                    clear O_42
                    have Q_43 := Lib.hid (num_set2 (.bool qb9) (.slice qa9 qn9 qc9) (hQ_42.out) E_42.out)
                    clear hQ_42
                    have E_43 := Lib.hid (boxAt_set2 (.bool qb9) (.slice qa9 qn9 qc9) (E_42.out))
                    have d_43 : Hid (Below w6.heap.size w6 ((w_42.setCell ⟨i_E, 0, none⟩ (.bool qb9)).setCell ⟨i_E, 1, none⟩ (.slice qa9 qn9 qc9))) := (Below.setCell (p := ⟨i_E, 1, none⟩) (Below.setCell (p := ⟨i_E, 0, none⟩) d_42.out (l_30.out) (.bool qb9)) (l_30.out) (.slice qa9 qn9 qc9))
                    clear E_42
                    refine hK.out _ _ ⟨U_43.out.c0, U_43.out.c1, Y_43.out.c0, Y_43.out.c1⟩ (fun HS1 => ?_)
                    clear hK HS0; have HS0 := HS1; clear HS1
                    refine wpAnyH_ready (rs := [13]) (by kernel_rfl) (by simp) ?_
                    refine (AllReadyH.cons (o := _) rfl (fun K hK => ?_) AllReadyH.nil)
                    have xc0 := F_43.out.c0; have xf0 := F_43.out.f0
                    have xc1 := F_43.out.c1; have xf1 := F_43.out.f1
                    go_simp
                    clear xc0 xf0 xc1 xf1
                    have Y_44 := Lib.hid (boxAt_set_other 1 (.slice ra9 rn9 rc9) (boxAt_set_other 0 (.bool rb9) (Y_43.out) (show iW ≠ i_F by have h1 := lt_Y.out; have h2 := l_40.out; omega)) (show iW ≠ i_F by have h1 := lt_Y.out; have h2 := l_40.out; omega))
                    clear Y_43
                    have U_44 := Lib.hid (boxAt_set_other 1 (.slice ra9 rn9 rc9) (boxAt_set_other 0 (.bool rb9) (U_43.out) (show iU ≠ i_F by have h1 := lt_U.out; have h2 := l_40.out; omega)) (show iU ≠ i_F by have h1 := lt_U.out; have h2 := l_40.out; omega))
                    clear U_43
                    have NY_44 := Lib.hid (num_set2 (.bool rb9) (.slice ra9 rn9 rc9) (NY_43.out) F_43.out)
                    clear NY_43
                    have NU_44 := Lib.hid (num_set2 (.bool rb9) (.slice ra9 rn9 rc9) (NU_43.out) F_43.out)
                    clear NU_43
                    have V_44 := Lib.hid (num_set2 (.bool rb9) (.slice ra9 rn9 rc9) (V_43.out) F_43.out)
                    clear V_43
                    have E_44 := Lib.hid (boxAt_set_other 1 (.slice ra9 rn9 rc9) (boxAt_set_other 0 (.bool rb9) (E_43.out) (show i_E ≠ i_F by have h1 := m_40_E.out; omega)) (show i_E ≠ i_F by have h1 := m_40_E.out; omega))
                    clear E_43
                    have O_44 := Lib.hid (num_set2 (.bool rb9) (.slice ra9 rn9 rc9) (O_43.out) F_43.out)
                    clear O_43
                    have Q_44 := Lib.hid (num_set2 (.bool rb9) (.slice ra9 rn9 rc9) (Q_43.out) F_43.out)
                    clear Q_43
                    have F_44 := Lib.hid (boxAt_set2 (.bool rb9) (.slice ra9 rn9 rc9) (F_43.out))
                    have d_44 : Hid (Below w6.heap.size w6 ((((w_42.setCell ⟨i_E, 0, none⟩ (.bool qb9)).setCell ⟨i_E, 1, none⟩ (.slice qa9 qn9 qc9)).setCell ⟨i_F, 0, none⟩ (.bool rb9)).setCell ⟨i_F, 1, none⟩ (.slice ra9 rn9 rc9))) := (Below.setCell (p := ⟨i_F, 1, none⟩) (Below.setCell (p := ⟨i_F, 0, none⟩) d_43.out (l_40.out) (.bool rb9)) (l_40.out) (.slice ra9 rn9 rc9))
                    clear F_43
                    refine hK.out _ _ ⟨U_44.out.c0, U_44.out.c1, Y_44.out.c0, Y_44.out.c1⟩ (fun HS1 => ?_)
                    clear hK HS0; have HS0 := HS1; clear HS1
                    refine wpAnyH_done (by kernel_rfl) ?_ _
                    dsimp only [Exit.then]
                    refine ‹∀ (a' : Act) (w' : World), Met _ a' w' → _› _ _ ?_
                    go_meet
                    case rel => exact ⟨_, _, _, _, _, rfl, l_30.out, E_44.out, Q_44.out, d_44.out⟩
                · skip
                  go_simp
                  have ba_45 := Lib.hid (ba w_1 (.cells #[.bool false, .slice none 0 0] 33))
                  have Y_45 := Lib.hid (boxAt_below (Y_1.out) ba_45.out); have U_45 := Lib.hid (boxAt_below (U_1.out) ba_45.out); have NY_45 := Lib.hid (num_below (NY_1.out) ba_45.out); have NU_45 := Lib.hid (num_below (NU_1.out) ba_45.out); have V_45 := Lib.hid (num_below (hV_1.out) ba_45.out); clear Y_1 U_1 NY_1 NU_1 hV_1
                  have F_45 := Lib.hid (boxAt_new w_1 (.bool false) (.slice none 0 0))
                  have l_45 : Hid (w6.heap.size ≤ w_1.heap.size) := d_1.out.size
                  have d_45 := Lib.hid (bt d_1.out ba_45.out)
                  obtain ⟨i_F, hi_45⟩ : ∃ m, Hid (w_1.heap.size = m) := ⟨_, rfl⟩
                  obtain ⟨w_45, hw_45⟩ : ∃ v, Hid (v = w_1.alloc (.cells #[.bool false, .slice none 0 0] 33)) := ⟨_, rfl⟩
                  refine hK.out _ _ ⟨U_45.out.c0, U_45.out.c1, Y_45.out.c0, Y_45.out.c1⟩ (fun HS1 => ?_)
                  clear hK HS0; have HS0 := HS1; clear HS1
                  rw [← hw_45.out] at HS0 d_45 Y_45 U_45 NY_45 NU_45 V_45 F_45 ⊢
                  rw [hi_45.out] at F_45 l_45 ⊢
                  clear hw_45 hi_45 ba_45
                  refine wpAnyH_ready (rs := [4, 10]) (by kernel_rfl) (by simp) ?_
                  refine (AllReadyH.cons (o := _) rfl (fun K hK => ?_) (AllReadyH.cons (o := _) rfl (fun K hK => ?_) AllReadyH.nil))
                  · skip
                    go_simp
                    go_at_call 14
                    (with_reducible refine (mul_any 44 7 _ _ u pk _ NU_45.out V_45.out (by omega) (by omega)).mono ?_)
                    rintro e w_46 ⟨v_46, hz, rfl, b_46⟩
                    replace b_46 := Lib.hid b_46
                    have Y_46 := Lib.hid (boxAt_below (Y_45.out) b_46.out); have U_46 := Lib.hid (boxAt_below (U_45.out) b_46.out); have NY_46 := Lib.hid (num_below (NY_45.out) b_46.out); have NU_46 := Lib.hid (num_below (NU_45.out) b_46.out); have V_46 := Lib.hid (num_below (V_45.out) b_46.out); have F_46 := Lib.hid (boxAt_below (F_45.out) b_46.out); clear Y_45 U_45 NY_45 NU_45 V_45 F_45
                    have d_46 := Lib.hid (bt d_45.out b_46.out)
                    clear b_46
                    have hO_46 := Lib.hid hz
                    clear hz
                    refine hK.out _ _ ⟨U_46.out.c0, U_46.out.c1, Y_46.out.c0, Y_46.out.c1⟩ (fun HS1 => ?_)
                    clear hK HS0; have HS0 := HS1; clear HS1
                    refine wpAnyH_ready (rs := [6, 10]) (by kernel_rfl) (by simp) ?_
                    refine (AllReadyH.cons (o := _) rfl (fun K hK => ?_) (AllReadyH.cons (o := _) rfl (fun K hK => ?_) AllReadyH.nil))
                    · skip
                      go_simp
                      go_at_call 17
                      (with_reducible refine (down_any 51 7 _ _ (u * pk) aln _ hO_46.out NY_46.out AP.out.1 (by omega) (by omega)).mono ?_)
                      rintro e w_47 ⟨vq, vr, hz, hz2, rfl, b_47⟩
                      replace b_47 := Lib.hid b_47
                      have Y_47 := Lib.hid (boxAt_below (Y_46.out) b_47.out); have U_47 := Lib.hid (boxAt_below (U_46.out) b_47.out); have NY_47 := Lib.hid (num_below (NY_46.out) b_47.out); have NU_47 := Lib.hid (num_below (NU_46.out) b_47.out); have V_47 := Lib.hid (num_below (V_46.out) b_47.out); have F_47 := Lib.hid (boxAt_below (F_46.out) b_47.out); have O_47 := Lib.hid (num_below (hO_46.out) b_47.out); clear Y_46 U_46 NY_46 NU_46 V_46 F_46 hO_46
                      have d_47 := Lib.hid (bt d_46.out b_47.out)
                      clear b_47
                      obtain ⟨qb9, qa9, qn9, qc9, rfl⟩ := num_agg hz
                      obtain ⟨rb9, ra9, rn9, rc9, rfl⟩ := num_agg hz2
                      have hQ_47 := Lib.hid hz
                      clear hz hz2
                      refine hK.out _ _ ⟨U_47.out.c0, U_47.out.c1, Y_47.out.c0, Y_47.out.c1⟩ (fun HS1 => ?_)
                      clear hK HS0; have HS0 := HS1; clear HS1
                      (refine wpAnyH_take (i := 7) (v := ?_) rfl (by kernel_rfl) (by kernel_rfl) (by kernel_rfl) (fun _ _ _ h => h) (Or.inl ⟨by rfl, ?_⟩) HS0 ?_; case refine_2 => (intro w hSw; (try dsimp only at hSw); go_simp; try with_reducible rfl); try simp only [Act.put, List.setIfInBounds_toArray, List.set_cons_zero, List.set_cons_succ])
                      (refine wpAnyH_take (i := 8) (v := ?_) rfl (by kernel_rfl) (by kernel_rfl) (by kernel_rfl) (fun _ _ _ h => h) (Or.inl ⟨by rfl, ?_⟩) HS0 ?_; case refine_2 => (intro w hSw; (try dsimp only at hSw); go_simp; try with_reducible rfl); try simp only [Act.put, List.setIfInBounds_toArray, List.set_cons_zero, List.set_cons_succ])
                      (refine wpAnyH_take (i := 9) (v := ?_) rfl (by kernel_rfl) (by kernel_rfl) (by kernel_rfl) (fun _ _ _ h => h) (Or.inl ⟨by rfl, ?_⟩) HS0 ?_; case refine_2 => (intro w hSw; (try dsimp only at hSw); go_simp; try with_reducible rfl); try simp only [Act.put, List.setIfInBounds_toArray, List.set_cons_zero, List.set_cons_succ])
                      refine wpAnyH_ready (rs := [10]) (by kernel_rfl) (by simp) ?_
                      refine (AllReadyH.cons (o := _) rfl (fun K hK => ?_) AllReadyH.nil)
                      go_simp
                      have ba_48 := Lib.hid (ba w_47 (.cells #[.bool false, .slice none 0 0] 33))
                      have m_48_F : Hid (i_F < w_47.heap.size) := (Array.getElem?_eq_some_iff.1 F_47.out).1
                      have Y_48 := Lib.hid (boxAt_below (Y_47.out) ba_48.out); have U_48 := Lib.hid (boxAt_below (U_47.out) ba_48.out); have NY_48 := Lib.hid (num_below (NY_47.out) ba_48.out); have NU_48 := Lib.hid (num_below (NU_47.out) ba_48.out); have V_48 := Lib.hid (num_below (V_47.out) ba_48.out); have F_48 := Lib.hid (boxAt_below (F_47.out) ba_48.out); have O_48 := Lib.hid (num_below (O_47.out) ba_48.out); have Q_48 := Lib.hid (num_below (hQ_47.out) ba_48.out); clear Y_47 U_47 NY_47 NU_47 V_47 F_47 O_47 hQ_47
                      have E_48 := Lib.hid (boxAt_new w_47 (.bool false) (.slice none 0 0))
                      have l_48 : Hid (w6.heap.size ≤ w_47.heap.size) := d_47.out.size
                      have d_48 := Lib.hid (bt d_47.out ba_48.out)
                      obtain ⟨i_E, hi_48⟩ : ∃ m, Hid (w_47.heap.size = m) := ⟨_, rfl⟩
                      obtain ⟨w_48, hw_48⟩ : ∃ v, Hid (v = w_47.alloc (.cells #[.bool false, .slice none 0 0] 33)) := ⟨_, rfl⟩
                      refine hK.out _ _ ⟨U_48.out.c0, U_48.out.c1, Y_48.out.c0, Y_48.out.c1⟩ (fun HS1 => ?_)
                      clear hK HS0; have HS0 := HS1; clear HS1
                      rw [← hw_48.out] at HS0 d_48 Y_48 U_48 NY_48 NU_48 V_48 F_48 O_48 Q_48 E_48 ⊢
                      rw [hi_48.out] at E_48 l_48 m_48_F ⊢
                      clear hw_48 hi_48 ba_48
                      refine wpAnyH_ready (rs := [12]) (by kernel_rfl) (by simp) ?_
                      refine (AllReadyH.cons (o := _) rfl (fun K hK => ?_) AllReadyH.nil)
                      have xc0 := E_48.out.c0; have xf0 := E_48.out.f0
                      have xc1 := E_48.out.c1; have xf1 := E_48.out.f1
                      go_simp
                      clear xc0 xf0 xc1 xf1
                      have Y_49 := Lib.hid (boxAt_set_other 1 (.slice qa9 qn9 qc9) (boxAt_set_other 0 (.bool qb9) (Y_48.out) (show iW ≠ i_E by have h1 := lt_Y.out; have h2 := l_48.out; omega)) (show iW ≠ i_E by have h1 := lt_Y.out; have h2 := l_48.out; omega))
                      clear Y_48
                      have U_49 := Lib.hid (boxAt_set_other 1 (.slice qa9 qn9 qc9) (boxAt_set_other 0 (.bool qb9) (U_48.out) (show iU ≠ i_E by have h1 := lt_U.out; have h2 := l_48.out; omega)) (show iU ≠ i_E by have h1 := lt_U.out; have h2 := l_48.out; omega))
                      clear U_48
                      have NY_49 := Lib.hid (num_set2 (.bool qb9) (.slice qa9 qn9 qc9) (NY_48.out) E_48.out)
                      clear NY_48
                      have NU_49 := Lib.hid (num_set2 (.bool qb9) (.slice qa9 qn9 qc9) (NU_48.out) E_48.out)
                      clear NU_48
                      have V_49 := Lib.hid (num_set2 (.bool qb9) (.slice qa9 qn9 qc9) (V_48.out) E_48.out)
                      clear V_48
                      have F_49 := Lib.hid (boxAt_set_other 1 (.slice qa9 qn9 qc9) (boxAt_set_other 0 (.bool qb9) (F_48.out) (show i_F ≠ i_E by have h1 := m_48_F.out; omega)) (show i_F ≠ i_E by have h1 := m_48_F.out; omega))
                      clear F_48
                      have O_49 := Lib.hid (num_set2 (.bool qb9) (.slice qa9 qn9 qc9) (O_48.out) E_48.out)
                      clear O_48
                      have Q_49 := Lib.hid (num_set2 (.bool qb9) (.slice qa9 qn9 qc9) (Q_48.out) E_48.out)
                      clear Q_48
                      have E_49 := Lib.hid (boxAt_set2 (.bool qb9) (.slice qa9 qn9 qc9) (E_48.out))
                      have d_49 : Hid (Below w6.heap.size w6 ((w_48.setCell ⟨i_E, 0, none⟩ (.bool qb9)).setCell ⟨i_E, 1, none⟩ (.slice qa9 qn9 qc9))) := (Below.setCell (p := ⟨i_E, 1, none⟩) (Below.setCell (p := ⟨i_E, 0, none⟩) d_48.out (l_48.out) (.bool qb9)) (l_48.out) (.slice qa9 qn9 qc9))
                      clear E_48
                      refine hK.out _ _ ⟨U_49.out.c0, U_49.out.c1, Y_49.out.c0, Y_49.out.c1⟩ (fun HS1 => ?_)
                      clear hK HS0; have HS0 := HS1; clear HS1
                      refine wpAnyH_ready (rs := [13]) (by kernel_rfl) (by simp) ?_
                      refine (AllReadyH.cons (o := _) rfl (fun K hK => ?_) AllReadyH.nil)
                      have xc0 := F_49.out.c0; have xf0 := F_49.out.f0
                      have xc1 := F_49.out.c1; have xf1 := F_49.out.f1
                      go_simp
                      clear xc0 xf0 xc1 xf1
                      have Y_50 := Lib.hid (boxAt_set_other 1 (.slice ra9 rn9 rc9) (boxAt_set_other 0 (.bool rb9) (Y_49.out) (show iW ≠ i_F by have h1 := lt_Y.out; have h2 := l_45.out; omega)) (show iW ≠ i_F by have h1 := lt_Y.out; have h2 := l_45.out; omega))
                      clear Y_49
                      have U_50 := Lib.hid (boxAt_set_other 1 (.slice ra9 rn9 rc9) (boxAt_set_other 0 (.bool rb9) (U_49.out) (show iU ≠ i_F by have h1 := lt_U.out; have h2 := l_45.out; omega)) (show iU ≠ i_F by have h1 := lt_U.out; have h2 := l_45.out; omega))
                      clear U_49
                      have NY_50 := Lib.hid (num_set2 (.bool rb9) (.slice ra9 rn9 rc9) (NY_49.out) F_49.out)
                      clear NY_49
                      have NU_50 := Lib.hid (num_set2 (.bool rb9) (.slice ra9 rn9 rc9) (NU_49.out) F_49.out)
                      clear NU_49
                      have V_50 := Lib.hid (num_set2 (.bool rb9) (.slice ra9 rn9 rc9) (V_49.out) F_49.out)
                      clear V_49
                      have O_50 := Lib.hid (num_set2 (.bool rb9) (.slice ra9 rn9 rc9) (O_49.out) F_49.out)
                      clear O_49
                      have Q_50 := Lib.hid (num_set2 (.bool rb9) (.slice ra9 rn9 rc9) (Q_49.out) F_49.out)
                      clear Q_49
                      have E_50 := Lib.hid (boxAt_set_other 1 (.slice ra9 rn9 rc9) (boxAt_set_other 0 (.bool rb9) (E_49.out) (show i_E ≠ i_F by have h1 := m_48_F.out; omega)) (show i_E ≠ i_F by have h1 := m_48_F.out; omega))
                      clear E_49
                      have F_50 := Lib.hid (boxAt_set2 (.bool rb9) (.slice ra9 rn9 rc9) (F_49.out))
                      have d_50 : Hid (Below w6.heap.size w6 ((((w_48.setCell ⟨i_E, 0, none⟩ (.bool qb9)).setCell ⟨i_E, 1, none⟩ (.slice qa9 qn9 qc9)).setCell ⟨i_F, 0, none⟩ (.bool rb9)).setCell ⟨i_F, 1, none⟩ (.slice ra9 rn9 rc9))) := (Below.setCell (p := ⟨i_F, 1, none⟩) (Below.setCell (p := ⟨i_F, 0, none⟩) d_49.out (l_45.out) (.bool rb9)) (l_45.out) (.slice ra9 rn9 rc9))
                      clear F_49
                      refine hK.out _ _ ⟨U_50.out.c0, U_50.out.c1, Y_50.out.c0, Y_50.out.c1⟩ (fun HS1 => ?_)
                      clear hK HS0; have HS0 := HS1; clear HS1
                      refine wpAnyH_done (by kernel_rfl) ?_ _
                      dsimp only [Exit.then]
                      refine ‹∀ (a' : Act) (w' : World), Met _ a' w' → _› _ _ ?_
                      go_meet
                      case rel => exact ⟨_, _, _, _, _, rfl, l_48.out, E_50.out, Q_50.out, d_50.out⟩
                    · skip
                      go_simp
                      have ba_51 := Lib.hid (ba w_46 (.cells #[.bool false, .slice none 0 0] 33))
                      have m_51_F : Hid (i_F < w_46.heap.size) := (Array.getElem?_eq_some_iff.1 F_46.out).1
                      have Y_51 := Lib.hid (boxAt_below (Y_46.out) ba_51.out); have U_51 := Lib.hid (boxAt_below (U_46.out) ba_51.out); have NY_51 := Lib.hid (num_below (NY_46.out) ba_51.out); have NU_51 := Lib.hid (num_below (NU_46.out) ba_51.out); have V_51 := Lib.hid (num_below (V_46.out) ba_51.out); have F_51 := Lib.hid (boxAt_below (F_46.out) ba_51.out); have O_51 := Lib.hid (num_below (hO_46.out) ba_51.out); clear Y_46 U_46 NY_46 NU_46 V_46 F_46 hO_46
                      have E_51 := Lib.hid (boxAt_new w_46 (.bool false) (.slice none 0 0))
                      have l_51 : Hid (w6.heap.size ≤ w_46.heap.size) := d_46.out.size
                      have d_51 := Lib.hid (bt d_46.out ba_51.out)
                      obtain ⟨i_E, hi_51⟩ : ∃ m, Hid (w_46.heap.size = m) := ⟨_, rfl⟩
                      obtain ⟨w_51, hw_51⟩ : ∃ v, Hid (v = w_46.alloc (.cells #[.bool false, .slice none 0 0] 33)) := ⟨_, rfl⟩
                      refine hK.out _ _ ⟨U_51.out.c0, U_51.out.c1, Y_51.out.c0, Y_51.out.c1⟩ (fun HS1 => ?_)
                      clear hK HS0; have HS0 := HS1; clear HS1
                      rw [← hw_51.out] at HS0 d_51 Y_51 U_51 NY_51 NU_51 V_51 F_51 O_51 E_51 ⊢
                      rw [hi_51.out] at E_51 l_51 m_51_F ⊢
                      clear hw_51 hi_51 ba_51
                      refine wpAnyH_ready (rs := [6]) (by kernel_rfl) (by simp) ?_
                      refine (AllReadyH.cons (o := _) rfl (fun K hK => ?_) AllReadyH.nil)
                      go_simp
                      go_at_call 17
                      (with_reducible refine (down_any 51 7 _ _ (u * pk) aln _ O_51.out NY_51.out AP.out.1 (by omega) (by omega)).mono ?_)
                      rintro e w_52 ⟨vq, vr, hz, hz2, rfl, b_52⟩
                      replace b_52 := Lib.hid b_52
                      have Y_52 := Lib.hid (boxAt_below (Y_51.out) b_52.out); have U_52 := Lib.hid (boxAt_below (U_51.out) b_52.out); have NY_52 := Lib.hid (num_below (NY_51.out) b_52.out); have NU_52 := Lib.hid (num_below (NU_51.out) b_52.out); have V_52 := Lib.hid (num_below (V_51.out) b_52.out); have F_52 := Lib.hid (boxAt_below (F_51.out) b_52.out); have O_52 := Lib.hid (num_below (O_51.out) b_52.out); have E_52 := Lib.hid (boxAt_below (E_51.out) b_52.out); clear Y_51 U_51 NY_51 NU_51 V_51 F_51 O_51 E_51
                      have d_52 := Lib.hid (bt d_51.out b_52.out)
                      clear b_52
                      obtain ⟨qb9, qa9, qn9, qc9, rfl⟩ := num_agg hz
                      obtain ⟨rb9, ra9, rn9, rc9, rfl⟩ := num_agg hz2
                      have hQ_52 := Lib.hid hz
                      clear hz hz2
                      refine hK.out _ _ ⟨U_52.out.c0, U_52.out.c1, Y_52.out.c0, Y_52.out.c1⟩ (fun HS1 => ?_)
                      clear hK HS0; have HS0 := HS1; clear HS1
                      (refine wpAnyH_take (i := 7) (v := ?_) rfl (by kernel_rfl) (by kernel_rfl) (by kernel_rfl) (fun _ _ _ h => h) (Or.inl ⟨by rfl, ?_⟩) HS0 ?_; case refine_2 => (intro w hSw; (try dsimp only at hSw); go_simp; try with_reducible rfl); try simp only [Act.put, List.setIfInBounds_toArray, List.set_cons_zero, List.set_cons_succ])
                      (refine wpAnyH_take (i := 8) (v := ?_) rfl (by kernel_rfl) (by kernel_rfl) (by kernel_rfl) (fun _ _ _ h => h) (Or.inl ⟨by rfl, ?_⟩) HS0 ?_; case refine_2 => (intro w hSw; (try dsimp only at hSw); go_simp; try with_reducible rfl); try simp only [Act.put, List.setIfInBounds_toArray, List.set_cons_zero, List.set_cons_succ])
                      (refine wpAnyH_take (i := 9) (v := ?_) rfl (by kernel_rfl) (by kernel_rfl) (by kernel_rfl) (fun _ _ _ h => h) (Or.inl ⟨by rfl, ?_⟩) HS0 ?_; case refine_2 => (intro w hSw; (try dsimp only at hSw); go_simp; try with_reducible rfl); try simp only [Act.put, List.setIfInBounds_toArray, List.set_cons_zero, List.set_cons_succ])
                      refine wpAnyH_ready (rs := [12]) (by kernel_rfl) (by simp) ?_
                      refine (AllReadyH.cons (o := _) rfl (fun K hK => ?_) AllReadyH.nil)
                      have xc0 := E_52.out.c0; have xf0 := E_52.out.f0
                      have xc1 := E_52.out.c1; have xf1 := E_52.out.f1
                      go_simp
                      clear xc0 xf0 xc1 xf1
                      have Y_53 := Lib.hid (boxAt_set_other 1 (.slice qa9 qn9 qc9) (boxAt_set_other 0 (.bool qb9) (Y_52.out) (show iW ≠ i_E by have h1 := lt_Y.out; have h2 := l_51.out; omega)) (show iW ≠ i_E by have h1 := lt_Y.out; have h2 := l_51.out; omega))
                      clear Y_52
                      have U_53 := Lib.hid (boxAt_set_other 1 (.slice qa9 qn9 qc9) (boxAt_set_other 0 (.bool qb9) (U_52.out) (show iU ≠ i_E by have h1 := lt_U.out; have h2 := l_51.out; omega)) (show iU ≠ i_E by have h1 := lt_U.out; have h2 := l_51.out; omega))
                      clear U_52
                      have NY_53 := Lib.hid (num_set2 (.bool qb9) (.slice qa9 qn9 qc9) (NY_52.out) E_52.out)
                      clear NY_52
                      have NU_53 := Lib.hid (num_set2 (.bool qb9) (.slice qa9 qn9 qc9) (NU_52.out) E_52.out)
                      clear NU_52
                      have V_53 := Lib.hid (num_set2 (.bool qb9) (.slice qa9 qn9 qc9) (V_52.out) E_52.out)
                      clear V_52
                      have F_53 := Lib.hid (boxAt_set_other 1 (.slice qa9 qn9 qc9) (boxAt_set_other 0 (.bool qb9) (F_52.out) (show i_F ≠ i_E by have h1 := m_51_F.out; omega)) (show i_F ≠ i_E by have h1 := m_51_F.out; omega))
                      clear F_52
                      have O_53 := Lib.hid (num_set2 (.bool qb9) (.slice qa9 qn9 qc9) (O_52.out) E_52.out)
                      clear O_52
                      have Q_53 := Lib.hid (num_set2 (.bool qb9) (.slice qa9 qn9 qc9) (hQ_52.out) E_52.out)
                      clear hQ_52
                      have E_53 := Lib.hid (boxAt_set2 (.bool qb9) (.slice qa9 qn9 qc9) (E_52.out))
                      have d_53 : Hid (Below w6.heap.size w6 ((w_52.setCell ⟨i_E, 0, none⟩ (.bool qb9)).setCell ⟨i_E, 1, none⟩ (.slice qa9 qn9 qc9))) := (Below.setCell (p := ⟨i_E, 1, none⟩) (Below.setCell (p := ⟨i_E, 0, none⟩) d_52.out (l_51.out) (.bool qb9)) (l_51.out) (.slice qa9 qn9 qc9))
                      clear E_52
                      refine hK.out _ _ ⟨U_53.out.c0, U_53.out.c1, Y_53.out.c0, Y_53.out.c1⟩ (fun HS1 => ?_)
                      clear hK HS0; have HS0 := HS1; clear HS1
                      refine wpAnyH_ready (rs := [13]) (by kernel_rfl) (by simp) ?_
                      refine (AllReadyH.cons (o := _) rfl (fun K hK => ?_) AllReadyH.nil)
                      have xc0 := F_53.out.c0; have xf0 := F_53.out.f0
                      have xc1 := F_53.out.c1; have xf1 := F_53.out.f1
                      go_simp
                      clear xc0 xf0 xc1 xf1
                      have Y_54 := Lib.hid (boxAt_set_other 1 (.slice ra9 rn9 rc9) (boxAt_set_other 0 (.bool rb9) (Y_53.out) (show iW ≠ i_F by have h1 := lt_Y.out; have h2 := l_45.out; omega)) (show iW ≠ i_F by have h1 := lt_Y.out; have h2 := l_45.out; omega))
                      clear Y_53
                      have U_54 := Lib.hid (boxAt_set_other 1 (.slice ra9 rn9 rc9) (boxAt_set_other 0 (.bool rb9) (U_53.out) (show iU ≠ i_F by have h1 := lt_U.out; have h2 := l_45.out; omega)) (show iU ≠ i_F by have h1 := lt_U.out; have h2 := l_45.out; omega))
                      clear U_53
                      have NY_54 := Lib.hid (num_set2 (.bool rb9) (.slice ra9 rn9 rc9) (NY_53.out) F_53.out)
                      clear NY_53
                      have NU_54 := Lib.hid (num_set2 (.bool rb9) (.slice ra9 rn9 rc9) (NU_53.out) F_53.out)
                      clear NU_53
                      have V_54 := Lib.hid (num_set2 (.bool rb9) (.slice ra9 rn9 rc9) (V_53.out) F_53.out)
                      clear V_53
                      have O_54 := Lib.hid (num_set2 (.bool rb9) (.slice ra9 rn9 rc9) (O_53.out) F_53.out)
                      clear O_53
                      have E_54 := Lib.hid (boxAt_set_other 1 (.slice ra9 rn9 rc9) (boxAt_set_other 0 (.bool rb9) (E_53.out) (show i_E ≠ i_F by have h1 := m_51_F.out; omega)) (show i_E ≠ i_F by have h1 := m_51_F.out; omega))
                      clear E_53
                      have Q_54 := Lib.hid (num_set2 (.bool rb9) (.slice ra9 rn9 rc9) (Q_53.out) F_53.out)
                      clear Q_53
                      have F_54 := Lib.hid (boxAt_set2 (.bool rb9) (.slice ra9 rn9 rc9) (F_53.out))
                      have d_54 : Hid (Below w6.heap.size w6 ((((w_52.setCell ⟨i_E, 0, none⟩ (.bool qb9)).setCell ⟨i_E, 1, none⟩ (.slice qa9 qn9 qc9)).setCell ⟨i_F, 0, none⟩ (.bool rb9)).setCell ⟨i_F, 1, none⟩ (.slice ra9 rn9 rc9))) := (Below.setCell (p := ⟨i_F, 1, none⟩) (Below.setCell (p := ⟨i_F, 0, none⟩) d_53.out (l_45.out) (.bool rb9)) (l_45.out) (.slice ra9 rn9 rc9))
                      clear F_53
                      refine hK.out _ _ ⟨U_54.out.c0, U_54.out.c1, Y_54.out.c0, Y_54.out.c1⟩ (fun HS1 => ?_)
                      clear hK HS0; have HS0 := HS1; clear HS1
                      refine wpAnyH_done (by kernel_rfl) ?_ _
                      dsimp only [Exit.then]
                      refine ‹∀ (a' : Act) (w' : World), Met _ a' w' → _› _ _ ?_
                      go_meet
                      case rel => exact ⟨_, _, _, _, _, rfl, l_51.out, E_54.out, Q_54.out, d_54.out⟩
                  · skip
                    go_simp
                    have ba_55 := Lib.hid (ba w_45 (.cells #[.bool false, .slice none 0 0] 33))
                    have m_55_F : Hid (i_F < w_45.heap.size) := (Array.getElem?_eq_some_iff.1 F_45.out).1
                    have Y_55 := Lib.hid (boxAt_below (Y_45.out) ba_55.out); have U_55 := Lib.hid (boxAt_below (U_45.out) ba_55.out); have NY_55 := Lib.hid (num_below (NY_45.out) ba_55.out); have NU_55 := Lib.hid (num_below (NU_45.out) ba_55.out); have V_55 := Lib.hid (num_below (V_45.out) ba_55.out); have F_55 := Lib.hid (boxAt_below (F_45.out) ba_55.out); clear Y_45 U_45 NY_45 NU_45 V_45 F_45
                    have E_55 := Lib.hid (boxAt_new w_45 (.bool false) (.slice none 0 0))
                    have l_55 : Hid (w6.heap.size ≤ w_45.heap.size) := d_45.out.size
                    have d_55 := Lib.hid (bt d_45.out ba_55.out)
                    obtain ⟨i_E, hi_55⟩ : ∃ m, Hid (w_45.heap.size = m) := ⟨_, rfl⟩
                    obtain ⟨w_55, hw_55⟩ : ∃ v, Hid (v = w_45.alloc (.cells #[.bool false, .slice none 0 0] 33)) := ⟨_, rfl⟩
                    refine hK.out _ _ ⟨U_55.out.c0, U_55.out.c1, Y_55.out.c0, Y_55.out.c1⟩ (fun HS1 => ?_)
                    clear hK HS0; have HS0 := HS1; clear HS1
                    rw [← hw_55.out] at HS0 d_55 Y_55 U_55 NY_55 NU_55 V_55 F_55 E_55 ⊢
                    rw [hi_55.out] at E_55 l_55 m_55_F ⊢
                    clear hw_55 hi_55 ba_55
                    refine wpAnyH_ready (rs := [4]) (by kernel_rfl) (by simp) ?_
                    refine (AllReadyH.cons (o := _) rfl (fun K hK => ?_) AllReadyH.nil)
                    go_simp
                    go_at_call 14
                    (with_reducible refine (mul_any 44 7 _ _ u pk _ NU_55.out V_55.out (by omega) (by omega)).mono ?_)
                    rintro e w_56 ⟨v_56, hz, rfl, b_56⟩
                    replace b_56 := Lib.hid b_56
                    have Y_56 := Lib.hid (boxAt_below (Y_55.out) b_56.out); have U_56 := Lib.hid (boxAt_below (U_55.out) b_56.out); have NY_56 := Lib.hid (num_below (NY_55.out) b_56.out); have NU_56 := Lib.hid (num_below (NU_55.out) b_56.out); have V_56 := Lib.hid (num_below (V_55.out) b_56.out); have F_56 := Lib.hid (boxAt_below (F_55.out) b_56.out); have E_56 := Lib.hid (boxAt_below (E_55.out) b_56.out); clear Y_55 U_55 NY_55 NU_55 V_55 F_55 E_55
                    have d_56 := Lib.hid (bt d_55.out b_56.out)
                    clear b_56
                    have hO_56 := Lib.hid hz
                    clear hz
                    refine hK.out _ _ ⟨U_56.out.c0, U_56.out.c1, Y_56.out.c0, Y_56.out.c1⟩ (fun HS1 => ?_)
                    clear hK HS0; have HS0 := HS1; clear HS1
                    refine wpAnyH_ready (rs := [6]) (by kernel_rfl) (by simp) ?_
                    refine (AllReadyH.cons (o := _) rfl (fun K hK => ?_) AllReadyH.nil)
                    go_simp
                    go_at_call 17
                    (with_reducible refine (down_any 51 7 _ _ (u * pk) aln _ hO_56.out NY_56.out AP.out.1 (by omega) (by omega)).mono ?_)
                    rintro e w_57 ⟨vq, vr, hz, hz2, rfl, b_57⟩
                    replace b_57 := Lib.hid b_57
                    have Y_57 := Lib.hid (boxAt_below (Y_56.out) b_57.out); have U_57 := Lib.hid (boxAt_below (U_56.out) b_57.out); have NY_57 := Lib.hid (num_below (NY_56.out) b_57.out); have NU_57 := Lib.hid (num_below (NU_56.out) b_57.out); have V_57 := Lib.hid (num_below (V_56.out) b_57.out); have F_57 := Lib.hid (boxAt_below (F_56.out) b_57.out); have E_57 := Lib.hid (boxAt_below (E_56.out) b_57.out); have O_57 := Lib.hid (num_below (hO_56.out) b_57.out); clear Y_56 U_56 NY_56 NU_56 V_56 F_56 E_56 hO_56
                    have d_57 := Lib.hid (bt d_56.out b_57.out)
                    clear b_57
                    obtain ⟨qb9, qa9, qn9, qc9, rfl⟩ := num_agg hz
                    obtain ⟨rb9, ra9, rn9, rc9, rfl⟩ := num_agg hz2
                    have hQ_57 := Lib.hid hz
                    clear hz hz2
                    refine hK.out _ _ ⟨U_57.out.c0, U_57.out.c1, Y_57.out.c0, Y_57.out.c1⟩ (fun HS1 => ?_)
                    clear hK HS0; have HS0 := HS1; clear HS1
                    (refine wpAnyH_take (i := 7) (v := ?_) rfl (by kernel_rfl) (by kernel_rfl) (by kernel_rfl) (fun _ _ _ h => h) (Or.inl ⟨by rfl, ?_⟩) HS0 ?_; case refine_2 => (intro w hSw; (try dsimp only at hSw); go_simp; try with_reducible rfl); try simp only [Act.put, List.setIfInBounds_toArray, List.set_cons_zero, List.set_cons_succ])
                    (refine wpAnyH_take (i := 8) (v := ?_) rfl (by kernel_rfl) (by kernel_rfl) (by kernel_rfl) (fun _ _ _ h => h) (Or.inl ⟨by rfl, ?_⟩) HS0 ?_; case refine_2 => (intro w hSw; (try dsimp only at hSw); go_simp; try with_reducible rfl); try simp only [Act.put, List.setIfInBounds_toArray, List.set_cons_zero, List.set_cons_succ])
                    (refine wpAnyH_take (i := 9) (v := ?_) rfl (by kernel_rfl) (by kernel_rfl) (by kernel_rfl) (fun _ _ _ h => h) (Or.inl ⟨by rfl, ?_⟩) HS0 ?_; case refine_2 => (intro w hSw; (try dsimp only at hSw); go_simp; try with_reducible rfl); try simp only [Act.put, List.setIfInBounds_toArray, List.set_cons_zero, List.set_cons_succ])
                    refine wpAnyH_ready (rs := [12]) (by kernel_rfl) (by simp) ?_
                    refine (AllReadyH.cons (o := _) rfl (fun K hK => ?_) AllReadyH.nil)
                    have xc0 := E_57.out.c0; have xf0 := E_57.out.f0
                    have xc1 := E_57.out.c1; have xf1 := E_57.out.f1
                    go_simp
                    clear xc0 xf0 xc1 xf1
                    have Y_58 := Lib.hid (boxAt_set_other 1 (.slice qa9 qn9 qc9) (boxAt_set_other 0 (.bool qb9) (Y_57.out) (show iW ≠ i_E by have h1 := lt_Y.out; have h2 := l_55.out; omega)) (show iW ≠ i_E by have h1 := lt_Y.out; have h2 := l_55.out; omega))
                    clear Y_57
                    have U_58 := Lib.hid (boxAt_set_other 1 (.slice qa9 qn9 qc9) (boxAt_set_other 0 (.bool qb9) (U_57.out) (show iU ≠ i_E by have h1 := lt_U.out; have h2 := l_55.out; omega)) (show iU ≠ i_E by have h1 := lt_U.out; have h2 := l_55.out; omega))
                    clear U_57
                    have NY_58 := Lib.hid (num_set2 (.bool qb9) (.slice qa9 qn9 qc9) (NY_57.out) E_57.out)
                    clear NY_57
                    have NU_58 := Lib.hid (num_set2 (.bool qb9) (.slice qa9 qn9 qc9) (NU_57.out) E_57.out)
                    clear NU_57
                    have V_58 := Lib.hid (num_set2 (.bool qb9) (.slice qa9 qn9 qc9) (V_57.out) E_57.out)
                    clear V_57
                    have F_58 := Lib.hid (boxAt_set_other 1 (.slice qa9 qn9 qc9) (boxAt_set_other 0 (.bool qb9) (F_57.out) (show i_F ≠ i_E by have h1 := m_55_F.out; omega)) (show i_F ≠ i_E by have h1 := m_55_F.out; omega))
                    clear F_57
                    have O_58 := Lib.hid (num_set2 (.bool qb9) (.slice qa9 qn9 qc9) (O_57.out) E_57.out)
                    clear O_57
                    have Q_58 := Lib.hid (num_set2 (.bool qb9) (.slice qa9 qn9 qc9) (hQ_57.out) E_57.out)
                    clear hQ_57
                    have E_58 := Lib.hid (boxAt_set2 (.bool qb9) (.slice qa9 qn9 qc9) (E_57.out))
                    have d_58 : Hid (Below w6.heap.size w6 ((w_57.setCell ⟨i_E, 0, none⟩ (.bool qb9)).setCell ⟨i_E, 1, none⟩ (.slice qa9 qn9 qc9))) := (Below.setCell (p := ⟨i_E, 1, none⟩) (Below.setCell (p := ⟨i_E, 0, none⟩) d_57.out (l_55.out) (.bool qb9)) (l_55.out) (.slice qa9 qn9 qc9))
                    clear E_57
                    refine hK.out _ _ ⟨U_58.out.c0, U_58.out.c1, Y_58.out.c0, Y_58.out.c1⟩ (fun HS1 => ?_)
                    clear hK HS0; have HS0 := HS1; clear HS1
                    refine wpAnyH_ready (rs := [13]) (by kernel_rfl) (by simp) ?_
                    refine (AllReadyH.cons (o := _) rfl (fun K hK => ?_) AllReadyH.nil)
                    have xc0 := F_58.out.c0; have xf0 := F_58.out.f0
                    have xc1 := F_58.out.c1; have xf1 := F_58.out.f1
                    go_simp
                    clear xc0 xf0 xc1 xf1
                    have Y_59 := Lib.hid (boxAt_set_other 1 (.slice ra9 rn9 rc9) (boxAt_set_other 0 (.bool rb9) (Y_58.out) (show iW ≠ i_F by have h1 := lt_Y.out; have h2 := l_45.out; omega)) (show iW ≠ i_F by have h1 := lt_Y.out; have h2 := l_45.out; omega))
                    clear Y_58
                    have U_59 := Lib.hid (boxAt_set_other 1 (.slice ra9 rn9 rc9) (boxAt_set_other 0 (.bool rb9) (U_58.out) (show iU ≠ i_F by have h1 := lt_U.out; have h2 := l_45.out; omega)) (show iU ≠ i_F by have h1 := lt_U.out; have h2 := l_45.out; omega))
                    clear U_58
                    have NY_59 := Lib.hid (num_set2 (.bool rb9) (.slice ra9 rn9 rc9) (NY_58.out) F_58.out)
                    clear NY_58
                    have NU_59 := Lib.hid (num_set2 (.bool rb9) (.slice ra9 rn9 rc9) (NU_58.out) F_58.out)
                    clear NU_58
                    have V_59 := Lib.hid (num_set2 (.bool rb9) (.slice ra9 rn9 rc9) (V_58.out) F_58.out)
                    clear V_58
                    have E_59 := Lib.hid (boxAt_set_other 1 (.slice ra9 rn9 rc9) (boxAt_set_other 0 (.bool rb9) (E_58.out) (show i_E ≠ i_F by have h1 := m_55_F.out; omega)) (show i_E ≠ i_F by have h1 := m_55_F.out; omega))
                    clear E_58
                    have O_59 := Lib.hid (num_set2 (.bool rb9) (.slice ra9 rn9 rc9) (O_58.out) F_58.out)
                    clear O_58
                    have Q_59 := Lib.hid (num_set2 (.bool rb9) (.slice ra9 rn9 rc9) (Q_58.out) F_58.out)
                    clear Q_58
                    have F_59 := Lib.hid (boxAt_set2 (.bool rb9) (.slice ra9 rn9 rc9) (F_58.out))
                    have d_59 : Hid (Below w6.heap.size w6 ((((w_57.setCell ⟨i_E, 0, none⟩ (.bool qb9)).setCell ⟨i_E, 1, none⟩ (.slice qa9 qn9 qc9)).setCell ⟨i_F, 0, none⟩ (.bool rb9)).setCell ⟨i_F, 1, none⟩ (.slice ra9 rn9 rc9))) := (Below.setCell (p := ⟨i_F, 1, none⟩) (Below.setCell (p := ⟨i_F, 0, none⟩) d_58.out (l_45.out) (.bool rb9)) (l_45.out) (.slice ra9 rn9 rc9))
                    clear F_58
                    refine hK.out _ _ ⟨U_59.out.c0, U_59.out.c1, Y_59.out.c0, Y_59.out.c1⟩ (fun HS1 => ?_)
                    clear hK HS0; have HS0 := HS1; clear HS1
                    refine wpAnyH_done (by kernel_rfl) ?_ _
                    dsimp only [Exit.then]
                    refine ‹∀ (a' : Act) (w' : World), Met _ a' w' → _› _ _ ?_
                    go_meet
                    case rel => exact ⟨_, _, _, _, _, rfl, l_55.out, E_59.out, Q_59.out, d_59.out⟩
              · skip
                go_simp
                have ba_60 := Lib.hid (ba w_0 (.cells #[.bool false, .slice none 0 0] 33))
                have Y_60 := Lib.hid (boxAt_below (Y_0.out) ba_60.out); have U_60 := Lib.hid (boxAt_below (U_0.out) ba_60.out); have NY_60 := Lib.hid (num_below (NY_0.out) ba_60.out); have NU_60 := Lib.hid (num_below (NU_0.out) ba_60.out); clear Y_0 U_0 NY_0 NU_0
                have E_60 := Lib.hid (boxAt_new w_0 (.bool false) (.slice none 0 0))
                have l_60 : Hid (w6.heap.size ≤ w_0.heap.size) := DW.out.size
                have d_60 := Lib.hid (bt DW.out ba_60.out)
                obtain ⟨i_E, hi_60⟩ : ∃ m, Hid (w_0.heap.size = m) := ⟨_, rfl⟩
                obtain ⟨w_60, hw_60⟩ : ∃ v, Hid (v = w_0.alloc (.cells #[.bool false, .slice none 0 0] 33)) := ⟨_, rfl⟩
                refine hK.out _ _ ⟨U_60.out.c0, U_60.out.c1, Y_60.out.c0, Y_60.out.c1⟩ (fun HS1 => ?_)
                clear hK HS0; have HS0 := HS1; clear HS1
                rw [← hw_60.out] at HS0 d_60 Y_60 U_60 NY_60 NU_60 E_60 ⊢
                rw [hi_60.out] at E_60 l_60 ⊢
                clear hw_60 hi_60 ba_60
                refine wpAnyH_ready (rs := [3, 11]) (by kernel_rfl) (by simp) ?_
                refine (AllReadyH.cons (o := _) rfl (fun K hK => ?_) (AllReadyH.cons (o := _) rfl (fun K hK => ?_) AllReadyH.nil))
                · skip
                  go_simp
                  go_at_call 11
                  (with_reducible refine (word_any pk _ HPK.out.1 HPK.out.2).mono ?_)
                  rintro e w_61 ⟨v_61, hz, rfl, b_61⟩
                  replace b_61 := Lib.hid b_61
                  have Y_61 := Lib.hid (boxAt_below (Y_60.out) b_61.out); have U_61 := Lib.hid (boxAt_below (U_60.out) b_61.out); have NY_61 := Lib.hid (num_below (NY_60.out) b_61.out); have NU_61 := Lib.hid (num_below (NU_60.out) b_61.out); have E_61 := Lib.hid (boxAt_below (E_60.out) b_61.out); clear Y_60 U_60 NY_60 NU_60 E_60
                  have d_61 := Lib.hid (bt d_60.out b_61.out)
                  clear b_61
                  have hV_61 := Lib.hid hz
                  clear hz
                  refine hK.out _ _ ⟨U_61.out.c0, U_61.out.c1, Y_61.out.c0, Y_61.out.c1⟩ (fun HS1 => ?_)
                  clear hK HS0; have HS0 := HS1; clear HS1
                  refine wpAnyH_ready (rs := [4, 11]) (by kernel_rfl) (by simp) ?_
                  refine (AllReadyH.cons (o := _) rfl (fun K hK => ?_) (AllReadyH.cons (o := _) rfl (fun K hK => ?_) AllReadyH.nil))
                  · skip
                    go_simp
                    go_at_call 14
                    (with_reducible refine (mul_any 44 7 _ _ u pk _ NU_61.out hV_61.out (by omega) (by omega)).mono ?_)
                    rintro e w_62 ⟨v_62, hz, rfl, b_62⟩
                    replace b_62 := Lib.hid b_62
                    have Y_62 := Lib.hid (boxAt_below (Y_61.out) b_62.out); have U_62 := Lib.hid (boxAt_below (U_61.out) b_62.out); have NY_62 := Lib.hid (num_below (NY_61.out) b_62.out); have NU_62 := Lib.hid (num_below (NU_61.out) b_62.out); have E_62 := Lib.hid (boxAt_below (E_61.out) b_62.out); have V_62 := Lib.hid (num_below (hV_61.out) b_62.out); clear Y_61 U_61 NY_61 NU_61 E_61 hV_61
                    have d_62 := Lib.hid (bt d_61.out b_62.out)
                    clear b_62
                    have hO_62 := Lib.hid hz
                    clear hz
                    refine hK.out _ _ ⟨U_62.out.c0, U_62.out.c1, Y_62.out.c0, Y_62.out.c1⟩ (fun HS1 => ?_)
                    clear hK HS0; have HS0 := HS1; clear HS1
                    refine wpAnyH_ready (rs := [6, 11]) (by kernel_rfl) (by simp) ?_
                    refine (AllReadyH.cons (o := _) rfl (fun K hK => ?_) (AllReadyH.cons (o := _) rfl (fun K hK => ?_) AllReadyH.nil))
                    · skip
                      go_simp
                      go_at_call 17
                      (with_reducible refine (down_any 51 7 _ _ (u * pk) aln _ hO_62.out NY_62.out AP.out.1 (by omega) (by omega)).mono ?_)
                      rintro e w_63 ⟨vq, vr, hz, hz2, rfl, b_63⟩
                      replace b_63 := Lib.hid b_63
                      have Y_63 := Lib.hid (boxAt_below (Y_62.out) b_63.out); have U_63 := Lib.hid (boxAt_below (U_62.out) b_63.out); have NY_63 := Lib.hid (num_below (NY_62.out) b_63.out); have NU_63 := Lib.hid (num_below (NU_62.out) b_63.out); have E_63 := Lib.hid (boxAt_below (E_62.out) b_63.out); have V_63 := Lib.hid (num_below (V_62.out) b_63.out); have O_63 := Lib.hid (num_below (hO_62.out) b_63.out); clear Y_62 U_62 NY_62 NU_62 E_62 V_62 hO_62
                      have d_63 := Lib.hid (bt d_62.out b_63.out)
                      clear b_63
                      obtain ⟨qb9, qa9, qn9, qc9, rfl⟩ := num_agg hz
                      obtain ⟨rb9, ra9, rn9, rc9, rfl⟩ := num_agg hz2
                      have hQ_63 := Lib.hid hz
                      clear hz hz2
                      refine hK.out _ _ ⟨U_63.out.c0, U_63.out.c1, Y_63.out.c0, Y_63.out.c1⟩ (fun HS1 => ?_)
                      clear hK HS0; have HS0 := HS1; clear HS1
                      (refine wpAnyH_take (i := 7) (v := ?_) rfl (by kernel_rfl) (by kernel_rfl) (by kernel_rfl) (fun _ _ _ h => h) (Or.inl ⟨by rfl, ?_⟩) HS0 ?_; case refine_2 => (intro w hSw; (try dsimp only at hSw); go_simp; try with_reducible rfl); try simp only [Act.put, List.setIfInBounds_toArray, List.set_cons_zero, List.set_cons_succ])
                      (refine wpAnyH_take (i := 8) (v := ?_) rfl (by kernel_rfl) (by kernel_rfl) (by kernel_rfl) (fun _ _ _ h => h) (Or.inl ⟨by rfl, ?_⟩) HS0 ?_; case refine_2 => (intro w hSw; (try dsimp only at hSw); go_simp; try with_reducible rfl); try simp only [Act.put, List.setIfInBounds_toArray, List.set_cons_zero, List.set_cons_succ])
                      (refine wpAnyH_take (i := 9) (v := ?_) rfl (by kernel_rfl) (by kernel_rfl) (by kernel_rfl) (fun _ _ _ h => h) (Or.inl ⟨by rfl, ?_⟩) HS0 ?_; case refine_2 => (intro w hSw; (try dsimp only at hSw); go_simp; try with_reducible rfl); try simp only [Act.put, List.setIfInBounds_toArray, List.set_cons_zero, List.set_cons_succ])
                      refine wpAnyH_ready (rs := [11]) (by kernel_rfl) (by simp) ?_
                      refine (AllReadyH.cons (o := _) rfl (fun K hK => ?_) AllReadyH.nil)
                      go_simp
                      have ba_64 := Lib.hid (ba w_63 (.cells #[.bool false, .slice none 0 0] 33))
                      have m_64_E : Hid (i_E < w_63.heap.size) := (Array.getElem?_eq_some_iff.1 E_63.out).1
                      have Y_64 := Lib.hid (boxAt_below (Y_63.out) ba_64.out); have U_64 := Lib.hid (boxAt_below (U_63.out) ba_64.out); have NY_64 := Lib.hid (num_below (NY_63.out) ba_64.out); have NU_64 := Lib.hid (num_below (NU_63.out) ba_64.out); have E_64 := Lib.hid (boxAt_below (E_63.out) ba_64.out); have V_64 := Lib.hid (num_below (V_63.out) ba_64.out); have O_64 := Lib.hid (num_below (O_63.out) ba_64.out); have Q_64 := Lib.hid (num_below (hQ_63.out) ba_64.out); clear Y_63 U_63 NY_63 NU_63 E_63 V_63 O_63 hQ_63
                      have F_64 := Lib.hid (boxAt_new w_63 (.bool false) (.slice none 0 0))
                      have l_64 : Hid (w6.heap.size ≤ w_63.heap.size) := d_63.out.size
                      have d_64 := Lib.hid (bt d_63.out ba_64.out)
                      obtain ⟨i_F, hi_64⟩ : ∃ m, Hid (w_63.heap.size = m) := ⟨_, rfl⟩
                      obtain ⟨w_64, hw_64⟩ : ∃ v, Hid (v = w_63.alloc (.cells #[.bool false, .slice none 0 0] 33)) := ⟨_, rfl⟩
                      refine hK.out _ _ ⟨U_64.out.c0, U_64.out.c1, Y_64.out.c0, Y_64.out.c1⟩ (fun HS1 => ?_)
                      clear hK HS0; have HS0 := HS1; clear HS1
                      rw [← hw_64.out] at HS0 d_64 Y_64 U_64 NY_64 NU_64 E_64 V_64 O_64 Q_64 F_64 ⊢
                      rw [hi_64.out] at F_64 l_64 m_64_E ⊢
                      clear hw_64 hi_64 ba_64
                      refine wpAnyH_ready (rs := [12]) (by kernel_rfl) (by simp) ?_
                      refine (AllReadyH.cons (o := _) rfl (fun K hK => ?_) AllReadyH.nil)
                      have xc0 := E_64.out.c0; have xf0 := E_64.out.f0
                      have xc1 := E_64.out.c1; have xf1 := E_64.out.f1
                      go_simp
                      clear xc0 xf0 xc1 xf1
                      have Y_65 := Lib.hid (boxAt_set_other 1 (.slice qa9 qn9 qc9) (boxAt_set_other 0 (.bool qb9) (Y_64.out) (show iW ≠ i_E by have h1 := lt_Y.out; have h2 := l_60.out; omega)) (show iW ≠ i_E by have h1 := lt_Y.out; have h2 := l_60.out; omega))
                      clear Y_64
                      have U_65 := Lib.hid (boxAt_set_other 1 (.slice qa9 qn9 qc9) (boxAt_set_other 0 (.bool qb9) (U_64.out) (show iU ≠ i_E by have h1 := lt_U.out; have h2 := l_60.out; omega)) (show iU ≠ i_E by have h1 := lt_U.out; have h2 := l_60.out; omega))
                      clear U_64
                      have NY_65 := Lib.hid (num_set2 (.bool qb9) (.slice qa9 qn9 qc9) (NY_64.out) E_64.out)
                      clear NY_64
                      have NU_65 := Lib.hid (num_set2 (.bool qb9) (.slice qa9 qn9 qc9) (NU_64.out) E_64.out)
                      clear NU_64
                      have V_65 := Lib.hid (num_set2 (.bool qb9) (.slice qa9 qn9 qc9) (V_64.out) E_64.out)
                      clear V_64
                      have O_65 := Lib.hid (num_set2 (.bool qb9) (.slice qa9 qn9 qc9) (O_64.out) E_64.out)
                      clear O_64
                      have Q_65 := Lib.hid (num_set2 (.bool qb9) (.slice qa9 qn9 qc9) (Q_64.out) E_64.out)
                      clear Q_64
                      have F_65 := Lib.hid (boxAt_set_other 1 (.slice qa9 qn9 qc9) (boxAt_set_other 0 (.bool qb9) (F_64.out) (show i_F ≠ i_E by have h1 := m_64_E.out; omega)) (show i_F ≠ i_E by have h1 := m_64_E.out; omega))
                      clear F_64
                      have E_65 := Lib.hid (boxAt_set2 (.bool qb9) (.slice qa9 qn9 qc9) (E_64.out))
                      have d_65 : Hid (Below w6.heap.size w6 ((w_64.setCell ⟨i_E, 0, none⟩ (.bool qb9)).setCell ⟨i_E, 1, none⟩ (.slice qa9 qn9 qc9))) := (Below.setCell (p := ⟨i_E, 1, none⟩) (Below.setCell (p := ⟨i_E, 0, none⟩) d_64.out (l_60.out) (.bool qb9)) (l_60.out) (.slice qa9 qn9 qc9))
                      clear E_64
                      refine hK.out _ _ ⟨U_65.out.c0, U_65.out.c1, Y_65.out.c0, Y_65.out.c1⟩ (fun HS1 => ?_)
                      clear hK HS0; have HS0 := HS1; clear HS1
                      refine wpAnyH_ready (rs := [13]) (by kernel_rfl) (by simp) ?_
                      refine (AllReadyH.cons (o := _) rfl (fun K hK => ?_) AllReadyH.nil)
                      have xc0 := F_65.out.c0; have xf0 := F_65.out.f0
                      have xc1 := F_65.out.c1; have xf1 := F_65.out.f1
                      go_simp
                      clear xc0 xf0 xc1 xf1
                      have Y_66 := Lib.hid (boxAt_set_other 1 (.slice ra9 rn9 rc9) (boxAt_set_other 0 (.bool rb9) (Y_65.out) (show iW ≠ i_F by have h1 := lt_Y.out; have h2 := l_64.out; omega)) (show iW ≠ i_F by have h1 := lt_Y.out; have h2 := l_64.out; omega))
                      clear Y_65
                      have U_66 := Lib.hid (boxAt_set_other 1 (.slice ra9 rn9 rc9) (boxAt_set_other 0 (.bool rb9) (U_65.out) (show iU ≠ i_F by have h1 := lt_U.out; have h2 := l_64.out; omega)) (show iU ≠ i_F by have h1 := lt_U.out; have h2 := l_64.out; omega))
                      clear U_65
                      have NY_66 := Lib.hid (num_set2 (.bool rb9) (.slice ra9 rn9 rc9) (NY_65.out) F_65.out)
                      clear NY_65
                      have NU_66 := Lib.hid (num_set2 (.bool rb9) (.slice ra9 rn9 rc9) (NU_65.out) F_65.out)
                      clear NU_65
                      have E_66 := Lib.hid (boxAt_set_other 1 (.slice ra9 rn9 rc9) (boxAt_set_other 0 (.bool rb9) (E_65.out) (show i_E ≠ i_F by have h1 := m_64_E.out; omega)) (show i_E ≠ i_F by have h1 := m_64_E.out; omega))
                      clear E_65
                      have V_66 := Lib.hid (num_set2 (.bool rb9) (.slice ra9 rn9 rc9) (V_65.out) F_65.out)
                      clear V_65
                      have O_66 := Lib.hid (num_set2 (.bool rb9) (.slice ra9 rn9 rc9) (O_65.out) F_65.out)
                      clear O_65
                      have Q_66 := Lib.hid (num_set2 (.bool rb9) (.slice ra9 rn9 rc9) (Q_65.out) F_65.out)
                      clear Q_65
                      have F_66 := Lib.hid (boxAt_set2 (.bool rb9) (.slice ra9 rn9 rc9) (F_65.out))
                      have d_66 : Hid (Below w6.heap.size w6 ((((w_64.setCell ⟨i_E, 0, none⟩ (.bool qb9)).setCell ⟨i_E, 1, none⟩ (.slice qa9 qn9 qc9)).setCell ⟨i_F, 0, none⟩ (.bool rb9)).setCell ⟨i_F, 1, none⟩ (.slice ra9 rn9 rc9))) := (Below.setCell (p := ⟨i_F, 1, none⟩) (Below.setCell (p := ⟨i_F, 0, none⟩) d_65.out (l_64.out) (.bool rb9)) (l_64.out) (.slice ra9 rn9 rc9))
                      clear F_65
                      refine hK.out _ _ ⟨U_66.out.c0, U_66.out.c1, Y_66.out.c0, Y_66.out.c1⟩ (fun HS1 => ?_)
                      clear hK HS0; have HS0 := HS1; clear HS1
                      refine wpAnyH_done (by kernel_rfl) ?_ _
                      dsimp only [Exit.then]
                      refine ‹∀ (a' : Act) (w' : World), Met _ a' w' → _› _ _ ?_
                      go_meet
                      case rel => exact ⟨_, _, _, _, _, rfl, l_60.out, E_66.out, Q_66.out, d_66.out⟩
                    · skip
                      go_simp
                      have ba_67 := Lib.hid (ba w_62 (.cells #[.bool false, .slice none 0 0] 33))
                      have m_67_E : Hid (i_E < w_62.heap.size) := (Array.getElem?_eq_some_iff.1 E_62.out).1
                      have Y_67 := Lib.hid (boxAt_below (Y_62.out) ba_67.out); have U_67 := Lib.hid (boxAt_below (U_62.out) ba_67.out); have NY_67 := Lib.hid (num_below (NY_62.out) ba_67.out); have NU_67 := Lib.hid (num_below (NU_62.out) ba_67.out); have E_67 := Lib.hid (boxAt_below (E_62.out) ba_67.out); have V_67 := Lib.hid (num_below (V_62.out) ba_67.out); have O_67 := Lib.hid (num_below (hO_62.out) ba_67.out); clear Y_62 U_62 NY_62 NU_62 E_62 V_62 hO_62
                      have F_67 := Lib.hid (boxAt_new w_62 (.bool false) (.slice none 0 0))
                      have l_67 : Hid (w6.heap.size ≤ w_62.heap.size) := d_62.out.size
                      have d_67 := Lib.hid (bt d_62.out ba_67.out)
                      obtain ⟨i_F, hi_67⟩ : ∃ m, Hid (w_62.heap.size = m) := ⟨_, rfl⟩
                      obtain ⟨w_67, hw_67⟩ : ∃ v, Hid (v = w_62.alloc (.cells #[.bool false, .slice none 0 0] 33)) := ⟨_, rfl⟩
                      refine hK.out _ _ ⟨U_67.out.c0, U_67.out.c1, Y_67.out.c0, Y_67.out.c1⟩ (fun HS1 => ?_)
                      clear hK HS0; have HS0 := HS1; clear HS1
                      rw [← hw_67.out] at HS0 d_67 Y_67 U_67 NY_67 NU_67 E_67 V_67 O_67 F_67 ⊢
                      rw [hi_67.out] at F_67 l_67 m_67_E ⊢
                      clear hw_67 hi_67 ba_67
                      refine wpAnyH_ready (rs := [6]) (by kernel_rfl) (by simp) ?_
                      refine (AllReadyH.cons (o := _) rfl (fun K hK => ?_) AllReadyH.nil)
                      go_simp
                      go_at_call 17
                      (with_reducible refine (down_any 51 7 _ _ (u * pk) aln _ O_67.out NY_67.out AP.out.1 (by omega) (by omega)).mono ?_)
                      rintro e w_68 ⟨vq, vr, hz, hz2, rfl, b_68⟩
                      replace b_68 := Lib.hid b_68
                      have Y_68 := Lib.hid (boxAt_below (Y_67.out) b_68.out); have U_68 := Lib.hid (boxAt_below (U_67.out) b_68.out); have NY_68 := Lib.hid (num_below (NY_67.out) b_68.out); have NU_68 := Lib.hid (num_below (NU_67.out) b_68.out); have E_68 := Lib.hid (boxAt_below (E_67.out) b_68.out); have V_68 := Lib.hid (num_below (V_67.out) b_68.out); have O_68 := Lib.hid (num_below (O_67.out) b_68.out); have F_68 := Lib.hid (boxAt_below (F_67.out) b_68.out); clear Y_67 U_67 NY_67 NU_67 E_67 V_67 O_67 F_67
                      have d_68 := Lib.hid (bt d_67.out b_68.out)
                      clear b_68
                      obtain ⟨qb9, qa9, qn9, qc9, rfl⟩ := num_agg hz
                      obtain ⟨rb9, ra9, rn9, rc9, rfl⟩ := num_agg hz2
                      have hQ_68 := Lib.hid hz
                      clear hz hz2
                      refine hK.out _ _ ⟨U_68.out.c0, U_68.out.c1, Y_68.out.c0, Y_68.out.c1⟩ (fun HS1 => ?_)
                      clear hK HS0; have HS0 := HS1; clear HS1
                      (refine wpAnyH_take (i := 7) (v := ?_) rfl (by kernel_rfl) (by kernel_rfl) (by kernel_rfl) (fun _ _ _ h => h) (Or.inl ⟨by rfl, ?_⟩) HS0 ?_; case refine_2 => (intro w hSw; (try dsimp only at hSw); go_simp; try with_reducible rfl); try simp only [Act.put, List.setIfInBounds_toArray, List.set_cons_zero, List.set_cons_succ])
                      (refine wpAnyH_take (i := 8) (v := ?_) rfl (by kernel_rfl) (by kernel_rfl) (by kernel_rfl) (fun _ _ _ h => h) (Or.inl ⟨by rfl, ?_⟩) HS0 ?_; case refine_2 => (intro w hSw; (try dsimp only at hSw); go_simp; try with_reducible rfl); try simp only [Act.put, List.setIfInBounds_toArray, List.set_cons_zero, List.set_cons_succ])
                      (refine wpAnyH_take (i := 9) (v := ?_) rfl (by kernel_rfl) (by kernel_rfl) (by kernel_rfl) (fun _ _ _ h => h) (Or.inl ⟨by rfl, ?_⟩) HS0 ?_; case refine_2 => (intro w hSw; (try dsimp only at hSw); go_simp; try with_reducible rfl); try simp only [Act.put, List.setIfInBounds_toArray, List.set_cons_zero, List.set_cons_succ])
                      refine wpAnyH_ready (rs := [12]) (by kernel_rfl) (by simp) ?_
                      refine (AllReadyH.cons (o := _) rfl (fun K hK => ?_) AllReadyH.nil)
                      have xc0 := E_68.out.c0; have xf0 := E_68.out.f0
                      have xc1 := E_68.out.c1; have xf1 := E_68.out.f1
                      go_simp
                      clear xc0 xf0 xc1 xf1
                      have Y_69 := Lib.hid (boxAt_set_other 1 (.slice qa9 qn9 qc9) (boxAt_set_other 0 (.bool qb9) (Y_68.out) (show iW ≠ i_E by have h1 := lt_Y.out; have h2 := l_60.out; omega)) (show iW ≠ i_E by have h1 := lt_Y.out; have h2 := l_60.out; omega))
                      clear Y_68
                      have U_69 := Lib.hid (boxAt_set_other 1 (.slice qa9 qn9 qc9) (boxAt_set_other 0 (.bool qb9) (U_68.out) (show iU ≠ i_E by have h1 := lt_U.out; have h2 := l_60.out; omega)) (show iU ≠ i_E by have h1 := lt_U.out; have h2 := l_60.out; omega))
                      clear U_68
                      have NY_69 := Lib.hid (num_set2 (.bool qb9) (.slice qa9 qn9 qc9) (NY_68.out) E_68.out)
                      clear NY_68
                      have NU_69 := Lib.hid (num_set2 (.bool qb9) (.slice qa9 qn9 qc9) (NU_68.out) E_68.out)
                      clear NU_68
                      have V_69 := Lib.hid (num_set2 (.bool qb9) (.slice qa9 qn9 qc9) (V_68.out) E_68.out)
                      clear V_68
                      have O_69 := Lib.hid (num_set2 (.bool qb9) (.slice qa9 qn9 qc9) (O_68.out) E_68.out)
                      clear O_68
                      have F_69 := Lib.hid (boxAt_set_other 1 (.slice qa9 qn9 qc9) (boxAt_set_other 0 (.bool qb9) (F_68.out) (show i_F ≠ i_E by have h1 := m_67_E.out; omega)) (show i_F ≠ i_E by have h1 := m_67_E.out; omega))
                      clear F_68
                      have Q_69 := Lib.hid (num_set2 (.bool qb9) (.slice qa9 qn9 qc9) (hQ_68.out) E_68.out)
                      clear hQ_68
                      have E_69 := Lib.hid (boxAt_set2 (.bool qb9) (.slice qa9 qn9 qc9) (E_68.out))
                      have d_69 : Hid (Below w6.heap.size w6 ((w_68.setCell ⟨i_E, 0, none⟩ (.bool qb9)).setCell ⟨i_E, 1, none⟩ (.slice qa9 qn9 qc9))) := (Below.setCell (p := ⟨i_E, 1, none⟩) (Below.setCell (p := ⟨i_E, 0, none⟩) d_68.out (l_60.out) (.bool qb9)) (l_60.out) (.slice qa9 qn9 qc9))
                      clear E_68
                      refine hK.out _ _ ⟨U_69.out.c0, U_69.out.c1, Y_69.out.c0, Y_69.out.c1⟩ (fun HS1 => ?_)
                      clear hK HS0; have HS0 := HS1; clear HS1
                      refine wpAnyH_ready (rs := [13]) (by kernel_rfl) (by simp) ?_
                      refine (AllReadyH.cons (o := _) rfl (fun K hK => ?_) AllReadyH.nil)
                      have xc0 := F_69.out.c0; have xf0 := F_69.out.f0
                      have xc1 := F_69.out.c1; have xf1 := F_69.out.f1
                      go_simp
                      clear xc0 xf0 xc1 xf1
                      have Y_70 := Lib.hid (boxAt_set_other 1 (.slice ra9 rn9 rc9) (boxAt_set_other 0 (.bool rb9) (Y_69.out) (show iW ≠ i_F by have h1 := lt_Y.out; have h2 := l_67.out; omega)) (show iW ≠ i_F by have h1 := lt_Y.out; have h2 := l_67.out; omega))
                      clear Y_69
                      have U_70 := Lib.hid (boxAt_set_other 1 (.slice ra9 rn9 rc9) (boxAt_set_other 0 (.bool rb9) (U_69.out) (show iU ≠ i_F by have h1 := lt_U.out; have h2 := l_67.out; omega)) (show iU ≠ i_F by have h1 := lt_U.out; have h2 := l_67.out; omega))
                      clear U_69
                      have NY_70 := Lib.hid (num_set2 (.bool rb9) (.slice ra9 rn9 rc9) (NY_69.out) F_69.out)
                      clear NY_69
                      have NU_70 := Lib.hid (num_set2 (.bool rb9) (.slice ra9 rn9 rc9) (NU_69.out) F_69.out)
                      clear NU_69
                      have E_70 := Lib.hid (boxAt_set_other 1 (.slice ra9 rn9 rc9) (boxAt_set_other 0 (.bool rb9) (E_69.out) (show i_E ≠ i_F by have h1 := m_67_E.out; omega)) (show i_E ≠ i_F by have h1 := m_67_E.out; omega))
                      clear E_69
                      have V_70 := Lib.hid (num_set2 (.bool rb9) (.slice ra9 rn9 rc9) (V_69.out) F_69.out)
                      clear V_69
                      have O_70 := Lib.hid (num_set2 (.bool rb9) (.slice ra9 rn9 rc9) (O_69.out) F_69.out)
                      clear O_69
                      have Q_70 := Lib.hid (num_set2 (.bool rb9) (.slice ra9 rn9 rc9) (Q_69.out) F_69.out)
                      clear Q_69
                      have F_70 := Lib.hid (boxAt_set2 (.bool rb9) (.slice ra9 rn9 rc9) (F_69.out))
                      have d_70 : Hid (Below w6.heap.size w6 ((((w_68.setCell ⟨i_E, 0, none⟩ (.bool qb9)).setCell ⟨i_E, 1, none⟩ (.slice qa9 qn9 qc9)).setCell ⟨i_F, 0, none⟩ (.bool rb9)).setCell ⟨i_F, 1, none⟩ (.slice ra9 rn9 rc9))) := (Below.setCell (p := ⟨i_F, 1, none⟩) (Below.setCell (p := ⟨i_F, 0, none⟩) d_69.out (l_67.out) (.bool rb9)) (l_67.out) (.slice ra9 rn9 rc9))
                      clear F_69
                      refine hK.out _ _ ⟨U_70.out.c0, U_70.out.c1, Y_70.out.c0, Y_70.out.c1⟩ (fun HS1 => ?_)
                      clear hK HS0; have HS0 := HS1; clear HS1
                      refine wpAnyH_done (by kernel_rfl) ?_ _
                      dsimp only [Exit.then]
                      refine ‹∀ (a' : Act) (w' : World), Met _ a' w' → _› _ _ ?_
                      go_meet
                      case rel => exact ⟨_, _, _, _, _, rfl, l_60.out, E_70.out, Q_70.out, d_70.out⟩
                  · skip
                    go_simp
                    have ba_71 := Lib.hid (ba w_61 (.cells #[.bool false, .slice none 0 0] 33))
                    have m_71_E : Hid (i_E < w_61.heap.size) := (Array.getElem?_eq_some_iff.1 E_61.out).1
                    have Y_71 := Lib.hid (boxAt_below (Y_61.out) ba_71.out); have U_71 := Lib.hid (boxAt_below (U_61.out) ba_71.out); have NY_71 := Lib.hid (num_below (NY_61.out) ba_71.out); have NU_71 := Lib.hid (num_below (NU_61.out) ba_71.out); have E_71 := Lib.hid (boxAt_below (E_61.out) ba_71.out); have V_71 := Lib.hid (num_below (hV_61.out) ba_71.out); clear Y_61 U_61 NY_61 NU_61 E_61 hV_61
                    have F_71 := Lib.hid (boxAt_new w_61 (.bool false) (.slice none 0 0))
                    have l_71 : Hid (w6.heap.size ≤ w_61.heap.size) := d_61.out.size
                    have d_71 := Lib.hid (bt d_61.out ba_71.out)
                    obtain ⟨i_F, hi_71⟩ : ∃ m, Hid (w_61.heap.size = m) := ⟨_, rfl⟩
                    obtain ⟨w_71, hw_71⟩ : ∃ v, Hid (v = w_61.alloc (.cells #[.bool false, .slice none 0 0] 33)) := ⟨_, rfl⟩
                    refine hK.out _ _ ⟨U_71.out.c0, U_71.out.c1, Y_71.out.c0, Y_71.out.c1⟩ (fun HS1 => ?_)
                    clear hK HS0; have HS0 := HS1; clear HS1
                    rw [← hw_71.out] at HS0 d_71 Y_71 U_71 NY_71 NU_71 E_71 V_71 F_71 ⊢
                    rw [hi_71.out] at F_71 l_71 m_71_E ⊢
                    clear hw_71 hi_71 ba_71
                    refine wpAnyH_ready (rs := [4]) (by kernel_rfl) (by simp) ?_
                    refine (AllReadyH.cons (o := _) rfl (fun K hK => ?_) AllReadyH.nil)
                    go_simp
                    go_at_call 14
                    (with_reducible refine (mul_any 44 7 _ _ u pk _ NU_71.out V_71.out (by omega) (by omega)).mono ?_)
                    rintro e w_72 ⟨v_72, hz, rfl, b_72⟩
                    replace b_72 := Lib.hid b_72
                    have Y_72 := Lib.hid (boxAt_below (Y_71.out) b_72.out); have U_72 := Lib.hid (boxAt_below (U_71.out) b_72.out); have NY_72 := Lib.hid (num_below (NY_71.out) b_72.out); have NU_72 := Lib.hid (num_below (NU_71.out) b_72.out); have E_72 := Lib.hid (boxAt_below (E_71.out) b_72.out); have V_72 := Lib.hid (num_below (V_71.out) b_72.out); have F_72 := Lib.hid (boxAt_below (F_71.out) b_72.out); clear Y_71 U_71 NY_71 NU_71 E_71 V_71 F_71
                    have d_72 := Lib.hid (bt d_71.out b_72.out)
                    clear b_72
                    have hO_72 := Lib.hid hz
                    clear hz
                    refine hK.out _ _ ⟨U_72.out.c0, U_72.out.c1, Y_72.out.c0, Y_72.out.c1⟩ (fun HS1 => ?_)
                    clear hK HS0; have HS0 := HS1; clear HS1
                    refine wpAnyH_ready (rs := [6]) (by kernel_rfl) (by simp) ?_
                    refine (AllReadyH.cons (o := _) rfl (fun K hK => ?_) AllReadyH.nil)
                    go_simp
                    go_at_call 17
                    (with_reducible refine (down_any 51 7 _ _ (u * pk) aln _ hO_72.out NY_72.out AP.out.1 (by omega) (by omega)).mono ?_)
                    rintro e w_73 ⟨vq, vr, hz, hz2, rfl, b_73⟩
                    replace b_73 := Lib.hid b_73
                    have Y_73 := Lib.hid (boxAt_below (Y_72.out) b_73.out); have U_73 := Lib.hid (boxAt_below (U_72.out) b_73.out); have NY_73 := Lib.hid (num_below (NY_72.out) b_73.out); have NU_73 := Lib.hid (num_below (NU_72.out) b_73.out); have E_73 := Lib.hid (boxAt_below (E_72.out) b_73.out); have V_73 := Lib.hid (num_below (V_72.out) b_73.out); have F_73 := Lib.hid (boxAt_below (F_72.out) b_73.out); have O_73 := Lib.hid (num_below (hO_72.out) b_73.out); clear Y_72 U_72 NY_72 NU_72 E_72 V_72 F_72 hO_72
                    have d_73 := Lib.hid (bt d_72.out b_73.out)
                    clear b_73
                    obtain ⟨qb9, qa9, qn9, qc9, rfl⟩ := num_agg hz
                    obtain ⟨rb9, ra9, rn9, rc9, rfl⟩ := num_agg hz2
                    have hQ_73 := Lib.hid hz
                    clear hz hz2
                    refine hK.out _ _ ⟨U_73.out.c0, U_73.out.c1, Y_73.out.c0, Y_73.out.c1⟩ (fun HS1 => ?_)
                    clear hK HS0; have HS0 := HS1; clear HS1
                    (refine wpAnyH_take (i := 7) (v := ?_) rfl (by kernel_rfl) (by kernel_rfl) (by kernel_rfl) (fun _ _ _ h => h) (Or.inl ⟨by rfl, ?_⟩) HS0 ?_; case refine_2 => (intro w hSw; (try dsimp only at hSw); go_simp; try with_reducible rfl); try simp only [Act.put, List.setIfInBounds_toArray, List.set_cons_zero, List.set_cons_succ])
                    (refine wpAnyH_take (i := 8) (v := ?_) rfl (by kernel_rfl) (by kernel_rfl) (by kernel_rfl) (fun _ _ _ h => h) (Or.inl ⟨by rfl, ?_⟩) HS0 ?_; case refine_2 => (intro w hSw; (try dsimp only at hSw); go_simp; try with_reducible rfl); try simp only [Act.put, List.setIfInBounds_toArray, List.set_cons_zero, List.set_cons_succ])
                    (refine wpAnyH_take (i := 9) (v := ?_) rfl (by kernel_rfl) (by kernel_rfl) (by kernel_rfl) (fun _ _ _ h => h) (Or.inl ⟨by rfl, ?_⟩) HS0 ?_; case refine_2 => (intro w hSw; (try dsimp only at hSw); go_simp; try with_reducible rfl); try simp only [Act.put, List.setIfInBounds_toArray, List.set_cons_zero, List.set_cons_succ])
                    refine wpAnyH_ready (rs := [12]) (by kernel_rfl) (by simp) ?_
                    refine (AllReadyH.cons (o := _) rfl (fun K hK => ?_) AllReadyH.nil)
                    have xc0 := E_73.out.c0; have xf0 := E_73.out.f0
                    have xc1 := E_73.out.c1; have xf1 := E_73.out.f1
                    go_simp
                    clear xc0 xf0 xc1 xf1
                    have Y_74 := Lib.hid (boxAt_set_other 1 (.slice qa9 qn9 qc9) (boxAt_set_other 0 (.bool qb9) (Y_73.out) (show iW ≠ i_E by have h1 := lt_Y.out; have h2 := l_60.out; omega)) (show iW ≠ i_E by have h1 := lt_Y.out; have h2 := l_60.out; omega))
                    clear Y_73
                    have U_74 := Lib.hid (boxAt_set_other 1 (.slice qa9 qn9 qc9) (boxAt_set_other 0 (.bool qb9) (U_73.out) (show iU ≠ i_E by have h1 := lt_U.out; have h2 := l_60.out; omega)) (show iU ≠ i_E by have h1 := lt_U.out; have h2 := l_60.out; omega))
                    clear U_73
                    have NY_74 := Lib.hid (num_set2 (.bool qb9) (.slice qa9 qn9 qc9) (NY_73.out) E_73.out)
                    clear NY_73
                    have NU_74 := Lib.hid (num_set2 (.bool qb9) (.slice qa9 qn9 qc9) (NU_73.out) E_73.out)
                    clear NU_73
                    have V_74 := Lib.hid (num_set2 (.bool qb9) (.slice qa9 qn9 qc9) (V_73.out) E_73.out)
                    clear V_73
                    have F_74 := Lib.hid (boxAt_set_other 1 (.slice qa9 qn9 qc9) (boxAt_set_other 0 (.bool qb9) (F_73.out) (show i_F ≠ i_E by have h1 := m_71_E.out; omega)) (show i_F ≠ i_E by have h1 := m_71_E.out; omega))
                    clear F_73
                    have O_74 := Lib.hid (num_set2 (.bool qb9) (.slice qa9 qn9 qc9) (O_73.out) E_73.out)
                    clear O_73
                    have Q_74 := Lib.hid (num_set2 (.bool qb9) (.slice qa9 qn9 qc9) (hQ_73.out) E_73.out)
                    clear hQ_73
                    have E_74 := Lib.hid (boxAt_set2 (.bool qb9) (.slice qa9 qn9 qc9) (E_73.out))
                    have d_74 : Hid (Below w6.heap.size w6 ((w_73.setCell ⟨i_E, 0, none⟩ (.bool qb9)).setCell ⟨i_E, 1, none⟩ (.slice qa9 qn9 qc9))) := (Below.setCell (p := ⟨i_E, 1, none⟩) (Below.setCell (p := ⟨i_E, 0, none⟩) d_73.out (l_60.out) (.bool qb9)) (l_60.out) (.slice qa9 qn9 qc9))
                    clear E_73
                    refine hK.out _ _ ⟨U_74.out.c0, U_74.out.c1, Y_74.out.c0, Y_74.out.c1⟩ (fun HS1 => ?_)
                    clear hK HS0; have HS0 := HS1; clear HS1
                    refine wpAnyH_ready (rs := [13]) (by kernel_rfl) (by simp) ?_
                    refine (AllReadyH.cons (o := _) rfl (fun K hK => ?_) AllReadyH.nil)
                    have xc0 := F_74.out.c0; have xf0 := F_74.out.f0
                    have xc1 := F_74.out.c1; have xf1 := F_74.out.f1
                    go_simp
                    clear xc0 xf0 xc1 xf1
                    have Y_75 := Lib.hid (boxAt_set_other 1 (.slice ra9 rn9 rc9) (boxAt_set_other 0 (.bool rb9) (Y_74.out) (show iW ≠ i_F by have h1 := lt_Y.out; have h2 := l_71.out; omega)) (show iW ≠ i_F by have h1 := lt_Y.out; have h2 := l_71.out; omega))
                    clear Y_74
                    have U_75 := Lib.hid (boxAt_set_other 1 (.slice ra9 rn9 rc9) (boxAt_set_other 0 (.bool rb9) (U_74.out) (show iU ≠ i_F by have h1 := lt_U.out; have h2 := l_71.out; omega)) (show iU ≠ i_F by have h1 := lt_U.out; have h2 := l_71.out; omega))
                    clear U_74
                    have NY_75 := Lib.hid (num_set2 (.bool rb9) (.slice ra9 rn9 rc9) (NY_74.out) F_74.out)
                    clear NY_74
                    have NU_75 := Lib.hid (num_set2 (.bool rb9) (.slice ra9 rn9 rc9) (NU_74.out) F_74.out)
                    clear NU_74
                    have E_75 := Lib.hid (boxAt_set_other 1 (.slice ra9 rn9 rc9) (boxAt_set_other 0 (.bool rb9) (E_74.out) (show i_E ≠ i_F by have h1 := m_71_E.out; omega)) (show i_E ≠ i_F by have h1 := m_71_E.out; omega))
                    clear E_74
                    have V_75 := Lib.hid (num_set2 (.bool rb9) (.slice ra9 rn9 rc9) (V_74.out) F_74.out)
                    clear V_74
                    have O_75 := Lib.hid (num_set2 (.bool rb9) (.slice ra9 rn9 rc9) (O_74.out) F_74.out)
                    clear O_74
                    have Q_75 := Lib.hid (num_set2 (.bool rb9) (.slice ra9 rn9 rc9) (Q_74.out) F_74.out)
                    clear Q_74
                    have F_75 := Lib.hid (boxAt_set2 (.bool rb9) (.slice ra9 rn9 rc9) (F_74.out))
                    have d_75 : Hid (Below w6.heap.size w6 ((((w_73.setCell ⟨i_E, 0, none⟩ (.bool qb9)).setCell ⟨i_E, 1, none⟩ (.slice qa9 qn9 qc9)).setCell ⟨i_F, 0, none⟩ (.bool rb9)).setCell ⟨i_F, 1, none⟩ (.slice ra9 rn9 rc9))) := (Below.setCell (p := ⟨i_F, 1, none⟩) (Below.setCell (p := ⟨i_F, 0, none⟩) d_74.out (l_71.out) (.bool rb9)) (l_71.out) (.slice ra9 rn9 rc9))
                    clear F_74
                    refine hK.out _ _ ⟨U_75.out.c0, U_75.out.c1, Y_75.out.c0, Y_75.out.c1⟩ (fun HS1 => ?_)
                    clear hK HS0; have HS0 := HS1; clear HS1
                    refine wpAnyH_done (by kernel_rfl) ?_ _
                    dsimp only [Exit.then]
                    refine ‹∀ (a' : Act) (w' : World), Met _ a' w' → _› _ _ ?_
                    go_meet
                    case rel => exact ⟨_, _, _, _, _, rfl, l_60.out, E_75.out, Q_75.out, d_75.out⟩
                · skip
                  go_simp
                  have ba_76 := Lib.hid (ba w_60 (.cells #[.bool false, .slice none 0 0] 33))
                  have m_76_E : Hid (i_E < w_60.heap.size) := (Array.getElem?_eq_some_iff.1 E_60.out).1
                  have Y_76 := Lib.hid (boxAt_below (Y_60.out) ba_76.out); have U_76 := Lib.hid (boxAt_below (U_60.out) ba_76.out); have NY_76 := Lib.hid (num_below (NY_60.out) ba_76.out); have NU_76 := Lib.hid (num_below (NU_60.out) ba_76.out); have E_76 := Lib.hid (boxAt_below (E_60.out) ba_76.out); clear Y_60 U_60 NY_60 NU_60 E_60
                  have F_76 := Lib.hid (boxAt_new w_60 (.bool false) (.slice none 0 0))
                  have l_76 : Hid (w6.heap.size ≤ w_60.heap.size) := d_60.out.size
                  have d_76 := Lib.hid (bt d_60.out ba_76.out)
                  obtain ⟨i_F, hi_76⟩ : ∃ m, Hid (w_60.heap.size = m) := ⟨_, rfl⟩
                  obtain ⟨w_76, hw_76⟩ : ∃ v, Hid (v = w_60.alloc (.cells #[.bool false, .slice none 0 0] 33)) := ⟨_, rfl⟩
                  refine hK.out _ _ ⟨U_76.out.c0, U_76.out.c1, Y_76.out.c0, Y_76.out.c1⟩ (fun HS1 => ?_)
                  clear hK HS0; have HS0 := HS1; clear HS1
                  rw [← hw_76.out] at HS0 d_76 Y_76 U_76 NY_76 NU_76 E_76 F_76 ⊢
                  rw [hi_76.out] at F_76 l_76 m_76_E ⊢
                  clear hw_76 hi_76 ba_76
                  refine wpAnyH_ready (rs := [3]) (by kernel_rfl) (by simp) ?_
                  refine (AllReadyH.cons (o := _) rfl (fun K hK => ?_) AllReadyH.nil)
                  go_simp
                  go_at_call 11
                  (with_reducible refine (word_any pk _ HPK.out.1 HPK.out.2).mono ?_)
                  rintro e w_77 ⟨v_77, hz, rfl, b_77⟩
                  replace b_77 := Lib.hid b_77
                  have Y_77 := Lib.hid (boxAt_below (Y_76.out) b_77.out); have U_77 := Lib.hid (boxAt_below (U_76.out) b_77.out); have NY_77 := Lib.hid (num_below (NY_76.out) b_77.out); have NU_77 := Lib.hid (num_below (NU_76.out) b_77.out); have E_77 := Lib.hid (boxAt_below (E_76.out) b_77.out); have F_77 := Lib.hid (boxAt_below (F_76.out) b_77.out); clear Y_76 U_76 NY_76 NU_76 E_76 F_76
                  have d_77 := Lib.hid (bt d_76.out b_77.out)
                  clear b_77
                  have hV_77 := Lib.hid hz
                  clear hz
                  refine hK.out _ _ ⟨U_77.out.c0, U_77.out.c1, Y_77.out.c0, Y_77.out.c1⟩ (fun HS1 => ?_)
                  clear hK HS0; have HS0 := HS1; clear HS1
                  refine wpAnyH_ready (rs := [4]) (by kernel_rfl) (by simp) ?_
                  refine (AllReadyH.cons (o := _) rfl (fun K hK => ?_) AllReadyH.nil)
                  go_simp
                  go_at_call 14
                  (with_reducible refine (mul_any 44 7 _ _ u pk _ NU_77.out hV_77.out (by omega) (by omega)).mono ?_)
                  rintro e w_78 ⟨v_78, hz, rfl, b_78⟩
                  replace b_78 := Lib.hid b_78
                  have Y_78 := Lib.hid (boxAt_below (Y_77.out) b_78.out); have U_78 := Lib.hid (boxAt_below (U_77.out) b_78.out); have NY_78 := Lib.hid (num_below (NY_77.out) b_78.out); have NU_78 := Lib.hid (num_below (NU_77.out) b_78.out); have E_78 := Lib.hid (boxAt_below (E_77.out) b_78.out); have F_78 := Lib.hid (boxAt_below (F_77.out) b_78.out); have V_78 := Lib.hid (num_below (hV_77.out) b_78.out); clear Y_77 U_77 NY_77 NU_77 E_77 F_77 hV_77
                  have d_78 := Lib.hid (bt d_77.out b_78.out)
                  clear b_78
                  have hO_78 := Lib.hid hz
                  clear hz
                  refine hK.out _ _ ⟨U_78.out.c0, U_78.out.c1, Y_78.out.c0, Y_78.out.c1⟩ (fun HS1 => ?_)
                  clear hK HS0; have HS0 := HS1; clear HS1
                  refine wpAnyH_ready (rs := [6]) (by kernel_rfl) (by simp) ?_
                  refine (AllReadyH.cons (o := _) rfl (fun K hK => ?_) AllReadyH.nil)
                  go_simp
                  go_at_call 17
                  (with_reducible refine (down_any 51 7 _ _ (u * pk) aln _ hO_78.out NY_78.out AP.out.1 (by omega) (by omega)).mono ?_)
                  rintro e w_79 ⟨vq, vr, hz, hz2, rfl, b_79⟩
                  replace b_79 := Lib.hid b_79
                  have Y_79 := Lib.hid (boxAt_below (Y_78.out) b_79.out); have U_79 := Lib.hid (boxAt_below (U_78.out) b_79.out); have NY_79 := Lib.hid (num_below (NY_78.out) b_79.out); have NU_79 := Lib.hid (num_below (NU_78.out) b_79.out); have E_79 := Lib.hid (boxAt_below (E_78.out) b_79.out); have F_79 := Lib.hid (boxAt_below (F_78.out) b_79.out); have V_79 := Lib.hid (num_below (V_78.out) b_79.out); have O_79 := Lib.hid (num_below (hO_78.out) b_79.out); clear Y_78 U_78 NY_78 NU_78 E_78 F_78 V_78 hO_78
                  have d_79 := Lib.hid (bt d_78.out b_79.out)
                  clear b_79
                  obtain ⟨qb9, qa9, qn9, qc9, rfl⟩ := num_agg hz
                  obtain ⟨rb9, ra9, rn9, rc9, rfl⟩ := num_agg hz2
                  have hQ_79 := Lib.hid hz
                  clear hz hz2
                  refine hK.out _ _ ⟨U_79.out.c0, U_79.out.c1, Y_79.out.c0, Y_79.out.c1⟩ (fun HS1 => ?_)
                  clear hK HS0; have HS0 := HS1; clear HS1
                  (refine wpAnyH_take (i := 7) (v := ?_) rfl (by kernel_rfl) (by kernel_rfl) (by kernel_rfl) (fun _ _ _ h => h) (Or.inl ⟨by rfl, ?_⟩) HS0 ?_; case refine_2 => (intro w hSw; (try dsimp only at hSw); go_simp; try with_reducible rfl); try simp only [Act.put, List.setIfInBounds_toArray, List.set_cons_zero, List.set_cons_succ])
                  (refine wpAnyH_take (i := 8) (v := ?_) rfl (by kernel_rfl) (by kernel_rfl) (by kernel_rfl) (fun _ _ _ h => h) (Or.inl ⟨by rfl, ?_⟩) HS0 ?_; case refine_2 => (intro w hSw; (try dsimp only at hSw); go_simp; try with_reducible rfl); try simp only [Act.put, List.setIfInBounds_toArray, List.set_cons_zero, List.set_cons_succ])
                  (refine wpAnyH_take (i := 9) (v := ?_) rfl (by kernel_rfl) (by kernel_rfl) (by kernel_rfl) (fun _ _ _ h => h) (Or.inl ⟨by rfl, ?_⟩) HS0 ?_; case refine_2 => (intro w hSw; (try dsimp only at hSw); go_simp; try with_reducible rfl); try simp only [Act.put, List.setIfInBounds_toArray, List.set_cons_zero, List.set_cons_succ])
                  refine wpAnyH_ready (rs := [12]) (by kernel_rfl) (by simp) ?_
                  refine (AllReadyH.cons (o := _) rfl (fun K hK => ?_) AllReadyH.nil)
                  have xc0 := E_79.out.c0; have xf0 := E_79.out.f0
                  have xc1 := E_79.out.c1; have xf1 := E_79.out.f1
                  go_simp
                  clear xc0 xf0 xc1 xf1
                  have Y_80 := Lib.hid (boxAt_set_other 1 (.slice qa9 qn9 qc9) (boxAt_set_other 0 (.bool qb9) (Y_79.out) (show iW ≠ i_E by have h1 := lt_Y.out; have h2 := l_60.out; omega)) (show iW ≠ i_E by have h1 := lt_Y.out; have h2 := l_60.out; omega))
                  clear Y_79
                  have U_80 := Lib.hid (boxAt_set_other 1 (.slice qa9 qn9 qc9) (boxAt_set_other 0 (.bool qb9) (U_79.out) (show iU ≠ i_E by have h1 := lt_U.out; have h2 := l_60.out; omega)) (show iU ≠ i_E by have h1 := lt_U.out; have h2 := l_60.out; omega))
                  clear U_79
                  have NY_80 := Lib.hid (num_set2 (.bool qb9) (.slice qa9 qn9 qc9) (NY_79.out) E_79.out)
                  clear NY_79
                  have NU_80 := Lib.hid (num_set2 (.bool qb9) (.slice qa9 qn9 qc9) (NU_79.out) E_79.out)
                  clear NU_79
                  have F_80 := Lib.hid (boxAt_set_other 1 (.slice qa9 qn9 qc9) (boxAt_set_other 0 (.bool qb9) (F_79.out) (show i_F ≠ i_E by have h1 := m_76_E.out; omega)) (show i_F ≠ i_E by have h1 := m_76_E.out; omega))
                  clear F_79
                  have V_80 := Lib.hid (num_set2 (.bool qb9) (.slice qa9 qn9 qc9) (V_79.out) E_79.out)
                  clear V_79
                  have O_80 := Lib.hid (num_set2 (.bool qb9) (.slice qa9 qn9 qc9) (O_79.out) E_79.out)
                  clear O_79
                  have Q_80 := Lib.hid (num_set2 (.bool qb9) (.slice qa9 qn9 qc9) (hQ_79.out) E_79.out)
                  clear hQ_79
                  have E_80 := Lib.hid (boxAt_set2 (.bool qb9) (.slice qa9 qn9 qc9) (E_79.out))
                  have d_80 : Hid (Below w6.heap.size w6 ((w_79.setCell ⟨i_E, 0, none⟩ (.bool qb9)).setCell ⟨i_E, 1, none⟩ (.slice qa9 qn9 qc9))) := (Below.setCell (p := ⟨i_E, 1, none⟩) (Below.setCell (p := ⟨i_E, 0, none⟩) d_79.out (l_60.out) (.bool qb9)) (l_60.out) (.slice qa9 qn9 qc9))
                  clear E_79
                  refine hK.out _ _ ⟨U_80.out.c0, U_80.out.c1, Y_80.out.c0, Y_80.out.c1⟩ (fun HS1 => ?_)
                  clear hK HS0; have HS0 := HS1; clear HS1
                  refine wpAnyH_ready (rs := [13]) (by kernel_rfl) (by simp) ?_
                  refine (AllReadyH.cons (o := _) rfl (fun K hK => ?_) AllReadyH.nil)
                  have xc0 := F_80.out.c0; have xf0 := F_80.out.f0
                  have xc1 := F_80.out.c1; have xf1 := F_80.out.f1
                  go_simp
                  clear xc0 xf0 xc1 xf1
                  have Y_81 := Lib.hid (boxAt_set_other 1 (.slice ra9 rn9 rc9) (boxAt_set_other 0 (.bool rb9) (Y_80.out) (show iW ≠ i_F by have h1 := lt_Y.out; have h2 := l_76.out; omega)) (show iW ≠ i_F by have h1 := lt_Y.out; have h2 := l_76.out; omega))
                  clear Y_80
                  have U_81 := Lib.hid (boxAt_set_other 1 (.slice ra9 rn9 rc9) (boxAt_set_other 0 (.bool rb9) (U_80.out) (show iU ≠ i_F by have h1 := lt_U.out; have h2 := l_76.out; omega)) (show iU ≠ i_F by have h1 := lt_U.out; have h2 := l_76.out; omega))
                  clear U_80
                  have NY_81 := Lib.hid (num_set2 (.bool rb9) (.slice ra9 rn9 rc9) (NY_80.out) F_80.out)
                  clear NY_80
                  have NU_81 := Lib.hid (num_set2 (.bool rb9) (.slice ra9 rn9 rc9) (NU_80.out) F_80.out)
                  clear NU_80
                  have E_81 := Lib.hid (boxAt_set_other 1 (.slice ra9 rn9 rc9) (boxAt_set_other 0 (.bool rb9) (E_80.out) (show i_E ≠ i_F by have h1 := m_76_E.out; omega)) (show i_E ≠ i_F by have h1 := m_76_E.out; omega))
                  clear E_80
                  have V_81 := Lib.hid (num_set2 (.bool rb9) (.slice ra9 rn9 rc9) (V_80.out) F_80.out)
                  clear V_80
                  have O_81 := Lib.hid (num_set2 (.bool rb9) (.slice ra9 rn9 rc9) (O_80.out) F_80.out)
                  clear O_80
                  have Q_81 := Lib.hid (num_set2 (.bool rb9) (.slice ra9 rn9 rc9) (Q_80.out) F_80.out)
                  clear Q_80
                  have F_81 := Lib.hid (boxAt_set2 (.bool rb9) (.slice ra9 rn9 rc9) (F_80.out))
                  have d_81 : Hid (Below w6.heap.size w6 ((((w_79.setCell ⟨i_E, 0, none⟩ (.bool qb9)).setCell ⟨i_E, 1, none⟩ (.slice qa9 qn9 qc9)).setCell ⟨i_F, 0, none⟩ (.bool rb9)).setCell ⟨i_F, 1, none⟩ (.slice ra9 rn9 rc9))) := (Below.setCell (p := ⟨i_F, 1, none⟩) (Below.setCell (p := ⟨i_F, 0, none⟩) d_80.out (l_76.out) (.bool rb9)) (l_76.out) (.slice ra9 rn9 rc9))
                  clear F_80
                  refine hK.out _ _ ⟨U_81.out.c0, U_81.out.c1, Y_81.out.c0, Y_81.out.c1⟩ (fun HS1 => ?_)
                  clear hK HS0; have HS0 := HS1; clear HS1
                  refine wpAnyH_done (by kernel_rfl) ?_ _
                  dsimp only [Exit.then]
                  refine ‹∀ (a' : Act) (w' : World), Met _ a' w' → _› _ _ ?_
                  go_meet
                  case rel => exact ⟨_, _, _, _, _, rfl, l_60.out, E_81.out, Q_81.out, d_81.out⟩
              · skip
                go_simp
                have ba_82 := Lib.hid (ba w_0 (.cells #[.bool false, .slice none 0 0] 33))
                have Y_82 := Lib.hid (boxAt_below (Y_0.out) ba_82.out); have U_82 := Lib.hid (boxAt_below (U_0.out) ba_82.out); have NY_82 := Lib.hid (num_below (NY_0.out) ba_82.out); have NU_82 := Lib.hid (num_below (NU_0.out) ba_82.out); clear Y_0 U_0 NY_0 NU_0
                have F_82 := Lib.hid (boxAt_new w_0 (.bool false) (.slice none 0 0))
                have l_82 : Hid (w6.heap.size ≤ w_0.heap.size) := DW.out.size
                have d_82 := Lib.hid (bt DW.out ba_82.out)
                obtain ⟨i_F, hi_82⟩ : ∃ m, Hid (w_0.heap.size = m) := ⟨_, rfl⟩
                obtain ⟨w_82, hw_82⟩ : ∃ v, Hid (v = w_0.alloc (.cells #[.bool false, .slice none 0 0] 33)) := ⟨_, rfl⟩
                refine hK.out _ _ ⟨U_82.out.c0, U_82.out.c1, Y_82.out.c0, Y_82.out.c1⟩ (fun HS1 => ?_)
                clear hK HS0; have HS0 := HS1; clear HS1
                rw [← hw_82.out] at HS0 d_82 Y_82 U_82 NY_82 NU_82 F_82 ⊢
                rw [hi_82.out] at F_82 l_82 ⊢
                clear hw_82 hi_82 ba_82
                refine wpAnyH_ready (rs := [3, 10]) (by kernel_rfl) (by simp) ?_
                refine (AllReadyH.cons (o := _) rfl (fun K hK => ?_) (AllReadyH.cons (o := _) rfl (fun K hK => ?_) AllReadyH.nil))
                · skip
                  go_simp
                  go_at_call 11
                  (with_reducible refine (word_any pk _ HPK.out.1 HPK.out.2).mono ?_)
                  rintro e w_83 ⟨v_83, hz, rfl, b_83⟩
                  replace b_83 := Lib.hid b_83
                  have Y_83 := Lib.hid (boxAt_below (Y_82.out) b_83.out); have U_83 := Lib.hid (boxAt_below (U_82.out) b_83.out); have NY_83 := Lib.hid (num_below (NY_82.out) b_83.out); have NU_83 := Lib.hid (num_below (NU_82.out) b_83.out); have F_83 := Lib.hid (boxAt_below (F_82.out) b_83.out); clear Y_82 U_82 NY_82 NU_82 F_82
                  have d_83 := Lib.hid (bt d_82.out b_83.out)
                  clear b_83
                  have hV_83 := Lib.hid hz
                  clear hz
                  refine hK.out _ _ ⟨U_83.out.c0, U_83.out.c1, Y_83.out.c0, Y_83.out.c1⟩ (fun HS1 => ?_)
                  clear hK HS0; have HS0 := HS1; clear HS1
                  refine wpAnyH_ready (rs := [4, 10]) (by kernel_rfl) (by simp) ?_
                  refine (AllReadyH.cons (o := _) rfl (fun K hK => ?_) (AllReadyH.cons (o := _) rfl (fun K hK => ?_) AllReadyH.nil))
                  · skip
                    go_simp
                    go_at_call 14
                    (with_reducible refine (mul_any 44 7 _ _ u pk _ NU_83.out hV_83.out (by omega) (by omega)).mono ?_)
                    rintro e w_84 ⟨v_84, hz, rfl, b_84⟩
                    replace b_84 := Lib.hid b_84
                    have Y_84 := Lib.hid (boxAt_below (Y_83.out) b_84.out); have U_84 := Lib.hid (boxAt_below (U_83.out) b_84.out); have NY_84 := Lib.hid (num_below (NY_83.out) b_84.out); have NU_84 := Lib.hid (num_below (NU_83.out) b_84.out); have F_84 := Lib.hid (boxAt_below (F_83.out) b_84.out); have V_84 := Lib.hid (num_below (hV_83.out) b_84.out); clear Y_83 U_83 NY_83 NU_83 F_83 hV_83
                    have d_84 := Lib.hid (bt d_83.out b_84.out)
                    clear b_84
                    have hO_84 := Lib.hid hz
                    clear hz
                    refine hK.out _ _ ⟨U_84.out.c0, U_84.out.c1, Y_84.out.c0, Y_84.out.c1⟩ (fun HS1 => ?_)
                    clear hK HS0; have HS0 := HS1; clear HS1
                    refine wpAnyH_ready (rs := [6, 10]) (by kernel_rfl) (by simp) ?_
                    refine (AllReadyH.cons (o := _) rfl (fun K hK => ?_) (AllReadyH.cons (o := _) rfl (fun K hK => ?_) AllReadyH.nil))
                    · skip
                      go_simp
                      go_at_call 17
                      (with_reducible refine (down_any 51 7 _ _ (u * pk) aln _ hO_84.out NY_84.out AP.out.1 (by omega) (by omega)).mono ?_)
                      rintro e w_85 ⟨vq, vr, hz, hz2, rfl, b_85⟩
                      replace b_85 := Lib.hid b_85
                      have Y_85 := Lib.hid (boxAt_below (Y_84.out) b_85.out); have U_85 := Lib.hid (boxAt_below (U_84.out) b_85.out); have NY_85 := Lib.hid (num_below (NY_84.out) b_85.out); have NU_85 := Lib.hid (num_below (NU_84.out) b_85.out); have F_85 := Lib.hid (boxAt_below (F_84.out) b_85.out); have V_85 := Lib.hid (num_below (V_84.out) b_85.out); have O_85 := Lib.hid (num_below (hO_84.out) b_85.out); clear Y_84 U_84 NY_84 NU_84 F_84 V_84 hO_84
                      have d_85 := Lib.hid (bt d_84.out b_85.out)
                      clear b_85
                      obtain ⟨qb9, qa9, qn9, qc9, rfl⟩ := num_agg hz
                      obtain ⟨rb9, ra9, rn9, rc9, rfl⟩ := num_agg hz2
                      have hQ_85 := Lib.hid hz
                      clear hz hz2
                      refine hK.out _ _ ⟨U_85.out.c0, U_85.out.c1, Y_85.out.c0, Y_85.out.c1⟩ (fun HS1 => ?_)
                      clear hK HS0; have HS0 := HS1; clear HS1
                      (refine wpAnyH_take (i := 7) (v := ?_) rfl (by kernel_rfl) (by kernel_rfl) (by kernel_rfl) (fun _ _ _ h => h) (Or.inl ⟨by rfl, ?_⟩) HS0 ?_; case refine_2 => (intro w hSw; (try dsimp only at hSw); go_simp; try with_reducible rfl); try simp only [Act.put, List.setIfInBounds_toArray, List.set_cons_zero, List.set_cons_succ])
                      (refine wpAnyH_take (i := 8) (v := ?_) rfl (by kernel_rfl) (by kernel_rfl) (by kernel_rfl) (fun _ _ _ h => h) (Or.inl ⟨by rfl, ?_⟩) HS0 ?_; case refine_2 => (intro w hSw; (try dsimp only at hSw); go_simp; try with_reducible rfl); try simp only [Act.put, List.setIfInBounds_toArray, List.set_cons_zero, List.set_cons_succ])
                      (refine wpAnyH_take (i := 9) (v := ?_) rfl (by kernel_rfl) (by kernel_rfl) (by kernel_rfl) (fun _ _ _ h => h) (Or.inl ⟨by rfl, ?_⟩) HS0 ?_; case refine_2 => (intro w hSw; (try dsimp only at hSw); go_simp; try with_reducible rfl); try simp only [Act.put, List.setIfInBounds_toArray, List.set_cons_zero, List.set_cons_succ])
                      refine wpAnyH_ready (rs := [10]) (by kernel_rfl) (by simp) ?_
                      refine (AllReadyH.cons (o := _) rfl (fun K hK => ?_) AllReadyH.nil)
                      go_simp
                      have ba_86 := Lib.hid (ba w_85 (.cells #[.bool false, .slice none 0 0] 33))
                      have m_86_F : Hid (i_F < w_85.heap.size) := (Array.getElem?_eq_some_iff.1 F_85.out).1
                      have Y_86 := Lib.hid (boxAt_below (Y_85.out) ba_86.out); have U_86 := Lib.hid (boxAt_below (U_85.out) ba_86.out); have NY_86 := Lib.hid (num_below (NY_85.out) ba_86.out); have NU_86 := Lib.hid (num_below (NU_85.out) ba_86.out); have F_86 := Lib.hid (boxAt_below (F_85.out) ba_86.out); have V_86 := Lib.hid (num_below (V_85.out) ba_86.out); have O_86 := Lib.hid (num_below (O_85.out) ba_86.out); have Q_86 := Lib.hid (num_below (hQ_85.out) ba_86.out); clear Y_85 U_85 NY_85 NU_85 F_85 V_85 O_85 hQ_85
                      have E_86 := Lib.hid (boxAt_new w_85 (.bool false) (.slice none 0 0))
                      have l_86 : Hid (w6.heap.size ≤ w_85.heap.size) := d_85.out.size
                      have d_86 := Lib.hid (bt d_85.out ba_86.out)
                      obtain ⟨i_E, hi_86⟩ : ∃ m, Hid (w_85.heap.size = m) := ⟨_, rfl⟩
                      obtain ⟨w_86, hw_86⟩ : ∃ v, Hid (v = w_85.alloc (.cells #[.bool false, .slice none 0 0] 33)) := ⟨_, rfl⟩
                      refine hK.out _ _ ⟨U_86.out.c0, U_86.out.c1, Y_86.out.c0, Y_86.out.c1⟩ (fun HS1 => ?_)
                      clear hK HS0; have HS0 := HS1; clear HS1
                      rw [← hw_86.out] at HS0 d_86 Y_86 U_86 NY_86 NU_86 F_86 V_86 O_86 Q_86 E_86 ⊢
                      rw [hi_86.out] at E_86 l_86 m_86_F ⊢
                      clear hw_86 hi_86 ba_86
                      refine wpAnyH_ready (rs := [12]) (by kernel_rfl) (by simp) ?_
                      refine (AllReadyH.cons (o := _) rfl (fun K hK => ?_) AllReadyH.nil)
                      have xc0 := E_86.out.c0; have xf0 := E_86.out.f0
                      have xc1 := E_86.out.c1; have xf1 := E_86.out.f1
                      go_simp
                      clear xc0 xf0 xc1 xf1
                      have Y_87 := Lib.hid (boxAt_set_other 1 (.slice qa9 qn9 qc9) (boxAt_set_other 0 (.bool qb9) (Y_86.out) (show iW ≠ i_E by have h1 := lt_Y.out; have h2 := l_86.out; omega)) (show iW ≠ i_E by have h1 := lt_Y.out; have h2 := l_86.out; omega))
                      clear Y_86
                      have U_87 := Lib.hid (boxAt_set_other 1 (.slice qa9 qn9 qc9) (boxAt_set_other 0 (.bool qb9) (U_86.out) (show iU ≠ i_E by have h1 := lt_U.out; have h2 := l_86.out; omega)) (show iU ≠ i_E by have h1 := lt_U.out; have h2 := l_86.out; omega))
                      clear U_86
                      have NY_87 := Lib.hid (num_set2 (.bool qb9) (.slice qa9 qn9 qc9) (NY_86.out) E_86.out)
                      clear NY_86
                      have NU_87 := Lib.hid (num_set2 (.bool qb9) (.slice qa9 qn9 qc9) (NU_86.out) E_86.out)
                      clear NU_86
                      have F_87 := Lib.hid (boxAt_set_other 1 (.slice qa9 qn9 qc9) (boxAt_set_other 0 (.bool qb9) (F_86.out) (show i_F ≠ i_E by have h1 := m_86_F.out; omega)) (show i_F ≠ i_E by have h1 := m_86_F.out; omega))
                      clear F_86
                      have V_87 := Lib.hid (num_set2 (.bool qb9) (.slice qa9 qn9 qc9) (V_86.out) E_86.out)
                      clear V_86
                      have O_87 := Lib.hid (num_set2 (.bool qb9) (.slice qa9 qn9 qc9) (O_86.out) E_86.out)
                      clear O_86
                      have Q_87 := Lib.hid (num_set2 (.bool qb9) (.slice qa9 qn9 qc9) (Q_86.out) E_86.out)
                      clear Q_86
                      have E_87 := Lib.hid (boxAt_set2 (.bool qb9) (.slice qa9 qn9 qc9) (E_86.out))
                      have d_87 : Hid (Below w6.heap.size w6 ((w_86.setCell ⟨i_E, 0, none⟩ (.bool qb9)).setCell ⟨i_E, 1, none⟩ (.slice qa9 qn9 qc9))) := (Below.setCell (p := ⟨i_E, 1, none⟩) (Below.setCell (p := ⟨i_E, 0, none⟩) d_86.out (l_86.out) (.bool qb9)) (l_86.out) (.slice qa9 qn9 qc9))
                      clear E_86
                      refine hK.out _ _ ⟨U_87.out.c0, U_87.out.c1, Y_87.out.c0, Y_87.out.c1⟩ (fun HS1 => ?_)
                      clear hK HS0; have HS0 := HS1; clear HS1
                      refine wpAnyH_ready (rs := [13]) (by kernel_rfl) (by simp) ?_
                      refine (AllReadyH.cons (o := _) rfl (fun K hK => ?_) AllReadyH.nil)
                      have xc0 := F_87.out.c0; have xf0 := F_87.out.f0
                      have xc1 := F_87.out.c1; have xf1 := F_87.out.f1
                      go_simp
                      clear xc0 xf0 xc1 xf1
                      have Y_88 := Lib.hid (boxAt_set_other 1 (.slice ra9 rn9 rc9) (boxAt_set_other 0 (.bool rb9) (Y_87.out) (show iW ≠ i_F by have h1 := lt_Y.out; have h2 := l_82.out; omega)) (show iW ≠ i_F by have h1 := lt_Y.out; have h2 := l_82.out; omega))
                      clear Y_87
                      have U_88 := Lib.hid (boxAt_set_other 1 (.slice ra9 rn9 rc9) (boxAt_set_other 0 (.bool rb9) (U_87.out) (show iU ≠ i_F by have h1 := lt_U.out; have h2 := l_82.out; omega)) (show iU ≠ i_F by have h1 := lt_U.out; have h2 := l_82.out; omega))
                      clear U_87
                      have NY_88 := Lib.hid (num_set2 (.bool rb9) (.slice ra9 rn9 rc9) (NY_87.out) F_87.out)
                      clear NY_87
                      have NU_88 := Lib.hid (num_set2 (.bool rb9) (.slice ra9 rn9 rc9) (NU_87.out) F_87.out)
                      clear NU_87
                      have V_88 := Lib.hid (num_set2 (.bool rb9) (.slice ra9 rn9 rc9) (V_87.out) F_87.out)
                      clear V_87
                      have O_88 := Lib.hid (num_set2 (.bool rb9) (.slice ra9 rn9 rc9) (O_87.out) F_87.out)
                      clear O_87
                      have Q_88 := Lib.hid (num_set2 (.bool rb9) (.slice ra9 rn9 rc9) (Q_87.out) F_87.out)
                      clear Q_87
                      have E_88 := Lib.hid (boxAt_set_other 1 (.slice ra9 rn9 rc9) (boxAt_set_other 0 (.bool rb9) (E_87.out) (show i_E ≠ i_F by have h1 := m_86_F.out; omega)) (show i_E ≠ i_F by have h1 := m_86_F.out; omega))
                      clear E_87
                      have F_88 := Lib.hid (boxAt_set2 (.bool rb9) (.slice ra9 rn9 rc9) (F_87.out))
                      have d_88 : Hid (Below w6.heap.size w6 ((((w_86.setCell ⟨i_E, 0, none⟩ (.bool qb9)).setCell ⟨i_E, 1, none⟩ (.slice qa9 qn9 qc9)).setCell ⟨i_F, 0, none⟩ (.bool rb9)).setCell ⟨i_F, 1, none⟩ (.slice ra9 rn9 rc9))) := (Below.setCell (p := ⟨i_F, 1, none⟩) (Below.setCell (p := ⟨i_F, 0, none⟩) d_87.out (l_82.out) (.bool rb9)) (l_82.out) (.slice ra9 rn9 rc9))
                      clear F_87
                      refine hK.out _ _ ⟨U_88.out.c0, U_88.out.c1, Y_88.out.c0, Y_88.out.c1⟩ (fun HS1 => ?_)
                      clear hK HS0; have HS0 := HS1; clear HS1
                      refine wpAnyH_done (by kernel_rfl) ?_ _
                      dsimp only [Exit.then]
                      refine ‹∀ (a' : Act) (w' : World), Met _ a' w' → _› _ _ ?_
                      go_meet
                      case rel => exact ⟨_, _, _, _, _, rfl, l_86.out, E_88.out, Q_88.out, d_88.out⟩
                    · skip
                      go_simp
                      have ba_89 := Lib.hid (ba w_84 (.cells #[.bool false, .slice none 0 0] 33))
                      have m_89_F : Hid (i_F < w_84.heap.size) := (Array.getElem?_eq_some_iff.1 F_84.out).1
                      have Y_89 := Lib.hid (boxAt_below (Y_84.out) ba_89.out); have U_89 := Lib.hid (boxAt_below (U_84.out) ba_89.out); have NY_89 := Lib.hid (num_below (NY_84.out) ba_89.out); have NU_89 := Lib.hid (num_below (NU_84.out) ba_89.out); have F_89 := Lib.hid (boxAt_below (F_84.out) ba_89.out); have V_89 := Lib.hid (num_below (V_84.out) ba_89.out); have O_89 := Lib.hid (num_below (hO_84.out) ba_89.out); clear Y_84 U_84 NY_84 NU_84 F_84 V_84 hO_84
                      have E_89 := Lib.hid (boxAt_new w_84 (.bool false) (.slice none 0 0))
                      have l_89 : Hid (w6.heap.size ≤ w_84.heap.size) := d_84.out.size
                      have d_89 := Lib.hid (bt d_84.out ba_89.out)
                      obtain ⟨i_E, hi_89⟩ : ∃ m, Hid (w_84.heap.size = m) := ⟨_, rfl⟩
                      obtain ⟨w_89, hw_89⟩ : ∃ v, Hid (v = w_84.alloc (.cells #[.bool false, .slice none 0 0] 33)) := ⟨_, rfl⟩
                      refine hK.out _ _ ⟨U_89.out.c0, U_89.out.c1, Y_89.out.c0, Y_89.out.c1⟩ (fun HS1 => ?_)
                      clear hK HS0; have HS0 := HS1; clear HS1
                      rw [← hw_89.out] at HS0 d_89 Y_89 U_89 NY_89 NU_89 F_89 V_89 O_89 E_89 ⊢
                      rw [hi_89.out] at E_89 l_89 m_89_F ⊢
                      clear hw_89 hi_89 ba_89
                      refine wpAnyH_ready (rs := [6]) (by kernel_rfl) (by simp) ?_
                      refine (AllReadyH.cons (o := _) rfl (fun K hK => ?_) AllReadyH.nil)
                      go_simp
                      go_at_call 17
                      (with_reducible refine (down_any 51 7 _ _ (u * pk) aln _ O_89.out NY_89.out AP.out.1 (by omega) (by omega)).mono ?_)
                      rintro e w_90 ⟨vq, vr, hz, hz2, rfl, b_90⟩
                      replace b_90 := Lib.hid b_90
                      have Y_90 := Lib.hid (boxAt_below (Y_89.out) b_90.out); have U_90 := Lib.hid (boxAt_below (U_89.out) b_90.out); have NY_90 := Lib.hid (num_below (NY_89.out) b_90.out); have NU_90 := Lib.hid (num_below (NU_89.out) b_90.out); have F_90 := Lib.hid (boxAt_below (F_89.out) b_90.out); have V_90 := Lib.hid (num_below (V_89.out) b_90.out); have O_90 := Lib.hid (num_below (O_89.out) b_90.out); have E_90 := Lib.hid (boxAt_below (E_89.out) b_90.out); clear Y_89 U_89 NY_89 NU_89 F_89 V_89 O_89 E_89
                      have d_90 := Lib.hid (bt d_89.out b_90.out)
                      clear b_90
                      obtain ⟨qb9, qa9, qn9, qc9, rfl⟩ := num_agg hz
                      obtain ⟨rb9, ra9, rn9, rc9, rfl⟩ := num_agg hz2
                      have hQ_90 := Lib.hid hz
                      clear hz hz2
                      refine hK.out _ _ ⟨U_90.out.c0, U_90.out.c1, Y_90.out.c0, Y_90.out.c1⟩ (fun HS1 => ?_)
                      clear hK HS0; have HS0 := HS1; clear HS1
                      (refine wpAnyH_take (i := 7) (v := ?_) rfl (by kernel_rfl) (by kernel_rfl) (by kernel_rfl) (fun _ _ _ h => h) (Or.inl ⟨by rfl, ?_⟩) HS0 ?_; case refine_2 => (intro w hSw; (try dsimp only at hSw); go_simp; try with_reducible rfl); try simp only [Act.put, List.setIfInBounds_toArray, List.set_cons_zero, List.set_cons_succ])
                      (refine wpAnyH_take (i := 8) (v := ?_) rfl (by kernel_rfl) (by kernel_rfl) (by kernel_rfl) (fun _ _ _ h => h) (Or.inl ⟨by rfl, ?_⟩) HS0 ?_; case refine_2 => (intro w hSw; (try dsimp only at hSw); go_simp; try with_reducible rfl); try simp only [Act.put, List.setIfInBounds_toArray, List.set_cons_zero, List.set_cons_succ])
                      (refine wpAnyH_take (i := 9) (v := ?_) rfl (by kernel_rfl) (by kernel_rfl) (by kernel_rfl) (fun _ _ _ h => h) (Or.inl ⟨by rfl, ?_⟩) HS0 ?_; case refine_2 => (intro w hSw; (try dsimp only at hSw); go_simp; try with_reducible rfl); try simp only [Act.put, List.setIfInBounds_toArray, List.set_cons_zero, List.set_cons_succ])
                      refine wpAnyH_ready (rs := [12]) (by kernel_rfl) (by simp) ?_
                      refine (AllReadyH.cons (o := _) rfl (fun K hK => ?_) AllReadyH.nil)
                      have xc0 := E_90.out.c0; have xf0 := E_90.out.f0
                      have xc1 := E_90.out.c1; have xf1 := E_90.out.f1
                      go_simp
                      clear xc0 xf0 xc1 xf1
                      have Y_91 := Lib.hid (boxAt_set_other 1 (.slice qa9 qn9 qc9) (boxAt_set_other 0 (.bool qb9) (Y_90.out) (show iW ≠ i_E by have h1 := lt_Y.out; have h2 := l_89.out; omega)) (show iW ≠ i_E by have h1 := lt_Y.out; have h2 := l_89.out; omega))
                      clear Y_90
                      have U_91 := Lib.hid (boxAt_set_other 1 (.slice qa9 qn9 qc9) (boxAt_set_other 0 (.bool qb9) (U_90.out) (show iU ≠ i_E by have h1 := lt_U.out; have h2 := l_89.out; omega)) (show iU ≠ i_E by have h1 := lt_U.out; have h2 := l_89.out; omega))
                      clear U_90
                      have NY_91 := Lib.hid (num_set2 (.bool qb9) (.slice qa9 qn9 qc9) (NY_90.out) E_90.out)
                      clear NY_90
                      have NU_91 := Lib.hid (num_set2 (.bool qb9) (.slice qa9 qn9 qc9) (NU_90.out) E_90.out)
                      clear NU_90
                      have F_91 := Lib.hid (boxAt_set_other 1 (.slice qa9 qn9 qc9) (boxAt_set_other 0 (.bool qb9) (F_90.out) (show i_F ≠ i_E by have h1 := m_89_F.out; omega)) (show i_F ≠ i_E by have h1 := m_89_F.out; omega))
                      clear F_90
                      have V_91 := Lib.hid (num_set2 (.bool qb9) (.slice qa9 qn9 qc9) (V_90.out) E_90.out)
                      clear V_90
                      have O_91 := Lib.hid (num_set2 (.bool qb9) (.slice qa9 qn9 qc9) (O_90.out) E_90.out)
                      clear O_90
                      have Q_91 := Lib.hid (num_set2 (.bool qb9) (.slice qa9 qn9 qc9) (hQ_90.out) E_90.out)
                      clear hQ_90
                      have E_91 := Lib.hid (boxAt_set2 (.bool qb9) (.slice qa9 qn9 qc9) (E_90.out))
                      have d_91 : Hid (Below w6.heap.size w6 ((w_90.setCell ⟨i_E, 0, none⟩ (.bool qb9)).setCell ⟨i_E, 1, none⟩ (.slice qa9 qn9 qc9))) := (Below.setCell (p := ⟨i_E, 1, none⟩) (Below.setCell (p := ⟨i_E, 0, none⟩) d_90.out (l_89.out) (.bool qb9)) (l_89.out) (.slice qa9 qn9 qc9))
                      clear E_90
                      refine hK.out _ _ ⟨U_91.out.c0, U_91.out.c1, Y_91.out.c0, Y_91.out.c1⟩ (fun HS1 => ?_)
                      clear hK HS0; have HS0 := HS1; clear HS1
                      refine wpAnyH_ready (rs := [13]) (by kernel_rfl) (by simp) ?_
                      refine (AllReadyH.cons (o := _) rfl (fun K hK => ?_) AllReadyH.nil)
                      have xc0 := F_91.out.c0; have xf0 := F_91.out.f0
                      have xc1 := F_91.out.c1; have xf1 := F_91.out.f1
                      go_simp
                      clear xc0 xf0 xc1 xf1
                      have Y_92 := Lib.hid (boxAt_set_other 1 (.slice ra9 rn9 rc9) (boxAt_set_other 0 (.bool rb9) (Y_91.out) (show iW ≠ i_F by have h1 := lt_Y.out; have h2 := l_82.out; omega)) (show iW ≠ i_F by have h1 := lt_Y.out; have h2 := l_82.out; omega))
                      clear Y_91
                      have U_92 := Lib.hid (boxAt_set_other 1 (.slice ra9 rn9 rc9) (boxAt_set_other 0 (.bool rb9) (U_91.out) (show iU ≠ i_F by have h1 := lt_U.out; have h2 := l_82.out; omega)) (show iU ≠ i_F by have h1 := lt_U.out; have h2 := l_82.out; omega))
                      clear U_91
                      have NY_92 := Lib.hid (num_set2 (.bool rb9) (.slice ra9 rn9 rc9) (NY_91.out) F_91.out)
                      clear NY_91
                      have NU_92 := Lib.hid (num_set2 (.bool rb9) (.slice ra9 rn9 rc9) (NU_91.out) F_91.out)
                      clear NU_91
                      have V_92 := Lib.hid (num_set2 (.bool rb9) (.slice ra9 rn9 rc9) (V_91.out) F_91.out)
                      clear V_91
                      have O_92 := Lib.hid (num_set2 (.bool rb9) (.slice ra9 rn9 rc9) (O_91.out) F_91.out)
                      clear O_91
                      have E_92 := Lib.hid (boxAt_set_other 1 (.slice ra9 rn9 rc9) (boxAt_set_other 0 (.bool rb9) (E_91.out) (show i_E ≠ i_F by have h1 := m_89_F.out; omega)) (show i_E ≠ i_F by have h1 := m_89_F.out; omega))
                      clear E_91
                      have Q_92 := Lib.hid (num_set2 (.bool rb9) (.slice ra9 rn9 rc9) (Q_91.out) F_91.out)
                      clear Q_91
                      have F_92 := Lib.hid (boxAt_set2 (.bool rb9) (.slice ra9 rn9 rc9) (F_91.out))
                      have d_92 : Hid (Below w6.heap.size w6 ((((w_90.setCell ⟨i_E, 0, none⟩ (.bool qb9)).setCell ⟨i_E, 1, none⟩ (.slice qa9 qn9 qc9)).setCell ⟨i_F, 0, none⟩ (.bool rb9)).setCell ⟨i_F, 1, none⟩ (.slice ra9 rn9 rc9))) := (Below.setCell (p := ⟨i_F, 1, none⟩) (Below.setCell (p := ⟨i_F, 0, none⟩) d_91.out (l_82.out) (.bool rb9)) (l_82.out) (.slice ra9 rn9 rc9))
                      clear F_91
                      refine hK.out _ _ ⟨U_92.out.c0, U_92.out.c1, Y_92.out.c0, Y_92.out.c1⟩ (fun HS1 => ?_)
                      clear hK HS0; have HS0 := HS1; clear HS1
                      refine wpAnyH_done (by kernel_rfl) ?_ _
                      dsimp only [Exit.then]
                      refine ‹∀ (a' : Act) (w' : World), Met _ a' w' → _› _ _ ?_
                      go_meet
                      case rel => exact ⟨_, _, _, _, _, rfl, l_89.out, E_92.out, Q_92.out, d_92.out⟩
                  · skip
                    go_simp
                    have ba_93 := Lib.hid (ba w_83 (.cells #[.bool false, .slice none 0 0] 33))
                    have m_93_F : Hid (i_F < w_83.heap.size) := (Array.getElem?_eq_some_iff.1 F_83.out).1
                    have Y_93 := Lib.hid (boxAt_below (Y_83.out) ba_93.out); have U_93 := Lib.hid (boxAt_below (U_83.out) ba_93.out); have NY_93 := Lib.hid (num_below (NY_83.out) ba_93.out); have NU_93 := Lib.hid (num_below (NU_83.out) ba_93.out); have F_93 := Lib.hid (boxAt_below (F_83.out) ba_93.out); have V_93 := Lib.hid (num_below (hV_83.out) ba_93.out); clear Y_83 U_83 NY_83 NU_83 F_83 hV_83
                    have E_93 := Lib.hid (boxAt_new w_83 (.bool false) (.slice none 0 0))
                    have l_93 : Hid (w6.heap.size ≤ w_83.heap.size) := d_83.out.size
                    have d_93 := Lib.hid (bt d_83.out ba_93.out)
                    obtain ⟨i_E, hi_93⟩ : ∃ m, Hid (w_83.heap.size = m) := ⟨_, rfl⟩
                    obtain ⟨w_93, hw_93⟩ : ∃ v, Hid (v = w_83.alloc (.cells #[.bool false, .slice none 0 0] 33)) := ⟨_, rfl⟩
                    refine hK.out _ _ ⟨U_93.out.c0, U_93.out.c1, Y_93.out.c0, Y_93.out.c1⟩ (fun HS1 => ?_)
                    clear hK HS0; have HS0 := HS1; clear HS1
                    rw [← hw_93.out] at HS0 d_93 Y_93 U_93 NY_93 NU_93 F_93 V_93 E_93 ⊢
                    rw [hi_93.out] at E_93 l_93 m_93_F ⊢
                    clear hw_93 hi_93 ba_93
                    refine wpAnyH_ready (rs := [4]) (by kernel_rfl) (by simp) ?_
                    refine (AllReadyH.cons (o := _) rfl (fun K hK => ?_) AllReadyH.nil)
                    go_simp
                    go_at_call 14
                    (with_reducible refine (mul_any 44 7 _ _ u pk _ NU_93.out V_93.out (by omega) (by omega)).mono ?_)
                    rintro e w_94 ⟨v_94, hz, rfl, b_94⟩
                    replace b_94 := Lib.hid b_94
                    have Y_94 := Lib.hid (boxAt_below (Y_93.out) b_94.out); have U_94 := Lib.hid (boxAt_below (U_93.out) b_94.out); have NY_94 := Lib.hid (num_below (NY_93.out) b_94.out); have NU_94 := Lib.hid (num_below (NU_93.out) b_94.out); have F_94 := Lib.hid (boxAt_below (F_93.out) b_94.out); have V_94 := Lib.hid (num_below (V_93.out) b_94.out); have E_94 := Lib.hid (boxAt_below (E_93.out) b_94.out); clear Y_93 U_93 NY_93 NU_93 F_93 V_93 E_93
                    have d_94 := Lib.hid (bt d_93.out b_94.out)
                    clear b_94
                    have hO_94 := Lib.hid hz
                    clear hz
                    refine hK.out _ _ ⟨U_94.out.c0, U_94.out.c1, Y_94.out.c0, Y_94.out.c1⟩ (fun HS1 => ?_)
                    clear hK HS0; have HS0 := HS1; clear HS1
                    refine wpAnyH_ready (rs := [6]) (by kernel_rfl) (by simp) ?_
                    refine (AllReadyH.cons (o := _) rfl (fun K hK => ?_) AllReadyH.nil)
                    go_simp
                    go_at_call 17
                    (with_reducible refine (down_any 51 7 _ _ (u * pk) aln _ hO_94.out NY_94.out AP.out.1 (by omega) (by omega)).mono ?_)
                    rintro e w_95 ⟨vq, vr, hz, hz2, rfl, b_95⟩
                    replace b_95 := Lib.hid b_95
                    have Y_95 := Lib.hid (boxAt_below (Y_94.out) b_95.out); have U_95 := Lib.hid (boxAt_below (U_94.out) b_95.out); have NY_95 := Lib.hid (num_below (NY_94.out) b_95.out); have NU_95 := Lib.hid (num_below (NU_94.out) b_95.out); have F_95 := Lib.hid (boxAt_below (F_94.out) b_95.out); have V_95 := Lib.hid (num_below (V_94.out) b_95.out); have E_95 := Lib.hid (boxAt_below (E_94.out) b_95.out); have O_95 := Lib.hid (num_below (hO_94.out) b_95.out); clear Y_94 U_94 NY_94 NU_94 F_94 V_94 E_94 hO_94
                    have d_95 := Lib.hid (bt d_94.out b_95.out)
                    clear b_95
                    obtain ⟨qb9, qa9, qn9, qc9, rfl⟩ := num_agg hz
                    obtain ⟨rb9, ra9, rn9, rc9, rfl⟩ := num_agg hz2
                    have hQ_95 := Lib.hid hz
                    clear hz hz2
                    refine hK.out _ _ ⟨U_95.out.c0, U_95.out.c1, Y_95.out.c0, Y_95.out.c1⟩ (fun HS1 => ?_)
                    clear hK HS0; have HS0 := HS1; clear HS1
                    (refine wpAnyH_take (i := 7) (v := ?_) rfl (by kernel_rfl) (by kernel_rfl) (by kernel_rfl) (fun _ _ _ h => h) (Or.inl ⟨by rfl, ?_⟩) HS0 ?_; case refine_2 => (intro w hSw; (try dsimp only at hSw); go_simp; try with_reducible rfl); try simp only [Act.put, List.setIfInBounds_toArray, List.set_cons_zero, List.set_cons_succ])
                    (refine wpAnyH_take (i := 8) (v := ?_) rfl (by kernel_rfl) (by kernel_rfl) (by kernel_rfl) (fun _ _ _ h => h) (Or.inl ⟨by rfl, ?_⟩) HS0 ?_; case refine_2 => (intro w hSw; (try dsimp only at hSw); go_simp; try with_reducible rfl); try simp only [Act.put, List.setIfInBounds_toArray, List.set_cons_zero, List.set_cons_succ])
                    (refine wpAnyH_take (i := 9) (v := ?_) rfl (by kernel_rfl) (by kernel_rfl) (by kernel_rfl) (fun _ _ _ h => h) (Or.inl ⟨by rfl, ?_⟩) HS0 ?_; case refine_2 => (intro w hSw; (try dsimp only at hSw); go_simp; try with_reducible rfl); try simp only [Act.put, List.setIfInBounds_toArray, List.set_cons_zero, List.set_cons_succ])
                    refine wpAnyH_ready (rs := [12]) (by kernel_rfl) (by simp) ?_
                    refine (AllReadyH.cons (o := _) rfl (fun K hK => ?_) AllReadyH.nil)
                    have xc0 := E_95.out.c0; have xf0 := E_95.out.f0
                    have xc1 := E_95.out.c1; have xf1 := E_95.out.f1
                    go_simp
                    clear xc0 xf0 xc1 xf1
                    have Y_96 := Lib.hid (boxAt_set_other 1 (.slice qa9 qn9 qc9) (boxAt_set_other 0 (.bool qb9) (Y_95.out) (show iW ≠ i_E by have h1 := lt_Y.out; have h2 := l_93.out; omega)) (show iW ≠ i_E by have h1 := lt_Y.out; have h2 := l_93.out; omega))
                    clear Y_95
                    have U_96 := Lib.hid (boxAt_set_other 1 (.slice qa9 qn9 qc9) (boxAt_set_other 0 (.bool qb9) (U_95.out) (show iU ≠ i_E by have h1 := lt_U.out; have h2 := l_93.out; omega)) (show iU ≠ i_E by have h1 := lt_U.out; have h2 := l_93.out; omega))
                    clear U_95
                    have NY_96 := Lib.hid (num_set2 (.bool qb9) (.slice qa9 qn9 qc9) (NY_95.out) E_95.out)
                    clear NY_95
                    have NU_96 := Lib.hid (num_set2 (.bool qb9) (.slice qa9 qn9 qc9) (NU_95.out) E_95.out)
                    clear NU_95
                    have F_96 := Lib.hid (boxAt_set_other 1 (.slice qa9 qn9 qc9) (boxAt_set_other 0 (.bool qb9) (F_95.out) (show i_F ≠ i_E by have h1 := m_93_F.out; omega)) (show i_F ≠ i_E by have h1 := m_93_F.out; omega))
                    clear F_95
                    have V_96 := Lib.hid (num_set2 (.bool qb9) (.slice qa9 qn9 qc9) (V_95.out) E_95.out)
                    clear V_95
                    have O_96 := Lib.hid (num_set2 (.bool qb9) (.slice qa9 qn9 qc9) (O_95.out) E_95.out)
                    clear O_95
                    have Q_96 := Lib.hid (num_set2 (.bool qb9) (.slice qa9 qn9 qc9) (hQ_95.out) E_95.out)
                    clear hQ_95
                    have E_96 := Lib.hid (boxAt_set2 (.bool qb9) (.slice qa9 qn9 qc9) (E_95.out))
                    have d_96 : Hid (Below w6.heap.size w6 ((w_95.setCell ⟨i_E, 0, none⟩ (.bool qb9)).setCell ⟨i_E, 1, none⟩ (.slice qa9 qn9 qc9))) := (Below.setCell (p := ⟨i_E, 1, none⟩) (Below.setCell (p := ⟨i_E, 0, none⟩) d_95.out (l_93.out) (.bool qb9)) (l_93.out) (.slice qa9 qn9 qc9))
                    clear E_95
                    refine hK.out _ _ ⟨U_96.out.c0, U_96.out.c1, Y_96.out.c0, Y_96.out.c1⟩ (fun HS1 => ?_)
                    clear hK HS0; have HS0 := HS1; clear HS1
                    refine wpAnyH_ready (rs := [13]) (by kernel_rfl) (by simp) ?_
                    refine (AllReadyH.cons (o := _) rfl (fun K hK => ?_) AllReadyH.nil)
                    have xc0 := F_96.out.c0; have xf0 := F_96.out.f0
                    have xc1 := F_96.out.c1; have xf1 := F_96.out.f1
                    go_simp
                    clear xc0 xf0 xc1 xf1
                    have Y_97 := Lib.hid (boxAt_set_other 1 (.slice ra9 rn9 rc9) (boxAt_set_other 0 (.bool rb9) (Y_96.out) (show iW ≠ i_F by have h1 := lt_Y.out; have h2 := l_82.out; omega)) (show iW ≠ i_F by have h1 := lt_Y.out; have h2 := l_82.out; omega))
                    clear Y_96
                    have U_97 := Lib.hid (boxAt_set_other 1 (.slice ra9 rn9 rc9) (boxAt_set_other 0 (.bool rb9) (U_96.out) (show iU ≠ i_F by have h1 := lt_U.out; have h2 := l_82.out; omega)) (show iU ≠ i_F by have h1 := lt_U.out; have h2 := l_82.out; omega))
                    clear U_96
                    have NY_97 := Lib.hid (num_set2 (.bool rb9) (.slice ra9 rn9 rc9) (NY_96.out) F_96.out)
                    clear NY_96
                    have NU_97 := Lib.hid (num_set2 (.bool rb9) (.slice ra9 rn9 rc9) (NU_96.out) F_96.out)
                    clear NU_96
                    have V_97 := Lib.hid (num_set2 (.bool rb9) (.slice ra9 rn9 rc9) (V_96.out) F_96.out)
                    clear V_96
                    have E_97 := Lib.hid (boxAt_set_other 1 (.slice ra9 rn9 rc9) (boxAt_set_other 0 (.bool rb9) (E_96.out) (show i_E ≠ i_F by have h1 := m_93_F.out; omega)) (show i_E ≠ i_F by have h1 := m_93_F.out; omega))
                    clear E_96
                    have O_97 := Lib.hid (num_set2 (.bool rb9) (.slice ra9 rn9 rc9) (O_96.out) F_96.out)
                    clear O_96
                    have Q_97 := Lib.hid (num_set2 (.bool rb9) (.slice ra9 rn9 rc9) (Q_96.out) F_96.out)
                    clear Q_96
                    have F_97 := Lib.hid (boxAt_set2 (.bool rb9) (.slice ra9 rn9 rc9) (F_96.out))
                    have d_97 : Hid (Below w6.heap.size w6 ((((w_95.setCell ⟨i_E, 0, none⟩ (.bool qb9)).setCell ⟨i_E, 1, none⟩ (.slice qa9 qn9 qc9)).setCell ⟨i_F, 0, none⟩ (.bool rb9)).setCell ⟨i_F, 1, none⟩ (.slice ra9 rn9 rc9))) := (Below.setCell (p := ⟨i_F, 1, none⟩) (Below.setCell (p := ⟨i_F, 0, none⟩) d_96.out (l_82.out) (.bool rb9)) (l_82.out) (.slice ra9 rn9 rc9))
                    clear F_96
                    refine hK.out _ _ ⟨U_97.out.c0, U_97.out.c1, Y_97.out.c0, Y_97.out.c1⟩ (fun HS1 => ?_)
                    clear hK HS0; have HS0 := HS1; clear HS1
                    refine wpAnyH_done (by kernel_rfl) ?_ _
                    dsimp only [Exit.then]
                    refine ‹∀ (a' : Act) (w' : World), Met _ a' w' → _› _ _ ?_
                    go_meet
                    case rel => exact ⟨_, _, _, _, _, rfl, l_93.out, E_97.out, Q_97.out, d_97.out⟩
                · skip
                  go_simp
                  have ba_98 := Lib.hid (ba w_82 (.cells #[.bool false, .slice none 0 0] 33))
                  have m_98_F : Hid (i_F < w_82.heap.size) := (Array.getElem?_eq_some_iff.1 F_82.out).1
                  have Y_98 := Lib.hid (boxAt_below (Y_82.out) ba_98.out); have U_98 := Lib.hid (boxAt_below (U_82.out) ba_98.out); have NY_98 := Lib.hid (num_below (NY_82.out) ba_98.out); have NU_98 := Lib.hid (num_below (NU_82.out) ba_98.out); have F_98 := Lib.hid (boxAt_below (F_82.out) ba_98.out); clear Y_82 U_82 NY_82 NU_82 F_82
                  have E_98 := Lib.hid (boxAt_new w_82 (.bool false) (.slice none 0 0))
                  have l_98 : Hid (w6.heap.size ≤ w_82.heap.size) := d_82.out.size
                  have d_98 := Lib.hid (bt d_82.out ba_98.out)
                  obtain ⟨i_E, hi_98⟩ : ∃ m, Hid (w_82.heap.size = m) := ⟨_, rfl⟩
                  obtain ⟨w_98, hw_98⟩ : ∃ v, Hid (v = w_82.alloc (.cells #[.bool false, .slice none 0 0] 33)) := ⟨_, rfl⟩
                  refine hK.out _ _ ⟨U_98.out.c0, U_98.out.c1, Y_98.out.c0, Y_98.out.c1⟩ (fun HS1 => ?_)
                  clear hK HS0; have HS0 := HS1; clear HS1
                  rw [← hw_98.out] at HS0 d_98 Y_98 U_98 NY_98 NU_98 F_98 E_98 ⊢
                  rw [hi_98.out] at E_98 l_98 m_98_F ⊢
                  clear hw_98 hi_98 ba_98
                  refine wpAnyH_ready (rs := [3]) (by kernel_rfl) (by simp) ?_
                  refine (AllReadyH.cons (o := _) rfl (fun K hK => ?_) AllReadyH.nil)
                  go_simp
                  go_at_call 11
                  (with_reducible refine (word_any pk _ HPK.out.1 HPK.out.2).mono ?_)
                  rintro e w_99 ⟨v_99, hz, rfl, b_99⟩
                  replace b_99 := Lib.hid b_99
                  have Y_99 := Lib.hid (boxAt_below (Y_98.out) b_99.out); have U_99 := Lib.hid (boxAt_below (U_98.out) b_99.out); have NY_99 := Lib.hid (num_below (NY_98.out) b_99.out); have NU_99 := Lib.hid (num_below (NU_98.out) b_99.out); have F_99 := Lib.hid (boxAt_below (F_98.out) b_99.out); have E_99 := Lib.hid (boxAt_below (E_98.out) b_99.out); clear Y_98 U_98 NY_98 NU_98 F_98 E_98
                  have d_99 := Lib.hid (bt d_98.out b_99.out)
                  clear b_99
                  have hV_99 := Lib.hid hz
                  clear hz
                  refine hK.out _ _ ⟨U_99.out.c0, U_99.out.c1, Y_99.out.c0, Y_99.out.c1⟩ (fun HS1 => ?_)
                  clear hK HS0; have HS0 := HS1; clear HS1
                  refine wpAnyH_ready (rs := [4]) (by kernel_rfl) (by simp) ?_
                  refine (AllReadyH.cons (o := _) rfl (fun K hK => ?_) AllReadyH.nil)
                  go_simp
                  go_at_call 14
                  (with_reducible refine (mul_any 44 7 _ _ u pk _ NU_99.out hV_99.out (by omega) (by omega)).mono ?_)
                  rintro e w_100 ⟨v_100, hz, rfl, b_100⟩
                  replace b_100 := Lib.hid b_100
                  have Y_100 := Lib.hid (boxAt_below (Y_99.out) b_100.out); have U_100 := Lib.hid (boxAt_below (U_99.out) b_100.out); have NY_100 := Lib.hid (num_below (NY_99.out) b_100.out); have NU_100 := Lib.hid (num_below (NU_99.out) b_100.out); have F_100 := Lib.hid (boxAt_below (F_99.out) b_100.out); have E_100 := Lib.hid (boxAt_below (E_99.out) b_100.out); have V_100 := Lib.hid (num_below (hV_99.out) b_100.out); clear Y_99 U_99 NY_99 NU_99 F_99 E_99 hV_99
                  have d_100 := Lib.hid (bt d_99.out b_100.out)
                  clear b_100
                  have hO_100 := Lib.hid hz
                  clear hz
                  refine hK.out _ _ ⟨U_100.out.c0, U_100.out.c1, Y_100.out.c0, Y_100.out.c1⟩ (fun HS1 => ?_)
                  clear hK HS0; have HS0 := HS1; clear HS1
                  refine wpAnyH_ready (rs := [6]) (by kernel_rfl) (by simp) ?_
                  refine (AllReadyH.cons (o := _) rfl (fun K hK => ?_) AllReadyH.nil)
                  go_simp
                  go_at_call 17
                  (with_reducible refine (down_any 51 7 _ _ (u * pk) aln _ hO_100.out NY_100.out AP.out.1 (by omega) (by omega)).mono ?_)
                  rintro e w_101 ⟨vq, vr, hz, hz2, rfl, b_101⟩
                  replace b_101 := Lib.hid b_101
                  have Y_101 := Lib.hid (boxAt_below (Y_100.out) b_101.out); have U_101 := Lib.hid (boxAt_below (U_100.out) b_101.out); have NY_101 := Lib.hid (num_below (NY_100.out) b_101.out); have NU_101 := Lib.hid (num_below (NU_100.out) b_101.out); have F_101 := Lib.hid (boxAt_below (F_100.out) b_101.out); have E_101 := Lib.hid (boxAt_below (E_100.out) b_101.out); have V_101 := Lib.hid (num_below (V_100.out) b_101.out); have O_101 := Lib.hid (num_below (hO_100.out) b_101.out); clear Y_100 U_100 NY_100 NU_100 F_100 E_100 V_100 hO_100
                  have d_101 := Lib.hid (bt d_100.out b_101.out)
                  clear b_101
                  obtain ⟨qb9, qa9, qn9, qc9, rfl⟩ := num_agg hz
                  obtain ⟨rb9, ra9, rn9, rc9, rfl⟩ := num_agg hz2
                  have hQ_101 := Lib.hid hz
                  clear hz hz2
                  refine hK.out _ _ ⟨U_101.out.c0, U_101.out.c1, Y_101.out.c0, Y_101.out.c1⟩ (fun HS1 => ?_)
                  clear hK HS0; have HS0 := HS1; clear HS1
                  (refine wpAnyH_take (i := 7) (v := ?_) rfl (by kernel_rfl) (by kernel_rfl) (by kernel_rfl) (fun _ _ _ h => h) (Or.inl ⟨by rfl, ?_⟩) HS0 ?_; case refine_2 => (intro w hSw; (try dsimp only at hSw); go_simp; try with_reducible rfl); try simp only [Act.put, List.setIfInBounds_toArray, List.set_cons_zero, List.set_cons_succ])
                  (refine wpAnyH_take (i := 8) (v := ?_) rfl (by kernel_rfl) (by kernel_rfl) (by kernel_rfl) (fun _ _ _ h => h) (Or.inl ⟨by rfl, ?_⟩) HS0 ?_; case refine_2 => (intro w hSw; (try dsimp only at hSw); go_simp; try with_reducible rfl); try simp only [Act.put, List.setIfInBounds_toArray, List.set_cons_zero, List.set_cons_succ])
                  (refine wpAnyH_take (i := 9) (v := ?_) rfl (by kernel_rfl) (by kernel_rfl) (by kernel_rfl) (fun _ _ _ h => h) (Or.inl ⟨by rfl, ?_⟩) HS0 ?_; case refine_2 => (intro w hSw; (try dsimp only at hSw); go_simp; try with_reducible rfl); try simp only [Act.put, List.setIfInBounds_toArray, List.set_cons_zero, List.set_cons_succ])
                  refine wpAnyH_ready (rs := [12]) (by kernel_rfl) (by simp) ?_
                  refine (AllReadyH.cons (o := _) rfl (fun K hK => ?_) AllReadyH.nil)
                  have xc0 := E_101.out.c0; have xf0 := E_101.out.f0
                  have xc1 := E_101.out.c1; have xf1 := E_101.out.f1
                  go_simp
                  clear xc0 xf0 xc1 xf1
                  have Y_102 := Lib.hid (boxAt_set_other 1 (.slice qa9 qn9 qc9) (boxAt_set_other 0 (.bool qb9) (Y_101.out) (show iW ≠ i_E by have h1 := lt_Y.out; have h2 := l_98.out; omega)) (show iW ≠ i_E by have h1 := lt_Y.out; have h2 := l_98.out; omega))
                  clear Y_101
                  have U_102 := Lib.hid (boxAt_set_other 1 (.slice qa9 qn9 qc9) (boxAt_set_other 0 (.bool qb9) (U_101.out) (show iU ≠ i_E by have h1 := lt_U.out; have h2 := l_98.out; omega)) (show iU ≠ i_E by have h1 := lt_U.out; have h2 := l_98.out; omega))
                  clear U_101
                  have NY_102 := Lib.hid (num_set2 (.bool qb9) (.slice qa9 qn9 qc9) (NY_101.out) E_101.out)
                  clear NY_101
                  have NU_102 := Lib.hid (num_set2 (.bool qb9) (.slice qa9 qn9 qc9) (NU_101.out) E_101.out)
                  clear NU_101
                  have F_102 := Lib.hid (boxAt_set_other 1 (.slice qa9 qn9 qc9) (boxAt_set_other 0 (.bool qb9) (F_101.out) (show i_F ≠ i_E by have h1 := m_98_F.out; omega)) (show i_F ≠ i_E by have h1 := m_98_F.out; omega))
                  clear F_101
                  have V_102 := Lib.hid (num_set2 (.bool qb9) (.slice qa9 qn9 qc9) (V_101.out) E_101.out)
                  clear V_101
                  have O_102 := Lib.hid (num_set2 (.bool qb9) (.slice qa9 qn9 qc9) (O_101.out) E_101.out)
                  clear O_101
                  have Q_102 := Lib.hid (num_set2 (.bool qb9) (.slice qa9 qn9 qc9) (hQ_101.out) E_101.out)
                  clear hQ_101
                  have E_102 := Lib.hid (boxAt_set2 (.bool qb9) (.slice qa9 qn9 qc9) (E_101.out))
                  have d_102 : Hid (Below w6.heap.size w6 ((w_101.setCell ⟨i_E, 0, none⟩ (.bool qb9)).setCell ⟨i_E, 1, none⟩ (.slice qa9 qn9 qc9))) := (Below.setCell (p := ⟨i_E, 1, none⟩) (Below.setCell (p := ⟨i_E, 0, none⟩) d_101.out (l_98.out) (.bool qb9)) (l_98.out) (.slice qa9 qn9 qc9))
                  clear E_101
                  refine hK.out _ _ ⟨U_102.out.c0, U_102.out.c1, Y_102.out.c0, Y_102.out.c1⟩ (fun HS1 => ?_)
                  clear hK HS0; have HS0 := HS1; clear HS1
                  refine wpAnyH_ready (rs := [13]) (by kernel_rfl) (by simp) ?_
                  refine (AllReadyH.cons (o := _) rfl (fun K hK => ?_) AllReadyH.nil)
                  have xc0 := F_102.out.c0; have xf0 := F_102.out.f0
                  have xc1 := F_102.out.c1; have xf1 := F_102.out.f1
                  go_simp
                  clear xc0 xf0 xc1 xf1
                  have Y_103 := Lib.hid (boxAt_set_other 1 (.slice ra9 rn9 rc9) (boxAt_set_other 0 (.bool rb9) (Y_102.out) (show iW ≠ i_F by have h1 := lt_Y.out; have h2 := l_82.out; omega)) (show iW ≠ i_F by have h1 := lt_Y.out; have h2 := l_82.out; omega))
                  clear Y_102
                  have U_103 := Lib.hid (boxAt_set_other 1 (.slice ra9 rn9 rc9) (boxAt_set_other 0 (.bool rb9) (U_102.out) (show iU ≠ i_F by have h1 := lt_U.out; have h2 := l_82.out; omega)) (show iU ≠ i_F by have h1 := lt_U.out; have h2 := l_82.out; omega))
                  clear U_102
                  have NY_103 := Lib.hid (num_set2 (.bool rb9) (.slice ra9 rn9 rc9) (NY_102.out) F_102.out)
                  clear NY_102
                  have NU_103 := Lib.hid (num_set2 (.bool rb9) (.slice ra9 rn9 rc9) (NU_102.out) F_102.out)
                  clear NU_102
                  have E_103 := Lib.hid (boxAt_set_other 1 (.slice ra9 rn9 rc9) (boxAt_set_other 0 (.bool rb9) (E_102.out) (show i_E ≠ i_F by have h1 := m_98_F.out; omega)) (show i_E ≠ i_F by have h1 := m_98_F.out; omega))
                  clear E_102
                  have V_103 := Lib.hid (num_set2 (.bool rb9) (.slice ra9 rn9 rc9) (V_102.out) F_102.out)
                  clear V_102
                  have O_103 := Lib.hid (num_set2 (.bool rb9) (.slice ra9 rn9 rc9) (O_102.out) F_102.out)
                  clear O_102
                  have Q_103 := Lib.hid (num_set2 (.bool rb9) (.slice ra9 rn9 rc9) (Q_102.out) F_102.out)
                  clear Q_102
                  have F_103 := Lib.hid (boxAt_set2 (.bool rb9) (.slice ra9 rn9 rc9) (F_102.out))
                  have d_103 : Hid (Below w6.heap.size w6 ((((w_101.setCell ⟨i_E, 0, none⟩ (.bool qb9)).setCell ⟨i_E, 1, none⟩ (.slice qa9 qn9 qc9)).setCell ⟨i_F, 0, none⟩ (.bool rb9)).setCell ⟨i_F, 1, none⟩ (.slice ra9 rn9 rc9))) := (Below.setCell (p := ⟨i_F, 1, none⟩) (Below.setCell (p := ⟨i_F, 0, none⟩) d_102.out (l_82.out) (.bool rb9)) (l_82.out) (.slice ra9 rn9 rc9))
                  clear F_102
                  refine hK.out _ _ ⟨U_103.out.c0, U_103.out.c1, Y_103.out.c0, Y_103.out.c1⟩ (fun HS1 => ?_)
                  clear hK HS0; have HS0 := HS1; clear HS1
                  refine wpAnyH_done (by kernel_rfl) ?_ _
                  dsimp only [Exit.then]
                  refine ‹∀ (a' : Act) (w' : World), Met _ a' w' → _› _ _ ?_
                  go_meet
                  case rel => exact ⟨_, _, _, _, _, rfl, l_98.out, E_103.out, Q_103.out, d_103.out⟩
            case rest =>
              obtain ⟨iF, fb, fa, fn, fc, rfl, lF, hF, hNF, bF⟩ := hcut
              have S7 := Lib.hid (S6.out.below bF); have W7 := Lib.hid (W6.out.below bF); have U7 := Lib.hid (U6'.out.below bF); have R7 := Lib.hid (Elem.Row.below R6.out bF); have B7 := Lib.hid (bt B6.out bF)
              have f0 := hF.c0; have f1 := hF.c1
              obtain ⟨sb, sa, sn, sc, T7, NT7⟩ := id S7.out
              have z0 := T7.c0; have z1 := T7.c1
              rw [← LOWK.out] at hNF
              have CE : cmpZ (low u (aln : Int) ws (k + 1)) (low u (aln : Int) ws (k + 1)) = 0 := by unfold cmpZ; rw [if_pos rfl]
              have CC := cmp_c (50 + (k + 1)) 59 _ _ _ _ _ wc NT7 hNF (by have := HK.out; have := HL.out; omega) (by omega) CE
              clear T7 NT7 hF hNF bF lF CE S6 W6 U6' R6 B6 Y6 NY6 U6 NU6
              go_upto_region 31 with (go_at_call 15; (with_reducible refine CC.mono ?_); rintro e w8 ⟨rfl, b8⟩; have S8 := Lib.hid (S7.out.below b8); have W8 := Lib.hid (W7.out.below b8); have U8 := Lib.hid (U7.out.below b8); have R8 := Lib.hid (Elem.Row.below R7.out b8); have B8 := Lib.hid (bt B7.out b8); clear b8 CC)
              clear z0 z1 f0 f1 S7 W7 U7 R7 B7
              go_wp2_with fail
              go_roundw
              case rel => exact ⟨k + 1, rfl, by rw [hpk.out], by have := HK.out; omega, S8, U8, W8, R8, B8⟩
              case measure => show _ - ((k : Int) + 1).toNat < _ - ((k : Int)).toNat; have := HK.out; omega
        · have hke : k = ws.length := by omega
          subst hke
          clear hkl hk
          obtain ⟨sb, sa, sn, sc, T0, NT0⟩ := id S0.out
          obtain ⟨ub, ua, un, uc, V0, NV0⟩ := id U0.out
          have z0 := T0.c0; have z1 := T0.c1; have z2 := V0.c0; have z3 := V0.c1
          rw [low_all u aln ws HAL.out AP.out.1] at NT0
          have CE : cmpZ u u = 0 := by unfold cmpZ; rw [if_pos rfl]
          have CC := cmp_c (50 + ws.length) 44 _ _ _ _ _ wo NT0 NV0 (by have := HL.out; omega) (by omega) CE
          clear T0 NT0 V0 NV0 CE
          go_wp2_with (first
            | (go_at_call 15; (with_reducible refine CC.mono ?_); rintro e w8 ⟨rfl, b8⟩; have B8 := Lib.hid (bt B0.out b8); have KN := Lib.hid (known_is w8); clear b8 CC)
            | (go_at_call 6; (with_reducible refine KN.out.mono ?_); rintro e w9 ⟨rfl, b9⟩; have B9 := Lib.hid (bt B8.out b9); clear b9 KN))
          go_ret
          exact ⟨rfl, B9.out⟩
end Go.Proofs.Ytngelemjpgglpaa.Pro
