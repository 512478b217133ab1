/-
  THE WALK of the reference's Wide; THE WALK of the reference's As; THE WALK of the reference's Ten; THE WALK of the reference's Small.
-/
import Derived.Test.YtfonpegkaajnkaaDoorM21
/-
  THE WALK of the reference's Wide.
-/
namespace Go.Proofs.YtfonpegkaajnkaaDoor
set_option linter.unusedSimpArgs false
set_option linter.unusedVariables false
open Go.RowKit
attribute [local go_sem ↓] Go.wp_at_zero Go.wp_at_succ

def wz (n : Bool) (hi lo : Int) : Int := if n = true then -(hi * 18446744073709551616 + lo) else hi * 18446744073709551616 + lo
theorem cell_keep {w w' : World} {b o : Nat} {v : Value} (h : Below w.heap.size w w') (d : w.cell? ⟨b, o, none⟩ = some v) (hb : b < w.heap.size) : w'.cell? ⟨b, o, none⟩ = some v := (h.cell (p := ⟨b, o, none⟩) hb).trans d
/-- a variable of type api.Wide in block b -/
def WAt (w : World) (b : Nat) (n : Bool) (hi lo : Int) : Prop := w.heap[b]? = some (.cells #[.bool n, .int .u64 hi, .int .u64 lo] 101 (0, 0))
theorem wAt_new (w : World) (n : Bool) (hi lo : Int) : WAt (w.alloc (.cells #[.bool n, .int .u64 hi, .int .u64 lo] 101)) w.heap.size n hi lo := heap_alloc_new w _
section
variable {w : World} {b : Nat} {n : Bool} {hi lo : Int}
theorem WAt.lt (h : WAt w b n hi lo) : b < w.heap.size := (Array.getElem?_eq_some_iff.1 h).1
theorem WAt.below {w' : World} (h : WAt w b n hi lo) (hb : Below w.heap.size w w') : WAt w' b n hi lo := by
  unfold WAt; rw [hb.block b h.lt]; exact h
theorem WAt.belowB {w' : World} {B : Nat} (h : WAt w b n hi lo) (hb : Below B w w') (hB : b < B) : WAt w' b n hi lo := by
  unfold WAt; rw [hb.block b hB]; exact h
theorem WAt.c0 (h : WAt w b n hi lo) : w.cell? ⟨b, 0, none⟩ = some (.bool n) := by rw [cell_of_row w _ _ _ _ (0, 0) h]; rfl
theorem WAt.c1 (h : WAt w b n hi lo) : w.cell? ⟨b, 1, none⟩ = some (.int .u64 hi) := by rw [cell_of_row w _ _ _ _ (0, 0) h]; rfl
theorem WAt.c2 (h : WAt w b n hi lo) : w.cell? ⟨b, 2, none⟩ = some (.int .u64 lo) := by rw [cell_of_row w _ _ _ _ (0, 0) h]; rfl
theorem WAt.f0 (h : WAt w b n hi lo) : w.frozen? ⟨b, 0, none⟩ = false := frozen_of_row w _ _ _ _ h
theorem WAt.f1 (h : WAt w b n hi lo) : w.frozen? ⟨b, 1, none⟩ = false := frozen_of_row w _ _ _ _ h
theorem WAt.f2 (h : WAt w b n hi lo) : w.frozen? ⟨b, 2, none⟩ = false := frozen_of_row w _ _ _ _ h
theorem wAt_set3 (m : Bool) (x y : Int) (h : WAt w b n hi lo) : WAt (((w.setCell ⟨b, 0, none⟩ (.bool m)).setCell ⟨b, 1, none⟩ (.int .u64 x)).setCell ⟨b, 2, none⟩ (.int .u64 y)) b m x y := heap_set (.int .u64 y) (heap_set (.int .u64 x) (heap_set (.bool m) h))
end
/-- behind 'n := Add(..)' -/
def WideMid (w4 : World) (z : Int) (s4 : Value) (wx : World) : Prop :=
  ∃ (b4 : Nat) (bo : Bool) (ao : Option Addr) (no co : Nat), s4 = .pointer (some ⟨b4, 0, none⟩) ∧ wx.cell? ⟨b4, 1, none⟩ = some (.slice ao no co) ∧ Num 22 wx (.agg #[.bool bo, .slice ao no co]) z ∧ Below w4.heap.size w4 wx

end Go.Proofs.YtfonpegkaajnkaaDoor
/-
  THE WALK of the reference's As.
-/
namespace Go.Proofs.YtfonpegkaajnkaaDoor
open Go.RowKit
attribute [local go_sem ↓] Go.wp_at_zero Go.wp_at_succ

def asV (z : Int) : Value := if z.natAbs < 340282366920938463463374607431768211456 then .tuple #[.agg #[.bool (decide (z < 0)), .int .u64 ((z.natAbs / 18446744073709551616 : Nat) : Int), .int .u64 ((z.natAbs % 18446744073709551616 : Nat) : Int)], .bool true] else .tuple #[.agg #[.bool false, .int .u64 0, .int .u64 0], .bool false]
theorem num_abs {k : Nat} {w : World} {b : Bool} {a : Option Addr} {n cap : Nat} {z : Int} (h : Num k w (.agg #[.bool b, .slice a n cap]) z) : Num k w (.agg #[.bool false, .slice a n cap]) (z.natAbs : Int) := by
  obtain ⟨ds, h1, h2, h3, h4, h5, h6⟩ := num_row h
  refine ⟨_, ds, ?_, h1, h2, by simpa using h3, h4⟩
  have : ¬ ((z.natAbs : Int) < 0) := by omega
  simp [this]
theorem num_sign {k : Nat} {w : World} {b : Bool} {a : Option Addr} {n cap : Nat} {z : Int} (h : Num k w (.agg #[.bool b, .slice a n cap]) z) : decide (z < 0) = b := (num_row h).choose_spec.2.2.2.2.2
theorem num_cast {k : Nat} {w : World} {v : Value} {z z' : Int} (h : Num k w v z) (e : z = z') : Num k w v z' := e ▸ h
theorem cell_set_ne {w : World} {b o : Nat} {v : Value} (d : w.cell? ⟨b, o, none⟩ = some v) {b' o' : Nat} (u : Value) (h : b ≠ b') : (w.setCell ⟨b', o', none⟩ u).cell? ⟨b, o, none⟩ = some v := by
  rw [World.cell?_of_block (w := w) (w' := w.setCell ⟨b', o', none⟩ u) (a := ⟨b, o, none⟩) (Below.heap_setCell _ _ _ _ h)]; exact d
theorem cell_set3 {w : World} {b o : Nat} {v : Value} (d : w.cell? ⟨b, o, none⟩ = some v) {b' : Nat} (u0 u1 u2 : Value) (h : b ≠ b') : (((w.setCell ⟨b', 0, none⟩ u0).setCell ⟨b', 1, none⟩ u1).setCell ⟨b', 2, none⟩ u2).cell? ⟨b, o, none⟩ = some v :=
  cell_set_ne (cell_set_ne (cell_set_ne d u0 h) u1 h) u2 h

end Go.Proofs.YtfonpegkaajnkaaDoor
/-
  THE WALK of the reference's Ten.
-/
namespace Go.Proofs.YtfonpegkaajnkaaDoor
open Go.RowKit
attribute [local go_sem ↓] Go.wp_at_zero Go.wp_at_succ

theorem pow10_lt (j : Nat) : ((10 : Int) ^ j).natAbs < 1000 ^ (j + 1) := by
  have e : ((10 : Int) ^ j) = ((10 ^ j : Nat) : Int) := by simp
  rw [e, Int.natAbs_natCast]
  calc 10 ^ j ≤ 1000 ^ j := Nat.pow_le_pow_left (by omega) _
    _ < 1000 ^ (j + 1) := Nat.pow_lt_pow_right (by omega) (by omega)
/-- a number variable in block b, that stands for z -/
def NumBox (w : World) (b k : Nat) (z : Int) : Prop := ∃ (q : Bool) (a : Option Addr) (n c : Nat), BoxAt w b (.bool q) (.slice a n c) ∧ Num k w (.agg #[.bool q, .slice a n c]) z
theorem numBox_below {w w' : World} {b k : Nat} {z : Int} (h : NumBox w b k z) (hb : Below w.heap.size w w') : NumBox w' b k z := by
  obtain ⟨q, a, n, c, h1, h2⟩ := h
  exact ⟨q, a, n, c, boxAt_below h1 hb, num_below h2 hb⟩

set_option maxRecDepth 100000 in
set_option maxHeartbeats 4000000 in
theorem ten_any (n : Int) (w : World) (hn : n ≤ 3000) :
    Calls Tryd.prog 106 #[.int .i64 n] w (NumPost (n.toNat + 1) ((10 : Int) ^ n.toNat) w) := by
  go_enter Tryd.func106, Tryd.ntmps106
  go_wp2_with fail
  refine (word_any 1 _ (by omega) (by omega)).mono ?_
  rintro e w1 ⟨v1, hv1, rfl, b1⟩
  obtain ⟨q1, a1, n1, c1, rfl⟩ := num_agg hv1
  have Y1 := Lib.hid (boxAt_below (boxAt_new w (.bool false) (.slice none 0 0)) b1)
  have B1 := Lib.hid (bt (ba _ _) b1)
  have N1 : Hid (Num 1 w1 (.agg #[.bool q1, .slice a1 n1 c1]) 1) := num_len hv1 (by decide)
  clear hv1 b1
  go_upto_region 2 with fail
  generalize hW : World.alloc w1 _ = W2
  have T2 : Hid (BoxAt W2 w1.heap.size (.bool q1) (.slice a1 n1 c1)) := by rw [← hW]; exact boxAt_new w1 _ _
  have B2 : Hid (Below w1.heap.size w1 W2) := by rw [← hW]; exact ba _ _
  have Y2 := Lib.hid (boxAt_below Y1.out B2.out)
  have N2 := Lib.hid (num_below N1.out B2.out)
  have BW := Lib.hid (bt B1.out B2.out)
  have ly := Y1.out.lt
  clear hW
  go_wp2_with fail
  go_loopw [4] (fun i wr => ∃ j : Nat, i = .int .i64 (j : Int) ∧ j ≤ n.toNat ∧ Hid (NumBox wr w1.heap.size (j + 1) ((10 : Int) ^ j)) ∧ Hid (Below w1.heap.size W2 wr)) (fun i _ => n.toNat - (intOf i).toNat)
  case atStart => exact ⟨0, rfl, Nat.zero_le _, ⟨_, _, _, _, T2.out, N2.out⟩, (Below.refl _ _)⟩
  case round =>
    rename_i wr
    obtain ⟨wo, rfl⟩ : ∃ wo : World, wo = wr := ⟨_, rfl⟩
    obtain ⟨j, rfl, hj, hnb, hbl⟩ := hrel
    obtain ⟨q, a, m, c, hbox, hnum⟩ := hnb.out
    have Tb := Lib.hid hbox; have Nb := Lib.hid hnum
    have Yo := Lib.hid (boxAt_belowB Y2.out hbl.out ly)
    have BO := Lib.hid ((BW.out).trans (hbl.out.mono (by omega)))
    clear hbox hnum
    by_cases hlt : (j : Int) < n
    · go_upto_region 5 with fail
      have d1 := Tb.out.c0; have d2 := Tb.out.c1
      have f1 := Tb.out.f0; have f2 := Tb.out.f1
      have hw : IntKind.i64.wrap ((j : Int) + 1) = (j : Int) + 1 := by rw [IntKind.wrap_i64]; omega
      go_region_law (first
          | (go_simp; go_at_call 60; refine (word_any 10 _ (by omega) (by omega)).mono ?_; rintro e w5 ⟨vz, hz, rfl, b5⟩; obtain ⟨bz, az, nz, cz, rfl⟩ := num_agg hz; have HZ := Lib.hid hz; have B5 := Lib.hid (show Below wo.heap.size wo w5 from bt ((Below.refl _ _).drew) b5); have e1 := (boxAt_below Tb.out B5.out).c0; have e2 := (boxAt_below Tb.out B5.out).c1; clear hz b5)
          | (go_simp; go_at_call 62; refine (mul_any (j + 1) 7 _ _ ((10 : Int) ^ j) 10 _ (num_below Nb.out B5.out) HZ.out (by omega) (by omega)).mono ?_; rintro e w6 ⟨vs, hz, rfl, b6⟩; obtain ⟨bs2, as2, ns2, cs2, rfl⟩ := num_agg hz; have HS := Lib.hid (num_len (num_cast hz (by rw [Int.pow_succ])) (pow10_lt (j + 1))); have B6 := Lib.hid (bt B5.out b6); have HR6 := Lib.hid (boxAt_below Tb.out B6.out); have r0 := HR6.out.c0; have r1 := HR6.out.c1; have r2 := HR6.out.f0; have r3 := HR6.out.f1; clear hz b6))
      all_goals
        go_wp2_with fail
        go_round
        case rel =>
          refine ⟨j + 1, by go_num, by omega, ⟨_, _, _, _, boxAt_set2 _ _ HR6.out, num_set2 _ _ HS.out HR6.out⟩, ?_⟩
          have := hbl.out.size
          exact hbl.out.trans (((B6.out.mono (show w1.heap.size ≤ wo.heap.size by have := Tb.out.lt; omega)).setCell (Nat.le_refl _) _).setCell (Nat.le_refl _) _)
        case measure => simp [intOf]; omega
    · have hj2 : n.toNat = j := by omega
      subst hj2
      have d1 := Tb.out.c0; have d2 := Tb.out.c1
      have r0 := Yo.out.c0; have r1 := Yo.out.c1; have r2 := Yo.out.f0; have r3 := Yo.out.f1
      go_wp2_with fail
      refine bodyPost_ret (v := .agg #[.bool q, .slice a m c]) (by simp [results, Tryd.results106, go_sem, r0, r1]) rfl ⟨_, num_set2 _ _ Nb.out Yo.out, rfl, (BO.out.setCell (by simp) _).setCell (by simp) _⟩
end Go.Proofs.YtfonpegkaajnkaaDoor
/-
  THE WALK of the reference's Small.
-/
namespace Go.Proofs.YtfonpegkaajnkaaDoor
open Go.RowKit
attribute [local go_sem ↓] Go.wp_at_zero Go.wp_at_succ

def smallV (z : Int) : Value := if -9223372036854775808 ≤ z ∧ z ≤ 9223372036854775807 then .tuple #[.int .i64 z, .bool true] else .tuple #[.int .i64 0, .bool false]

set_option maxRecDepth 100000 in
set_option maxHeartbeats 4000000 in
theorem small_any (k : Nat) (v : Value) (z : Int) (w : World) (h : Num k w v z) (hk : k ≤ 8000) :
    Calls Tryd.prog 64 #[v] w fun e w' => e = .returned (smallV z) ∧ Below w.heap.size w w' := by
  obtain ⟨bx, aa, na, ca, rfl⟩ := num_agg h
  obtain ⟨ds, hr, hcn, hvl, hl, hm, hsg⟩ := num_row h
  have HA := Lib.hid h
  have HD : Hid (RowW w (.slice aa na ca) ds ∧ Nm.Canon ds ∧ Nm.val ds = z.natAbs ∧ ds.length = na ∧ decide (z < 0) = bx) := ⟨hr, hcn, hvl, hm, hsg⟩
  have hna : na ≤ 8000 := by omega
  clear h hr hcn hvl hl hm hsg
  go_enter Tryd.func64, Tryd.ntmps64
  go_upto_region 1 with fail
  generalize hW : World.alloc w _ = W1
  have X1 : Hid (BoxAt W1 w.heap.size (.bool bx) (.slice aa na ca)) := by rw [← hW]; exact boxAt_new w _ _
  have B1 : Hid (Below w.heap.size w W1) := by rw [← hW]; exact ba _ _
  have A1 := Lib.hid (num_below HA.out B1.out)
  clear hW
  have d0 := X1.out.c0; have d1 := X1.out.c1; have lx := X1.out.lt
  obtain ⟨pp, hpp⟩ : ∃ pp : Bool, Hid (pp = decide (z < -9223372036854775808 ∨ 9223372036854775807 < z)) := ⟨_, rfl⟩
  go_cut [15] (fun s15 wx => s15 = .bool pp ∧ Below W1.heap.size W1 wx)
  case first =>
    obtain ⟨c1, hc1⟩ : ∃ c, Hid (cmpZ z (-9223372036854775808) = c) := ⟨_, rfl⟩
    obtain ⟨c2, hc2⟩ : ∃ c, Hid (cmpZ z 9223372036854775807 = c) := ⟨_, rfl⟩
    have hsz := lx
    obtain ⟨WD, hWD⟩ : ∃ WD : World, WD = W1.drew := ⟨_, rfl⟩
    by_cases h1 : c1 = -1
    · subst h1
      obtain rfl : pp = true := by
        rw [hpp.out, decide_eq_true_eq]
        have := hc1.out; unfold cmpZ at this; split at this
        · omega
        · split at this <;> omega
      go_region_with (first
          | (go_at_call 67; refine (of_any (-9223372036854775808) _ (by omega) (by omega)).mono ?_; rintro e w5 ⟨v5, hz, rfl, b5⟩; have N5 := Lib.hid hz; have B5 := Lib.hid (undrew b5); have e0 := cell_keep B5.out d0 lx; have e1 := cell_keep B5.out d1 lx; clear hz b5)
          | (go_at_call 96; refine (cmp_c k 8 _ _ _ _ (-1) _ (num_below A1.out B5.out) N5.out (by omega) (by omega) hc1.out).mono ?_; rintro e w6 ⟨rfl, b6⟩; have B6 := Lib.hid (bt B5.out b6); have g0 := cell_keep B6.out d0 lx; have g1 := cell_keep B6.out d1 lx; clear b6))
      all_goals
        go_simp
        refine ‹∀ (a' : Act) (w' : World), Met _ a' w' → _› _ _ ?_
        go_meet
        case rel => exact ⟨rfl, B6.out⟩
    · have hd1 : decide (c1 < 0) = false := by
        have := hc1.out; unfold cmpZ at this; rw [decide_eq_false_iff_not]; split at this
        · omega
        · split at this <;> omega
      have hpp2 : Hid (decide (0 < c2) = pp) := by
        show _ = _
        rw [hpp.out, decide_eq_decide]
        have h3 : c1 ≠ -1 := h1
        have := hc1.out; have h4 := hc2.out; unfold cmpZ at this h4; split at this
        · split at h4
          · omega
          · split at h4 <;> omega
        · split at this
          · omega
          · split at h4
            · omega
            · split at h4 <;> omega
      clear h1
      go_region_with (first
          | (go_at_call 96; have gB := N7; refine (cmp_c k 8 _ _ _ _ c2 _ (num_below A1.out B7.out) N7.out (by omega) (by omega) hc2.out).mono ?_; rintro e w8 ⟨rfl, b8⟩; have B8 := Lib.hid (bt B7.out b8); clear b8 gB)
          | (go_at_call 67; have gB := B6; refine (of_any 9223372036854775807 _ (by omega) (by omega)).mono ?_; rintro e w7 ⟨v7, hz, rfl, b7⟩; have N7 := Lib.hid hz; have B7 := Lib.hid (bt B6.out b7); have k0 := cell_keep B7.out d0 lx; have k1 := cell_keep B7.out d1 lx; clear hz b7 gB)
          | (go_at_call 96; refine (cmp_c k 8 _ _ _ _ c1 _ (num_below A1.out B5.out) N5.out (by omega) (by omega) hc1.out).mono ?_; rintro e w6 ⟨rfl, b6⟩; have B6 := Lib.hid (bt B5.out b6); have g0 := cell_keep B6.out d0 lx; have g1 := cell_keep B6.out d1 lx; clear b6)
          | (go_at_call 67; refine (of_any (-9223372036854775808) _ (by omega) (by omega)).mono ?_; rintro e w5 ⟨v5, hz, rfl, b5⟩; have N5 := Lib.hid hz; have B5 := Lib.hid (undrew b5); have e0 := cell_keep B5.out d0 lx; have e1 := cell_keep B5.out d1 lx; clear hz b5))
      all_goals
        go_simp
        refine ‹∀ (a' : Act) (w' : World), Met _ a' w' → _› _ _ ?_
        go_meet
        case rel => exact ⟨by rw [hpp2.out], B8.out⟩
  case rest =>
    obtain ⟨rfl, hbl⟩ := hcut
    have X9 := Lib.hid (boxAt_below X1.out hbl)
    have BX := Lib.hid (bt B1.out hbl)
    have HR := Lib.hid (rowW_below HD.out.1 BX.out)
    clear d0 d1 lx hbl
    have d0 := X9.out.c0; have d1 := X9.out.c1
    cases pp
    · have HZ : Hid (-9223372036854775808 ≤ z ∧ z ≤ 9223372036854775807) := by
        have := hpp.out; rw [eq_comm, decide_eq_false_iff_not] at this; exact ⟨by omega, by omega⟩
      have HL : Hid (smallV z = .tuple #[.int .i64 z, .bool true]) := by
        show _ = _
        unfold smallV; rw [if_pos HZ.out]
      have hw0 : IntKind.i64.wrap ((na : Int) - 1) = (na : Int) - 1 := by rw [IntKind.wrap_i64]; omega
      go_wp2_with fail
      cases bx
      · have HP : Hid (0 ≤ z) := by have := HD.out.2.2.2.2; rw [decide_eq_false_iff_not] at this; show 0 ≤ z; omega
        go_loop [4, 5] (fun t i => ∃ (j q : Nat), i = .int .i64 ((j : Int) - 1) ∧ t = .int .i64 (q : Int) ∧ j ≤ na ∧ Hid (q = Nm.val (ds.drop j))) (fun _ i => (intOf i + 1).toNat)
        case atStart => exact ⟨na, 0, by go_num, rfl, Nat.le_refl _, by show _ = _; rw [Nm.val_drop_ge ds na (by rw [HD.out.2.2.2.1]; exact Nat.le_refl _)]⟩
        case round =>
          obtain ⟨j, q, rfl, rfl, hj, hq⟩ := hrel
          rcases j with _ | j
          · rw [show (((0 : Nat) : Int) - 1) = -1 from rfl]
            have HQ : Hid ((q : Int) = z) := by
              show (q : Int) = z; have h1 := HD.out.2.2.1; have h2 := HP.out; rw [hq.out]; show (Nm.val ds : Int) = z; omega
            go_wp2_with fail
            refine bodyPost_ret (v := .tuple #[.int .i64 (q : Int), .bool true]) (by simp [results, Tryd.results64, go_sem]) rfl ⟨by rw [HL.out, HQ.out], BX.out⟩
          · rw [show (((j + 1 : Nat) : Int) - 1) = (j : Int) from by omega]
            obtain ⟨g, rfl, hcx, hgl⟩ := rowW_gdl HR.out j (by rw [HD.out.2.2.2.1]; omega)
            have gx := Nm.gd_lt ds j HD.out.2.1.1
            obtain ⟨X, HX⟩ : ∃ X, Hid (Nm.gd ds j = X) := ⟨_, rfl⟩
            rw [HX.out] at hcx gx
            have HV : Hid (Nm.val (ds.drop j) = X + 1000 * q) := by
              show _ = _
              rw [Nm.val_drop ds j X (by rw [← HX.out]; exact Nm.gd_at ds j (by rw [HD.out.2.2.2.1]; omega)), hq.out]
            have hb1 : Hid (((X + 1000 * q : Nat) : Int) ≤ 9223372036854775807) := by
              have := Nm.val_drop_le ds j; have q1 := HD.out.2.2.1; have q2 := HV.out; have q3 := HZ.out; have q4 := HP.out
              show _ ≤ _; omega
            have w1 : IntKind.i64.wrap ((q : Int) * 1000) = (q : Int) * 1000 := by have := hb1.out; rw [IntKind.wrap_i64]; omega
            have w3 : IntKind.i64.wrap ((q : Int) * 1000 + (X : Int)) = (q : Int) * 1000 + (X : Int) := by have := hb1.out; rw [IntKind.wrap_i64]; omega
            have w4 : IntKind.i64.wrap ((j : Int) - 1) = (j : Int) - 1 := by rw [IntKind.wrap_i64]; omega
            go_wp2_with fail
            go_round
            case rel => exact ⟨j, q * 1000 + X, by go_num, by simp, by omega, by show _ = _; rw [HV.out]; omega⟩
            case measure => simp [intOf]
      · have HP : Hid (z < 0) := by have := HD.out.2.2.2.2; rw [decide_eq_true_eq] at this; exact this
        go_loop [4, 5] (fun t i => ∃ (j q : Nat), i = .int .i64 ((j : Int) - 1) ∧ t = .int .i64 (-(q : Int)) ∧ j ≤ na ∧ Hid (q = Nm.val (ds.drop j))) (fun _ i => (intOf i + 1).toNat)
        case atStart => exact ⟨na, 0, by go_num, rfl, Nat.le_refl _, by show _ = _; rw [Nm.val_drop_ge ds na (by rw [HD.out.2.2.2.1]; exact Nat.le_refl _)]⟩
        case round =>
          obtain ⟨j, q, rfl, rfl, hj, hq⟩ := hrel
          rcases j with _ | j
          · rw [show (((0 : Nat) : Int) - 1) = -1 from rfl]
            have HQ : Hid (-(q : Int) = z) := by
              show -(q : Int) = z; have h1 := HD.out.2.2.1; have h2 := HP.out; rw [hq.out]; show -(Nm.val ds : Int) = z; omega
            go_wp2_with fail
            refine bodyPost_ret (v := .tuple #[.int .i64 (-(q : Int)), .bool true]) (by simp [results, Tryd.results64, go_sem]) rfl ⟨by rw [HL.out, HQ.out], BX.out⟩
          · rw [show (((j + 1 : Nat) : Int) - 1) = (j : Int) from by omega]
            obtain ⟨g, rfl, hcx, hgl⟩ := rowW_gdl HR.out j (by rw [HD.out.2.2.2.1]; omega)
            have gx := Nm.gd_lt ds j HD.out.2.1.1
            obtain ⟨X, HX⟩ : ∃ X, Hid (Nm.gd ds j = X) := ⟨_, rfl⟩
            rw [HX.out] at hcx gx
            have HV : Hid (Nm.val (ds.drop j) = X + 1000 * q) := by
              show _ = _
              rw [Nm.val_drop ds j X (by rw [← HX.out]; exact Nm.gd_at ds j (by rw [HD.out.2.2.2.1]; omega)), hq.out]
            have hb1 : Hid (((X + 1000 * q : Nat) : Int) ≤ 9223372036854775808) := by
              have := Nm.val_drop_le ds j; have q1 := HD.out.2.2.1; have q2 := HV.out; have q3 := HZ.out; have q4 := HP.out
              show _ ≤ _; omega
            have w1 : IntKind.i64.wrap (-(q : Int) * 1000) = -(q : Int) * 1000 := by have := hb1.out; rw [IntKind.wrap_i64]; omega
            have w3 : IntKind.i64.wrap (-(q : Int) * 1000 - (X : Int)) = -(q : Int) * 1000 - (X : Int) := by have := hb1.out; rw [IntKind.wrap_i64]; omega
            have w4 : IntKind.i64.wrap ((j : Int) - 1) = (j : Int) - 1 := by rw [IntKind.wrap_i64]; omega
            go_wp2_with fail
            go_round
            case rel => exact ⟨j, q * 1000 + X, by go_num, by simp; omega, by omega, by show _ = _; rw [HV.out]; omega⟩
            case measure => simp [intOf]
    · have HL : Hid (smallV z = .tuple #[.int .i64 0, .bool false]) := by
        show _ = _
        have := hpp.out; rw [eq_comm, decide_eq_true_eq] at this
        unfold smallV; rw [if_neg (by omega)]
      go_wp2_with fail
      refine bodyPost_ret (v := .tuple #[.int .i64 0, .bool false]) (by simp [results, Tryd.results64, go_sem]) rfl ⟨by rw [HL.out], BX.out⟩
end Go.Proofs.YtfonpegkaajnkaaDoor
