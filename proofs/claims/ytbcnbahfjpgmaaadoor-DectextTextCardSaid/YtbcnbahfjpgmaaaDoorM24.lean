/-
  THE WALK of the reference's Small.
-/
import Derived.Test.YtbcnbahfjpgmaaaDoorM23
/-
  THE WALK of the reference's Small.
-/
namespace Go.Proofs.YtbcnbahfjpgmaaaDoor
open Go.RowKit
attribute [local go_sem ↓] Go.wp_at_zero Go.wp_at_succ

def smallV (z : Int) : Value := if -9223372036854775808 ≤ z ∧ z ≤ 9223372036854775807 then .tuple #[.int .i64 z, .bool true] else .tuple #[.int .i64 0, .bool false]

set_option maxRecDepth 100000 in
set_option maxHeartbeats 4000000 in
theorem small_any (k : Nat) (v : Value) (z : Int) (w : World) (h : Num k w v z) (hk : k ≤ 8000) :
    Calls Tryd.prog 26 #[v] w fun e w' => e = .returned (smallV z) ∧ Below w.heap.size w w' := by
  obtain ⟨bx, aa, na, ca, rfl⟩ := num_agg h
  obtain ⟨ds, hr, hcn, hvl, hl, hm, hsg⟩ := num_row h
  have HA := Lib.hid h
  have HD : Hid (RowW w (.slice aa na ca) ds ∧ Nm.Canon ds ∧ Nm.val ds = z.natAbs ∧ ds.length = na ∧ decide (z < 0) = bx) := ⟨hr, hcn, hvl, hm, hsg⟩
  have hna : na ≤ 8000 := by omega
  clear h hr hcn hvl hl hm hsg
  go_enter Tryd.func26, Tryd.ntmps26
  go_upto_region 1 with fail
  generalize hW : World.alloc w _ = W1
  have X1 : Hid (BoxAt W1 w.heap.size (.bool bx) (.slice aa na ca)) := by rw [← hW]; exact boxAt_new w _ _
  have B1 : Hid (Below w.heap.size w W1) := by rw [← hW]; exact ba _ _
  have A1 := Lib.hid (num_below HA.out B1.out)
  clear hW
  have d0 := X1.out.c0; have d1 := X1.out.c1; have lx := X1.out.lt
  obtain ⟨pp, hpp⟩ : ∃ pp : Bool, Hid (pp = decide (z < -9223372036854775808 ∨ 9223372036854775807 < z)) := ⟨_, rfl⟩
  go_cut [15] (fun s15 wx => s15 = .bool pp ∧ Below W1.heap.size W1 wx)
  case first =>
    obtain ⟨c1, hc1⟩ : ∃ c, Hid (cmpZ z (-9223372036854775808) = c) := ⟨_, rfl⟩
    obtain ⟨c2, hc2⟩ : ∃ c, Hid (cmpZ z 9223372036854775807 = c) := ⟨_, rfl⟩
    have hsz := lx
    obtain ⟨WD, hWD⟩ : ∃ WD : World, WD = W1.drew := ⟨_, rfl⟩
    by_cases h1 : c1 = -1
    · subst h1
      obtain rfl : pp = true := by
        rw [hpp.out, decide_eq_true_eq]
        have := hc1.out; unfold cmpZ at this; split at this
        · omega
        · split at this <;> omega
      go_region_with (first
          | (go_at_call 15; refine (of_any (-9223372036854775808) _ (by omega) (by omega)).mono ?_; rintro e w5 ⟨v5, hz, rfl, b5⟩; have N5 := Lib.hid hz; have B5 := Lib.hid (undrew b5); have e0 := cell_keep B5.out d0 lx; have e1 := cell_keep B5.out d1 lx; clear hz b5)
          | (go_at_call 33; refine (cmp_c k 8 _ _ _ _ (-1) _ (num_below A1.out B5.out) N5.out (by omega) (by omega) hc1.out).mono ?_; rintro e w6 ⟨rfl, b6⟩; have B6 := Lib.hid (bt B5.out b6); have g0 := cell_keep B6.out d0 lx; have g1 := cell_keep B6.out d1 lx; clear b6))
      all_goals
        go_simp
        refine ‹∀ (a' : Act) (w' : World), Met _ a' w' → _› _ _ ?_
        go_meet
        case rel => exact ⟨rfl, B6.out⟩
    · have hd1 : decide (c1 < 0) = false := by
        have := hc1.out; unfold cmpZ at this; rw [decide_eq_false_iff_not]; split at this
        · omega
        · split at this <;> omega
      have hpp2 : Hid (decide (0 < c2) = pp) := by
        show _ = _
        rw [hpp.out, decide_eq_decide]
        have h3 : c1 ≠ -1 := h1
        have := hc1.out; have h4 := hc2.out; unfold cmpZ at this h4; split at this
        · split at h4
          · omega
          · split at h4 <;> omega
        · split at this
          · omega
          · split at h4
            · omega
            · split at h4 <;> omega
      clear h1
      go_region_with (first
          | (go_at_call 33; have gB := N7; refine (cmp_c k 8 _ _ _ _ c2 _ (num_below A1.out B7.out) N7.out (by omega) (by omega) hc2.out).mono ?_; rintro e w8 ⟨rfl, b8⟩; have B8 := Lib.hid (bt B7.out b8); clear b8 gB)
          | (go_at_call 15; have gB := B6; refine (of_any 9223372036854775807 _ (by omega) (by omega)).mono ?_; rintro e w7 ⟨v7, hz, rfl, b7⟩; have N7 := Lib.hid hz; have B7 := Lib.hid (bt B6.out b7); have k0 := cell_keep B7.out d0 lx; have k1 := cell_keep B7.out d1 lx; clear hz b7 gB)
          | (go_at_call 33; refine (cmp_c k 8 _ _ _ _ c1 _ (num_below A1.out B5.out) N5.out (by omega) (by omega) hc1.out).mono ?_; rintro e w6 ⟨rfl, b6⟩; have B6 := Lib.hid (bt B5.out b6); have g0 := cell_keep B6.out d0 lx; have g1 := cell_keep B6.out d1 lx; clear b6)
          | (go_at_call 15; refine (of_any (-9223372036854775808) _ (by omega) (by omega)).mono ?_; rintro e w5 ⟨v5, hz, rfl, b5⟩; have N5 := Lib.hid hz; have B5 := Lib.hid (undrew b5); have e0 := cell_keep B5.out d0 lx; have e1 := cell_keep B5.out d1 lx; clear hz b5))
      all_goals
        go_simp
        refine ‹∀ (a' : Act) (w' : World), Met _ a' w' → _› _ _ ?_
        go_meet
        case rel => exact ⟨by rw [hpp2.out], B8.out⟩
  case rest =>
    obtain ⟨rfl, hbl⟩ := hcut
    have X9 := Lib.hid (boxAt_below X1.out hbl)
    have BX := Lib.hid (bt B1.out hbl)
    have HR := Lib.hid (rowW_below HD.out.1 BX.out)
    clear d0 d1 lx hbl
    have d0 := X9.out.c0; have d1 := X9.out.c1
    cases pp
    · have HZ : Hid (-9223372036854775808 ≤ z ∧ z ≤ 9223372036854775807) := by
        have := hpp.out; rw [eq_comm, decide_eq_false_iff_not] at this; exact ⟨by omega, by omega⟩
      have HL : Hid (smallV z = .tuple #[.int .i64 z, .bool true]) := by
        show _ = _
        unfold smallV; rw [if_pos HZ.out]
      have hw0 : IntKind.i64.wrap ((na : Int) - 1) = (na : Int) - 1 := by rw [IntKind.wrap_i64]; omega
      go_wp2_with fail
      cases bx
      · have HP : Hid (0 ≤ z) := by have := HD.out.2.2.2.2; rw [decide_eq_false_iff_not] at this; show 0 ≤ z; omega
        go_loop [4, 5] (fun t i => ∃ (j q : Nat), i = .int .i64 ((j : Int) - 1) ∧ t = .int .i64 (q : Int) ∧ j ≤ na ∧ Hid (q = Nm.val (ds.drop j))) (fun _ i => (intOf i + 1).toNat)
        case atStart => exact ⟨na, 0, by go_num, rfl, Nat.le_refl _, by show _ = _; rw [Nm.val_drop_ge ds na (by rw [HD.out.2.2.2.1]; exact Nat.le_refl _)]⟩
        case round =>
          obtain ⟨j, q, rfl, rfl, hj, hq⟩ := hrel
          rcases j with _ | j
          · rw [show (((0 : Nat) : Int) - 1) = -1 from rfl]
            have HQ : Hid ((q : Int) = z) := by
              show (q : Int) = z; have h1 := HD.out.2.2.1; have h2 := HP.out; rw [hq.out]; show (Nm.val ds : Int) = z; omega
            go_wp2_with fail
            refine bodyPost_ret (v := .tuple #[.int .i64 (q : Int), .bool true]) (by simp [results, Tryd.results26, go_sem]) rfl ⟨by rw [HL.out, HQ.out], BX.out⟩
          · rw [show (((j + 1 : Nat) : Int) - 1) = (j : Int) from by omega]
            obtain ⟨g, rfl, hcx, hgl⟩ := rowW_gdl HR.out j (by rw [HD.out.2.2.2.1]; omega)
            have gx := Nm.gd_lt ds j HD.out.2.1.1
            obtain ⟨X, HX⟩ : ∃ X, Hid (Nm.gd ds j = X) := ⟨_, rfl⟩
            rw [HX.out] at hcx gx
            have HV : Hid (Nm.val (ds.drop j) = X + 1000 * q) := by
              show _ = _
              rw [Nm.val_drop ds j X (by rw [← HX.out]; exact Nm.gd_at ds j (by rw [HD.out.2.2.2.1]; omega)), hq.out]
            have hb1 : Hid (((X + 1000 * q : Nat) : Int) ≤ 9223372036854775807) := by
              have := Nm.val_drop_le ds j; have q1 := HD.out.2.2.1; have q2 := HV.out; have q3 := HZ.out; have q4 := HP.out
              show _ ≤ _; omega
            have w1 : IntKind.i64.wrap ((q : Int) * 1000) = (q : Int) * 1000 := by have := hb1.out; rw [IntKind.wrap_i64]; omega
            have w3 : IntKind.i64.wrap ((q : Int) * 1000 + (X : Int)) = (q : Int) * 1000 + (X : Int) := by have := hb1.out; rw [IntKind.wrap_i64]; omega
            have w4 : IntKind.i64.wrap ((j : Int) - 1) = (j : Int) - 1 := by rw [IntKind.wrap_i64]; omega
            go_wp2_with fail
            go_round
            case rel => exact ⟨j, q * 1000 + X, by go_num, by simp, by omega, by show _ = _; rw [HV.out]; omega⟩
            case measure => simp [intOf]
      · have HP : Hid (z < 0) := by have := HD.out.2.2.2.2; rw [decide_eq_true_eq] at this; exact this
        go_loop [4, 5] (fun t i => ∃ (j q : Nat), i = .int .i64 ((j : Int) - 1) ∧ t = .int .i64 (-(q : Int)) ∧ j ≤ na ∧ Hid (q = Nm.val (ds.drop j))) (fun _ i => (intOf i + 1).toNat)
        case atStart => exact ⟨na, 0, by go_num, rfl, Nat.le_refl _, by show _ = _; rw [Nm.val_drop_ge ds na (by rw [HD.out.2.2.2.1]; exact Nat.le_refl _)]⟩
        case round =>
          obtain ⟨j, q, rfl, rfl, hj, hq⟩ := hrel
          rcases j with _ | j
          · rw [show (((0 : Nat) : Int) - 1) = -1 from rfl]
            have HQ : Hid (-(q : Int) = z) := by
              show -(q : Int) = z; have h1 := HD.out.2.2.1; have h2 := HP.out; rw [hq.out]; show -(Nm.val ds : Int) = z; omega
            go_wp2_with fail
            refine bodyPost_ret (v := .tuple #[.int .i64 (-(q : Int)), .bool true]) (by simp [results, Tryd.results26, go_sem]) rfl ⟨by rw [HL.out, HQ.out], BX.out⟩
          · rw [show (((j + 1 : Nat) : Int) - 1) = (j : Int) from by omega]
            obtain ⟨g, rfl, hcx, hgl⟩ := rowW_gdl HR.out j (by rw [HD.out.2.2.2.1]; omega)
            have gx := Nm.gd_lt ds j HD.out.2.1.1
            obtain ⟨X, HX⟩ : ∃ X, Hid (Nm.gd ds j = X) := ⟨_, rfl⟩
            rw [HX.out] at hcx gx
            have HV : Hid (Nm.val (ds.drop j) = X + 1000 * q) := by
              show _ = _
              rw [Nm.val_drop ds j X (by rw [← HX.out]; exact Nm.gd_at ds j (by rw [HD.out.2.2.2.1]; omega)), hq.out]
            have hb1 : Hid (((X + 1000 * q : Nat) : Int) ≤ 9223372036854775808) := by
              have := Nm.val_drop_le ds j; have q1 := HD.out.2.2.1; have q2 := HV.out; have q3 := HZ.out; have q4 := HP.out
              show _ ≤ _; omega
            have w1 : IntKind.i64.wrap (-(q : Int) * 1000) = -(q : Int) * 1000 := by have := hb1.out; rw [IntKind.wrap_i64]; omega
            have w3 : IntKind.i64.wrap (-(q : Int) * 1000 - (X : Int)) = -(q : Int) * 1000 - (X : Int) := by have := hb1.out; rw [IntKind.wrap_i64]; omega
            have w4 : IntKind.i64.wrap ((j : Int) - 1) = (j : Int) - 1 := by rw [IntKind.wrap_i64]; omega
            go_wp2_with fail
            go_round
            case rel => exact ⟨j, q * 1000 + X, by go_num, by simp; omega, by omega, by show _ = _; rw [HV.out]; omega⟩
            case measure => simp [intOf]
    · have HL : Hid (smallV z = .tuple #[.int .i64 0, .bool false]) := by
        show _ = _
        have := hpp.out; rw [eq_comm, decide_eq_true_eq] at this
        unfold smallV; rw [if_neg (by omega)]
      go_wp2_with fail
      refine bodyPost_ret (v := .tuple #[.int .i64 0, .bool false]) (by simp [results, Tryd.results26, go_sem]) rfl ⟨by rw [HL.out], BX.out⟩
end Go.Proofs.YtbcnbahfjpgmaaaDoor
