/-
  THE WALK of corrodylaw01's WideDivides, divisors that are not 0.
-/
import Derived.Test.YtlbmmnjecemkeaaWRing
namespace Go.Proofs.Ytlbmmnjecemkeaa
open Go.RowKit
attribute [local go_sem ↓] Go.wp_at_zero Go.wp_at_succ

/-- a power of ten that Ten answers -/
def tenI (n : Int) : Int := if 0 ≤ n ∧ n ≤ 19 then ((10 ^ n.toNat : Nat) : Int) else 0
theorem wTen_c (n t : Int) (w : World) (h0 : -9223372036854775808 ≤ n) (h1 : n ≤ 9223372036854775807) (ht : tenI n = t) :
    Calls Try.prog 14 #[.int .i64 n] w fun e w' => e = .returned (.int .u64 t) ∧ w' = w := by rw [← ht]; exact wTen_any n w h0 h1
theorem asV_ten (n : Int) (h0 : 0 ≤ n) (h1 : n ≤ 19) : asV ((10 : Int) ^ n.toNat) = .tuple #[.agg #[.bool false, .int .u64 0, .int .u64 (tenI n)], .bool true] := by
  obtain ⟨m, rfl⟩ := Int.eq_ofNat_of_zero_le h0
  unfold tenI
  rw [if_pos ⟨h0, h1⟩, show ((m : Nat) : Int).toNat = m from rfl]
  have e : ((10 : Int) ^ m) = ((10 ^ m : Nat) : Int) := by simp
  have l : 10 ^ m ≤ 10 ^ 19 := Nat.pow_le_pow_right (by omega) (by omega)
  rw [e]
  generalize 10 ^ m = T at l
  unfold asV
  rw [show ((T : Nat) : Int).natAbs = T from rfl, if_pos (by omega), Nat.div_eq_of_lt (by omega), Nat.mod_eq_of_lt (by omega)]
  simp
theorem wAt_ne {w : World} {b b' : Nat} {n : Bool} {h l : Int} {v0 v1 : Value} (X : WAt w b n h l) (Y : BoxAt w b' v0 v1) : b ≠ b' := by
  rintro rfl
  unfold WAt at X; unfold BoxAt at Y
  rw [X] at Y
  simp at Y
theorem wAt_other2 {w : World} {b b' : Nat} {n : Bool} {h l : Int} (u0 u1 : Value) (H : WAt w b n h l) (hb : b ≠ b') : WAt ((w.setCell ⟨b', 0, none⟩ u0).setCell ⟨b', 1, none⟩ u1) b n h l := by
  unfold WAt; rw [Below.heap_setCell _ _ _ _ hb, Below.heap_setCell _ _ _ _ hb]; exact H
theorem evenZ_abs (z : Int) (d : Nat) (hd : 0 < d) : (evenZ z d).natAbs ≤ z.natAbs ∧ (z / (d : Int)).natAbs ≤ z.natAbs := by
  have hd' : (0 : Int) < (d : Int) := by omega
  have e := Int.emod_add_mul_ediv z (d : Int)
  have r0 := Int.emod_nonneg z (show (d : Int) ≠ 0 by omega)
  have r1 := Int.emod_lt_of_pos z hd'
  unfold evenZ
  generalize z % (d : Int) = r at *
  generalize z / (d : Int) = q at *
  have hc : (if (d : Int) < r + r ∨ (r + r = (d : Int) ∧ q % 2 ≠ 0) then (1 : Int) else 0) = 0 ∨ ((if (d : Int) < r + r ∨ (r + r = (d : Int) ∧ q % 2 ≠ 0) then (1 : Int) else 0) = 1 ∧ 1 ≤ r) := by
    split
    · rename_i h; right; exact ⟨rfl, by omega⟩
    · left; rfl
  generalize (if (d : Int) < r + r ∨ (r + r = (d : Int) ∧ q % 2 ≠ 0) then (1 : Int) else 0) = c at *
  by_cases hq : 0 ≤ q
  · have : q ≤ (d : Int) * q := by
      have := Int.mul_le_mul_of_nonneg_right (show (1 : Int) ≤ d by omega) hq
      omega
    omega
  · have : ((d : Int) - 1) * (-q - 1) ≥ 0 := Int.mul_nonneg (by omega) (by omega)
    have e2 : ((d : Int) - 1) * (-q - 1) = -((d : Int) * q) - (d : Int) + q + 1 := by
      rw [Int.sub_mul, Int.mul_sub, Int.mul_neg]; omega
    omega

theorem tenT (n t : Int) (HW : Hid (tenI n = t)) : ∃ cb : Bool, Hid ((decide (0 ≤ n) = true ∧ decide (n ≤ 19) = true ∧ asV ((10 : Int) ^ n.toNat) = .tuple #[.agg #[.bool false, .int .u64 0, .int .u64 t], .bool true] ∧ cb = true) ∨ (decide (0 ≤ n) = false ∧ t = 0 ∧ cb = false) ∨ (decide (0 ≤ n) = true ∧ decide (n ≤ 19) = false ∧ t = 0 ∧ cb = false)) := by
  by_cases g0 : 0 ≤ n
  · by_cases g1 : n ≤ 19
    · exact ⟨true, .inl ⟨by simpa using g0, by simpa using g1, by rw [asV_ten n g0 g1, HW.out], rfl⟩⟩
    · exact ⟨false, .inr (.inr ⟨by simpa using g0, by simpa using g1, by rw [← HW.out]; unfold tenI; rw [if_neg (by omega)], rfl⟩)⟩
  · exact ⟨false, .inr (.inl ⟨by simpa using g0, by rw [← HW.out]; unfold tenI; rw [if_neg (by omega)], rfl⟩)⟩
theorem ovV_small (z : Int) (v : Value) (h : z.natAbs < 340282366920938463463374607431768211456) (hv : wv z = v) : ovV z = .tuple #[v, .int .i64 0] := by
  unfold ovV; rw [if_pos h, hv]

set_option maxRecDepth 100000 in
set_option maxHeartbeats 4000000 in
theorem wideDivides_pos (n1 : Bool) (h1 l1 d : Nat) (n : Int) (w : World) (b1 : h1 < 18446744073709551616) (b2 : l1 < 18446744073709551616) (hd0 : 0 < d) (hd1 : d < 18446744073709551616)
    (n0 : -9223372036854775808 ≤ n) (n9 : n ≤ 9223372036854775807) :
    Calls Try.prog 3 #[.agg #[.bool n1, .int .u64 (h1 : Int), .int .u64 (l1 : Int)], .int .u64 (d : Int), .int .i64 n] w fun e w' => e = .returned (.bool true) ∧ Below w.heap.size w w' := by
  have dz : ((d : Int) == 0) = false := by simp; omega
  have HL : Hid (h1 < 18446744073709551616 ∧ l1 < 18446744073709551616 ∧ 0 < d ∧ d < 18446744073709551616) := ⟨b1, b2, hd0, hd1⟩
  have HN : Hid (-9223372036854775808 ≤ n ∧ n ≤ 9223372036854775807) := ⟨n0, n9⟩
  obtain ⟨S, hS⟩ : ∃ S : Nat, Hid (h1 * 18446744073709551616 + l1 = S) := ⟨_, rfl⟩
  have hzs : Hid (wz false h1 l1 = (S : Int)) := by show _ = _; rw [← hS.out]; unfold wz; simp
  have hza := wz_abs n1 h1 l1
  have HZ1 := wz_lt n1 h1 l1 b1 b2
  obtain ⟨z, hz1⟩ : ∃ z, Hid (wz n1 h1 l1 = z) := ⟨_, rfl⟩
  rw [hz1.out, hS.out] at hza
  rw [hz1.out] at HZ1
  obtain ⟨qb, qh, ql, hq⟩ := wv_agg (z.tdiv (d : Int))
  obtain ⟨ab, ah0, al0, HA⟩ := wv_agg (evenZ z d)
  obtain ⟨bb, bh0, bl0, HB⟩ := wv_agg (z / (d : Int))
  obtain ⟨R, hR⟩ : ∃ R : Nat, Hid (S % d = R) := ⟨_, rfl⟩
  have HR : Hid (R < 18446744073709551616) := by show _ < _; rw [← hR.out]; exact Nat.lt_trans (Nat.mod_lt _ hd0) hd1
  have HSR : Hid ((S : Int) % (d : Int) = (R : Int)) := by show _ = _; rw [← hR.out]; exact (Int.natCast_emod _ _).symm
  have HCR : Hid (cmpZ (R : Int) (R : Int) = 0) := by show _ = _; unfold cmpZ; rw [if_pos rfl]
  have HQ : Hid (divV (wz n1 h1 l1) d = .tuple #[.agg #[.bool qb, .int .u64 (qh : Int), .int .u64 (ql : Int)], .int .u64 (R : Int), .int .i64 0]) := by
    show _ = _; unfold divV; rw [hz1.out, hza, hR.out, hq.out]
  have hab := evenZ_abs z d hd0
  have htd : (z.tdiv (d : Int)).natAbs ≤ z.natAbs := by rw [Int.natAbs_tdiv]; exact Nat.div_le_self _ _
  have HQV := Lib.hid (ovV_small _ _ (Nat.lt_of_le_of_lt htd HZ1) hq.out)
  have HAV := Lib.hid (ovV_small _ _ (Nat.lt_of_le_of_lt hab.1 HZ1) HA.out)
  have HBV := Lib.hid (ovV_small _ _ (Nat.lt_of_le_of_lt hab.2 HZ1) HB.out)
  have HSG : Hid (decide (z < 0) = true ∨ decide (z < 0) = false) := by show _ ∨ _; cases decide (z < 0) <;> simp
  have HTN : Hid (decide (z < 0) = true → -((S : Int) / (d : Int)) = z.tdiv (d : Int)) := by
    intro h; have hz : z = -(S : Int) := by have := of_decide_eq_true h; omega
    rw [hz, Int.neg_tdiv, Int.tdiv_eq_ediv_of_nonneg (by omega)]
  have HTP : Hid (decide (z < 0) = false → (S : Int) / (d : Int) = z.tdiv (d : Int)) := by
    intro h; have hz : z = (S : Int) := by have := of_decide_eq_false h; omega
    rw [hz, Int.tdiv_eq_ediv_of_nonneg (by omega)]
  obtain ⟨t, HW⟩ : ∃ t : Int, Hid (tenI n = t) := ⟨_, rfl⟩
  obtain ⟨cb, HT⟩ := tenT n t HW
  clear b1 b2 hd0 hd1 n0 n9 hza HZ1 hab htd
  go_enter Try.func3, Try.ntmps3
  have HX := Lib.hid (wAt_new w n1 h1 l1); have B1 := Lib.hid (ba w (.cells #[.bool n1, .int .u64 (h1 : Int), .int .u64 (l1 : Int)] 24))
  have X1 := HX; clear HX
  go_upto_region 1 with fail
  generalize World.alloc w _ = w1 at X1 B1 ⊢
  have x0 := X1.out.c0; have x1 := X1.out.c1; have x2 := X1.out.c2
  go_wp2_with fail
  refine (wDiv_any n1 h1 l1 d _ HL.out.1 HL.out.2.1 HL.out.2.2.1 HL.out.2.2.2).mono ?_
  rintro e w2 ⟨rfl, b2⟩
  rw [HQ.out]
  have X2 := Lib.hid (WAt.below X1.out b2)
  have B2 := Lib.hid (bt B1.out b2)
  clear x0 x1 x2
  clear b2
  clear X1  B1
  go_upto_region 2 with fail
  generalize hW : World.alloc w2 _ = W3
  obtain ⟨iq, hiiq⟩ : ∃ x, Hid (w2.heap.size = x) := ⟨_, rfl⟩
  have Q3 : Hid (WAt W3 iq qb qh ql) := by rw [← hW, ← hiiq.out]; exact wAt_new _ _ _ _
  have bW : Below w2.heap.size w2 W3 := by rw [← hW]; exact ba _ _
  rw [hiiq.out]
  clear hW
  have X3 := Lib.hid (WAt.below X2.out bW)
  have B3 := Lib.hid (bt B2.out bW)
  clear bW hiiq
  clear X2  B2
  have x0 := X3.out.c0; have x1 := X3.out.c1; have x2 := X3.out.c2
  go_wp2_with fail
  refine (wEven_any n1 h1 l1 d _ HL.out.1 HL.out.2.1 HL.out.2.2.1 HL.out.2.2.2).mono ?_
  rintro e w4 ⟨rfl, b2⟩
  rw [hz1.out, HA.out]
  have X4 := Lib.hid (WAt.below X3.out b2)
  have Q4 := Lib.hid (WAt.below Q3.out b2)
  have B4 := Lib.hid (bt B3.out b2)
  clear x0 x1 x2
  clear b2
  clear X3 Q3  B3
  go_upto_region 3 with fail
  generalize hW : World.alloc w4 _ = W5
  obtain ⟨ie, hiie⟩ : ∃ x, Hid (w4.heap.size = x) := ⟨_, rfl⟩
  have E5 : Hid (WAt W5 ie ab ah0 al0) := by rw [← hW, ← hiie.out]; exact wAt_new _ _ _ _
  have bW : Below w4.heap.size w4 W5 := by rw [← hW]; exact ba _ _
  rw [hiie.out]
  clear hW
  have X5 := Lib.hid (WAt.below X4.out bW)
  have Q5 := Lib.hid (WAt.below Q4.out bW)
  have B5 := Lib.hid (bt B4.out bW)
  clear bW hiie
  clear X4 Q4  B4
  have x0 := X5.out.c0; have x1 := X5.out.c1; have x2 := X5.out.c2
  go_wp2_with fail
  refine (wFloor_any n1 h1 l1 d _ HL.out.1 HL.out.2.1 HL.out.2.2.1 HL.out.2.2.2).mono ?_
  rintro e w6 ⟨rfl, b2⟩
  rw [hz1.out, HB.out]
  have X6 := Lib.hid (WAt.below X5.out b2)
  have Q6 := Lib.hid (WAt.below Q5.out b2)
  have E6 := Lib.hid (WAt.below E5.out b2)
  have B6 := Lib.hid (bt B5.out b2)
  clear x0 x1 x2
  clear b2
  clear X5 Q5 E5  B5
  go_upto_region 4 with fail
  generalize hW : World.alloc w6 _ = W7
  obtain ⟨jf, hijf⟩ : ∃ x, Hid (w6.heap.size = x) := ⟨_, rfl⟩
  have F7 : Hid (WAt W7 jf bb bh0 bl0) := by rw [← hW, ← hijf.out]; exact wAt_new _ _ _ _
  have bW : Below w6.heap.size w6 W7 := by rw [← hW]; exact ba _ _
  rw [hijf.out]
  clear hW
  have X7 := Lib.hid (WAt.below X6.out bW)
  have Q7 := Lib.hid (WAt.below Q6.out bW)
  have E7 := Lib.hid (WAt.below E6.out bW)
  have B7 := Lib.hid (bt B6.out bW)
  clear bW hijf
  clear X6 Q6 E6  B6
  go_upto_region 5 with fail
  go_cut [48] (fun s48 wx => s48 = .bool cb ∧ wx = W7)
  case first =>
    rcases HT.out with ⟨d1, d2, hT, hc⟩ | ⟨d1, hT, hc⟩ | ⟨d1, d2, hT, hc⟩
    all_goals (go_wp2_with fail; go_meet; case rel => exact ⟨by rw [hc], rfl⟩)
  case rest =>
    obtain ⟨rfl, e7⟩ := hcut; replace e7 := e7.symm; subst e7
    go_upto_if 48 with fail
    go_cut [14] (fun s14 wx => s14 = .int .u64 t ∧ Below W7.heap.size W7 wx)
    case first =>
      rcases HT.out with ⟨d1, d2, hT, hc⟩ | ⟨d1, hT, hc⟩ | ⟨d1, d2, hT, hc⟩
      · subst hc
        go_wp2_with fail
        refine (ten_any n _ (by have := d2; simp at this; omega)).mono ?_
        rintro e w2 ⟨vt, hz, rfl, b2⟩
        have NT := Lib.hid hz; have BT := Lib.hid b2; clear hz b2
        go_wp2_with fail
        refine (as_c (n.toNat + 1) vt _ _ _ NT.out (by have := d2; simp at this; omega) hT).mono ?_
        rintro e w3 ⟨rfl, b3⟩
        have BU := Lib.hid (bt BT.out b3); clear b3 BT NT
        go_wp2_with fail
        go_meet
        case rel => exact ⟨rfl, bt BU.out (ba _ _)⟩
      · subst hc; subst hT; go_wp2_with fail; go_meet; case rel => exact ⟨rfl, Below.refl _ _⟩
      · subst hc; subst hT; go_wp2_with fail; go_meet; case rel => exact ⟨rfl, Below.refl _ _⟩
    case rest =>
      rename_i w8
      obtain ⟨rfl, b2⟩ := hcut
      have X8 := Lib.hid (WAt.below X7.out b2)
      have Q8 := Lib.hid (WAt.below Q7.out b2)
      have E8 := Lib.hid (WAt.below E7.out b2)
      have F8 := Lib.hid (WAt.below F7.out b2)
      have B8 := Lib.hid (bt B7.out b2)
      clear b2
      clear X7 Q7 E7 F7  B7
      go_wp2_with fail
      refine (wTen_c n t _ HN.out.1 HN.out.2 HW.out).mono ?_
      rintro e w9 ⟨rfl, rfl⟩
      have x0 := X8.out.c0; have x1 := X8.out.c1; have x2 := X8.out.c2
      go_wp2_with fail
      refine (wide_any n1 h1 l1 _ ⟨by omega, by have := HL.out; omega⟩ ⟨by omega, by have := HL.out; omega⟩).mono ?_
      rintro e w10 ⟨vu, hz, rfl, b2⟩
      obtain ⟨bu, au, nu, cu, rfl⟩ := num_agg hz; have NU10 := Lib.hid hz; rw [hz1.out] at NU10; clear hz
      have X10 := Lib.hid (WAt.below X8.out b2)
      have Q10 := Lib.hid (WAt.below Q8.out b2)
      have E10 := Lib.hid (WAt.below E8.out b2)
      have F10 := Lib.hid (WAt.below F8.out b2)
      have B10 := Lib.hid (bt B8.out b2)
      clear x0 x1 x2
      clear b2
      clear X8 Q8 E8 F8  B8
      go_wp2_with fail
      refine (word_any (d : Int) _ (by omega) (by have := HL.out; omega)).mono ?_
      rintro e w11 ⟨vv, hz, rfl, b2⟩
      obtain ⟨bv, av, nv, cv, rfl⟩ := num_agg hz; have NV11 := Lib.hid hz; have NU11 := Lib.hid (num_below NU10.out b2); clear hz NU10
      have X11 := Lib.hid (WAt.below X10.out b2)
      have Q11 := Lib.hid (WAt.below Q10.out b2)
      have E11 := Lib.hid (WAt.below E10.out b2)
      have F11 := Lib.hid (WAt.below F10.out b2)
      have B11 := Lib.hid (bt B10.out b2)
      clear b2
      clear X10 Q10 E10 F10  B10
      go_upto_region 13 with fail
      generalize hW : World.alloc (World.alloc w11 _) _ = W12
      obtain ⟨iu, hiiu⟩ : ∃ x, Hid (w11.heap.size = x) := ⟨_, rfl⟩
      obtain ⟨iv, hiiv⟩ : ∃ x, Hid (w11.heap.size + 1 = x) := ⟨_, rfl⟩
      have bW : Below w11.heap.size w11 W12 := by rw [← hW]; exact bt (ba _ _) (ba _ _)
      have U12 : Hid (BoxAt W12 iu (.bool bu) (.slice au nu cu)) := by rw [← hW, ← hiiu.out]; exact boxAt_below (boxAt_new _ _ _) (ba _ _)
      have V12 : Hid (BoxAt W12 iv (.bool bv) (.slice av nv cv)) := by
        have h := boxAt_new (w11.alloc (.cells #[.bool bu, .slice au nu cu] 34)) (.bool bv) (.slice av nv cv)
        rw [World.size_alloc] at h; rw [← hW, ← hiiv.out]; exact h
      have NU12 := Lib.hid (num_below NU11.out bW)
      have NV12 := Lib.hid (num_below NV11.out bW)
      rw [hiiv.out]
      rw [hiiu.out]
      clear hW
      have X12 := Lib.hid (WAt.below X11.out bW)
      have Q12 := Lib.hid (WAt.below Q11.out bW)
      have E12 := Lib.hid (WAt.below E11.out bW)
      have F12 := Lib.hid (WAt.below F11.out bW)
      have B12 := Lib.hid (bt B11.out bW)
      clear bW hiiu hiiv NU11 NV11
      clear X11 Q11 E11 F11  B11
      have x0 := X12.out.c0; have x1 := X12.out.c1; have x2 := X12.out.c2
      go_wp2_with fail
      refine (wide_any false h1 l1 _ ⟨by omega, by have := HL.out; omega⟩ ⟨by omega, by have := HL.out; omega⟩).mono ?_
      rintro e w13 ⟨vp, hz, rfl, b2⟩
      obtain ⟨bp, ap, np, cp, rfl⟩ := num_agg hz; have NP13 := Lib.hid hz; rw [hzs.out] at NP13; clear hz
      have X13 := Lib.hid (WAt.below X12.out b2)
      have Q13 := Lib.hid (WAt.below Q12.out b2)
      have E13 := Lib.hid (WAt.below E12.out b2)
      have F13 := Lib.hid (WAt.below F12.out b2)
      have U13 := Lib.hid (boxAt_below U12.out b2); have NU13 := Lib.hid (num_below NU12.out b2)
      have V13 := Lib.hid (boxAt_below V12.out b2); have NV13 := Lib.hid (num_below NV12.out b2)
      have B13 := Lib.hid (bt B12.out b2)
      clear x0 x1 x2
      clear b2
      clear X12 Q12 E12 F12 U12 NU12 V12 NV12 B12
      go_upto_region 14 with fail
      generalize hW : World.alloc w13 _ = W14
      obtain ⟨ip, hiip⟩ : ∃ x, Hid (w13.heap.size = x) := ⟨_, rfl⟩
      have bW : Below w13.heap.size w13 W14 := by rw [← hW]; exact ba _ _
      have P14 : Hid (BoxAt W14 ip (.bool bp) (.slice ap np cp)) := by rw [← hW, ← hiip.out]; exact boxAt_new _ _ _
      have NP14 := Lib.hid (num_below NP13.out bW)
      rw [hiip.out]
      clear hW
      have X14 := Lib.hid (WAt.below X13.out bW)
      have Q14 := Lib.hid (WAt.below Q13.out bW)
      have E14 := Lib.hid (WAt.below E13.out bW)
      have F14 := Lib.hid (WAt.below F13.out bW)
      have U14 := Lib.hid (boxAt_below U13.out bW); have NU14 := Lib.hid (num_below NU13.out bW)
      have V14 := Lib.hid (boxAt_below V13.out bW); have NV14 := Lib.hid (num_below NV13.out bW)
      have B14 := Lib.hid (bt B13.out bW)
      clear bW hiip NP13
      clear X13 Q13 E13 F13 U13 NU13 V13 NV13 B13
      have p0 := P14.out.c0; have p1 := P14.out.c1
      have v0 := V14.out.c0; have v1 := V14.out.c1
      go_wp2_with fail
      refine (down_any 22 7 _ _ (S : Int) d _ NP14.out NV14.out (by have := HL.out; omega) (by omega) (by omega)).mono ?_
      rintro e w15 ⟨vd, vl, hd, hl, rfl, b2⟩
      obtain ⟨bd, ad, nd, cd, rfl⟩ := num_agg hd; obtain ⟨bl2, al2, nl2, cl2, rfl⟩ := num_agg hl
      have ND15 : Hid (Num 30 w15 _ _) := hd; have NL15 := Lib.hid (num_cast hl HSR.out); clear hd hl
      have X15 := Lib.hid (WAt.below X14.out b2)
      have Q15 := Lib.hid (WAt.below Q14.out b2)
      have E15 := Lib.hid (WAt.below E14.out b2)
      have F15 := Lib.hid (WAt.below F14.out b2)
      have U15 := Lib.hid (boxAt_below U14.out b2); have NU15 := Lib.hid (num_below NU14.out b2)
      have V15 := Lib.hid (boxAt_below V14.out b2); have NV15 := Lib.hid (num_below NV14.out b2)
      have P15 := Lib.hid (boxAt_below P14.out b2); have NP15 := Lib.hid (num_below NP14.out b2)
      have B15 := Lib.hid (bt B14.out b2)
      clear p0 p1
      clear v0 v1
      clear b2
      clear X14 Q14 E14 F14 U14 NU14 V14 NV14 P14 NP14 B14
      go_upto_region 15 with fail
      generalize hW : World.alloc (World.alloc w15 _) _ = W16
      obtain ⟨id, hiid⟩ : ∃ x, Hid (w15.heap.size = x) := ⟨_, rfl⟩
      obtain ⟨il, hiil⟩ : ∃ x, Hid (w15.heap.size + 1 = x) := ⟨_, rfl⟩
      have bW : Below w15.heap.size w15 W16 := by rw [← hW]; exact bt (ba _ _) (ba _ _)
      have D16 : Hid (BoxAt W16 id (.bool bd) (.slice ad nd cd)) := by rw [← hW, ← hiid.out]; exact boxAt_below (boxAt_new _ _ _) (ba _ _)
      have L16 : Hid (BoxAt W16 il (.bool bl2) (.slice al2 nl2 cl2)) := by
        have h := boxAt_new (w15.alloc (.cells #[.bool bd, .slice ad nd cd] 34)) (.bool bl2) (.slice al2 nl2 cl2)
        rw [World.size_alloc] at h; rw [← hW, ← hiil.out]; exact h
      have HNE : Hid (iu ≠ id ∧ iv ≠ id ∧ ip ≠ id ∧ il ≠ id) := by
        have l1 := U15.out.lt; have l2 := V15.out.lt; have l3 := P15.out.lt; have l4 := hiid.out; have l5 := hiil.out
        exact ⟨by omega, by omega, by omega, by omega⟩
      have HID : Hid (w.heap.size ≤ id) := by have h := B15.out.size; have l4 := hiid.out; show _ ≤ _; omega
      have ND16 := Lib.hid (num_below ND15.out bW)
      have NL16 := Lib.hid (num_below NL15.out bW)
      rw [hiil.out]
      rw [hiid.out]
      clear hW
      have X16 := Lib.hid (WAt.below X15.out bW)
      have Q16 := Lib.hid (WAt.below Q15.out bW)
      have E16 := Lib.hid (WAt.below E15.out bW)
      have F16 := Lib.hid (WAt.below F15.out bW)
      have U16 := Lib.hid (boxAt_below U15.out bW); have NU16 := Lib.hid (num_below NU15.out bW)
      have V16 := Lib.hid (boxAt_below V15.out bW); have NV16 := Lib.hid (num_below NV15.out bW)
      have P16 := Lib.hid (boxAt_below P15.out bW); have NP16 := Lib.hid (num_below NP15.out bW)
      have B16 := Lib.hid (bt B15.out bW)
      clear bW hiid hiil ND15 NL15
      clear X15 Q15 E15 F15 U15 NU15 V15 NV15 P15 NP15 B15
      rcases HSG.out with hsg | hsg
      ·
        have u0 := U16.out.c0; have u1 := U16.out.c1
        have d0 := D16.out.c0; have d1 := D16.out.c1
        have hub : bu = true := by rw [← num_sign NU16.out]; exact hsg
        subst hub
        go_wp2_with fail
        refine (neg_any 30 _ _ _ ND16.out).mono ?_
        rintro e w17 ⟨vd2, hd, rfl, b2⟩
        obtain ⟨bd2, ad2, nd2, cd2, rfl⟩ := num_agg hd; have M17 := Lib.hid hd; clear hd
        have X17 := Lib.hid (WAt.below X16.out b2)
        have Q17 := Lib.hid (WAt.below Q16.out b2)
        have E17 := Lib.hid (WAt.below E16.out b2)
        have F17 := Lib.hid (WAt.below F16.out b2)
        have U17 := Lib.hid (boxAt_below U16.out b2); have NU17 := Lib.hid (num_below NU16.out b2)
        have V17 := Lib.hid (boxAt_below V16.out b2); have NV17 := Lib.hid (num_below NV16.out b2)
        have P17 := Lib.hid (boxAt_below P16.out b2); have NP17 := Lib.hid (num_below NP16.out b2)
        have D17 := Lib.hid (boxAt_below D16.out b2); have ND17 := Lib.hid (num_below ND16.out b2)
        have L17 := Lib.hid (boxAt_below L16.out b2); have NL17 := Lib.hid (num_below NL16.out b2)
        have B17 := Lib.hid (bt B16.out b2)
        clear u0 u1
        clear d0 d1
        clear b2
        clear X16 Q16 E16 F16 U16 NU16 V16 NV16 P16 NP16 D16 ND16 L16 NL16 B16
        have df0 := D17.out.f0; have df1 := D17.out.f1; have d0 := D17.out.c0; have d1 := D17.out.c1
        go_upto_region 17 with fail
        generalize hW : World.setCell (World.setCell w17 _ _) _ _ = W18
        clear df0 df1 d0 d1
        have X18 : Hid (WAt W18 w.heap.size n1 h1 l1) := by rw [← hW]; exact wAt_other2 _ _ X17.out (wAt_ne X17.out D17.out)
        have Q18 : Hid (WAt W18 iq qb qh ql) := by rw [← hW]; exact wAt_other2 _ _ Q17.out (wAt_ne Q17.out D17.out)
        have E18 : Hid (WAt W18 ie ab ah0 al0) := by rw [← hW]; exact wAt_other2 _ _ E17.out (wAt_ne E17.out D17.out)
        have F18 : Hid (WAt W18 jf bb bh0 bl0) := by rw [← hW]; exact wAt_other2 _ _ F17.out (wAt_ne F17.out D17.out)
        have U18 : Hid (BoxAt W18 iu (.bool true) (.slice au nu cu)) := by rw [← hW]; exact boxAt_other2 _ _ U17.out (HNE.out.1)
        have NU18 : Hid (Num 22 W18 (.agg #[.bool true, .slice au nu cu]) z) := by rw [← hW]; exact num_set2 _ _ NU17.out D17.out
        have V18 : Hid (BoxAt W18 iv (.bool bv) (.slice av nv cv)) := by rw [← hW]; exact boxAt_other2 _ _ V17.out (HNE.out.2.1)
        have NV18 : Hid (Num 7 W18 (.agg #[.bool bv, .slice av nv cv]) (d : Int)) := by rw [← hW]; exact num_set2 _ _ NV17.out D17.out
        have P18 : Hid (BoxAt W18 ip (.bool bp) (.slice ap np cp)) := by rw [← hW]; exact boxAt_other2 _ _ P17.out (HNE.out.2.2.1)
        have NP18 : Hid (Num 22 W18 (.agg #[.bool bp, .slice ap np cp]) (S : Int)) := by rw [← hW]; exact num_set2 _ _ NP17.out D17.out
        have D18 : Hid (BoxAt W18 id (.bool bd2) (.slice ad2 nd2 cd2)) := by rw [← hW]; exact boxAt_set2 _ _ D17.out
        have ND18 : Hid (Num 30 W18 (.agg #[.bool bd2, .slice ad2 nd2 cd2]) (z.tdiv (d : Int))) := by rw [← hW, ← HTN.out hsg]; exact num_set2 _ _ M17.out D17.out
        have L18 : Hid (BoxAt W18 il (.bool bl2) (.slice al2 nl2 cl2)) := by rw [← hW]; exact boxAt_other2 _ _ L17.out (HNE.out.2.2.2)
        have NL18 : Hid (Num 8 W18 (.agg #[.bool bl2, .slice al2 nl2 cl2]) (R : Int)) := by rw [← hW]; exact num_set2 _ _ NL17.out D17.out
        have B18 : Hid (Below w.heap.size w W18) := by rw [← hW]; exact (B17.out.setCell HID.out _).setCell HID.out _
        clear hW M17
        clear X17 Q17 E17 F17 U17 NU17 V17 NV17 P17 NP17 D17 ND17 L17 NL17 B17
        have u0 := U18.out.c0; have u1 := U18.out.c1
        have v0 := V18.out.c0; have v1 := V18.out.c1
        go_wp2_with fail
        refine (down_any 22 7 _ _ z d _ NU18.out NV18.out (by have := HL.out; omega) (by omega) (by omega)).mono ?_
        rintro e w19 ⟨vg, vh, hd, hl, rfl, b2⟩
        obtain ⟨bg, ag, ng, cg, rfl⟩ := num_agg hd; obtain ⟨bh, ah, nh, ch, rfl⟩ := num_agg hl
        have NG19 : Hid (Num 30 w19 _ _) := hd; have NH19 := Lib.hid hl; clear hd hl
        have X19 := Lib.hid (WAt.below X18.out b2)
        have Q19 := Lib.hid (WAt.below Q18.out b2)
        have E19 := Lib.hid (WAt.below E18.out b2)
        have F19 := Lib.hid (WAt.below F18.out b2)
        have U19 := Lib.hid (boxAt_below U18.out b2); have NU19 := Lib.hid (num_below NU18.out b2)
        have V19 := Lib.hid (boxAt_below V18.out b2); have NV19 := Lib.hid (num_below NV18.out b2)
        have P19 := Lib.hid (boxAt_below P18.out b2); have NP19 := Lib.hid (num_below NP18.out b2)
        have D19 := Lib.hid (boxAt_below D18.out b2); have ND19 := Lib.hid (num_below ND18.out b2)
        have L19 := Lib.hid (boxAt_below L18.out b2); have NL19 := Lib.hid (num_below NL18.out b2)
        have B19 := Lib.hid (bt B18.out b2)
        clear u0 u1
        clear v0 v1
        clear b2
        clear X18 Q18 E18 F18 U18 NU18 V18 NV18 P18 NP18 D18 ND18 L18 NL18 B18
        go_upto_region 18 with fail
        generalize hW : World.alloc (World.alloc w19 _) _ = W20
        obtain ⟨ig, hiig⟩ : ∃ x, Hid (w19.heap.size = x) := ⟨_, rfl⟩
        obtain ⟨ih, hiih⟩ : ∃ x, Hid (w19.heap.size + 1 = x) := ⟨_, rfl⟩
        have bW : Below w19.heap.size w19 W20 := by rw [← hW]; exact bt (ba _ _) (ba _ _)
        have G20 : Hid (BoxAt W20 ig (.bool bg) (.slice ag ng cg)) := by rw [← hW, ← hiig.out]; exact boxAt_below (boxAt_new _ _ _) (ba _ _)
        have H20 : Hid (BoxAt W20 ih (.bool bh) (.slice ah nh ch)) := by
          have h := boxAt_new (w19.alloc (.cells #[.bool bg, .slice ag ng cg] 34)) (.bool bh) (.slice ah nh ch)
          rw [World.size_alloc] at h; rw [← hW, ← hiih.out]; exact h
        have NG20 := Lib.hid (num_below NG19.out bW)
        have NH20 := Lib.hid (num_below NH19.out bW)
        rw [hiih.out]
        rw [hiig.out]
        clear hW
        have X20 := Lib.hid (WAt.below X19.out bW)
        have Q20 := Lib.hid (WAt.below Q19.out bW)
        have E20 := Lib.hid (WAt.below E19.out bW)
        have F20 := Lib.hid (WAt.below F19.out bW)
        have U20 := Lib.hid (boxAt_below U19.out bW); have NU20 := Lib.hid (num_below NU19.out bW)
        have V20 := Lib.hid (boxAt_below V19.out bW); have NV20 := Lib.hid (num_below NV19.out bW)
        have P20 := Lib.hid (boxAt_below P19.out bW); have NP20 := Lib.hid (num_below NP19.out bW)
        have D20 := Lib.hid (boxAt_below D19.out bW); have ND20 := Lib.hid (num_below ND19.out bW)
        have L20 := Lib.hid (boxAt_below L19.out bW); have NL20 := Lib.hid (num_below NL19.out bW)
        have B20 := Lib.hid (bt B19.out bW)
        clear bW hiig hiih NG19 NH19
        clear X19 Q19 E19 F19 U19 NU19 V19 NV19 P19 NP19 D19 ND19 L19 NL19 B19
        have mkS : ∀ w', Below W20.heap.size W20 w' → (Below W20.heap.size W20 w' ∧ w'.cell? ⟨iq, 0, none⟩ = some (.bool qb) ∧ w'.cell? ⟨iq, 1, none⟩ = some (.int .u64 (qh : Int)) ∧ w'.cell? ⟨iq, 2, none⟩ = some (.int .u64 (ql : Int)) ∧ w'.cell? ⟨ie, 0, none⟩ = some (.bool ab) ∧ w'.cell? ⟨ie, 1, none⟩ = some (.int .u64 (ah0 : Int)) ∧ w'.cell? ⟨ie, 2, none⟩ = some (.int .u64 (al0 : Int)) ∧ w'.cell? ⟨jf, 0, none⟩ = some (.bool bb) ∧ w'.cell? ⟨jf, 1, none⟩ = some (.int .u64 (bh0 : Int)) ∧ w'.cell? ⟨jf, 2, none⟩ = some (.int .u64 (bl0 : Int)) ∧ w'.cell? ⟨iu, 0, none⟩ = some (.bool true) ∧ w'.cell? ⟨iu, 1, none⟩ = some (.slice au nu cu) ∧ w'.cell? ⟨iv, 0, none⟩ = some (.bool bv) ∧ w'.cell? ⟨iv, 1, none⟩ = some (.slice av nv cv) ∧ w'.cell? ⟨id, 0, none⟩ = some (.bool bd2) ∧ w'.cell? ⟨id, 1, none⟩ = some (.slice ad2 nd2 cd2) ∧ w'.cell? ⟨il, 0, none⟩ = some (.bool bl2) ∧ w'.cell? ⟨il, 1, none⟩ = some (.slice al2 nl2 cl2) ∧ w'.cell? ⟨ig, 0, none⟩ = some (.bool bg) ∧ w'.cell? ⟨ig, 1, none⟩ = some (.slice ag ng cg)) := fun w' hb => ⟨hb, (WAt.below Q20.out hb).c0, (WAt.below Q20.out hb).c1, (WAt.below Q20.out hb).c2, (WAt.below E20.out hb).c0, (WAt.below E20.out hb).c1, (WAt.below E20.out hb).c2, (WAt.below F20.out hb).c0, (WAt.below F20.out hb).c1, (WAt.below F20.out hb).c2, (boxAt_below U20.out hb).c0, (boxAt_below U20.out hb).c1, (boxAt_below V20.out hb).c0, (boxAt_below V20.out hb).c1, (boxAt_below D20.out hb).c0, (boxAt_below D20.out hb).c1, (boxAt_below L20.out hb).c0, (boxAt_below L20.out hb).c1, (boxAt_below G20.out hb).c0, (boxAt_below G20.out hb).c1⟩
        have HS0 := mkS _ ((Below.refl _ _).drew)
        go_region_held3 (fun w' => Below W20.heap.size W20 w' ∧ w'.cell? ⟨iq, 0, none⟩ = some (.bool qb) ∧ w'.cell? ⟨iq, 1, none⟩ = some (.int .u64 (qh : Int)) ∧ w'.cell? ⟨iq, 2, none⟩ = some (.int .u64 (ql : Int)) ∧ w'.cell? ⟨ie, 0, none⟩ = some (.bool ab) ∧ w'.cell? ⟨ie, 1, none⟩ = some (.int .u64 (ah0 : Int)) ∧ w'.cell? ⟨ie, 2, none⟩ = some (.int .u64 (al0 : Int)) ∧ w'.cell? ⟨jf, 0, none⟩ = some (.bool bb) ∧ w'.cell? ⟨jf, 1, none⟩ = some (.int .u64 (bh0 : Int)) ∧ w'.cell? ⟨jf, 2, none⟩ = some (.int .u64 (bl0 : Int)) ∧ w'.cell? ⟨iu, 0, none⟩ = some (.bool true) ∧ w'.cell? ⟨iu, 1, none⟩ = some (.slice au nu cu) ∧ w'.cell? ⟨iv, 0, none⟩ = some (.bool bv) ∧ w'.cell? ⟨iv, 1, none⟩ = some (.slice av nv cv) ∧ w'.cell? ⟨id, 0, none⟩ = some (.bool bd2) ∧ w'.cell? ⟨id, 1, none⟩ = some (.slice ad2 nd2 cd2) ∧ w'.cell? ⟨il, 0, none⟩ = some (.bool bl2) ∧ w'.cell? ⟨il, 1, none⟩ = some (.slice al2 nl2 cl2) ∧ w'.cell? ⟨ig, 0, none⟩ = some (.bool bg) ∧ w'.cell? ⟨ig, 1, none⟩ = some (.slice ag ng cg))
          (first | with_reducible exact HS0 | with_reducible assumption)
          (first
            | (go_at_call 20; (with_reducible refine (told_any 30 (z.tdiv (d : Int)) qb qh ql 0 _ _ HQV (num_below ND20.out (And.left (by assumption))) (by omega)).mono ?_); rintro e w20 ⟨rfl, b20⟩; have HS20 := mkS _ (bt (And.left (by assumption)) b20); have T20 := Lib.hid (HS20.1); clear b20)
            | (go_at_call 17; (with_reducible refine (word_any (R : Int) _ (by omega) (by have := HR.out; omega)).mono ?_); rintro e w21 ⟨v21, hz, rfl, b21⟩; have HS21 := mkS _ (bt (And.left (by assumption)) b21); have T21 := Lib.hid (HS21.1); have N21 := Lib.hid hz; clear hz; clear b21)
            | (go_at_call 21; (with_reducible refine (cmp_c 7 8 _ _ (R : Int) (R : Int) 0 _ N21.out (num_below NL20.out T21.out) (by omega) (by omega) HCR.out).mono ?_); rintro e w22 ⟨rfl, b22⟩; have HS22 := mkS _ (bt (And.left (by assumption)) b22); have T22 := Lib.hid (HS22.1); clear b22)
            | (go_at_call 22; (with_reducible refine (even_any 22 7 _ _ z d _ (num_below NU20.out T22.out) (num_below NV20.out T22.out) (by have := HL.out; omega) (by omega) (by omega)).mono ?_); rintro e w23 ⟨v23, hz, rfl, b23⟩; have HS23 := mkS _ (bt (And.left (by assumption)) b23); have T23 := Lib.hid (HS23.1); have N23 := Lib.hid hz; clear hz; clear b23)
            | (go_at_call 20; (with_reducible refine (told_any (22 + 9) (evenZ z d) ab ah0 al0 0 _ _ HAV N23.out (by omega)).mono ?_); rintro e w24 ⟨rfl, b24⟩; have HS24 := mkS _ (bt (And.left (by assumption)) b24); have T24 := Lib.hid (HS24.1); clear b24)
            | (go_at_call 20; (with_reducible refine (told_any 30 (z / (d : Int)) bb bh0 bl0 0 _ _ HBV (num_below NG20.out T24.out) (by omega)).mono ?_); rintro e w25 ⟨rfl, b25⟩; have HS25 := mkS _ (bt (And.left (by assumption)) b25); have T25 := Lib.hid (HS25.1); clear b25)
            | (go_at_call 15; (with_reducible refine (known_any _).mono ?_); rintro e w26 ⟨rfl, b26⟩; have HS26 := mkS _ (bt (And.left (by assumption)) b26); have T26 := Lib.hid (HS26.1); clear b26))
        all_goals
          go_wp2_with fail
          go_ret
          exact ⟨rfl, bt B20.out T26.out⟩
      ·
        have u0 := U16.out.c0; have u1 := U16.out.c1
        have hub : bu = false := by rw [← num_sign NU16.out]; exact hsg
        subst hub
        go_upto_region 17 with fail
        have ND18 := Lib.hid (num_cast ND16.out (HTP.out hsg)); clear ND16
        have X18 := X16; clear X16
        have Q18 := Q16; clear Q16
        have E18 := E16; clear E16
        have F18 := F16; clear F16
        have U18 := U16; clear U16; have NU18 := NU16; clear NU16
        have V18 := V16; clear V16; have NV18 := NV16; clear NV16
        have P18 := P16; clear P16; have NP18 := NP16; clear NP16
        have D18 := D16; clear D16
        have L18 := L16; clear L16; have NL18 := NL16; clear NL16
        have B18 := B16; clear B16
        clear u0 u1
        have u0 := U18.out.c0; have u1 := U18.out.c1
        have v0 := V18.out.c0; have v1 := V18.out.c1
        go_wp2_with fail
        refine (down_any 22 7 _ _ z d _ NU18.out NV18.out (by have := HL.out; omega) (by omega) (by omega)).mono ?_
        rintro e w19 ⟨vg, vh, hd, hl, rfl, b2⟩
        obtain ⟨bg, ag, ng, cg, rfl⟩ := num_agg hd; obtain ⟨bh, ah, nh, ch, rfl⟩ := num_agg hl
        have NG19 : Hid (Num 30 w19 _ _) := hd; have NH19 := Lib.hid hl; clear hd hl
        have X19 := Lib.hid (WAt.below X18.out b2)
        have Q19 := Lib.hid (WAt.below Q18.out b2)
        have E19 := Lib.hid (WAt.below E18.out b2)
        have F19 := Lib.hid (WAt.below F18.out b2)
        have U19 := Lib.hid (boxAt_below U18.out b2); have NU19 := Lib.hid (num_below NU18.out b2)
        have V19 := Lib.hid (boxAt_below V18.out b2); have NV19 := Lib.hid (num_below NV18.out b2)
        have P19 := Lib.hid (boxAt_below P18.out b2); have NP19 := Lib.hid (num_below NP18.out b2)
        have D19 := Lib.hid (boxAt_below D18.out b2); have ND19 := Lib.hid (num_below ND18.out b2)
        have L19 := Lib.hid (boxAt_below L18.out b2); have NL19 := Lib.hid (num_below NL18.out b2)
        have B19 := Lib.hid (bt B18.out b2)
        clear u0 u1
        clear v0 v1
        clear b2
        clear X18 Q18 E18 F18 U18 NU18 V18 NV18 P18 NP18 D18 ND18 L18 NL18 B18
        go_upto_region 18 with fail
        generalize hW : World.alloc (World.alloc w19 _) _ = W20
        obtain ⟨ig, hiig⟩ : ∃ x, Hid (w19.heap.size = x) := ⟨_, rfl⟩
        obtain ⟨ih, hiih⟩ : ∃ x, Hid (w19.heap.size + 1 = x) := ⟨_, rfl⟩
        have bW : Below w19.heap.size w19 W20 := by rw [← hW]; exact bt (ba _ _) (ba _ _)
        have G20 : Hid (BoxAt W20 ig (.bool bg) (.slice ag ng cg)) := by rw [← hW, ← hiig.out]; exact boxAt_below (boxAt_new _ _ _) (ba _ _)
        have H20 : Hid (BoxAt W20 ih (.bool bh) (.slice ah nh ch)) := by
          have h := boxAt_new (w19.alloc (.cells #[.bool bg, .slice ag ng cg] 34)) (.bool bh) (.slice ah nh ch)
          rw [World.size_alloc] at h; rw [← hW, ← hiih.out]; exact h
        have NG20 := Lib.hid (num_below NG19.out bW)
        have NH20 := Lib.hid (num_below NH19.out bW)
        rw [hiih.out]
        rw [hiig.out]
        clear hW
        have X20 := Lib.hid (WAt.below X19.out bW)
        have Q20 := Lib.hid (WAt.below Q19.out bW)
        have E20 := Lib.hid (WAt.below E19.out bW)
        have F20 := Lib.hid (WAt.below F19.out bW)
        have U20 := Lib.hid (boxAt_below U19.out bW); have NU20 := Lib.hid (num_below NU19.out bW)
        have V20 := Lib.hid (boxAt_below V19.out bW); have NV20 := Lib.hid (num_below NV19.out bW)
        have P20 := Lib.hid (boxAt_below P19.out bW); have NP20 := Lib.hid (num_below NP19.out bW)
        have D20 := Lib.hid (boxAt_below D19.out bW); have ND20 := Lib.hid (num_below ND19.out bW)
        have L20 := Lib.hid (boxAt_below L19.out bW); have NL20 := Lib.hid (num_below NL19.out bW)
        have B20 := Lib.hid (bt B19.out bW)
        clear bW hiig hiih NG19 NH19
        clear X19 Q19 E19 F19 U19 NU19 V19 NV19 P19 NP19 D19 ND19 L19 NL19 B19
        have mkS : ∀ w', Below W20.heap.size W20 w' → (Below W20.heap.size W20 w' ∧ w'.cell? ⟨iq, 0, none⟩ = some (.bool qb) ∧ w'.cell? ⟨iq, 1, none⟩ = some (.int .u64 (qh : Int)) ∧ w'.cell? ⟨iq, 2, none⟩ = some (.int .u64 (ql : Int)) ∧ w'.cell? ⟨ie, 0, none⟩ = some (.bool ab) ∧ w'.cell? ⟨ie, 1, none⟩ = some (.int .u64 (ah0 : Int)) ∧ w'.cell? ⟨ie, 2, none⟩ = some (.int .u64 (al0 : Int)) ∧ w'.cell? ⟨jf, 0, none⟩ = some (.bool bb) ∧ w'.cell? ⟨jf, 1, none⟩ = some (.int .u64 (bh0 : Int)) ∧ w'.cell? ⟨jf, 2, none⟩ = some (.int .u64 (bl0 : Int)) ∧ w'.cell? ⟨iu, 0, none⟩ = some (.bool false) ∧ w'.cell? ⟨iu, 1, none⟩ = some (.slice au nu cu) ∧ w'.cell? ⟨iv, 0, none⟩ = some (.bool bv) ∧ w'.cell? ⟨iv, 1, none⟩ = some (.slice av nv cv) ∧ w'.cell? ⟨id, 0, none⟩ = some (.bool bd) ∧ w'.cell? ⟨id, 1, none⟩ = some (.slice ad nd cd) ∧ w'.cell? ⟨il, 0, none⟩ = some (.bool bl2) ∧ w'.cell? ⟨il, 1, none⟩ = some (.slice al2 nl2 cl2) ∧ w'.cell? ⟨ig, 0, none⟩ = some (.bool bg) ∧ w'.cell? ⟨ig, 1, none⟩ = some (.slice ag ng cg)) := fun w' hb => ⟨hb, (WAt.below Q20.out hb).c0, (WAt.below Q20.out hb).c1, (WAt.below Q20.out hb).c2, (WAt.below E20.out hb).c0, (WAt.below E20.out hb).c1, (WAt.below E20.out hb).c2, (WAt.below F20.out hb).c0, (WAt.below F20.out hb).c1, (WAt.below F20.out hb).c2, (boxAt_below U20.out hb).c0, (boxAt_below U20.out hb).c1, (boxAt_below V20.out hb).c0, (boxAt_below V20.out hb).c1, (boxAt_below D20.out hb).c0, (boxAt_below D20.out hb).c1, (boxAt_below L20.out hb).c0, (boxAt_below L20.out hb).c1, (boxAt_below G20.out hb).c0, (boxAt_below G20.out hb).c1⟩
        have HS0 := mkS _ ((Below.refl _ _).drew)
        go_region_held3 (fun w' => Below W20.heap.size W20 w' ∧ w'.cell? ⟨iq, 0, none⟩ = some (.bool qb) ∧ w'.cell? ⟨iq, 1, none⟩ = some (.int .u64 (qh : Int)) ∧ w'.cell? ⟨iq, 2, none⟩ = some (.int .u64 (ql : Int)) ∧ w'.cell? ⟨ie, 0, none⟩ = some (.bool ab) ∧ w'.cell? ⟨ie, 1, none⟩ = some (.int .u64 (ah0 : Int)) ∧ w'.cell? ⟨ie, 2, none⟩ = some (.int .u64 (al0 : Int)) ∧ w'.cell? ⟨jf, 0, none⟩ = some (.bool bb) ∧ w'.cell? ⟨jf, 1, none⟩ = some (.int .u64 (bh0 : Int)) ∧ w'.cell? ⟨jf, 2, none⟩ = some (.int .u64 (bl0 : Int)) ∧ w'.cell? ⟨iu, 0, none⟩ = some (.bool false) ∧ w'.cell? ⟨iu, 1, none⟩ = some (.slice au nu cu) ∧ w'.cell? ⟨iv, 0, none⟩ = some (.bool bv) ∧ w'.cell? ⟨iv, 1, none⟩ = some (.slice av nv cv) ∧ w'.cell? ⟨id, 0, none⟩ = some (.bool bd) ∧ w'.cell? ⟨id, 1, none⟩ = some (.slice ad nd cd) ∧ w'.cell? ⟨il, 0, none⟩ = some (.bool bl2) ∧ w'.cell? ⟨il, 1, none⟩ = some (.slice al2 nl2 cl2) ∧ w'.cell? ⟨ig, 0, none⟩ = some (.bool bg) ∧ w'.cell? ⟨ig, 1, none⟩ = some (.slice ag ng cg))
          (first | with_reducible exact HS0 | with_reducible assumption)
          (first
            | (go_at_call 20; (with_reducible refine (told_any 30 (z.tdiv (d : Int)) qb qh ql 0 _ _ HQV (num_below ND20.out (And.left (by assumption))) (by omega)).mono ?_); rintro e w20 ⟨rfl, b20⟩; have HS20 := mkS _ (bt (And.left (by assumption)) b20); have T20 := Lib.hid (HS20.1); clear b20)
            | (go_at_call 17; (with_reducible refine (word_any (R : Int) _ (by omega) (by have := HR.out; omega)).mono ?_); rintro e w21 ⟨v21, hz, rfl, b21⟩; have HS21 := mkS _ (bt (And.left (by assumption)) b21); have T21 := Lib.hid (HS21.1); have N21 := Lib.hid hz; clear hz; clear b21)
            | (go_at_call 21; (with_reducible refine (cmp_c 7 8 _ _ (R : Int) (R : Int) 0 _ N21.out (num_below NL20.out T21.out) (by omega) (by omega) HCR.out).mono ?_); rintro e w22 ⟨rfl, b22⟩; have HS22 := mkS _ (bt (And.left (by assumption)) b22); have T22 := Lib.hid (HS22.1); clear b22)
            | (go_at_call 22; (with_reducible refine (even_any 22 7 _ _ z d _ (num_below NU20.out T22.out) (num_below NV20.out T22.out) (by have := HL.out; omega) (by omega) (by omega)).mono ?_); rintro e w23 ⟨v23, hz, rfl, b23⟩; have HS23 := mkS _ (bt (And.left (by assumption)) b23); have T23 := Lib.hid (HS23.1); have N23 := Lib.hid hz; clear hz; clear b23)
            | (go_at_call 20; (with_reducible refine (told_any (22 + 9) (evenZ z d) ab ah0 al0 0 _ _ HAV N23.out (by omega)).mono ?_); rintro e w24 ⟨rfl, b24⟩; have HS24 := mkS _ (bt (And.left (by assumption)) b24); have T24 := Lib.hid (HS24.1); clear b24)
            | (go_at_call 20; (with_reducible refine (told_any 30 (z / (d : Int)) bb bh0 bl0 0 _ _ HBV (num_below NG20.out T24.out) (by omega)).mono ?_); rintro e w25 ⟨rfl, b25⟩; have HS25 := mkS _ (bt (And.left (by assumption)) b25); have T25 := Lib.hid (HS25.1); clear b25)
            | (go_at_call 15; (with_reducible refine (known_any _).mono ?_); rintro e w26 ⟨rfl, b26⟩; have HS26 := mkS _ (bt (And.left (by assumption)) b26); have T26 := Lib.hid (HS26.1); clear b26))
        all_goals
          go_wp2_with fail
          go_ret
          exact ⟨rfl, bt B20.out T26.out⟩
end Go.Proofs.Ytlbmmnjecemkeaa
