/-
  THE WALK of wide's Times.
-/
import Derived.Test.YtlbmmnjecemkeaaWOne
import Derived.Test.YtlbmmnjecemkeaaWTwo
namespace Go.Proofs.Ytlbmmnjecemkeaa
open Go.RowKit
attribute [local go_sem ↓] Go.wp_at_zero Go.wp_at_succ

/-- what a sum or product answers -/
def ovV (z : Int) : Value := if z.natAbs < 340282366920938463463374607431768211456 then .tuple #[wv z, .int .i64 0] else .tuple #[.agg #[.bool false, .int .u64 0, .int .u64 0], .int .i64 11]
theorem times_nat (hi lo m O H0 C L H M : Nat) (a : lo * m = C * 18446744073709551616 + L) (b : hi * m = O * 18446744073709551616 + H0) (c : H0 + C = M * 18446744073709551616 + H) :
    (hi * 18446744073709551616 + lo) * m = (O + M) * 340282366920938463463374607431768211456 + (H * 18446744073709551616 + L) := by
  rw [Nat.add_mul, Nat.mul_right_comm, a, b]; omega
theorem wz_times (n : Bool) (hi lo m H L : Nat) (h : (hi * 18446744073709551616 + lo) * m = H * 18446744073709551616 + L) : wz n hi lo * (m : Int) = wz n H L := by
  have e : ((hi : Int) * 18446744073709551616 + (lo : Int)) * (m : Int) = (H : Int) * 18446744073709551616 + (L : Int) := by
    have := congrArg (fun x : Nat => (x : Int)) h
    simpa using this
  unfold wz
  cases n
  · simpa using e
  · simp only [if_true, Int.neg_mul, e]

set_option maxRecDepth 100000 in
set_option maxHeartbeats 1000000 in
theorem wTimes_any (n : Bool) (hi lo m : Nat) (w : World) (b1 : hi < 18446744073709551616) (b2 : lo < 18446744073709551616) (b3 : m < 18446744073709551616) :
    Calls Try.prog 23 #[.agg #[.bool n, .int .u64 (hi : Int), .int .u64 (lo : Int)], .int .u64 (m : Int)] w fun e w' => e = .returned (ovV (wz n hi lo * (m : Int))) ∧ Below w.heap.size w w' := by
  have HB : Hid (hi < 18446744073709551616 ∧ lo < 18446744073709551616 ∧ m < 18446744073709551616) := ⟨b1, b2, b3⟩
  have dO : hi * m / 18446744073709551616 < 18446744073709551615 := by
    rw [Nat.div_lt_iff_lt_mul (by decide)]
    have := Nat.mul_le_mul (show hi ≤ 18446744073709551615 by omega) (show m ≤ 18446744073709551615 by omega)
    omega
  have dC : lo * m / 18446744073709551616 < 18446744073709551616 := by
    rw [Nat.div_lt_iff_lt_mul (by decide)]
    have := Nat.mul_le_mul (show lo ≤ 18446744073709551615 by omega) (show m ≤ 18446744073709551615 by omega)
    omega
  have dL : lo * m % 18446744073709551616 < 18446744073709551616 := Nat.mod_lt _ (by decide)
  have dH : hi * m % 18446744073709551616 < 18446744073709551616 := Nat.mod_lt _ (by decide)
  have mA : lo * m = lo * m / 18446744073709551616 * 18446744073709551616 + lo * m % 18446744073709551616 := by omega
  have mD : hi * m = hi * m / 18446744073709551616 * 18446744073709551616 + hi * m % 18446744073709551616 := by omega
  obtain ⟨O, hO⟩ : ∃ x : Nat, Hid (hi * m / 18446744073709551616 = x) := ⟨_, rfl⟩
  obtain ⟨H0, hH0⟩ : ∃ x : Nat, Hid (hi * m % 18446744073709551616 = x) := ⟨_, rfl⟩
  obtain ⟨C, hC⟩ : ∃ x : Nat, Hid (lo * m / 18446744073709551616 = x) := ⟨_, rfl⟩
  obtain ⟨L, hL⟩ : ∃ x : Nat, Hid (lo * m % 18446744073709551616 = x) := ⟨_, rfl⟩
  rw [hO.out] at dO mD; rw [hH0.out] at dH mD; rw [hC.out] at dC mA; rw [hL.out] at dL mA
  have ad := fun w => add64 (H0 : Int) (C : Int) 0 (by omega) (by omega) (by omega) (by omega) (by omega) (by omega) w
  have mS : H0 + C = (H0 + C) / 18446744073709551616 * 18446744073709551616 + (H0 + C) % 18446744073709551616 := by omega
  have kS : (H0 + C) / 18446744073709551616 ≤ 1 := by omega
  have hS : (H0 + C) % 18446744073709551616 < 18446744073709551616 := Nat.mod_lt _ (by decide)
  obtain ⟨H, hH⟩ : ∃ x : Nat, Hid ((H0 + C) % 18446744073709551616 = x) := ⟨_, rfl⟩
  obtain ⟨M, hM⟩ : ∃ x : Nat, Hid ((H0 + C) / 18446744073709551616 = x) := ⟨_, rfl⟩
  rw [show ((H0 : Int) + (C : Int) + 0) % 18446744073709551616 = (H : Int) from by have := hH.out; omega, show ((H0 : Int) + (C : Int) + 0) / 18446744073709551616 = (M : Int) from by have := hM.out; omega] at ad
  rw [hM.out] at mS kS; rw [hH.out] at mS hS
  have HT := Lib.hid (times_nat hi lo m O H0 C L H M mA mD mS)
  have HS : Hid (H < 18446744073709551616 ∧ L < 18446744073709551616) := ⟨hS, dL⟩
  have e1 : IntKind.u64.wrap ((O : Int) + (M : Int)) = ((O + M : Nat) : Int) := wrapTo _ _ rfl (by omega)
  obtain ⟨K, hK⟩ : ∃ x : Nat, Hid (O + M = x) := ⟨_, rfl⟩
  rw [hK.out] at e1
  clear b1 b2 b3 dO dC dL dH mA mD mS kS hS
  by_cases hk : K = 0
  · have HE := Lib.hid (wz_times n hi lo m H L (by rw [HT.out, hK.out, hk]; simp))
    have HO : Hid (ovV (wz n hi lo * (m : Int)) = .tuple #[wv (wz n H L), .int .i64 0]) := by
      show _ = _; unfold ovV; rw [HE.out, wz_abs, if_pos (by have := HS.out; omega)]
    rw [HO.out]
    subst hk
    go_enter Try.func23, Try.ntmps23
    go_wp2_with fail
    refine (mul64_any lo m HB.out.2.1 HB.out.2.2 _).mono ?_
    rintro e w1 ⟨rfl, rfl⟩
    rw [hC.out, hL.out]
    go_wp2_with fail
    refine (mul64_any hi m HB.out.1 HB.out.2.2 _).mono ?_
    rintro e w1 ⟨rfl, rfl⟩
    rw [hO.out, hH0.out]
    go_wp2_with (simp only [ad])
    refine (put_any n H L _ HS.out.1 HS.out.2).mono ?_
    rintro e w2 ⟨rfl, b2⟩
    obtain ⟨nb, nh, nl, hv⟩ := wv_agg (wz n H L)
    rw [hv.out]
    have Y : Hid (WAt w2 (w.heap.size + 1) false 0 0) := by
      have := WAt.below (wAt_new (w.alloc (.cells #[.bool n, .int .u64 (hi : Int), .int .u64 (lo : Int)] 24)) false 0 0) b2
      rw [World.size_alloc] at this; exact this
    have r0 := Y.out.c0; have r1 := Y.out.c1; have r2 := Y.out.c2; have f0 := Y.out.f0; have f1 := Y.out.f1; have f2 := Y.out.f2
    have B := Lib.hid (bt (ba _ _) (bt (ba _ _) b2))
    clear b2 ad e1
    go_wp2_with fail
    refine bodyPost_ret (v := .tuple #[.agg #[.bool nb, .int .u64 (nh : Int), .int .u64 (nl : Int)], .int .i64 0]) (by simp [results, Try.results23, go_sem, r0, r1, r2]) rfl ⟨by rw [hv.out], ((B.out.setCell (by simp) _).setCell (by simp) _).setCell (by simp) _⟩
  · have HO : Hid (ovV (wz n hi lo * (m : Int)) = .tuple #[.agg #[.bool false, .int .u64 0, .int .u64 0], .int .i64 11]) := by
      have k1 : 1 ≤ O + M := by have := hK.out; omega
      have k2 := Nat.mul_le_mul_right 340282366920938463463374607431768211456 k1
      show _ = _; unfold ovV; rw [Int.natAbs_mul, wz_abs, Int.natAbs_natCast, HT.out, if_neg (by omega)]
    rw [HO.out]
    have t1 : decide ((0 : Int) < (K : Int)) = true := by rw [decide_eq_true_eq]; omega
    have t2 : 0 < K := by omega
    clear hk
    have Y := (two_wide w n false hi lo 0 0).2
    have r0 := Y.c0; have r1 := Y.c1; have r2 := Y.c2; have f0 := Y.f0; have f1 := Y.f1; have f2 := Y.f2
    clear Y
    go_enter Try.func23, Try.ntmps23
    go_wp2_with fail
    refine (mul64_any lo m HB.out.2.1 HB.out.2.2 _).mono ?_
    rintro e w1 ⟨rfl, rfl⟩
    rw [hC.out, hL.out]
    go_wp2_with fail
    refine (mul64_any hi m HB.out.1 HB.out.2.2 _).mono ?_
    rintro e w1 ⟨rfl, rfl⟩
    rw [hO.out, hH0.out]
    go_wp2_with (simp only [ad])
    refine bodyPost_ret (v := .tuple #[.agg #[.bool false, .int .u64 0, .int .u64 0], .int .i64 11]) (by simp [results, Try.results23, go_sem, r0, r1, r2]) rfl ⟨rfl, ?_⟩
    first | exact bt (ba _ _) (ba _ _) | exact (((bt (ba _ _) (ba _ _)).setCell (by simp) _).setCell (by simp) _).setCell (by simp) _
end Go.Proofs.Ytlbmmnjecemkeaa
