/-
  THE WALK of the reference's Mul.
-/
import Derived.Test.YtbcnbahfjpgmaaaDoorM16
import Derived.Test.YtbcnbahfjpgmaaaDoorM17
/-
  THE WALK of the reference's Mul.
-/
namespace Go.Proofs.YtbcnbahfjpgmaaaDoor
open Go.RowKit
attribute [local go_sem ↓] Go.wp_at_zero Go.wp_at_succ

theorem dv_add (q d : Nat) : dv ((q + d) % 1000) = .int .i64 (((q : Int) + (d : Int)) % 1000) := by unfold dv; simp
theorem mul_sg (x y : Int) (b c : Bool) (hx : decide (x < 0) = b) (hy : decide (y < 0) = c) : sg (b != c) (x.natAbs * y.natAbs) = x * y := by
  unfold sg
  rcases Int.lt_or_le x 0 with h | h <;> rcases Int.lt_or_le y 0 with k | k
  · have e1 : b = true := by rw [← hx]; simpa using h
    have e2 : c = true := by rw [← hy]; simpa using k
    subst e1; subst e2
    simp
    rw [show (x.natAbs : Int) = -x from by omega, show (y.natAbs : Int) = -y from by omega, Int.neg_mul_neg]
  · have e1 : b = true := by rw [← hx]; simpa using h
    have e2 : c = false := by rw [← hy]; simp; omega
    subst e1; subst e2
    simp
    rw [show (x.natAbs : Int) = -x from by omega, show (y.natAbs : Int) = y from by omega, Int.neg_mul, Int.neg_neg]
  · have e1 : b = false := by rw [← hx]; simp; omega
    have e2 : c = true := by rw [← hy]; simpa using k
    subst e1; subst e2
    simp
    rw [show (x.natAbs : Int) = x from by omega, show (y.natAbs : Int) = -y from by omega, Int.mul_neg, Int.neg_neg]
  · have e1 : b = false := by rw [← hx]; simp; omega
    have e2 : c = false := by rw [← hy]; simp; omega
    subst e1; subst e2
    simp
    rw [show (x.natAbs : Int) = x from by omega, show (y.natAbs : Int) = y from by omega]

set_option maxHeartbeats 4000000 in
theorem mul_any (k1 k2 : Nat) (va vb : Value) (x y : Int) (w : World) (ha : Num k1 w va x) (hb : Num k2 w vb y) (l1 : k1 ≤ 10000) (l2 : k2 ≤ 10000) :
    Calls Tryd.prog 24 #[va, vb] w (NumPost (k1 + k2) (x * y) w) := by
  obtain ⟨aa, na, ca, xs, rfl, hra, hca, hva, hka, hna⟩ := num_open ha
  obtain ⟨ab, nb, cb, ys, rfl, hrb, hcb, hvb, hkb, hnb⟩ := num_open hb
  have HA : Hid (RowW w (.slice aa na ca) xs ∧ Nm.Canon xs ∧ Nm.val xs = x.natAbs ∧ xs.length ≤ k1 ∧ xs.length = na) := ⟨hra, hca, hva, hka, hna⟩
  have HB : Hid (RowW w (.slice ab nb cb) ys ∧ Nm.Canon ys ∧ Nm.val ys = y.natAbs ∧ ys.length ≤ k2 ∧ ys.length = nb) := ⟨hrb, hcb, hvb, hkb, hnb⟩
  have m1 : na ≤ 10000 := by omega
  have m2 : nb ≤ 10000 := by omega
  obtain ⟨bx, hbx⟩ : ∃ b, Hid (decide (x < 0) = b) := ⟨_, rfl⟩
  obtain ⟨by', hby⟩ : ∃ b, Hid (decide (y < 0) = b) := ⟨_, rfl⟩
  rw [hbx.out, hby.out]
  clear ha hb hra hca hva hka hna hrb hcb hvb hkb hnb
  go_enter Tryd.func24, Tryd.ntmps24
  go_wp2_with (at_make; refine make1 rfl _ _ rfl _ (na + nb + 1) rfl rfl (by simp) (by omega) ?_)
  intro w1 hrow hb1 hsz1
  try simp only [World.size_alloc] at hrow
  try simp only [World.size_alloc] at hsz1
  replace hb1 : Below (((w.alloc (.cells #[.bool bx, .slice aa na ca] 36)).alloc (.cells #[.bool by', .slice ab nb cb] 36)).alloc (.cells #[.bool false, .slice none 0 0] 36)).heap.size _ w1 := hb1.mono (by simp)
  have C1 : Hid (BoxAt w1 w.heap.size (.bool bx) (.slice aa na ca)) := boxAt_below (boxAt_below (boxAt_below (boxAt_new w _ _) (ba _ _)) (ba _ _)) hb1
  have C2 : Hid (BoxAt w1 (w.heap.size + 1) (.bool by') (.slice ab nb cb)) := by
    have := boxAt_below (boxAt_below (boxAt_new (w.alloc (.cells #[.bool bx, .slice aa na ca] 36)) (.bool by') (.slice ab nb cb)) (ba _ (.cells #[.bool false, .slice none 0 0] 36))) hb1
    rw [World.size_alloc] at this; exact this
  have C3 : Hid (BoxAt w1 (w.heap.size + 1 + 1) (.bool false) (.slice none 0 0)) := by
    have := boxAt_below (boxAt_new ((w.alloc (.cells #[.bool bx, .slice aa na ca] 36)).alloc (.cells #[.bool by', .slice ab nb cb] 36)) (.bool false) (.slice none 0 0)) hb1
    rw [World.size_alloc, World.size_alloc] at this; exact this
  have HBW : Hid (Below w.heap.size w w1) := bt (ba _ _) (bt (ba _ _) (bt (ba _ _) hb1))
  have HROW := Lib.hid hrow
  clear hrow hb1
  go_wp2_with fail
  go_loopw [6] (fun i wr => ∃ (j : Nat) (out : List Nat), i = .int .i64 (j : Int) ∧ j ≤ na ∧ Hid (RowW wr (.slice (some ⟨w.heap.size + 1 + 1 + 1, 0, none⟩) (na + nb + 1) (na + nb + 1)) out ∧ out.length = na + nb + 1 ∧ Nm.Digs out ∧ Nm.val out = Nm.mulAt xs ys j 0) ∧ Below (w.heap.size + 1 + 1 + 1) w1 wr) (fun i _ => na - (intOf i).toNat)
  case atStart => exact ⟨0, _, rfl, by omega, ⟨HROW.out, by simp, Nm.digs_rep _, by rw [Nm.val_rep, Nm.mulAt_zero]⟩, Below.refl _ _⟩
  case round =>
    rename_i wr
    obtain ⟨wo, rfl⟩ : ∃ wo : World, wo = wr := ⟨_, rfl⟩
    obtain ⟨j, out, rfl, hj, hr, hbl⟩ := hrel
    have hsz : w.heap.size + 1 + 1 + 1 < wo.heap.size := by have := hbl.size; omega
    have c1 := boxAt_belowB C1.out hbl (by omega); have c2 := boxAt_belowB C2.out hbl (by omega)
    have d1 := c1.c1; have d2 := c2.c1
    by_cases hjn : j < na
    · clear c1 c2
      go_wp2_with fail
      go_loopw [7] (fun i wr => ∃ (k : Nat) (out : List Nat), i = .int .i64 (k : Int) ∧ k ≤ nb ∧ Hid (RowW wr (.slice (some ⟨w.heap.size + 1 + 1 + 1, 0, none⟩) (na + nb + 1) (na + nb + 1)) out ∧ out.length = na + nb + 1 ∧ Nm.Digs out ∧ Nm.val out = Nm.mulAt xs ys j k) ∧ Below (w.heap.size + 1 + 1 + 1) w1 wr) (fun i _ => nb - (intOf i).toNat)
      case atStart => exact ⟨0, out, rfl, by omega, hr, hbl⟩
      case round =>
        clear d1 d2 hsz
        rename_i wr
        obtain ⟨wp, rfl⟩ : ∃ wp : World, wp = wr := ⟨_, rfl⟩
        clear hr hbl
        obtain ⟨k, out, rfl, hk, hr, hbl⟩ := hrel
        have hsz : w.heap.size + 1 + 1 + 1 < wp.heap.size := by have := hbl.size; omega
        have c1 := boxAt_belowB C1.out hbl (by omega); have c2 := boxAt_belowB C2.out hbl (by omega)
        have d1 := c1.c1; have d2 := c2.c1
        clear c1 c2
        by_cases hkn : k < nb
        · obtain ⟨g, ea, hcx⟩ := rowW_gd (rowW_below HA.out.1 (HBW.out.trans (hbl.mono (by omega)))) j (by rw [HA.out.2.2.2.2]; exact hjn)
          obtain ⟨g', eb, hcy⟩ := rowW_gd (rowW_below HB.out.1 (HBW.out.trans (hbl.mono (by omega)))) k (by rw [HB.out.2.2.2.2]; exact hkn)
          subst ea eb
          have gx := Nm.gd_lt xs j HA.out.2.1.1; have gy := Nm.gd_lt ys k HB.out.2.1.1
          obtain ⟨X, HX⟩ : ∃ X, Hid (Nm.gd xs j = X) := ⟨_, rfl⟩
          obtain ⟨Y, HY⟩ : ∃ Y, Hid (Nm.gd ys k = Y) := ⟨_, rfl⟩
          rw [HX.out] at hcx gx
          rw [HY.out] at hcy gy
          have b0 : (0 : Int) ≤ (j : Int) := by omega
          have b1 : (j : Int) < (na : Int) := by omega
          have b2 : (0 : Int) ≤ (k : Int) := by omega
          have b3 : (k : Int) < (nb : Int) := by omega
          have hxy : X * Y ≤ 998001 := Nat.mul_le_mul (show X ≤ 999 by omega) (show Y ≤ 999 by omega)
          have hw : IntKind.i64.wrap ((X : Int) * (Y : Int)) = ((X * Y : Nat) : Int) := by
            rw [← Int.natCast_mul, IntKind.wrap_i64]; omega
          have HCI := Lib.hid (Nm.car_start (na + nb + 1) xs ys out j k X Y hr.out.2.1 hr.out.2.2.1 hr.out.2.2.2 HX.out HY.out)
          have HTL : Hid (Nm.mulAt xs ys j (k + 1) ≤ Nm.val xs * Nm.val ys) := Nm.mulAt_le xs ys j (k + 1)
          have HROW2 := Lib.hid hr.out.1
          obtain ⟨c0, hc0⟩ : ∃ c0, Hid (X * Y = c0) := ⟨_, rfl⟩
          rw [hc0.out] at hw hxy HCI
          clear hr
          go_wp2_with fail
          go_quiet (fail)
          clear b0 b1 b2 b3 hcx hcy hw d1 d2 hsz
          go_wp2_with fail
          go_loopw [8, 9] (fun a c wr => ∃ (p q : Nat) (out : List Nat), a = .int .i64 (p : Int) ∧ c = .int .i64 (q : Int) ∧ q ≤ 998001 ∧ p ≤ na + nb + 1 ∧ Hid (RowW wr (.slice (some ⟨w.heap.size + 1 + 1 + 1, 0, none⟩) (na + nb + 1) (na + nb + 1)) out ∧ Nm.CarInv (na + nb + 1) (Nm.mulAt xs ys j (k + 1)) out p q) ∧ Below (w.heap.size + 1 + 1 + 1) w1 wr) (fun a _ _ => na + nb + 2 - (intOf a).toNat)
          case atStart => exact ⟨j + k, c0, out, by simp, rfl, by omega, by omega, ⟨rowW_below HROW2.out (below_drewN (Below.refl _ _) _), HCI.out⟩, below_drewN hbl _⟩
          case round =>
            rename_i wr
            clear HROW2 HCI hbl
            obtain ⟨p, q, out, rfl, rfl, hq, hp, hr, hbl⟩ := hrel
            by_cases hq0 : 0 < q
            · have hpl : p < na + nb := by
                have := Nm.car_lt xs ys out _ p q (by rw [HA.out.2.2.2.2, HB.out.2.2.2.2]; exact hr.out.2) HTL.out HA.out.2.1.1 HB.out.2.1.1 hq0
                rw [HA.out.2.2.2.2, HB.out.2.2.2.2] at this; exact this
              obtain ⟨d, HD, hcd⟩ := rowW_at' hr.out.1 p (by rw [hr.out.2.1]; omega)
              have hfd := rowW_frozen hr.out.1 p
              have hdl := Nm.digs_at out p d hr.out.2.2.1 HD
              have HCS := Lib.hid (Nm.car_step _ _ out p q d hr.out.2 HD)
              have HROW3 := Lib.hid (rowW_stored hr.out.1 p ((q + d) % 1000))
              clear HD hr
              go_wp2_with fail
              go_roundw
              case rel => exact ⟨p + 1, (q + d) / 1000, _, by go_num, by simp, by omega, by omega, ⟨dv_add q d ▸ HROW3.out, HCS.out⟩, hbl.setCell (Nat.le_refl _) _⟩
              case measure => simp [intOf]; omega
            · obtain rfl : q = 0 := by omega
              go_wp2_with fail
              go_roundw
              case rel => exact ⟨k + 1, out, by go_num, by omega, ⟨hr.out.1, hr.out.2.1, hr.out.2.2.1, by simpa using hr.out.2.2.2⟩, hbl⟩
              case measure => simp [intOf]; omega
        · obtain rfl : k = nb := by omega
          go_wp2_with fail
          go_roundw
          case rel => exact ⟨j + 1, out, by go_num, by omega, ⟨hr.out.1, hr.out.2.1, hr.out.2.2.1, by rw [hr.out.2.2.2]; exact Nm.mulAt_i xs ys j _ (by rw [HB.out.2.2.2.2]; exact Nat.le_refl _)⟩, hbl⟩
          case measure => simp [intOf]; omega
    · obtain rfl : j = na := by omega
      have f1 := c1.c0; have f2 := c2.c0
      have HE : Hid (Nm.val out = Nm.val xs * Nm.val ys) := by show _ = _; rw [hr.out.2.2.2]; exact Nm.mulAt_end xs ys _ (by rw [HA.out.2.2.2.2]; exact Nat.le_refl _)
      have C3' := Lib.hid (boxAt_belowB C3.out hbl (by omega))
      have HBL := Lib.hid (HBW.out.trans (hbl.mono (show w.heap.size ≤ w.heap.size + 1 + 1 + 1 by omega)))
      clear c1 c2 hbl
      go_wp2_with fail
      refine (short_any _ _ out _ hr.out.1 hr.out.2.2.1).mono ?_
      rintro e w2 ⟨vr, hv, rfl, b2⟩
      obtain ⟨br, ar, nr, cr, rfl⟩ := num_agg hv
      have HV := Lib.hid hv
      have HR := Lib.hid (boxAt_below C3'.out b2)
      have r0 := HR.out.c0; have r1 := HR.out.c1; have r2 := HR.out.f0; have r3 := HR.out.f1
      have HB2 := Lib.hid b2
      clear hv b2
      go_wp2_with fail
      refine bodyPost_ret (v := .agg #[.bool br, .slice ar nr cr]) (by simp [results, Tryd.results24, go_sem, r0, r1]) rfl ⟨_, ?_, rfl, ((bt HBL.out HB2.out).setCell (Nat.le_succ_of_le (Nat.le_succ _)) _).setCell (Nat.le_succ_of_le (Nat.le_succ _)) _⟩
      have e : sg (bx != by') (Nm.val out) = x * y := by
        rw [HE.out, HA.out.2.2.1, HB.out.2.2.1]; exact mul_sg x y bx by' hbx.out hby.out
      refine num_len (num_set2 _ _ (e ▸ HV.out) HR.out) ?_
      rw [Int.natAbs_mul, ← HA.out.2.2.1, ← HB.out.2.2.1]
      exact Nm.mul_lt_pow _ _ _ _ (Nat.lt_of_lt_of_le (Nm.val_lt xs HA.out.2.1.1) (Nm.pow_le _ _ HA.out.2.2.2.1)) (Nat.lt_of_lt_of_le (Nm.val_lt ys HB.out.2.1.1) (Nm.pow_le _ _ HB.out.2.2.2.1))
end Go.Proofs.YtbcnbahfjpgmaaaDoor
