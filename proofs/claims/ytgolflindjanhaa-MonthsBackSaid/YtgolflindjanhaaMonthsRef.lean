/-
  THE WALKS of the reference's months.
-/
import Derived.Test.YtgolflindjanhaaMonthsWalks
namespace Go.Proofs.Ytgolflindjanhaa
open Go.RowKit

/-- what the reference's Add and Years hand back -/
def RAddPost (a n : Int) (w : World) (e : Ending) (w' : World) : Prop := ∃ (x : Int) (ok : Bool), Cal.AddIs a n x (if ok = true then 0 else 15) ∧ e = .returned (.tuple #[.int .i64 x, .bool ok]) ∧ Below w.heap.size w w'

theorem rday_k (y m d n : Int) (w : World) (h : Cal.Valid y m d) (hn : Cal.dayN y m d = n) :
    Calls Try.prog 10 #[.int .i64 y, .int .i64 m, .int .i64 d] w fun e w' => e = .returned (.tuple #[.int .i64 n, .bool true]) ∧ w = w' := by
  rw [← hn]; exact rday_yes y m d w h

set_option maxHeartbeats 2000000 in
theorem radd_any (a n : Int) (w : World) (wf : -9223372036854775808 ≤ n ∧ n ≤ 9223372036854775807) :
    Calls Try.prog 25 #[.int .i64 a, .int .i64 n] w (RAddPost a n w) := by
  by_cases h : 1 ≤ a ∧ a ≤ 3652059
  · by_cases c1 : 130000 < n
    · have HX : Hid (Cal.AddIs a n 0 15) := Cal.addIs_big a n (by omega)
      go_enter Try.func25, Try.ntmps25
      go_wp2_with (go_at_call 17; refine (rdate_yes _ _ h.1 h.2).mono ?_; rintro e w1 ⟨y, m, d, hd, rfl, b1⟩; have HD := Lib.hid hd; clear hd)
      go_ret2
      exact ⟨0, false, HX.out, rfl, b1⟩
    · by_cases c2 : n < -130000
      · have HX : Hid (Cal.AddIs a n 0 15) := Cal.addIs_big a n (by omega)
        go_enter Try.func25, Try.ntmps25
        go_wp2_with (go_at_call 17; refine (rdate_yes _ _ h.1 h.2).mono ?_; rintro e w1 ⟨y, m, d, hd, rfl, b1⟩; have HD := Lib.hid hd; clear hd)
        go_ret2
        exact ⟨0, false, HX.out, rfl, b1⟩
      · have d1 : decide (130000 < n) = false := by simp; omega
        have d2 : decide (n < -130000) = false := by simp; omega
        have l1 : n ≤ 130000 := by omega
        have l2 : -130000 ≤ n := by omega
        clear c1 c2 wf
        go_enter Try.func25, Try.ntmps25
        go_wp2_with (go_at_call 17; refine (rdate_yes _ _ h.1 h.2).mono ?_; rintro e w1 ⟨y, m, d, hd, rfl, b1⟩; have HD := Lib.hid hd; clear hd)
        obtain ⟨⟨h1, h2, h3, h4, h5, h6⟩, _⟩ := HD.out
        clear d1 d2 h6
        go_loop [1, 6, 7] (fun t u v => ∃ k y' m' : Int, (0 ≤ k ∨ n < 0) ∧ k ≤ 130000 ∧ -130000 ≤ k ∧ Hid (12 * y' + m' + k = 12 * y + m + n) ∧ 1 ≤ m' ∧ m' ≤ 12 ∧ -40000 ≤ y' ∧ y' ≤ 40000 ∧ t = .int .i64 k ∧ u = .int .i64 y' ∧ v = .int .i64 m') (fun t _ _ => (intOf t).toNat)
        case atStart => exact ⟨n, y, m, by omega, by omega, by omega, rfl, h3, h4, by omega, by omega, rfl, rfl, rfl⟩
        case round =>
          obtain ⟨k, y', m', k0, k1, k2, hq, m1, m2, y1, y2, rfl, rfl, rfl⟩ := hrel
          by_cases hk : 0 < k
          · have q := hq.out
            have y3 : y' < 30000 := by omega
            clear q
            by_cases hm : m' = 12
            · subst hm
              go_wp2
              go_round
              case rel => exact ⟨k - 1, y' + 1, 1, by omega, by omega, by omega, (show _ = _ from by have q := hq.out; omega), by omega, by omega, by omega, by omega, rfl, rfl, rfl⟩
              case measure => simp [intOf]; omega
            · have hm1 : (m' + 1 == 13) = false := by rw [beq_eq_false_iff_ne]; omega
              have hm2 : m' < 12 := by omega
              clear hm
              go_wp2
              go_round
              case rel => exact ⟨k - 1, y', m' + 1, by omega, by omega, by omega, (show _ = _ from by have q := hq.out; omega), by omega, by omega, by omega, by omega, rfl, rfl, rfl⟩
              case measure => simp [intOf]; omega
          · go_wp2
            go_loop [1, 6, 7] (fun t u v => ∃ k y' m' : Int, k ≤ 0 ∧ -130000 ≤ k ∧ Hid (12 * y' + m' + k = 12 * y + m + n) ∧ 1 ≤ m' ∧ m' ≤ 12 ∧ -40000 ≤ y' ∧ y' ≤ 40000 ∧ t = .int .i64 k ∧ u = .int .i64 y' ∧ v = .int .i64 m') (fun t _ _ => (- intOf t).toNat)
            case atStart => exact ⟨k, y', m', by omega, by omega, hq, m1, m2, by omega, by omega, rfl, rfl, rfl⟩
            case round =>
              clear hq m1 m2 y1 y2 k0 k1 k2 hk
              obtain ⟨k, y', m', k0, k2, hq, m1, m2, y1, y2, rfl, rfl, rfl⟩ := hrel
              by_cases hk : k < 0
              · have q := hq.out
                have y3 : -30000 < y' := by omega
                clear q
                by_cases hm : m' = 1
                · subst hm
                  go_wp2
                  go_round
                  case rel => exact ⟨k + 1, y' - 1, 12, by omega, by omega, (show _ = _ from by have q := hq.out; omega), by omega, by omega, by omega, by omega, rfl, rfl, rfl⟩
                  case measure => simp [intOf]; omega
                · have hm1 : (m' - 1 == 0) = false := by rw [beq_eq_false_iff_ne]; omega
                  have hm2 : 1 < m' := by omega
                  clear hm
                  go_wp2
                  go_round
                  case rel => exact ⟨k + 1, y', m' - 1, by omega, by omega, (show _ = _ from by have q := hq.out; omega), by omega, by omega, by omega, by omega, rfl, rfl, rfl⟩
                  case measure => simp [intOf]; omega
              · obtain rfl : k = 0 := by omega
                have HK : Hid (y' = Cal.yOf (Cal.mk y m + n) ∧ m' = Cal.mOf (Cal.mk y m + n)) := Cal.mk_of _ _ _ (by have q := hq.out; unfold Cal.mk; omega) m1 m2
                by_cases hj : Cal.InM (Cal.mk y m + n)
                · have HJ := Lib.hid hj
                  have hv : Hid (Cal.Valid y' m' (Cal.mn d (Cal.len y' m')) ∧ Cal.dayN y' m' (Cal.mn d (Cal.len y' m')) = Cal.mv (Cal.mk y m + n) d) := by
                    obtain ⟨q1, q2⟩ := HK.out
                    rw [q1, q2]
                    exact Cal.isDate_mv (Cal.mk y m + n) d hj h5
                  clear hj hq k0 k2 hk
                  by_cases hd : Cal.len y' m' < d
                  · have HM : Hid (Cal.mn d (Cal.len y' m') = Cal.len y' m') := by show _ = _; unfold Cal.mn; rw [if_neg (by omega)]
                    go_wp2_with (first | (go_at_call 14; refine (rlength_any _ _ _).mono ?_; rintro e w2 ⟨rfl, rfl⟩) | (go_at_call 10; refine (rday_k _ _ _ (Cal.mv (Cal.mk y m + n) d) _ (by have q := hv.out.1; rw [HM.out] at q; exact q) (by have q := hv.out.2; rw [HM.out] at q; exact q)).mono ?_; rintro e w2 ⟨rfl, rfl⟩))
                    go_ret2
                    exact ⟨_, true, Cal.addIs_in a n y m d HD.out HJ.out, rfl, b1⟩
                  · have HM : Hid (Cal.mn d (Cal.len y' m') = d) := by show _ = _; unfold Cal.mn; rw [if_pos (by omega)]
                    go_wp2_with (first | (go_at_call 14; refine (rlength_any _ _ _).mono ?_; rintro e w2 ⟨rfl, rfl⟩) | (go_at_call 10; refine (rday_k _ _ _ (Cal.mv (Cal.mk y m + n) d) _ (by have q := hv.out.1; rw [HM.out] at q; exact q) (by have q := hv.out.2; rw [HM.out] at q; exact q)).mono ?_; rintro e w2 ⟨rfl, rfl⟩))
                    go_ret2
                    exact ⟨_, true, Cal.addIs_in a n y m d HD.out HJ.out, rfl, b1⟩
                · have HX : Hid (Cal.AddIs a n 0 15) := Cal.addIs_out a n y m d HD.out hj
                  have HL : Hid (Cal.len y' m' = 0) := by
                    obtain ⟨q1, q2⟩ := HK.out
                    show _ = _; rw [q1, q2]; exact Cal.mlen_out _ hj
                  have hd : Cal.len y' m' < d := by have q := HL.out; omega
                  clear hj hq k0 k2 hk
                  go_wp2_with (first | (go_at_call 14; refine (rlength_any _ _ _).mono ?_; rintro e w2 ⟨rfl, rfl⟩) | (go_at_call 10; refine (rday_no _ _ _ _ (by have q := HL.out; omega)).mono ?_; rintro e w2 ⟨rfl, rfl⟩))
                  go_ret2
                  exact ⟨0, false, HX.out, rfl, b1⟩
  · go_enter Try.func25, Try.ntmps25
    go_wp2_with (go_at_call 17; refine (rdate_no _ _ h).mono ?_; rintro e w1 ⟨rfl, b1⟩)
    go_ret2
    exact ⟨0, false, Cal.addIs_none a n h, rfl, b1⟩

set_option maxHeartbeats 1000000 in
theorem ryears_any (a n : Int) (w : World) (wf : -9223372036854775808 ≤ n ∧ n ≤ 9223372036854775807) :
    Calls Try.prog 26 #[.int .i64 a, .int .i64 n] w (RAddPost a (12 * Cal.clamp n) w) := by
  by_cases c1 : n < -10000
  · have HE : Hid (Cal.clamp n = -10000) := Cal.clamp_lo n c1
    have HX : Hid (Cal.AddIs a (-120000) 0 15) := Cal.addIs_big a _ (by omega)
    have d1 : decide (10000 < n) = false := by simp; omega
    have d2 : decide (n < -10000) = true := by simp; omega
    clear wf
    go_enter Try.func26, Try.ntmps26
    go_wp2_with fail
    go_ret2
    exact ⟨0, false, by rw [HE.out]; exact HX.out, rfl, Below.refl _ _⟩
  · by_cases c2 : 10000 < n
    · have HE : Hid (Cal.clamp n = 10000) := Cal.clamp_hi n c2
      have HX : Hid (Cal.AddIs a 120000 0 15) := Cal.addIs_big a _ (by omega)
      clear wf
      go_enter Try.func26, Try.ntmps26
      go_wp2_with fail
      go_ret2
      exact ⟨0, false, by rw [HE.out]; exact HX.out, rfl, Below.refl _ _⟩
    · have HE : Hid (Cal.clamp n = n) := Cal.clamp_mid n (by omega) (by omega)
      have l1 : -10000 ≤ n := by omega
      have l2 : n ≤ 10000 := by omega
      have d1 : decide (10000 < n) = false := by simp; omega
      have d2 : decide (n < -10000) = false := by simp; omega
      clear wf c1 c2
      go_enter Try.func26, Try.ntmps26
      go_wp2_with fail
      refine (radd_any a (12 * n) _ (by omega)).mono ?_
      rintro e w1 ⟨x, er, hx, rfl, b1⟩
      have HX := Lib.hid hx
      clear hx
      go_wp2_with fail
      go_ret2
      exact ⟨x, er, by rw [HE.out]; exact HX.out, rfl, b1⟩

set_option maxHeartbeats 1000000 in
theorem rbegin_none (a : Int) (w : World) (h : ¬ (1 ≤ a ∧ a ≤ 3652059)) :
    Calls Try.prog 27 #[.int .i64 a] w fun e w' => e = .returned (.tuple #[.int .i64 0, .bool false]) ∧ Below w.heap.size w w' := by
  go_enter Try.func27, Try.ntmps27
  go_wp2_with (first | (go_at_call 17; refine (rdate_no _ _ h).mono ?_; rintro e w1 ⟨rfl, b1⟩) | (go_at_call 10; refine (rday_no 0 0 1 _ (by decide)).mono ?_; rintro e w2 ⟨rfl, rfl⟩))
  go_ret2
  exact ⟨rfl, b1⟩
set_option maxHeartbeats 1000000 in
theorem rbegin_in (a y m d : Int) (w : World) (h : Cal.IsDate a y m d) :
    Calls Try.prog 27 #[.int .i64 a] w fun e w' => e = .returned (.tuple #[.int .i64 (Cal.mst (Cal.mk y m) + 1), .bool true]) ∧ Below w.heap.size w w' := by
  have hb := Cal.isDate_bd _ _ _ _ h
  have HD : Hid (Cal.IsDate a y m d) := h
  obtain ⟨⟨h1, h2, h3, h4, h5, h6⟩, _⟩ := h
  have HV : Hid (Cal.Valid y m 1 ∧ Cal.dayN y m 1 = Cal.mst (Cal.mk y m) + 1) := by
    have l := Cal.len_pos y m h1 h2 h3 h4
    exact ⟨⟨h1, h2, h3, h4, by omega, by omega⟩, by unfold Cal.dayN Cal.mst; rw [Cal.yOf_mk y m h3 h4, Cal.mOf_mk y m h3 h4]⟩
  clear h6
  go_enter Try.func27, Try.ntmps27
  go_wp2_with (first | (go_at_call 17; refine (rdate_yes _ _ hb.1 hb.2).mono ?_; rintro e w1 ⟨y', m', d', hd', rfl, b1⟩; obtain ⟨e1, e2, e3⟩ := Cal.isDate_uniq _ _ _ _ _ _ _ HD.out hd'; subst e1 e2 e3; clear hd') | (go_at_call 10; refine (rday_k _ _ _ (Cal.mst (Cal.mk y m) + 1) _ HV.out.1 HV.out.2).mono ?_; rintro e w2 ⟨rfl, rfl⟩))
  go_ret2
  exact ⟨rfl, b1⟩
set_option maxHeartbeats 1000000 in
theorem rend_none (a : Int) (w : World) (h : ¬ (1 ≤ a ∧ a ≤ 3652059)) :
    Calls Try.prog 28 #[.int .i64 a] w fun e w' => e = .returned (.tuple #[.int .i64 0, .bool false]) ∧ Below w.heap.size w w' := by
  have HL : Hid (Cal.len 0 0 = 0) := Cal.len_out _ _ (by omega)
  go_enter Try.func28, Try.ntmps28
  go_wp2_with (first | (go_at_call 17; refine (rdate_no _ _ h).mono ?_; rintro e w1 ⟨rfl, b1⟩) | (go_at_call 14; refine (rlength_any 0 0 _).mono ?_; rintro e w2 ⟨rfl, rfl⟩) | (go_at_call 10; refine (rday_no 0 0 _ _ (by have q := HL.out; omega)).mono ?_; rintro e w2 ⟨rfl, rfl⟩))
  go_ret2
  exact ⟨rfl, b1⟩
set_option maxHeartbeats 1000000 in
theorem rend_in (a y m d : Int) (w : World) (h : Cal.IsDate a y m d) :
    Calls Try.prog 28 #[.int .i64 a] w fun e w' => e = .returned (.tuple #[.int .i64 (Cal.mst (Cal.mk y m) + Cal.mlen (Cal.mk y m)), .bool true]) ∧ Below w.heap.size w w' := by
  have hb := Cal.isDate_bd _ _ _ _ h
  have HD : Hid (Cal.IsDate a y m d) := h
  obtain ⟨⟨h1, h2, h3, h4, h5, h6⟩, _⟩ := h
  have HV : Hid (Cal.Valid y m (Cal.len y m) ∧ Cal.dayN y m (Cal.len y m) = Cal.mst (Cal.mk y m) + Cal.mlen (Cal.mk y m)) := by
    have l := Cal.len_pos y m h1 h2 h3 h4
    exact ⟨⟨h1, h2, h3, h4, by omega, by omega⟩, by unfold Cal.dayN Cal.mst Cal.mlen; rw [Cal.yOf_mk y m h3 h4, Cal.mOf_mk y m h3 h4]⟩
  clear h6
  go_enter Try.func28, Try.ntmps28
  go_wp2_with (first | (go_at_call 17; refine (rdate_yes _ _ hb.1 hb.2).mono ?_; rintro e w1 ⟨y', m', d', hd', rfl, b1⟩; obtain ⟨e1, e2, e3⟩ := Cal.isDate_uniq _ _ _ _ _ _ _ HD.out hd'; subst e1 e2 e3; clear hd') | (go_at_call 14; refine (rlength_any _ _ _).mono ?_; rintro e w2 ⟨rfl, rfl⟩) | (go_at_call 10; refine (rday_k _ _ _ (Cal.mst (Cal.mk y m) + Cal.mlen (Cal.mk y m)) _ HV.out.1 HV.out.2).mono ?_; rintro e w2 ⟨rfl, rfl⟩))
  go_ret2
  exact ⟨rfl, b1⟩

set_option maxHeartbeats 1000000 in
theorem told5 (n e x : Int) (ok : Bool) (w : World) (h : (ok = true ∧ n = x ∧ e = 0) ∨ (ok = false ∧ n = 0 ∧ e = 15)) :
    Calls Try.prog 29 #[.int .i64 n, .int .i64 e, .int .i64 x, .bool ok] w fun e w' => e = .returned (.bool true) ∧ w = w' := by
  rcases h with ⟨rfl, rfl, rfl⟩ | ⟨rfl, rfl, rfl⟩
  · go_enter Try.func29, Try.ntmps29
    go_wp2
    go_ret
    exact ⟨rfl, rfl⟩
  · go_enter Try.func29, Try.ntmps29
    go_wp2
    go_ret
    exact ⟨rfl, rfl⟩
theorem told_add (a n x er x' : Int) (ok : Bool) (h : Cal.AddIs a n x er) (h' : Cal.AddIs a n x' (if ok = true then 0 else 15)) : (ok = true ∧ x = x' ∧ er = 0) ∨ (ok = false ∧ x = 0 ∧ er = 15) := by
  obtain ⟨rfl, rfl⟩ := Cal.addIs_uniq _ _ _ _ _ _ h h'
  cases ok
  · right
    rcases h with ⟨_, _, _, _, _, _, h0⟩ | ⟨h0, _, _⟩
    · simp at h0
    · exact ⟨rfl, h0, rfl⟩
  · left; exact ⟨rfl, rfl, rfl⟩

set_option maxHeartbeats 1000000 in
theorem lday (y m d n : Int) (w : World) (h : Cal.Valid y m d) (hn : Cal.dayN y m d = n) :
    Calls Try.prog 33 #[.int .i64 y, .int .i64 m, .int .i64 d] w fun e w' => e = .returned (.int .i64 n) ∧ w = w' := by
  go_enter Try.func33, Try.ntmps33
  go_wp2_with (go_at_call 10; refine (rday_k _ _ _ n _ h hn).mono ?_; rintro e w2 ⟨rfl, rfl⟩)
  go_ret
  exact ⟨rfl, rfl⟩
end Go.Proofs.Ytgolflindjanhaa
