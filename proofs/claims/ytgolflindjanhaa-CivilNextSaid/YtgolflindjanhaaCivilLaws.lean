/-
  THE WALKS of the three statements of layer 4.
-/
import Derived.Test.YtgolflindjanhaaCivilRDate
namespace Go.Proofs.Ytgolflindjanhaa
open Go.RowKit

theorem day_k (y m d n : Int) (w : World) (h : Cal.Valid y m d) (hn : Cal.dayN y m d = n) :
    Calls Try.prog 9 #[.int .i64 y, .int .i64 m, .int .i64 d] w fun e w' => e = .returned (.tuple #[.int .i64 n, .int .i64 0]) ∧ Below w.heap.size w w' := by
  rw [← hn]; exact day_yes y m d w h
theorem valid_dec (y m d : Int) (h : (decide (1 ≤ y) && decide (y ≤ 9999) && decide (1 ≤ m) && decide (m ≤ 12) && decide (1 ≤ d) && decide (d ≤ Cal.len y m)) = true) : Cal.Valid y m d := by
  simp at h; obtain ⟨⟨⟨⟨⟨a, b⟩, c⟩, d⟩, e⟩, f⟩ := h; exact ⟨a, b, c, d, e, f⟩

set_option maxHeartbeats 1000000 in
theorem known4 (w : World) : Calls Try.prog 15 #[] w fun e w' => e = .returned (.bool true) ∧ Below w.heap.size w w' := by
  go_enter Try.func15, Try.ntmps15
  go_wp2_with fail
  refine (day_k 1 12 31 365 _ (valid_dec _ _ _ (by decide)) (by decide)).mono ?_
  rintro e w1 ⟨rfl, b1⟩
  go_wp2_with fail
  refine (day_k 4 12 31 1461 _ (valid_dec _ _ _ (by decide)) (by decide)).mono ?_
  rintro e w2 ⟨rfl, b2⟩
  go_wp2_with fail
  refine (day_k 2000 2 29 730179 _ (valid_dec _ _ _ (by decide)) (by decide)).mono ?_
  rintro e w3 ⟨rfl, b3⟩
  go_wp2_with fail
  refine (day_k 9999 12 31 3652059 _ (valid_dec _ _ _ (by decide)) (by decide)).mono ?_
  rintro e w4 ⟨rfl, b4⟩
  go_wp2_with fail
  refine (day_no 1900 2 29 _ (by decide)).mono ?_
  rintro e w5 ⟨rfl, b5⟩
  go_wp2_with fail
  go_ret
  exact ⟨rfl, bt b1 (bt b2 (bt b3 (bt b4 b5)))⟩

set_option maxHeartbeats 1000000 in
theorem civilDays_walk (y m d : Int) (w : World) :
    Calls Try.prog 3 #[.int .i64 y, .int .i64 m, .int .i64 d] w fun e w' => e = .returned (.bool true) ∧ Below w.heap.size w w' := by
  by_cases h : 1 ≤ d ∧ d ≤ Cal.len y m
  · have hv := Cal.valid_of y m d h.1 h.2
    clear h
    go_enter Try.func3, Try.ntmps3
    go_wp2_with (first | (go_at_call 9; refine (day_yes _ _ _ _ hv).mono ?_; rintro e w1 ⟨rfl, b1⟩) | (go_at_call 10; refine (rday_yes _ _ _ _ hv).mono ?_; rintro e w1' ⟨rfl, rfl⟩) | (go_at_call 11; refine (leap_any _ _).mono ?_; rintro e w2' ⟨rfl, rfl⟩) | (go_at_call 12; refine (rleap_any _ _).mono ?_; rintro e w2' ⟨rfl, rfl⟩) | (go_at_call 13; refine (length_any _ _ _).mono ?_; rintro e w2 ⟨rfl, b2⟩) | (go_at_call 14; refine (rlength_any _ _ _).mono ?_; rintro e w2' ⟨rfl, rfl⟩) | (go_at_call 15; refine (known4 _).mono ?_; rintro e w3 ⟨rfl, b3⟩))
    go_ret
    exact ⟨rfl, bt b1 (bt b2 b3)⟩
  · go_enter Try.func3, Try.ntmps3
    go_wp2_with (first | (go_at_call 9; refine (day_no _ _ _ _ h).mono ?_; rintro e w1 ⟨rfl, b1⟩) | (go_at_call 10; refine (rday_no _ _ _ _ h).mono ?_; rintro e w1' ⟨rfl, rfl⟩) | (go_at_call 11; refine (leap_any _ _).mono ?_; rintro e w2' ⟨rfl, rfl⟩) | (go_at_call 12; refine (rleap_any _ _).mono ?_; rintro e w2' ⟨rfl, rfl⟩) | (go_at_call 13; refine (length_any _ _ _).mono ?_; rintro e w2 ⟨rfl, b2⟩) | (go_at_call 14; refine (rlength_any _ _ _).mono ?_; rintro e w2' ⟨rfl, rfl⟩) | (go_at_call 15; refine (known4 _).mono ?_; rintro e w3 ⟨rfl, b3⟩))
    go_ret
    exact ⟨rfl, bt b1 (bt b2 b3)⟩

set_option maxHeartbeats 1000000 in
theorem civilDates_walk (n : Int) (w : World) :
    Calls Try.prog 4 #[.int .i64 n] w fun e w' => e = .returned (.bool true) ∧ Below w.heap.size w w' := by
  by_cases h : 1 ≤ n ∧ n ≤ 3652059
  · obtain ⟨h1, h2⟩ := h
    go_enter Try.func4, Try.ntmps4
    go_wp2_with fail
    refine (date_yes n _ h1 h2).mono ?_
    rintro e w1 ⟨y, m, d, hd, rfl, b1⟩
    go_wp2_with fail
    refine (rdate_yes n _ h1 h2).mono ?_
    rintro e w2 ⟨y', m', d', hd', rfl, b2⟩
    obtain ⟨e1, e2, e3⟩ := Cal.isDate_uniq _ _ _ _ _ _ _ hd hd'
    subst e1 e2 e3
    have hv := hd.1
    have HN : Hid (Cal.dayN y m d = n) := hd.2
    clear hd hd'
    go_wp2_with (first | (go_at_call 9; refine (day_k _ _ _ n _ hv HN.out).mono ?_; rintro e w3 ⟨rfl, b3⟩) | (go_at_call 15; refine (known4 _).mono ?_; rintro e w4 ⟨rfl, b4⟩))
    go_ret
    exact ⟨rfl, bt b1 (bt b2 (bt b3 b4))⟩
  · go_enter Try.func4, Try.ntmps4
    go_wp2_with (first | (go_at_call 16; refine (date_no n _ h).mono ?_; rintro e w1 ⟨rfl, b1⟩) | (go_at_call 17; refine (rdate_no n _ h).mono ?_; rintro e w2 ⟨rfl, b2⟩) | (go_at_call 15; refine (known4 _).mono ?_; rintro e w4 ⟨rfl, b4⟩))
    go_ret
    exact ⟨rfl, bt b1 (bt b2 b4)⟩

theorem wrap_up (n : Int) (h : n ≤ 9223372036854775807) (h' : -9223372036854775808 ≤ n) : wrap64 (n + 1) = if n = 9223372036854775807 then -9223372036854775808 else n + 1 := by
  unfold wrap64; split <;> omega

set_option maxHeartbeats 1000000 in
theorem civilNext_walk (n : Int) (wf : (Lit.int .i64 n).wf = true) (w : World) :
    Calls Try.prog 5 #[.int .i64 n] w fun e w' => e = .returned (.bool true) ∧ Below w.heap.size w w' := by
  by_cases h : 1 ≤ n ∧ n ≤ 3652059
  · obtain ⟨h1, h2⟩ := h
    clear wf
    by_cases h3 : n < 3652059
    · go_enter Try.func5, Try.ntmps5
      go_wp2_with fail
      refine (date_yes n _ h1 h2).mono ?_
      rintro e w1 ⟨y, m, d, hd, rfl, b1⟩
      go_wp2_with fail
      refine (date_yes (n + 1) _ (by omega) (by omega)).mono ?_
      rintro e w2 ⟨y', m', d', hd', rfl, b2⟩
      have HD : Hid (Cal.IsDate n y m d) := hd
      have HD' : Hid (Cal.IsDate (n + 1) y' m' d') := hd'
      clear hd hd'
      by_cases c1 : d < Cal.len y m
      · obtain ⟨e1, e2, e3⟩ := Cal.isDate_uniq _ _ _ _ _ _ _ HD'.out (Cal.next_day _ _ _ _ HD.out c1)
        subst e1 e2 e3
        obtain ⟨⟨k1, k2, k3, k4, k5, k6⟩, _⟩ := HD.out
        have lb := Cal.len_bd y' m'
        go_wp2_with (first | (go_at_call 13; refine (length_any _ _ _).mono ?_; rintro e w3 ⟨rfl, b3⟩) | (go_at_call 15; refine (known4 _).mono ?_; rintro e w4 ⟨rfl, b4⟩))
        go_ret
        exact ⟨rfl, bt b1 (bt b2 (bt b3 b4))⟩
      · by_cases c2 : m < 12
        · obtain ⟨e1, e2, e3⟩ := Cal.isDate_uniq _ _ _ _ _ _ _ HD'.out (Cal.next_month _ _ _ _ HD.out c1 c2)
          subst e1 e2 e3
          obtain ⟨⟨k1, k2, k3, k4, k5, k6⟩, _⟩ := HD.out
          go_wp2_with (first | (go_at_call 13; refine (length_any _ _ _).mono ?_; rintro e w3 ⟨rfl, b3⟩) | (go_at_call 15; refine (known4 _).mono ?_; rintro e w4 ⟨rfl, b4⟩))
          go_ret
          exact ⟨rfl, bt b1 (bt b2 (bt b3 b4))⟩
        · obtain ⟨e1, e2, e3⟩ := Cal.isDate_uniq _ _ _ _ _ _ _ HD'.out (Cal.next_year _ _ _ _ HD.out c1 c2 h3)
          subst e1 e2 e3
          obtain ⟨⟨k1, k2, k3, k4, k5, k6⟩, _⟩ := HD.out
          go_wp2_with (first | (go_at_call 13; refine (length_any _ _ _).mono ?_; rintro e w3 ⟨rfl, b3⟩) | (go_at_call 15; refine (known4 _).mono ?_; rintro e w4 ⟨rfl, b4⟩))
          go_ret
          exact ⟨rfl, bt b1 (bt b2 (bt b3 b4))⟩
    · obtain rfl : n = 3652059 := by omega
      clear h1 h2 h3
      go_enter Try.func5, Try.ntmps5
      go_wp2_with fail
      refine (date_yes 3652059 _ (by omega) (by omega)).mono ?_
      rintro e w1 ⟨y, m, d, hd, rfl, b1⟩
      clear hd
      go_wp2_with fail
      refine (date_no 3652060 _ (by omega)).mono ?_
      rintro e w2 ⟨rfl, b2⟩
      go_wp2_with (go_at_call 15; refine (known4 _).mono ?_; rintro e w4 ⟨rfl, b4⟩)
      go_ret
      exact ⟨rfl, bt b1 (bt b2 b4)⟩
  · have hb := bounds_i64 wf
    by_cases hz : n < 1
    · have hd1 : decide (n < 1) = true := by simp; omega
      by_cases h0 : n = 0
      · subst h0
        go_enter Try.func5, Try.ntmps5
        go_wp2_with fail
        refine (date_no 0 _ (by omega)).mono ?_
        rintro e w1 ⟨rfl, b1⟩
        go_wp2_with fail
        refine (date_yes 1 _ (by omega) (by omega)).mono ?_
        rintro e w2 ⟨y, m, d, hd, rfl, b2⟩
        clear hd
        go_wp2_with (go_at_call 15; refine (known4 _).mono ?_; rintro e w4 ⟨rfl, b4⟩)
        go_ret
        exact ⟨rfl, bt b1 (bt b2 b4)⟩
      · have hz' : n < 0 := by omega
        have hlo : -9223372036854775808 ≤ n := hb.1
        clear wf hb
        go_enter Try.func5, Try.ntmps5
        go_wp2_with fail
        refine (date_no n _ (by omega)).mono ?_
        rintro e w1 ⟨rfl, b1⟩
        go_wp2_with fail
        refine (date_no (n + 1) _ (by omega)).mono ?_
        rintro e w2 ⟨rfl, b2⟩
        go_wp2_with (go_at_call 15; refine (known4 _).mono ?_; rintro e w4 ⟨rfl, b4⟩)
        go_ret
        exact ⟨rfl, bt b1 (bt b2 b4)⟩
    · have hd1 : decide (n < 1) = false := by simp; omega
      have hz2 : 3652059 < n := by omega
      have HU : Hid (n ≤ 9223372036854775807) := hb.2
      have HW : ¬ (1 ≤ wrap64 (n + 1) ∧ wrap64 (n + 1) ≤ 3652059) := by unfold wrap64; omega
      have HWW := Lib.hid HW
      clear wf hb h hz HW
      go_enter Try.func5, Try.ntmps5
      go_wp2_with fail
      refine (date_no n _ (by omega)).mono ?_
      rintro e w1 ⟨rfl, b1⟩
      go_wp2_with fail
      refine (date_no _ _ HWW.out).mono ?_
      rintro e w2 ⟨rfl, b2⟩
      go_wp2_with (go_at_call 15; refine (known4 _).mono ?_; rintro e w4 ⟨rfl, b4⟩)
      go_ret
      exact ⟨rfl, bt b1 (bt b2 b4)⟩

theorem civilDays_walk' (y m d : Int) (_ : (Lit.int .i64 y).wf = true) (_ : (Lit.int .i64 m).wf = true) (_ : (Lit.int .i64 d).wf = true) (w : World) :
    Calls Try.prog 3 #[.int .i64 y, .int .i64 m, .int .i64 d] w fun e w' => e = .returned (.bool true) ∧ Below w.heap.size w w' := civilDays_walk y m d w
theorem civilDates_walk' (n : Int) (_ : (Lit.int .i64 n).wf = true) (w : World) :
    Calls Try.prog 4 #[.int .i64 n] w fun e w' => e = .returned (.bool true) ∧ Below w.heap.size w w' := civilDates_walk n w
end Go.Proofs.Ytgolflindjanhaa
