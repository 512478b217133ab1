/-
  THE WALKS of the three statements of layer 5.
-/
import Derived.Test.YtgolflindjanhaaMonthsBtw
namespace Go.Proofs.Ytgolflindjanhaa
open Go.RowKit

theorem isDate_dec (n y m d : Int) (h : (decide (1 ≤ y) && decide (y ≤ 9999) && decide (1 ≤ m) && decide (m ≤ 12) && decide (1 ≤ d) && decide (d ≤ Cal.len y m)) = true) (hn : Cal.dayN y m d = n) : Cal.IsDate n y m d := ⟨valid_dec y m d h, hn⟩
theorem add_k (a n y m d x : Int) (w : World) (h : Cal.IsDate a y m d) (hj : Cal.InM (Cal.mk y m + n)) (hx : Cal.mv (Cal.mk y m + n) d = x) :
    Calls Try.prog 21 #[.int .i64 a, .int .i64 n] w fun e w' => e = .returned (.tuple #[.int .i64 x, .int .i64 0]) ∧ Below w.heap.size w w' := by
  rw [← hx]; exact add_in a n y m d w h hj
theorem inM_dec (j : Int) (h : (decide (0 ≤ j) && decide (j < 119988)) = true) : Cal.InM j := by simp at h; exact h
theorem years_k (a n y m d x : Int) (w : World) (h : Cal.IsDate a y m d) (hj : Cal.InM (Cal.mk y m + 12 * Cal.clamp n)) (hx : Cal.mv (Cal.mk y m + 12 * Cal.clamp n) d = x) :
    Calls Try.prog 22 #[.int .i64 a, .int .i64 n] w fun e w' => e = .returned (.tuple #[.int .i64 x, .int .i64 0]) ∧ Below w.heap.size w w' := by
  refine (years_any a n w).mono ?_
  rintro e w1 ⟨x', er, h', rfl, b⟩
  obtain ⟨rfl, rfl⟩ := Cal.addIs_uniq _ _ _ _ _ _ h' (Cal.addIs_in a _ y m d h hj)
  exact ⟨by rw [hx], b⟩
theorem btw_k (a b n : Int) (w : World) (ha : 1 ≤ a ∧ a ≤ 3652059) (hb : 1 ≤ b ∧ b ≤ 3652059) (hab : a ≤ b) (h : Cal.IsBtw a b n) :
    Calls Try.prog 18 #[.int .i64 a, .int .i64 b] w fun e w' => e = .returned (.tuple #[.int .i64 n, .int .i64 0]) ∧ Below w.heap.size w w' := by
  refine (btw_le a b w ha hb hab).mono ?_
  rintro e w1 ⟨n', h', rfl, bl⟩
  obtain rfl := Cal.isBtw_uniq _ _ _ _ h h'
  exact ⟨rfl, bl⟩
theorem known_btw : Cal.IsBtw 738916 738945 1 :=
  Cal.isBtw_of 738916 738945 2024 1 31 2024 2 29 (isDate_dec _ _ _ _ (by decide) (by decide)) (isDate_dec _ _ _ _ (by decide) (by decide)) (by omega)

set_option maxHeartbeats 2000000 in
theorem known5 (w : World) : Calls Try.prog 19 #[] w fun e w' => e = .returned (.bool true) ∧ Below w.heap.size w w' := by
  go_enter Try.func19, Try.ntmps19
  go_wp2_with fail
  refine (lday 2024 1 31 738916 _ (valid_dec _ _ _ (by decide)) (by decide)).mono ?_
  rintro e w1 ⟨rfl, rfl⟩
  go_wp2_with fail
  refine (add_k 738916 1 2024 1 31 738945 _ (isDate_dec _ _ _ _ (by decide) (by decide)) (inM_dec _ (by decide)) (by decide)).mono ?_
  rintro e w2 ⟨rfl, b2⟩
  go_wp2_with fail
  refine (lday 2024 1 31 738916 _ (valid_dec _ _ _ (by decide)) (by decide)).mono ?_
  rintro e w3 ⟨rfl, rfl⟩
  go_wp2_with fail
  refine (add_k 738916 (-2) 2024 1 31 738854 _ (isDate_dec _ _ _ _ (by decide) (by decide)) (inM_dec _ (by decide)) (by decide)).mono ?_
  rintro e w4 ⟨rfl, b4⟩
  go_wp2_with fail
  refine (lday 2024 2 29 738945 _ (valid_dec _ _ _ (by decide)) (by decide)).mono ?_
  rintro e w5 ⟨rfl, rfl⟩
  go_wp2_with fail
  refine (years_k 738945 1 2024 2 29 739310 _ (isDate_dec _ _ _ _ (by decide) (by decide)) (inM_dec _ (by decide)) (by decide)).mono ?_
  rintro e w6 ⟨rfl, b6⟩
  go_wp2_with fail
  refine (lday 2024 1 31 738916 _ (valid_dec _ _ _ (by decide)) (by decide)).mono ?_
  rintro e w7 ⟨rfl, rfl⟩
  go_wp2_with fail
  refine (lday 2024 2 29 738945 _ (valid_dec _ _ _ (by decide)) (by decide)).mono ?_
  rintro e w8 ⟨rfl, rfl⟩
  go_wp2_with fail
  refine (btw_k 738916 738945 1 _ (by omega) (by omega) (by omega) known_btw).mono ?_
  rintro e w9 ⟨rfl, b9⟩
  go_wp2_with fail
  refine (lday 2024 2 29 738945 _ (valid_dec _ _ _ (by decide)) (by decide)).mono ?_
  rintro e w10 ⟨rfl, rfl⟩
  go_wp2_with fail
  refine (lday 2023 11 30 738854 _ (valid_dec _ _ _ (by decide)) (by decide)).mono ?_
  rintro e w11 ⟨rfl, rfl⟩
  go_wp2_with fail
  refine (lday 2025 2 28 739310 _ (valid_dec _ _ _ (by decide)) (by decide)).mono ?_
  rintro e w12 ⟨rfl, rfl⟩
  go_wp2_with fail
  go_ret
  exact ⟨rfl, bt b2 (bt b4 (bt b6 b9))⟩

set_option maxHeartbeats 2000000 in
theorem monthsBetween_walk (a b : Int) (_ : (Lit.int .i64 a).wf = true) (_ : (Lit.int .i64 b).wf = true) (w : World) :
    Calls Try.prog 6 #[.int .i64 a, .int .i64 b] w fun e w' => e = .returned (.bool true) ∧ Below w.heap.size w w' := by
  by_cases ha : 1 ≤ a ∧ a ≤ 3652059
  · by_cases hb : 1 ≤ b ∧ b ≤ 3652059
    · go_enter Try.func6, Try.ntmps6
      go_wp2_with fail
      refine (btw_any a b _ ha hb).mono ?_
      rintro e w1 ⟨n, hn, rfl, b1⟩
      have HN := Lib.hid hn
      clear hn
      go_wp2_with fail
      refine (rdate_yes a _ ha.1 ha.2).mono ?_
      rintro e w2 ⟨y, m, d, hd, rfl, b2⟩
      clear hd
      go_wp2_with fail
      refine (rdate_yes b _ hb.1 hb.2).mono ?_
      rintro e w3 ⟨y', m', d', hd, rfl, b3⟩
      clear hd
      go_wp2_with fail
      refine (rbtw_any a b _ ha hb).mono ?_
      rintro e w4 ⟨n', hn', rfl, b4⟩
      obtain rfl := Cal.btwS_uniq _ _ _ _ HN.out hn'
      clear hn'
      go_wp2_with (go_at_call 19; refine (known5 _).mono ?_; rintro e w5 ⟨rfl, b5⟩)
      go_ret
      exact ⟨rfl, bt b1 (bt b2 (bt b3 (bt b4 b5)))⟩
    · have HB : Hid (¬ ((1 ≤ a ∧ a ≤ 3652059) ∧ (1 ≤ b ∧ b ≤ 3652059))) := fun k => hb k.2
      have HB2 := Lib.hid hb
      clear hb
      go_enter Try.func6, Try.ntmps6
      go_wp2_with fail
      refine (btw_none a b _ HB.out).mono ?_
      rintro e w1 ⟨rfl, b1⟩
      go_wp2_with fail
      refine (rdate_yes a _ ha.1 ha.2).mono ?_
      rintro e w2 ⟨y, m, d, hd, rfl, b2⟩
      clear hd
      go_wp2_with fail
      refine (rdate_no b _ HB2.out).mono ?_
      rintro e w3 ⟨rfl, b3⟩
      go_wp2_with (go_at_call 19; refine (known5 _).mono ?_; rintro e w5 ⟨rfl, b5⟩)
      go_ret
      exact ⟨rfl, bt b1 (bt b2 (bt b3 b5))⟩
  · have HB : Hid (¬ ((1 ≤ a ∧ a ≤ 3652059) ∧ (1 ≤ b ∧ b ≤ 3652059))) := fun k => ha k.1
    have HA := Lib.hid ha
    clear ha
    by_cases hb : 1 ≤ b ∧ b ≤ 3652059
    · go_enter Try.func6, Try.ntmps6
      go_wp2_with fail
      refine (btw_none a b _ HB.out).mono ?_
      rintro e w1 ⟨rfl, b1⟩
      go_wp2_with fail
      refine (rdate_no a _ HA.out).mono ?_
      rintro e w2 ⟨rfl, b2⟩
      go_wp2_with fail
      refine (rdate_yes b _ hb.1 hb.2).mono ?_
      rintro e w3 ⟨y, m, d, hd, rfl, b3⟩
      clear hd
      go_wp2_with (go_at_call 19; refine (known5 _).mono ?_; rintro e w5 ⟨rfl, b5⟩)
      go_ret
      exact ⟨rfl, bt b1 (bt b2 (bt b3 b5))⟩
    · have HB2 := Lib.hid hb
      clear hb
      go_enter Try.func6, Try.ntmps6
      go_wp2_with fail
      refine (btw_none a b _ HB.out).mono ?_
      rintro e w1 ⟨rfl, b1⟩
      go_wp2_with fail
      refine (rdate_no a _ HA.out).mono ?_
      rintro e w2 ⟨rfl, b2⟩
      go_wp2_with fail
      refine (rdate_no b _ HB2.out).mono ?_
      rintro e w3 ⟨rfl, b3⟩
      go_wp2_with (go_at_call 19; refine (known5 _).mono ?_; rintro e w5 ⟨rfl, b5⟩)
      go_ret
      exact ⟨rfl, bt b1 (bt b2 (bt b3 b5))⟩

set_option maxHeartbeats 2000000 in
theorem monthsAdd_walk (a n : Int) (_ : (Lit.int .i64 a).wf = true) (wf : (Lit.int .i64 n).wf = true) (w : World) :
    Calls Try.prog 7 #[.int .i64 a, .int .i64 n] w fun e w' => e = .returned (.bool true) ∧ Below w.heap.size w w' := by
  have HB := Lib.hid (bounds_i64 wf)
  clear wf
  by_cases ha : 1 ≤ a ∧ a ≤ 3652059
  · obtain ⟨y, m, d, hd⟩ := Cal.isDate_ex a ha.1 ha.2
    have HD := Lib.hid hd
    clear hd
    go_enter Try.func7, Try.ntmps7
    go_wp2_with fail
    refine (add_any a n _ HB.out).mono ?_
    rintro e w1 ⟨x1, e1, hx1, rfl, b1⟩
    have X1 := Lib.hid hx1
    clear hx1
    go_wp2_with fail
    refine (years_any a n _).mono ?_
    rintro e w2 ⟨x2, e2, hx2, rfl, b2⟩
    have X2 := Lib.hid hx2
    clear hx2
    go_wp2_with fail
    refine (begin_in a y m d _ HD.out).mono ?_
    rintro e w3 ⟨rfl, b3⟩
    go_wp2_with fail
    refine (end_in a y m d _ HD.out).mono ?_
    rintro e w4 ⟨rfl, b4⟩
    go_wp2_with fail
    refine (radd_any a n _ HB.out).mono ?_
    rintro e w5 ⟨x5, ok5, hx5, rfl, b5⟩
    have T1 := Lib.hid (told_add _ _ _ _ _ _ X1.out hx5)
    clear hx5
    go_wp2_with fail
    refine (ryears_any a n _ HB.out).mono ?_
    rintro e w6 ⟨x6, ok6, hx6, rfl, b6⟩
    have T2 := Lib.hid (told_add _ _ _ _ _ _ X2.out hx6)
    clear hx6
    go_wp2_with fail
    refine (rbegin_in a y m d _ HD.out).mono ?_
    rintro e w7 ⟨rfl, b7⟩
    go_wp2_with fail
    refine (rend_in a y m d _ HD.out).mono ?_
    rintro e w8 ⟨rfl, b8⟩
    go_wp2_with fail
    refine (told5 _ _ _ _ _ T1.out).mono ?_
    rintro e w9 ⟨rfl, rfl⟩
    go_wp2_with fail
    refine (told5 _ _ _ _ _ T2.out).mono ?_
    rintro e w9 ⟨rfl, rfl⟩
    go_wp2_with fail
    refine (told5 _ _ _ _ _ (.inl ⟨rfl, rfl, rfl⟩)).mono ?_
    rintro e w9 ⟨rfl, rfl⟩
    go_wp2_with fail
    refine (told5 _ _ _ _ _ (.inl ⟨rfl, rfl, rfl⟩)).mono ?_
    rintro e w9 ⟨rfl, rfl⟩
    go_wp2_with fail
    refine (known5 _).mono ?_
    rintro e w10 ⟨rfl, b10⟩
    go_wp2_with fail
    go_ret
    exact ⟨rfl, bt b1 (bt b2 (bt b3 (bt b4 (bt b5 (bt b6 (bt b7 (bt b8 b10)))))))⟩
  · have HA := Lib.hid ha
    clear ha
    go_enter Try.func7, Try.ntmps7
    go_wp2_with fail
    refine (add_any a n _ HB.out).mono ?_
    rintro e w1 ⟨x1, e1, hx1, rfl, b1⟩
    have X1 := Lib.hid hx1
    clear hx1
    go_wp2_with fail
    refine (years_any a n _).mono ?_
    rintro e w2 ⟨x2, e2, hx2, rfl, b2⟩
    have X2 := Lib.hid hx2
    clear hx2
    go_wp2_with fail
    refine (begin_none a _ HA.out).mono ?_
    rintro e w3 ⟨rfl, b3⟩
    go_wp2_with fail
    refine (end_none a _ HA.out).mono ?_
    rintro e w4 ⟨rfl, b4⟩
    go_wp2_with fail
    refine (radd_any a n _ HB.out).mono ?_
    rintro e w5 ⟨x5, ok5, hx5, rfl, b5⟩
    have T1 := Lib.hid (told_add _ _ _ _ _ _ X1.out hx5)
    clear hx5
    go_wp2_with fail
    refine (ryears_any a n _ HB.out).mono ?_
    rintro e w6 ⟨x6, ok6, hx6, rfl, b6⟩
    have T2 := Lib.hid (told_add _ _ _ _ _ _ X2.out hx6)
    clear hx6
    go_wp2_with fail
    refine (rbegin_none a _ HA.out).mono ?_
    rintro e w7 ⟨rfl, b7⟩
    go_wp2_with fail
    refine (rend_none a _ HA.out).mono ?_
    rintro e w8 ⟨rfl, b8⟩
    go_wp2_with fail
    refine (told5 _ _ _ _ _ T1.out).mono ?_
    rintro e w9 ⟨rfl, rfl⟩
    go_wp2_with fail
    refine (told5 _ _ _ _ _ T2.out).mono ?_
    rintro e w9 ⟨rfl, rfl⟩
    go_wp2_with fail
    refine (told5 _ _ _ _ _ (.inr ⟨rfl, rfl, rfl⟩)).mono ?_
    rintro e w9 ⟨rfl, rfl⟩
    go_wp2_with fail
    refine (told5 _ _ _ _ _ (.inr ⟨rfl, rfl, rfl⟩)).mono ?_
    rintro e w9 ⟨rfl, rfl⟩
    go_wp2_with fail
    refine (known5 _).mono ?_
    rintro e w10 ⟨rfl, b10⟩
    go_wp2_with fail
    go_ret
    exact ⟨rfl, bt b1 (bt b2 (bt b3 (bt b4 (bt b5 (bt b6 (bt b7 (bt b8 b10)))))))⟩

end Go.Proofs.Ytgolflindjanhaa
