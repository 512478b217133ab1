/-
  THE WALKS of the reference's calendar: what each call computes, stated by the plain functions of CivilPlain; THE WALKS of Day and Date, the program's and the reference's; THE WALK of the reference's Date, of the statement's known answers, and the walks of the three statements of layer 4; THE WALKS of package months and of the reference's months; ROWS OF TWO ELEMENT TYPES side by side.
-/
import Derived.Test.YtngelemjpgglpaaM0
import Derived.Test.YtngelemjpgglpaaM44
import Derived.Test.YtngelemjpgglpaaM46
import Derived.Test.YtngelemjpgglpaaM45
import Derived.Test.YtngelemjpgglpaaM31
/-
  THE WALKS of the reference's calendar: what each call computes, stated by the plain functions of CivilPlain.
-/
namespace Go.Proofs.Ytngelemjpgglpaa
open Go.RowKit

set_option maxHeartbeats 1000000 in
theorem rleap_any (y : Int) (w : World) :
    Calls Try.prog 66 #[.int .i64 y] w fun e w' => e = .returned (.bool (Cal.leap y)) ∧ w = w' := by
  by_cases h1 : 1 ≤ y
  · by_cases h2 : y ≤ 9999
    · have hd1 : decide (y < 1) = false := by simp; omega
      have hd2 : decide (9999 < y) = false := by simp; omega
      have H0 : Cal.leap y = ((y % 4 == 0) && ((y % 100 != 0) || (y % 400 == 0))) := by
        unfold Cal.leap; simp [h1, h2, bne]; rfl
      cases a : (y % 4 == 0) <;> cases b : (y % 100 == 0) <;> cases c : (y % 400 == 0)
      all_goals
        have b2 : (y % 100 != 0) = !(y % 100 == 0) := rfl
        rw [b] at b2
        rw [a, b2, c] at H0
        have HF : Hid (Cal.leap y = _) := H0
        clear H0
        try (exfalso; simp at a b c; omega)
        try
          go_enter Try.func66, Try.ntmps66
          go_wp2
          go_ret
          exact ⟨by rw [HF.out]; rfl, rfl⟩
    · have hd1 : decide (y < 1) = false := by simp; omega
      have hd2 : decide (9999 < y) = true := by simp; omega
      have HF : Hid (Cal.leap y = false) := by
        show Cal.leap y = _; unfold Cal.leap; simp [h2]
      go_enter Try.func66, Try.ntmps66
      go_wp2
      go_ret
      exact ⟨by rw [HF.out]; rfl, rfl⟩
  · have hd1 : decide (y < 1) = true := by simp; omega
    have HF : Hid (Cal.leap y = false) := by
      show Cal.leap y = _; unfold Cal.leap; simp [h1]
    go_enter Try.func66, Try.ntmps66
    go_wp2
    go_ret
    exact ⟨by rw [HF.out]; rfl, rfl⟩

set_option maxHeartbeats 4000000 in
theorem rlength_any (y m : Int) (w : World) :
    Calls Try.prog 67 #[.int .i64 y, .int .i64 m] w fun e w' => e = .returned (.int .i64 (Cal.len y m)) ∧ w = w' := by
  by_cases h1 : 1 ≤ y
  · by_cases h2 : y ≤ 9999
    · have hd1 : decide (y < 1) = false := by simp; omega
      have hd2 : decide (9999 < y) = false := by simp; omega
      by_cases hm : 1 ≤ m ∧ m ≤ 12
      · obtain ⟨g1, g2⟩ := hm
        have HF : Hid (Cal.len y m = if m = 2 then 28 + Cal.lpI y else Cal.tab m) := by show Cal.len y m = _; unfold Cal.len; rw [if_pos ⟨h1, h2, g1, g2⟩]
        obtain rfl | rfl | rfl | rfl | rfl | rfl | rfl | rfl | rfl | rfl | rfl | rfl : m = 1 ∨ m = 2 ∨ m = 3 ∨ m = 4 ∨ m = 5 ∨ m = 6 ∨ m = 7 ∨ m = 8 ∨ m = 9 ∨ m = 10 ∨ m = 11 ∨ m = 12 := by omega
        · clear g1 g2
          go_enter Try.func67, Try.ntmps67
          go_wp2
          go_ret
          exact ⟨by rw [HF.out]; rfl, rfl⟩
        · clear g1 g2
          have HL : Hid (Cal.len y 2 = 28 + Cal.lpI y) := HF
          clear HF
          cases hl : Cal.leap y
          all_goals
            have HH : Hid (Cal.lpI y = if Cal.leap y = true then 1 else 0) := rfl
            rw [hl] at HH
            go_enter Try.func67, Try.ntmps67
            go_wp2_with (go_at_call 66; refine (rleap_any _ _).mono ?_; rintro e w' ⟨rfl, rfl⟩)
            go_ret
            exact ⟨by rw [HL.out, HH.out]; rfl, rfl⟩
        · clear g1 g2
          go_enter Try.func67, Try.ntmps67
          go_wp2
          go_ret
          exact ⟨by rw [HF.out]; rfl, rfl⟩
        · clear g1 g2
          go_enter Try.func67, Try.ntmps67
          go_wp2
          go_ret
          exact ⟨by rw [HF.out]; rfl, rfl⟩
        · clear g1 g2
          go_enter Try.func67, Try.ntmps67
          go_wp2
          go_ret
          exact ⟨by rw [HF.out]; rfl, rfl⟩
        · clear g1 g2
          go_enter Try.func67, Try.ntmps67
          go_wp2
          go_ret
          exact ⟨by rw [HF.out]; rfl, rfl⟩
        · clear g1 g2
          go_enter Try.func67, Try.ntmps67
          go_wp2
          go_ret
          exact ⟨by rw [HF.out]; rfl, rfl⟩
        · clear g1 g2
          go_enter Try.func67, Try.ntmps67
          go_wp2
          go_ret
          exact ⟨by rw [HF.out]; rfl, rfl⟩
        · clear g1 g2
          go_enter Try.func67, Try.ntmps67
          go_wp2
          go_ret
          exact ⟨by rw [HF.out]; rfl, rfl⟩
        · clear g1 g2
          go_enter Try.func67, Try.ntmps67
          go_wp2
          go_ret
          exact ⟨by rw [HF.out]; rfl, rfl⟩
        · clear g1 g2
          go_enter Try.func67, Try.ntmps67
          go_wp2
          go_ret
          exact ⟨by rw [HF.out]; rfl, rfl⟩
        · clear g1 g2
          go_enter Try.func67, Try.ntmps67
          go_wp2
          go_ret
          exact ⟨by rw [HF.out]; rfl, rfl⟩
      · have HF : Hid (Cal.len y m = 0) := Cal.len_out _ _ (by omega)
        have n1 : (m == 1) = false := by rw [beq_eq_false_iff_ne]; omega
        have n2 : (m == 2) = false := by rw [beq_eq_false_iff_ne]; omega
        have n3 : (m == 3) = false := by rw [beq_eq_false_iff_ne]; omega
        have n4 : (m == 4) = false := by rw [beq_eq_false_iff_ne]; omega
        have n5 : (m == 5) = false := by rw [beq_eq_false_iff_ne]; omega
        have n6 : (m == 6) = false := by rw [beq_eq_false_iff_ne]; omega
        have n7 : (m == 7) = false := by rw [beq_eq_false_iff_ne]; omega
        have n8 : (m == 8) = false := by rw [beq_eq_false_iff_ne]; omega
        have n9 : (m == 9) = false := by rw [beq_eq_false_iff_ne]; omega
        have n10 : (m == 10) = false := by rw [beq_eq_false_iff_ne]; omega
        have n11 : (m == 11) = false := by rw [beq_eq_false_iff_ne]; omega
        have n12 : (m == 12) = false := by rw [beq_eq_false_iff_ne]; omega
        clear hm
        go_enter Try.func67, Try.ntmps67
        go_wp2
        go_ret
        exact ⟨by rw [HF.out]; rfl, rfl⟩
    · have hd1 : decide (y < 1) = false := by simp; omega
      have hd2 : decide (9999 < y) = true := by simp; omega
      have HF : Hid (Cal.len y m = 0) := Cal.len_out _ _ (by omega)
      go_enter Try.func67, Try.ntmps67
      go_wp2
      go_ret
      exact ⟨by rw [HF.out]; rfl, rfl⟩
  · have hd1 : decide (y < 1) = true := by simp; omega
    have HF : Hid (Cal.len y m = 0) := Cal.len_out _ _ (by omega)
    go_enter Try.func67, Try.ntmps67
    go_wp2
    go_ret
    exact ⟨by rw [HF.out]; rfl, rfl⟩
end Go.Proofs.Ytngelemjpgglpaa
/-
  THE WALKS of Day and Date, the program's and the reference's.
-/
namespace Go.Proofs.Ytngelemjpgglpaa
open Go.RowKit


set_option maxHeartbeats 1000000 in
theorem day_no (y m d : Int) (w : World) (h : ¬ (1 ≤ d ∧ d ≤ Cal.len y m)) :
    Calls Try.prog 74 #[.int .i64 y, .int .i64 m, .int .i64 d] w fun e w' => e = .returned (.tuple #[.int .i64 0, .int .i64 15]) ∧ Below w.heap.size w w' := by
  by_cases h1 : d < 1
  · have hd1 : decide (d < 1) = true := by simp; omega
    clear h h1
    go_enter Try.func74, Try.ntmps74
    go_wp2
    go_ret2
    exact ⟨rfl, Below.refl _ _⟩
  · have hd1 : decide (d < 1) = false := by simp; omega
    have hd2 : decide (Cal.len y m < d) = true := by simp; omega
    clear h h1
    go_enter Try.func74, Try.ntmps74
    go_wp2_with (go_at_call 75; refine (length_any _ _ _).mono ?_; rintro e w1 ⟨rfl, hb⟩)
    go_ret2
    exact ⟨rfl, hb⟩

set_option maxHeartbeats 1000000 in
theorem day_yes (y m d : Int) (w : World) (h : Cal.Valid y m d) :
    Calls Try.prog 74 #[.int .i64 y, .int .i64 m, .int .i64 d] w fun e w' => e = .returned (.tuple #[.int .i64 (Cal.dayN y m d), .int .i64 0]) ∧ Below w.heap.size w w' := by
  obtain ⟨h1, h2, h3, h4, h5, h6⟩ := h
  have hd1 : decide (d < 1) = false := by simp; omega
  have hd2 : decide (Cal.len y m < d) = false := by simp; omega
  have ab := Cal.ahead_bd y h1 (by omega)
  have lb := Cal.len_bd y m
  go_enter Try.func74, Try.ntmps74
  go_wp2_with (first | (go_at_call 75; refine (length_any _ _ _).mono ?_; rintro e w1 ⟨rfl, hb⟩) | (go_at_call 80; refine (ahead_any _ _ h1 (by omega)).mono ?_; rintro e w' ⟨rfl, rfl⟩))
  go_loopw [8, 9] (fun n i wr => ∃ k : Int, 1 ≤ k ∧ k ≤ m ∧ i = .int .i64 k ∧ n = .int .i64 (Cal.ahead y + d + Cal.cum y k) ∧ Below w.heap.size w wr) (fun _ i _ => (m - intOf i).toNat)
  case atStart => exact ⟨1, by omega, by omega, rfl, by rw [Cal.cum_one]; simp, hb⟩
  case round =>
    rename_i wr
    obtain ⟨k, hk1, hk2, rfl, rfl, hbk⟩ := hrel
    have cb := Cal.cum_bd y k h1 h2 hk1 (by omega)
    have kb := Cal.len_bd y k
    have HS : Hid (Cal.cum y (k + 1) = Cal.cum y k + Cal.len y k) := Cal.cum_succ y k hk1
    by_cases hlt : k < m
    · go_wp2_with (go_at_call 75; refine (length_any _ _ _).mono ?_; rintro e w2 ⟨rfl, hb2⟩)
      go_roundw
      case rel => exact ⟨k + 1, by omega, by omega, rfl, by rw [HS.out, Int.add_assoc, Int.add_assoc], hbk.trans (hb2.mono hbk.size)⟩
      case measure => simp [intOf]; omega
    · have e : k = m := by omega
      subst e
      go_wp2
      go_ret2
      exact ⟨ret2 (by unfold Cal.dayN; omega) rfl, hbk⟩

/-- what Date hands back at a number that has a date -/
def DatePost (n : Int) (v : Int → Int → Int → Value) (w : World) (e : Ending) (w' : World) : Prop := ∃ y m d : Int, Cal.IsDate n y m d ∧ e = .returned (v y m d) ∧ Below w.heap.size w w'

theorem guess_hi (n : Int) (h1 : 1 ≤ n) (_h2 : n ≤ 3652059) : n ≤ Cal.ahead ((n - 1) / 365 + 1 + 1) := by unfold Cal.ahead; omega
theorem guess_hi' (n : Int) (_h1 : 1 ≤ n) (h2 : n ≤ 3652059) : n ≤ Cal.ahead (9999 + 1) := by have := Cal.ahead_max; show n ≤ Cal.ahead 10000; omega

set_option maxHeartbeats 1000000 in
theorem date_no (n : Int) (w : World) (h : ¬ (1 ≤ n ∧ n ≤ 3652059)) :
    Calls Try.prog 73 #[.int .i64 n] w fun e w' => e = .returned (.tuple #[.int .i64 0, .int .i64 0, .int .i64 0, .int .i64 15]) ∧ Below w.heap.size w w' := by
  by_cases h1 : n < 1
  · have hd1 : decide (n < 1) = true := by simp; omega
    clear h h1
    go_enter Try.func73, Try.ntmps73
    go_wp2
    exact bodyPost_ret (v := .tuple #[.int .i64 0, .int .i64 0, .int .i64 0, .int .i64 15]) (by simp [results, Try.results73, go_sem]) rfl ⟨rfl, Below.refl _ _⟩
  · have hd1 : decide (n < 1) = false := by simp; omega
    have hd2 : decide (3652059 < n) = true := by simp; omega
    clear h h1
    go_enter Try.func73, Try.ntmps73
    go_wp2
    exact bodyPost_ret (v := .tuple #[.int .i64 0, .int .i64 0, .int .i64 0, .int .i64 15]) (by simp [results, Try.results73, go_sem]) rfl ⟨rfl, Below.refl _ _⟩

set_option maxHeartbeats 1000000 in
theorem date_yes (n : Int) (w : World) (h1 : 1 ≤ n) (h2 : n ≤ 3652059) :
    Calls Try.prog 73 #[.int .i64 n] w (DatePost n (fun y m d => .tuple #[.int .i64 y, .int .i64 m, .int .i64 d, .int .i64 0]) w) := by
  have hd1 : decide (n < 1) = false := by simp; omega
  have hd2 : decide (3652059 < n) = false := by simp; omega
  go_enter Try.func73, Try.ntmps73
  go_wp2
  all_goals
    go_loop [2] (fun t => ∃ y : Int, 1 ≤ y ∧ y ≤ 9999 ∧ n ≤ Cal.ahead (y + 1) ∧ t = .int .i64 y) (fun t => (intOf t).toNat)
    case atStart => exact ⟨_, by omega, by omega, by (first | exact guess_hi n h1 h2 | exact guess_hi' n h1 h2), rfl⟩
    case round =>
      obtain ⟨y, hy1, hy2, hy3, rfl⟩ := hrel
      have ab := Cal.ahead_bd y hy1 (by omega)
      by_cases hc : n ≤ Cal.ahead y
      · have hy4 : 2 ≤ y := by
          rcases Int.lt_or_le y 2 with g | g
          · obtain rfl : y = 1 := by omega
            have := Cal.ahead_one; omega
          · exact g
        go_wp2_with (go_at_call 80; refine (ahead_any _ _ (by omega) (by omega)).mono ?_; rintro e w' ⟨rfl, rfl⟩)
        go_round
        case rel => exact ⟨y - 1, by omega, by omega, by (rw [show y - 1 + 1 = y from by omega]; exact hc), rfl⟩
        case measure => simp [intOf]; omega
      · have HA : Hid (Cal.ahead (y + 1) = Cal.ahead y + 365 + Cal.lpI y) := Cal.ahead_succ y hy1 hy2
        have HM : Hid (Cal.cum y 13 = 365 + Cal.lpI y) := Cal.cum_13 y hy1 hy2
        go_wp2_with (go_at_call 80; refine (ahead_any _ _ (by omega) (by omega)).mono ?_; rintro e w' ⟨rfl, rfl⟩)
        go_loopw [3, 4] (fun i d wr => ∃ m : Int, 1 ≤ m ∧ m ≤ 12 ∧ Cal.cum y m < n - Cal.ahead y ∧ i = .int .i64 m ∧ d = .int .i64 (n - Cal.ahead y - Cal.cum y m) ∧ Below w.heap.size w wr) (fun i _ _ => (12 - intOf i).toNat)
        case atStart => exact ⟨1, by omega, by omega, by rw [Cal.cum_one]; omega, rfl, by rw [Cal.cum_one]; simp, Below.refl _ _⟩
        case round =>
          obtain ⟨m, hm1, hm2, hm3, rfl, rfl, hbm⟩ := hrel
          have cb := Cal.cum_bd y m hy1 hy2 hm1 (by omega)
          have lb := Cal.len_bd y m
          have HS : Hid (Cal.cum y (m + 1) = Cal.cum y m + Cal.len y m) := Cal.cum_succ y m hm1
          by_cases hd : Cal.len y m < n - Cal.ahead y - Cal.cum y m
          · have hm4 : m < 12 := by
              rcases Int.lt_or_le m 12 with g | g
              · exact g
              · obtain rfl : m = 12 := by omega
                have a1 := HA.out; have a2 := HM.out; have a3 := HS.out
                rw [show (12 : Int) + 1 = 13 from rfl] at a3
                omega
            go_wp2_with (go_at_call 75; refine (length_any _ _ _).mono ?_; rintro e w1 ⟨rfl, hb1⟩; replace hbm := hbm.trans (hb1.mono hbm.size); clear hb1)
            go_roundw
            case rel => exact ⟨m + 1, by omega, by omega, by rw [HS.out]; omega, rfl, by rw [HS.out]; go_num, hbm⟩
            case measure => simp [intOf]; omega
          · go_wp2_with (go_at_call 75; refine (length_any _ _ _).mono ?_; rintro e w1 ⟨rfl, hb1⟩; replace hbm := hbm.trans (hb1.mono hbm.size); clear hb1)
            refine bodyPost_ret (v := .tuple #[.int .i64 y, .int .i64 m, .int .i64 (n - Cal.ahead y - Cal.cum y m), .int .i64 0]) (by simp [results, Try.results73, go_sem]) rfl ⟨y, m, _, Cal.isDate_of n y m hy1 hy2 hm1 hm2 hm3 (by omega), rfl, hbm⟩
theorem day_k (y m d n : Int) (w : World) (h : Cal.Valid y m d) (hn : Cal.dayN y m d = n) :
    Calls Try.prog 74 #[.int .i64 y, .int .i64 m, .int .i64 d] w fun e w' => e = .returned (.tuple #[.int .i64 n, .int .i64 0]) ∧ Below w.heap.size w w' := by
  rw [← hn]; exact day_yes y m d w h
theorem valid_dec (y m d : Int) (h : (decide (1 ≤ y) && decide (y ≤ 9999) && decide (1 ≤ m) && decide (m ≤ 12) && decide (1 ≤ d) && decide (d ≤ Cal.len y m)) = true) : Cal.Valid y m d := by
  simp at h; obtain ⟨⟨⟨⟨⟨a, b⟩, c⟩, d⟩, e⟩, f⟩ := h; exact ⟨a, b, c, d, e, f⟩

end Go.Proofs.Ytngelemjpgglpaa
/-
  THE WALK of the reference's Date, of the statement's known answers, and the walks of the three statements of layer 4.
-/
namespace Go.Proofs.Ytngelemjpgglpaa
open Go.RowKit

set_option maxHeartbeats 1000000 in
theorem rdate_no (n : Int) (w : World) (h : ¬ (1 ≤ n ∧ n ≤ 3652059)) :
    Calls Try.prog 46 #[.int .i64 n] w fun e w' => e = .returned (.tuple #[.int .i64 0, .int .i64 0, .int .i64 0, .bool false]) ∧ Below w.heap.size w w' := by
  by_cases h1 : n < 1
  · have hd1 : decide (n < 1) = true := by simp; omega
    clear h h1
    go_enter Try.func46, Try.ntmps46
    go_wp2
    exact bodyPost_ret (v := .tuple #[.int .i64 0, .int .i64 0, .int .i64 0, .bool false]) (by simp [results, Try.results46, go_sem]) rfl ⟨rfl, Below.refl _ _⟩
  · have hd1 : decide (n < 1) = false := by simp; omega
    have hd2 : decide (3652059 < n) = true := by simp; omega
    clear h h1
    go_enter Try.func46, Try.ntmps46
    go_wp2
    exact bodyPost_ret (v := .tuple #[.int .i64 0, .int .i64 0, .int .i64 0, .bool false]) (by simp [results, Try.results46, go_sem]) rfl ⟨rfl, Below.refl _ _⟩

theorem rdate_last (n : Int) (h2 : n ≤ 3652059) (y : Int) (hy : 9999 ≤ y) : n - Cal.ahead y ≤ 365 + Cal.lpI y ∨ 9999 < y := by
  rcases Int.lt_or_le 9999 y with g | g
  · exact .inr g
  · left
    obtain rfl : y = 9999 := by omega
    have := Cal.ahead_succ 9999 (by omega) (by omega)
    have := Cal.ahead_max
    rw [show (9999 : Int) + 1 = 10000 from rfl] at *
    omega

set_option maxHeartbeats 2000000 in
theorem rdate_yes (n : Int) (w : World) (h1 : 1 ≤ n) (h2 : n ≤ 3652059) :
    Calls Try.prog 46 #[.int .i64 n] w (DatePost n (fun y m d => .tuple #[.int .i64 y, .int .i64 m, .int .i64 d, .bool true]) w) := by
  have hd1 : decide (n < 1) = false := by simp; omega
  have hd2 : decide (3652059 < n) = false := by simp; omega
  go_enter Try.func46, Try.ntmps46
  go_wp2
  clear hd1 hd2
  go_loop [0, 6, 7] (fun t i _ => ∃ y : Int, 1 ≤ y ∧ y ≤ 9999 ∧ Cal.ahead y < n ∧ i = .int .i64 y ∧ t = .int .i64 (n - Cal.ahead y)) (fun _ i _ => (9999 - intOf i).toNat)
  case atStart => exact ⟨1, by omega, by omega, by rw [Cal.ahead_one]; omega, rfl, by rw [Cal.ahead_one]; simp⟩
  case round =>
    obtain ⟨y, hy1, hy2, hy3, rfl, rfl⟩ := hrel
    have ab := Cal.ahead_bd y hy1 (by omega)
    have HS : Hid (Cal.ahead (y + 1) = Cal.ahead y + 365 + Cal.lpI y) := Cal.ahead_succ y hy1 hy2
    by_cases hc : n - Cal.ahead y ≤ 365 + Cal.lpI y
    · have HM : Hid (Cal.cum y 13 = 365 + Cal.lpI y) := Cal.cum_13 y hy1 hy2
      have HC : Hid (n - Cal.ahead y ≤ 365 + Cal.lpI y) := hc
      cases hl : Cal.leap y
      all_goals
        have HH : Hid (Cal.lpI y = if Cal.leap y = true then 1 else 0) := rfl
        rw [hl] at HH
        have lp := HH.out
        simp at lp
        rw [lp] at hc
        clear lp
        have hc2 := hc
        simp only [Int.reduceAdd] at hc2
        go_wp2_with (go_at_call 66; refine (rleap_any _ _).mono ?_; rintro e w2 ⟨rfl, rfl⟩)
        clear hc hc2
        go_loop [0, 8] (fun d i => ∃ m : Int, 1 ≤ m ∧ m ≤ 12 ∧ Cal.cum y m < n - Cal.ahead y ∧ i = .int .i64 m ∧ d = .int .i64 (n - Cal.ahead y - Cal.cum y m)) (fun _ i => (12 - intOf i).toNat)
        case atStart => exact ⟨1, by omega, by omega, by rw [Cal.cum_one]; omega, rfl, by rw [Cal.cum_one]; simp⟩
        case round =>
          obtain ⟨m, hm1, hm2, hm3, rfl, rfl⟩ := hrel
          have cb := Cal.cum_bd y m hy1 hy2 hm1 (by omega)
          have lb := Cal.len_bd y m
          have HT : Hid (Cal.cum y (m + 1) = Cal.cum y m + Cal.len y m) := Cal.cum_succ y m hm1
          by_cases hd : Cal.len y m < n - Cal.ahead y - Cal.cum y m
          · have hm4 : m < 12 := by
              rcases Int.lt_or_le m 12 with g | g
              · exact g
              · obtain rfl : m = 12 := by omega
                have a1 := HS.out; have a2 := HM.out; have a3 := HT.out
                rw [show (12 : Int) + 1 = 13 from rfl] at a3
                have a4 := HC.out
                omega
            go_wp2_with (go_at_call 67; refine (rlength_any _ _ _).mono ?_; rintro e w1 ⟨rfl, rfl⟩)
            go_round
            case rel => exact ⟨m + 1, by omega, by omega, by rw [HT.out]; omega, rfl, by rw [HT.out]; go_num⟩
            case measure => simp [intOf]; omega
          · go_wp2_with (go_at_call 67; refine (rlength_any _ _ _).mono ?_; rintro e w1 ⟨rfl, rfl⟩)
            refine bodyPost_ret (v := .tuple #[.int .i64 y, .int .i64 m, .int .i64 (n - Cal.ahead y - Cal.cum y m), .bool true]) (by simp [results, Try.results46, go_sem]) rfl ⟨y, m, _, Cal.isDate_of n y m hy1 hy2 hm1 hm2 hm3 (by omega), rfl, Below.refl _ _⟩
    · have hy4 : y < 9999 := by
        rcases Int.lt_or_le y 9999 with g | g
        · exact g
        · have := rdate_last n h2 y g; omega
      cases hl : Cal.leap y
      all_goals
        have HH : Hid (Cal.lpI y = if Cal.leap y = true then 1 else 0) := rfl
        rw [hl] at HH
        have lp := HH.out
        simp at lp
        rw [lp] at hc
        clear lp
        have hc2 := hc
        simp only [Int.reduceAdd] at hc2
        go_wp2_with (go_at_call 66; refine (rleap_any _ _).mono ?_; rintro e w2 ⟨rfl, rfl⟩)
        go_round
        case rel =>
          have a1 := HS.out; have a4 := HH.out
          simp at a4
          exact ⟨y + 1, by omega, by omega, by omega, rfl, by rw [a1, a4]; go_num⟩
        case measure => simp [intOf]; omega
end Go.Proofs.Ytngelemjpgglpaa
/-
  THE WALKS of package months and of the reference's months.
-/
namespace Go.Proofs.Ytngelemjpgglpaa
open Go.RowKit

set_option maxHeartbeats 1000000 in
theorem end_none (a : Int) (w : World) (h : ¬ (1 ≤ a ∧ a ≤ 3652059)) :
    Calls Try.prog 45 #[.int .i64 a] w fun e w' => e = .returned (.tuple #[.int .i64 0, .int .i64 15]) ∧ Below w.heap.size w w' := by
  go_enter Try.func45, Try.ntmps45
  go_wp2_with (first | (go_at_call 73; refine (date_no _ _ h).mono ?_; rintro e w1 ⟨rfl, b1⟩) | go_in)
  go_ret2
  exact ⟨rfl, b1⟩
set_option maxHeartbeats 1000000 in
theorem end_in (a y m d : Int) (w : World) (h : Cal.IsDate a y m d) :
    Calls Try.prog 45 #[.int .i64 a] w fun e w' => e = .returned (.tuple #[.int .i64 (Cal.mst (Cal.mk y m) + Cal.mlen (Cal.mk y m)), .int .i64 0]) ∧ Below w.heap.size w w' := by
  have hb := Cal.isDate_bd _ _ _ _ h
  have HD : Hid (Cal.IsDate a y m d) := h
  obtain ⟨⟨h1, h2, h3, h4, h5, h6⟩, _⟩ := h
  have HJ : Hid (Cal.InM (Cal.mk y m)) := Cal.mk_in y m h1 h2 h3 h4
  have HL : Hid (Cal.len ((y * 12 + m - 13) / 12 + 1) ((y * 12 + m - 13) % 12 + 1) = Cal.mlen (Cal.mk y m)) := Cal.len_mk y m
  have HB : Hid (28 ≤ Cal.mlen (Cal.mk y m) ∧ Cal.mlen (Cal.mk y m) ≤ 31) := Cal.mlen_bd _ HJ.out
  have l1 := Cal.len_bd y m
  clear h6
  go_enter Try.func45, Try.ntmps45
  go_wp2_with (first | (go_at_call 73; refine (date_yes _ _ hb.1 hb.2).mono ?_; rintro e w1 ⟨y', m', d', hd', rfl, b1⟩; obtain ⟨e1, e2, e3⟩ := Cal.isDate_uniq _ _ _ _ _ _ _ HD.out hd'; subst e1 e2 e3; clear hd') | (go_at_call 75; refine (length_any _ _ _).mono ?_; rintro e w2 ⟨rfl, b2⟩)  | (go_at_call 64; go_in) | (go_at_call 65; go_in) )
  have hl := HL.out
  have hbd := HB.out
  refine (day_k _ _ _ (Cal.mst (Cal.mk y m) + Cal.mlen (Cal.mk y m)) _ ?v ?e).mono ?_
  case v => exact (Cal.on_b y m _ HJ.out (by omega) (by omega)).1
  case e => exact (Cal.on_b y m _ HJ.out (by omega) (by omega)).2.trans (by rw [hl])
  clear hl hbd
  rintro e w3 ⟨rfl, b3⟩
  go_wp2_with fail
  go_ret2
  exact ⟨rfl, bt b1 (bt b2 b3)⟩

/-- what Add and Years hand back -/
def AddPost (a n : Int) (w : World) (e : Ending) (w' : World) : Prop := ∃ x er : Int, Cal.AddIs a n x er ∧ e = .returned (.tuple #[.int .i64 x, .int .i64 er]) ∧ Below w.heap.size w w'
end Go.Proofs.Ytngelemjpgglpaa
/-
  ROWS OF TWO ELEMENT TYPES side by side.
-/
namespace Go.Proofs.Ytngelemjpgglpaa
open Go Go.RowKit
namespace Elem
variable {P : Program} {α : Type} {E : Elem P α}
/-- a row of another element type stays, where a row grows -/
theorem Row.beside {β : Type} {E' : Elem P β} {w w' : World} {B B' : Nat} {v v' : Value} {xs : List α} {ys : List β} (h : E.Row w B v xs) (h' : E'.Row w B' v' ys) (he : E.e ≠ E'.e) (hg : w.grownBy w' v'.ownBlock) : E.Row w' B v xs := by
  refine ⟨h.1, ?_⟩
  rcases h.2 with hn | ⟨g, cap, cur, rfl, hb, hgg, rest⟩
  · exact .inl hn
  · refine .inr ⟨g, cap, cur, rfl, hb, ?_, rest⟩
    rw [hg.block g (Array.getElem?_eq_some_iff.1 hgg).1 ?_]
    · exact hgg
    · intro e
      rcases h'.2 with ⟨rfl, _⟩ | ⟨g', cap', cur', rfl, _, hgg', _⟩
      · cases e
      · cases e
        rw [hgg] at hgg'
        simp only [Option.some.injEq, Obj.cells.injEq] at hgg'
        exact he hgg'.2.1
end Elem
end Go.Proofs.Ytngelemjpgglpaa
