/-
  THE WALKS of Day and Date, the program's and the reference's.
-/
import Derived.Test.YthbgkokepnifdaaDoorCivilWalks
import Derived.Test.YthbgkokepnifdaaDoorCivilRef
namespace Go.Proofs.YthbgkokepnifdaaDoor
open Go.RowKit


set_option maxHeartbeats 1000000 in
theorem day_no (y m d : Int) (w : World) (h : ¬ (1 ≤ d ∧ d ≤ Cal.len y m)) :
    Calls Tryd.prog 15 #[.int .i64 y, .int .i64 m, .int .i64 d] w fun e w' => e = .returned (.tuple #[.int .i64 0, .int .i64 15]) ∧ Below w.heap.size w w' := by
  by_cases h1 : d < 1
  · have hd1 : decide (d < 1) = true := by simp; omega
    clear h h1
    go_enter Tryd.func15, Tryd.ntmps15
    go_wp2
    go_ret2
    exact ⟨rfl, Below.refl _ _⟩
  · have hd1 : decide (d < 1) = false := by simp; omega
    have hd2 : decide (Cal.len y m < d) = true := by simp; omega
    clear h h1
    go_enter Tryd.func15, Tryd.ntmps15
    go_wp2_with (go_at_call 23; refine (length_any _ _ _).mono ?_; rintro e w1 ⟨rfl, hb⟩)
    go_ret2
    exact ⟨rfl, hb⟩

set_option maxHeartbeats 1000000 in
theorem day_yes (y m d : Int) (w : World) (h : Cal.Valid y m d) :
    Calls Tryd.prog 15 #[.int .i64 y, .int .i64 m, .int .i64 d] w fun e w' => e = .returned (.tuple #[.int .i64 (Cal.dayN y m d), .int .i64 0]) ∧ Below w.heap.size w w' := by
  obtain ⟨h1, h2, h3, h4, h5, h6⟩ := h
  have hd1 : decide (d < 1) = false := by simp; omega
  have hd2 : decide (Cal.len y m < d) = false := by simp; omega
  have ab := Cal.ahead_bd y h1 (by omega)
  have lb := Cal.len_bd y m
  go_enter Tryd.func15, Tryd.ntmps15
  go_wp2_with (first | (go_at_call 23; refine (length_any _ _ _).mono ?_; rintro e w1 ⟨rfl, hb⟩) | (go_at_call 24; refine (ahead_any _ _ h1 (by omega)).mono ?_; rintro e w' ⟨rfl, rfl⟩))
  go_loopw [8, 9] (fun n i wr => ∃ k : Int, 1 ≤ k ∧ k ≤ m ∧ i = .int .i64 k ∧ n = .int .i64 (Cal.ahead y + d + Cal.cum y k) ∧ Below w.heap.size w wr) (fun _ i _ => (m - intOf i).toNat)
  case atStart => exact ⟨1, by omega, by omega, rfl, by rw [Cal.cum_one]; simp, hb⟩
  case round =>
    rename_i wr
    obtain ⟨k, hk1, hk2, rfl, rfl, hbk⟩ := hrel
    have cb := Cal.cum_bd y k h1 h2 hk1 (by omega)
    have kb := Cal.len_bd y k
    have HS : Hid (Cal.cum y (k + 1) = Cal.cum y k + Cal.len y k) := Cal.cum_succ y k hk1
    by_cases hlt : k < m
    · go_wp2_with (go_at_call 23; refine (length_any _ _ _).mono ?_; rintro e w2 ⟨rfl, hb2⟩)
      go_roundw
      case rel => exact ⟨k + 1, by omega, by omega, rfl, by rw [HS.out, Int.add_assoc, Int.add_assoc], hbk.trans (hb2.mono hbk.size)⟩
      case measure => simp [intOf]; omega
    · have e : k = m := by omega
      subst e
      go_wp2
      go_ret2
      exact ⟨ret2 (by unfold Cal.dayN; omega) rfl, hbk⟩

set_option maxHeartbeats 1000000 in
theorem rday_no (y m d : Int) (w : World) (h : ¬ (1 ≤ d ∧ d ≤ Cal.len y m)) :
    Calls Tryd.prog 17 #[.int .i64 y, .int .i64 m, .int .i64 d] w fun e w' => e = .returned (.tuple #[.int .i64 0, .bool false]) ∧ w = w' := by
  by_cases h1 : d < 1
  · have hd1 : decide (d < 1) = true := by simp; omega
    clear h h1
    go_enter Tryd.func17, Tryd.ntmps17
    go_wp2
    go_ret2
    exact ⟨rfl, rfl⟩
  · have hd1 : decide (d < 1) = false := by simp; omega
    have hd2 : decide (Cal.len y m < d) = true := by simp; omega
    clear h h1
    go_enter Tryd.func17, Tryd.ntmps17
    go_wp2_with (go_at_call 25; refine (rlength_any _ _ _).mono ?_; rintro e w1 ⟨rfl, rfl⟩)
    go_ret2
    exact ⟨rfl, rfl⟩

set_option maxHeartbeats 1000000 in
theorem rday_yes (y m d : Int) (w : World) (h : Cal.Valid y m d) :
    Calls Tryd.prog 17 #[.int .i64 y, .int .i64 m, .int .i64 d] w fun e w' => e = .returned (.tuple #[.int .i64 (Cal.dayN y m d), .bool true]) ∧ w = w' := by
  obtain ⟨h1, h2, h3, h4, h5, h6⟩ := h
  have hd1 : decide (d < 1) = false := by simp; omega
  have hd2 : decide (Cal.len y m < d) = false := by simp; omega
  have ab := Cal.ahead_bd y h1 (by omega)
  have lb := Cal.len_bd y m
  go_enter Tryd.func17, Tryd.ntmps17
  go_wp2_with (go_at_call 25; refine (rlength_any _ _ _).mono ?_; rintro e w1 ⟨rfl, rfl⟩)
  go_loop [8, 9] (fun n i => ∃ k : Int, 1 ≤ k ∧ k ≤ y ∧ i = .int .i64 k ∧ n = .int .i64 (Cal.ahead k)) (fun _ i => (y - intOf i).toNat)
  case atStart => exact ⟨1, by omega, by omega, rfl, by rw [Cal.ahead_one]⟩
  case round =>
    obtain ⟨k, hk1, hk2, rfl, rfl⟩ := hrel
    have cb := Cal.ahead_bd k hk1 (by omega)
    have HS : Hid (Cal.ahead (k + 1) = Cal.ahead k + 365 + Cal.lpI k) := Cal.ahead_succ k hk1 (by omega)
    by_cases hlt : k < y
    · cases hl : Cal.leap k
      all_goals
        have HH : Hid (Cal.lpI k = if Cal.leap k = true then 1 else 0) := rfl
        rw [hl] at HH
        go_wp2_with (go_at_call 26; refine (rleap_any _ _).mono ?_; rintro e w2 ⟨rfl, rfl⟩)
        go_round
        case rel => exact ⟨k + 1, by omega, by omega, rfl, by rw [HS.out, HH.out]; first | rfl | (simp; done)⟩
        case measure => simp [intOf]; omega
    · have e : k = y := by omega
      subst e
      go_wp2
      go_loop [8, 10] (fun n i => ∃ j : Int, 1 ≤ j ∧ j ≤ m ∧ i = .int .i64 j ∧ n = .int .i64 (Cal.ahead k + Cal.cum k j)) (fun _ i => (m - intOf i).toNat)
      case atStart => exact ⟨1, by omega, by omega, rfl, by rw [Cal.cum_one]; simp⟩
      case round =>
        obtain ⟨j, hj1, hj2, rfl, rfl⟩ := hrel
        have cb := Cal.cum_bd k j h1 h2 hj1 (by omega)
        have kb := Cal.len_bd k j
        have HC : Hid (Cal.cum k (j + 1) = Cal.cum k j + Cal.len k j) := Cal.cum_succ k j hj1
        by_cases hlt : j < m
        · go_wp2_with (go_at_call 25; refine (rlength_any _ _ _).mono ?_; rintro e w2 ⟨rfl, rfl⟩)
          go_round
          case rel => exact ⟨j + 1, by omega, by omega, rfl, by rw [HC.out, Int.add_assoc]⟩
          case measure => simp [intOf]; omega
        · have e : j = m := by omega
          subst e
          go_wp2
          go_ret2
          exact ⟨rfl, rfl⟩

/-- what Date hands back at a number that has a date -/
def DatePost (n : Int) (v : Int → Int → Int → Value) (w : World) (e : Ending) (w' : World) : Prop := ∃ y m d : Int, Cal.IsDate n y m d ∧ e = .returned (v y m d) ∧ Below w.heap.size w w'

theorem guess_hi (n : Int) (h1 : 1 ≤ n) (_h2 : n ≤ 3652059) : n ≤ Cal.ahead ((n - 1) / 365 + 1 + 1) := by unfold Cal.ahead; omega
theorem guess_hi' (n : Int) (_h1 : 1 ≤ n) (h2 : n ≤ 3652059) : n ≤ Cal.ahead (9999 + 1) := by have := Cal.ahead_max; show n ≤ Cal.ahead 10000; omega

set_option maxHeartbeats 1000000 in
theorem date_no (n : Int) (w : World) (h : ¬ (1 ≤ n ∧ n ≤ 3652059)) :
    Calls Tryd.prog 19 #[.int .i64 n] w fun e w' => e = .returned (.tuple #[.int .i64 0, .int .i64 0, .int .i64 0, .int .i64 15]) ∧ Below w.heap.size w w' := by
  by_cases h1 : n < 1
  · have hd1 : decide (n < 1) = true := by simp; omega
    clear h h1
    go_enter Tryd.func19, Tryd.ntmps19
    go_wp2
    exact bodyPost_ret (v := .tuple #[.int .i64 0, .int .i64 0, .int .i64 0, .int .i64 15]) (by simp [results, Tryd.results19, go_sem]) rfl ⟨rfl, Below.refl _ _⟩
  · have hd1 : decide (n < 1) = false := by simp; omega
    have hd2 : decide (3652059 < n) = true := by simp; omega
    clear h h1
    go_enter Tryd.func19, Tryd.ntmps19
    go_wp2
    exact bodyPost_ret (v := .tuple #[.int .i64 0, .int .i64 0, .int .i64 0, .int .i64 15]) (by simp [results, Tryd.results19, go_sem]) rfl ⟨rfl, Below.refl _ _⟩

set_option maxHeartbeats 1000000 in
theorem date_yes (n : Int) (w : World) (h1 : 1 ≤ n) (h2 : n ≤ 3652059) :
    Calls Tryd.prog 19 #[.int .i64 n] w (DatePost n (fun y m d => .tuple #[.int .i64 y, .int .i64 m, .int .i64 d, .int .i64 0]) w) := by
  have hd1 : decide (n < 1) = false := by simp; omega
  have hd2 : decide (3652059 < n) = false := by simp; omega
  go_enter Tryd.func19, Tryd.ntmps19
  go_wp2
  all_goals
    go_loop [2] (fun t => ∃ y : Int, 1 ≤ y ∧ y ≤ 9999 ∧ n ≤ Cal.ahead (y + 1) ∧ t = .int .i64 y) (fun t => (intOf t).toNat)
    case atStart => exact ⟨_, by omega, by omega, by (first | exact guess_hi n h1 h2 | exact guess_hi' n h1 h2), rfl⟩
    case round =>
      obtain ⟨y, hy1, hy2, hy3, rfl⟩ := hrel
      have ab := Cal.ahead_bd y hy1 (by omega)
      by_cases hc : n ≤ Cal.ahead y
      · have hy4 : 2 ≤ y := by
          rcases Int.lt_or_le y 2 with g | g
          · obtain rfl : y = 1 := by omega
            have := Cal.ahead_one; omega
          · exact g
        go_wp2_with (go_at_call 24; refine (ahead_any _ _ (by omega) (by omega)).mono ?_; rintro e w' ⟨rfl, rfl⟩)
        go_round
        case rel => exact ⟨y - 1, by omega, by omega, by (rw [show y - 1 + 1 = y from by omega]; exact hc), rfl⟩
        case measure => simp [intOf]; omega
      · have HA : Hid (Cal.ahead (y + 1) = Cal.ahead y + 365 + Cal.lpI y) := Cal.ahead_succ y hy1 hy2
        have HM : Hid (Cal.cum y 13 = 365 + Cal.lpI y) := Cal.cum_13 y hy1 hy2
        go_wp2_with (go_at_call 24; refine (ahead_any _ _ (by omega) (by omega)).mono ?_; rintro e w' ⟨rfl, rfl⟩)
        go_loopw [3, 4] (fun i d wr => ∃ m : Int, 1 ≤ m ∧ m ≤ 12 ∧ Cal.cum y m < n - Cal.ahead y ∧ i = .int .i64 m ∧ d = .int .i64 (n - Cal.ahead y - Cal.cum y m) ∧ Below w.heap.size w wr) (fun i _ _ => (12 - intOf i).toNat)
        case atStart => exact ⟨1, by omega, by omega, by rw [Cal.cum_one]; omega, rfl, by rw [Cal.cum_one]; simp, Below.refl _ _⟩
        case round =>
          obtain ⟨m, hm1, hm2, hm3, rfl, rfl, hbm⟩ := hrel
          have cb := Cal.cum_bd y m hy1 hy2 hm1 (by omega)
          have lb := Cal.len_bd y m
          have HS : Hid (Cal.cum y (m + 1) = Cal.cum y m + Cal.len y m) := Cal.cum_succ y m hm1
          by_cases hd : Cal.len y m < n - Cal.ahead y - Cal.cum y m
          · have hm4 : m < 12 := by
              rcases Int.lt_or_le m 12 with g | g
              · exact g
              · obtain rfl : m = 12 := by omega
                have a1 := HA.out; have a2 := HM.out; have a3 := HS.out
                rw [show (12 : Int) + 1 = 13 from rfl] at a3
                omega
            go_wp2_with (go_at_call 23; refine (length_any _ _ _).mono ?_; rintro e w1 ⟨rfl, hb1⟩; replace hbm := hbm.trans (hb1.mono hbm.size); clear hb1)
            go_roundw
            case rel => exact ⟨m + 1, by omega, by omega, by rw [HS.out]; omega, rfl, by rw [HS.out]; go_num, hbm⟩
            case measure => simp [intOf]; omega
          · go_wp2_with (go_at_call 23; refine (length_any _ _ _).mono ?_; rintro e w1 ⟨rfl, hb1⟩; replace hbm := hbm.trans (hb1.mono hbm.size); clear hb1)
            refine bodyPost_ret (v := .tuple #[.int .i64 y, .int .i64 m, .int .i64 (n - Cal.ahead y - Cal.cum y m), .int .i64 0]) (by simp [results, Tryd.results19, go_sem]) rfl ⟨y, m, _, Cal.isDate_of n y m hy1 hy2 hm1 hm2 hm3 (by omega), rfl, hbm⟩
theorem day_k (y m d n : Int) (w : World) (h : Cal.Valid y m d) (hn : Cal.dayN y m d = n) :
    Calls Tryd.prog 15 #[.int .i64 y, .int .i64 m, .int .i64 d] w fun e w' => e = .returned (.tuple #[.int .i64 n, .int .i64 0]) ∧ Below w.heap.size w w' := by
  rw [← hn]; exact day_yes y m d w h
theorem valid_dec (y m d : Int) (h : (decide (1 ≤ y) && decide (y ≤ 9999) && decide (1 ≤ m) && decide (m ≤ 12) && decide (1 ≤ d) && decide (d ≤ Cal.len y m)) = true) : Cal.Valid y m d := by
  simp at h; obtain ⟨⟨⟨⟨⟨a, b⟩, c⟩, d⟩, e⟩, f⟩ := h; exact ⟨a, b, c, d, e, f⟩

end Go.Proofs.YthbgkokepnifdaaDoor
