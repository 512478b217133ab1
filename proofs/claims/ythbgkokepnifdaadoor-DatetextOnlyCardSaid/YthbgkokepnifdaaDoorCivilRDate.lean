/-
  THE WALK of the reference's Date, of the statement's known answers, and the walks of the three statements of layer 4.
-/
import Derived.Test.YthbgkokepnifdaaDoorCivilDay
namespace Go.Proofs.YthbgkokepnifdaaDoor
open Go.RowKit

set_option maxHeartbeats 1000000 in
theorem rdate_no (n : Int) (w : World) (h : ¬ (1 ≤ n ∧ n ≤ 3652059)) :
    Calls Tryd.prog 21 #[.int .i64 n] w fun e w' => e = .returned (.tuple #[.int .i64 0, .int .i64 0, .int .i64 0, .bool false]) ∧ Below w.heap.size w w' := by
  by_cases h1 : n < 1
  · have hd1 : decide (n < 1) = true := by simp; omega
    clear h h1
    go_enter Tryd.func21, Tryd.ntmps21
    go_wp2
    exact bodyPost_ret (v := .tuple #[.int .i64 0, .int .i64 0, .int .i64 0, .bool false]) (by simp [results, Tryd.results21, go_sem]) rfl ⟨rfl, Below.refl _ _⟩
  · have hd1 : decide (n < 1) = false := by simp; omega
    have hd2 : decide (3652059 < n) = true := by simp; omega
    clear h h1
    go_enter Tryd.func21, Tryd.ntmps21
    go_wp2
    exact bodyPost_ret (v := .tuple #[.int .i64 0, .int .i64 0, .int .i64 0, .bool false]) (by simp [results, Tryd.results21, go_sem]) rfl ⟨rfl, Below.refl _ _⟩

theorem rdate_last (n : Int) (h2 : n ≤ 3652059) (y : Int) (hy : 9999 ≤ y) : n - Cal.ahead y ≤ 365 + Cal.lpI y ∨ 9999 < y := by
  rcases Int.lt_or_le 9999 y with g | g
  · exact .inr g
  · left
    obtain rfl : y = 9999 := by omega
    have := Cal.ahead_succ 9999 (by omega) (by omega)
    have := Cal.ahead_max
    rw [show (9999 : Int) + 1 = 10000 from rfl] at *
    omega

set_option maxHeartbeats 2000000 in
theorem rdate_yes (n : Int) (w : World) (h1 : 1 ≤ n) (h2 : n ≤ 3652059) :
    Calls Tryd.prog 21 #[.int .i64 n] w (DatePost n (fun y m d => .tuple #[.int .i64 y, .int .i64 m, .int .i64 d, .bool true]) w) := by
  have hd1 : decide (n < 1) = false := by simp; omega
  have hd2 : decide (3652059 < n) = false := by simp; omega
  go_enter Tryd.func21, Tryd.ntmps21
  go_wp2
  clear hd1 hd2
  go_loop [0, 6, 7] (fun t i _ => ∃ y : Int, 1 ≤ y ∧ y ≤ 9999 ∧ Cal.ahead y < n ∧ i = .int .i64 y ∧ t = .int .i64 (n - Cal.ahead y)) (fun _ i _ => (9999 - intOf i).toNat)
  case atStart => exact ⟨1, by omega, by omega, by rw [Cal.ahead_one]; omega, rfl, by rw [Cal.ahead_one]; simp⟩
  case round =>
    obtain ⟨y, hy1, hy2, hy3, rfl, rfl⟩ := hrel
    have ab := Cal.ahead_bd y hy1 (by omega)
    have HS : Hid (Cal.ahead (y + 1) = Cal.ahead y + 365 + Cal.lpI y) := Cal.ahead_succ y hy1 hy2
    by_cases hc : n - Cal.ahead y ≤ 365 + Cal.lpI y
    · have HM : Hid (Cal.cum y 13 = 365 + Cal.lpI y) := Cal.cum_13 y hy1 hy2
      have HC : Hid (n - Cal.ahead y ≤ 365 + Cal.lpI y) := hc
      cases hl : Cal.leap y
      all_goals
        have HH : Hid (Cal.lpI y = if Cal.leap y = true then 1 else 0) := rfl
        rw [hl] at HH
        have lp := HH.out
        simp at lp
        rw [lp] at hc
        clear lp
        have hc2 := hc
        simp only [Int.reduceAdd] at hc2
        go_wp2_with (go_at_call 26; refine (rleap_any _ _).mono ?_; rintro e w2 ⟨rfl, rfl⟩)
        clear hc hc2
        go_loop [0, 8] (fun d i => ∃ m : Int, 1 ≤ m ∧ m ≤ 12 ∧ Cal.cum y m < n - Cal.ahead y ∧ i = .int .i64 m ∧ d = .int .i64 (n - Cal.ahead y - Cal.cum y m)) (fun _ i => (12 - intOf i).toNat)
        case atStart => exact ⟨1, by omega, by omega, by rw [Cal.cum_one]; omega, rfl, by rw [Cal.cum_one]; simp⟩
        case round =>
          obtain ⟨m, hm1, hm2, hm3, rfl, rfl⟩ := hrel
          have cb := Cal.cum_bd y m hy1 hy2 hm1 (by omega)
          have lb := Cal.len_bd y m
          have HT : Hid (Cal.cum y (m + 1) = Cal.cum y m + Cal.len y m) := Cal.cum_succ y m hm1
          by_cases hd : Cal.len y m < n - Cal.ahead y - Cal.cum y m
          · have hm4 : m < 12 := by
              rcases Int.lt_or_le m 12 with g | g
              · exact g
              · obtain rfl : m = 12 := by omega
                have a1 := HS.out; have a2 := HM.out; have a3 := HT.out
                rw [show (12 : Int) + 1 = 13 from rfl] at a3
                have a4 := HC.out
                omega
            go_wp2_with (go_at_call 25; refine (rlength_any _ _ _).mono ?_; rintro e w1 ⟨rfl, rfl⟩)
            go_round
            case rel => exact ⟨m + 1, by omega, by omega, by rw [HT.out]; omega, rfl, by rw [HT.out]; go_num⟩
            case measure => simp [intOf]; omega
          · go_wp2_with (go_at_call 25; refine (rlength_any _ _ _).mono ?_; rintro e w1 ⟨rfl, rfl⟩)
            refine bodyPost_ret (v := .tuple #[.int .i64 y, .int .i64 m, .int .i64 (n - Cal.ahead y - Cal.cum y m), .bool true]) (by simp [results, Tryd.results21, go_sem]) rfl ⟨y, m, _, Cal.isDate_of n y m hy1 hy2 hm1 hm2 hm3 (by omega), rfl, Below.refl _ _⟩
    · have hy4 : y < 9999 := by
        rcases Int.lt_or_le y 9999 with g | g
        · exact g
        · have := rdate_last n h2 y g; omega
      cases hl : Cal.leap y
      all_goals
        have HH : Hid (Cal.lpI y = if Cal.leap y = true then 1 else 0) := rfl
        rw [hl] at HH
        have lp := HH.out
        simp at lp
        rw [lp] at hc
        clear lp
        have hc2 := hc
        simp only [Int.reduceAdd] at hc2
        go_wp2_with (go_at_call 26; refine (rleap_any _ _).mono ?_; rintro e w2 ⟨rfl, rfl⟩)
        go_round
        case rel =>
          have a1 := HS.out; have a4 := HH.out
          simp at a4
          exact ⟨y + 1, by omega, by omega, by omega, rfl, by rw [a1, a4]; go_num⟩
        case measure => simp [intOf]; omega
end Go.Proofs.YthbgkokepnifdaaDoor
