/-
  THE WALKS of the calendar's functions: what each call computes, stated by the plain functions of CivilPlain.
-/
import Derived.Test.YthbgkokepnifdaaDoorKit
import Derived.Test.YthbgkokepnifdaaDoorCivilPlain
import Derived.Deep.QuietTactic
import Derived.BigQuiet
namespace Go.Proofs.YthbgkokepnifdaaDoor
open Go.RowKit

set_option maxHeartbeats 400000 in
theorem isYear_yes (y : Int) (w : World) (h1 : 1 ≤ y) (h2 : y ≤ 9999) :
    Calls Tryd.prog 30 #[.int .i64 y] w fun e w' => e = .returned (.bool true) ∧ w = w' := by
  go_enter Tryd.func30, Tryd.ntmps30
  go_wp2
  go_ret
  exact ⟨rfl, rfl⟩
set_option maxHeartbeats 400000 in
theorem isYear_no (y : Int) (w : World) (h : ¬ (1 ≤ y ∧ y ≤ 9999)) :
    Calls Tryd.prog 30 #[.int .i64 y] w fun e w' => e = .returned (.bool false) ∧ w = w' := by
  by_cases h1 : 1 ≤ y
  · have hd : decide (y ≤ 9999) = false := by simp; omega
    clear h
    go_enter Tryd.func30, Tryd.ntmps30
    go_wp2
    go_ret
    exact ⟨rfl, rfl⟩
  · clear h
    go_enter Tryd.func30, Tryd.ntmps30
    go_wp2
    go_ret
    exact ⟨rfl, rfl⟩
set_option maxHeartbeats 400000 in
theorem ahead_any (y : Int) (w : World) (h1 : 1 ≤ y) (h2 : y ≤ 10000) :
    Calls Tryd.prog 24 #[.int .i64 y] w fun e w' => e = .returned (.int .i64 (Cal.ahead y)) ∧ w = w' := by
  go_enter Tryd.func24, Tryd.ntmps24
  go_wp2
  go_ret
  exact ⟨rfl, rfl⟩

set_option maxHeartbeats 1000000 in
theorem leap_any (y : Int) (w : World) :
    Calls Tryd.prog 32 #[.int .i64 y] w fun e w' => e = .returned (.bool (Cal.leap y)) ∧ w = w' := by
  by_cases h : 1 ≤ y ∧ y ≤ 9999
  · obtain ⟨h1, h2⟩ := h
    have HF : Hid (Cal.leap y = ((y % 4 == 0) && ((y % 100 != 0) || (y % 400 == 0)))) := by
      show Cal.leap y = _; unfold Cal.leap; simp [h1, h2, bne]; rfl
    cases a : (y % 4 == 0) <;> cases b : (y % 100 == 0) <;> cases c : (y % 400 == 0)
    all_goals
      have b2 : (y % 100 != 0) = !(y % 100 == 0) := rfl
      rw [b] at b2
      rw [a, b2, c] at HF
      go_enter Tryd.func32, Tryd.ntmps32
      go_wp2_with (go_at_call 30; refine (isYear_yes _ _ h1 h2).mono ?_; rintro e w' ⟨rfl, rfl⟩)
      go_ret
      exact ⟨by rw [HF.out]; rfl, rfl⟩
  · have HF : Hid (Cal.leap y = false) := by
      show Cal.leap y = _; unfold Cal.leap
      by_cases g : 1 ≤ y
      · have : ¬ y ≤ 9999 := by omega
        simp [this]
      · simp [g]
    go_enter Tryd.func32, Tryd.ntmps32
    go_wp2_with (go_at_call 30; refine (isYear_no _ _ h).mono ?_; rintro e w' ⟨rfl, rfl⟩)
    go_ret
    exact ⟨by rw [HF.out]; rfl, rfl⟩

set_option maxHeartbeats 1000000 in
theorem lengths_any (w : World) :
    Calls Tryd.prog 31 #[] w fun e w' => e = .returned (.agg #[.int .i64 31, .int .i64 28, .int .i64 31, .int .i64 30, .int .i64 31, .int .i64 30, .int .i64 31, .int .i64 31, .int .i64 30, .int .i64 31, .int .i64 30, .int .i64 31]) ∧ Below w.heap.size w w' := by
  go_enter Tryd.func31, Tryd.ntmps31
  go_wp2
  refine bodyPost_ret (v := .agg #[.int .i64 31, .int .i64 28, .int .i64 31, .int .i64 30, .int .i64 31, .int .i64 30, .int .i64 31, .int .i64 31, .int .i64 30, .int .i64 31, .int .i64 30, .int .i64 31]) (by simp [results, Tryd.results31, go_sem]) rfl ⟨rfl, ?_⟩
  exact (Below.refl _ _).alloc (Nat.le_refl _) _
theorem idx0 (w : World) : (Instr.index 55 (.agg #[.int .i64 31, .int .i64 28, .int .i64 31, .int .i64 30, .int .i64 31, .int .i64 30, .int .i64 31, .int .i64 31, .int .i64 30, .int .i64 31, .int .i64 30, .int .i64 31]) (.int .i64 0)).run Tryd.prog w = .ok (.int .i64 31) w := by kernel_rfl
theorem idx1 (w : World) : (Instr.index 55 (.agg #[.int .i64 31, .int .i64 28, .int .i64 31, .int .i64 30, .int .i64 31, .int .i64 30, .int .i64 31, .int .i64 31, .int .i64 30, .int .i64 31, .int .i64 30, .int .i64 31]) (.int .i64 1)).run Tryd.prog w = .ok (.int .i64 28) w := by kernel_rfl
theorem idx2 (w : World) : (Instr.index 55 (.agg #[.int .i64 31, .int .i64 28, .int .i64 31, .int .i64 30, .int .i64 31, .int .i64 30, .int .i64 31, .int .i64 31, .int .i64 30, .int .i64 31, .int .i64 30, .int .i64 31]) (.int .i64 2)).run Tryd.prog w = .ok (.int .i64 31) w := by kernel_rfl
theorem idx3 (w : World) : (Instr.index 55 (.agg #[.int .i64 31, .int .i64 28, .int .i64 31, .int .i64 30, .int .i64 31, .int .i64 30, .int .i64 31, .int .i64 31, .int .i64 30, .int .i64 31, .int .i64 30, .int .i64 31]) (.int .i64 3)).run Tryd.prog w = .ok (.int .i64 30) w := by kernel_rfl
theorem idx4 (w : World) : (Instr.index 55 (.agg #[.int .i64 31, .int .i64 28, .int .i64 31, .int .i64 30, .int .i64 31, .int .i64 30, .int .i64 31, .int .i64 31, .int .i64 30, .int .i64 31, .int .i64 30, .int .i64 31]) (.int .i64 4)).run Tryd.prog w = .ok (.int .i64 31) w := by kernel_rfl
theorem idx5 (w : World) : (Instr.index 55 (.agg #[.int .i64 31, .int .i64 28, .int .i64 31, .int .i64 30, .int .i64 31, .int .i64 30, .int .i64 31, .int .i64 31, .int .i64 30, .int .i64 31, .int .i64 30, .int .i64 31]) (.int .i64 5)).run Tryd.prog w = .ok (.int .i64 30) w := by kernel_rfl
theorem idx6 (w : World) : (Instr.index 55 (.agg #[.int .i64 31, .int .i64 28, .int .i64 31, .int .i64 30, .int .i64 31, .int .i64 30, .int .i64 31, .int .i64 31, .int .i64 30, .int .i64 31, .int .i64 30, .int .i64 31]) (.int .i64 6)).run Tryd.prog w = .ok (.int .i64 31) w := by kernel_rfl
theorem idx7 (w : World) : (Instr.index 55 (.agg #[.int .i64 31, .int .i64 28, .int .i64 31, .int .i64 30, .int .i64 31, .int .i64 30, .int .i64 31, .int .i64 31, .int .i64 30, .int .i64 31, .int .i64 30, .int .i64 31]) (.int .i64 7)).run Tryd.prog w = .ok (.int .i64 31) w := by kernel_rfl
theorem idx8 (w : World) : (Instr.index 55 (.agg #[.int .i64 31, .int .i64 28, .int .i64 31, .int .i64 30, .int .i64 31, .int .i64 30, .int .i64 31, .int .i64 31, .int .i64 30, .int .i64 31, .int .i64 30, .int .i64 31]) (.int .i64 8)).run Tryd.prog w = .ok (.int .i64 30) w := by kernel_rfl
theorem idx9 (w : World) : (Instr.index 55 (.agg #[.int .i64 31, .int .i64 28, .int .i64 31, .int .i64 30, .int .i64 31, .int .i64 30, .int .i64 31, .int .i64 31, .int .i64 30, .int .i64 31, .int .i64 30, .int .i64 31]) (.int .i64 9)).run Tryd.prog w = .ok (.int .i64 31) w := by kernel_rfl
theorem idx10 (w : World) : (Instr.index 55 (.agg #[.int .i64 31, .int .i64 28, .int .i64 31, .int .i64 30, .int .i64 31, .int .i64 30, .int .i64 31, .int .i64 31, .int .i64 30, .int .i64 31, .int .i64 30, .int .i64 31]) (.int .i64 10)).run Tryd.prog w = .ok (.int .i64 30) w := by kernel_rfl
theorem idx11 (w : World) : (Instr.index 55 (.agg #[.int .i64 31, .int .i64 28, .int .i64 31, .int .i64 30, .int .i64 31, .int .i64 30, .int .i64 31, .int .i64 31, .int .i64 30, .int .i64 31, .int .i64 30, .int .i64 31]) (.int .i64 11)).run Tryd.prog w = .ok (.int .i64 31) w := by kernel_rfl
set_option maxHeartbeats 4000000 in
theorem length_any (y m : Int) (w : World) :
    Calls Tryd.prog 23 #[.int .i64 y, .int .i64 m] w fun e w' => e = .returned (.int .i64 (Cal.len y m)) ∧ Below w.heap.size w w' := by
  by_cases h : 1 ≤ y ∧ y ≤ 9999
  · obtain ⟨h1, h2⟩ := h
    by_cases g1 : 1 ≤ m
    · by_cases g2 : m ≤ 12
      · have hd1 : decide (m < 1) = false := by simp; omega
        have hd2 : decide (12 < m) = false := by simp; omega
        have HF : Hid (Cal.len y m = if m = 2 then 28 + Cal.lpI y else Cal.tab m) := by show Cal.len y m = _; unfold Cal.len; rw [if_pos ⟨h1, h2, g1, g2⟩]
        obtain rfl | rfl | rfl | rfl | rfl | rfl | rfl | rfl | rfl | rfl | rfl | rfl : m = 1 ∨ m = 2 ∨ m = 3 ∨ m = 4 ∨ m = 5 ∨ m = 6 ∨ m = 7 ∨ m = 8 ∨ m = 9 ∨ m = 10 ∨ m = 11 ∨ m = 12 := by omega
        · clear hd1 hd2 g1 g2
          have ix := idx0
          go_enter Tryd.func23, Tryd.ntmps23
          go_wp2_with (first | (go_at_call 30; refine (isYear_yes _ _ h1 h2).mono ?_; rintro e w' ⟨rfl, rfl⟩) | (go_at_call 31; refine (lengths_any _).mono ?_; rintro e w1 ⟨rfl, hb⟩))
          go_ret
          exact ⟨by rw [HF.out]; rfl, hb⟩
        · clear hd1 hd2 g1 g2
          have ix := idx1
          have HL : Hid (Cal.len y 2 = 28 + Cal.lpI y) := HF
          clear HF
          cases hl : Cal.leap y
          all_goals
            have HH : Hid (Cal.lpI y = if Cal.leap y = true then 1 else 0) := rfl
            rw [hl] at HH
            go_enter Tryd.func23, Tryd.ntmps23
            go_wp2_with (first | (go_at_call 30; refine (isYear_yes _ _ h1 h2).mono ?_; rintro e w' ⟨rfl, rfl⟩) | (go_at_call 31; refine (lengths_any _).mono ?_; rintro e w1 ⟨rfl, hb⟩) | (go_at_call 32; refine (leap_any _ _).mono ?_; rintro e w' ⟨rfl, rfl⟩))
            go_ret
            exact ⟨by rw [HL.out, HH.out]; rfl, hb⟩
        · clear hd1 hd2 g1 g2
          have ix := idx2
          go_enter Tryd.func23, Tryd.ntmps23
          go_wp2_with (first | (go_at_call 30; refine (isYear_yes _ _ h1 h2).mono ?_; rintro e w' ⟨rfl, rfl⟩) | (go_at_call 31; refine (lengths_any _).mono ?_; rintro e w1 ⟨rfl, hb⟩))
          go_ret
          exact ⟨by rw [HF.out]; rfl, hb⟩
        · clear hd1 hd2 g1 g2
          have ix := idx3
          go_enter Tryd.func23, Tryd.ntmps23
          go_wp2_with (first | (go_at_call 30; refine (isYear_yes _ _ h1 h2).mono ?_; rintro e w' ⟨rfl, rfl⟩) | (go_at_call 31; refine (lengths_any _).mono ?_; rintro e w1 ⟨rfl, hb⟩))
          go_ret
          exact ⟨by rw [HF.out]; rfl, hb⟩
        · clear hd1 hd2 g1 g2
          have ix := idx4
          go_enter Tryd.func23, Tryd.ntmps23
          go_wp2_with (first | (go_at_call 30; refine (isYear_yes _ _ h1 h2).mono ?_; rintro e w' ⟨rfl, rfl⟩) | (go_at_call 31; refine (lengths_any _).mono ?_; rintro e w1 ⟨rfl, hb⟩))
          go_ret
          exact ⟨by rw [HF.out]; rfl, hb⟩
        · clear hd1 hd2 g1 g2
          have ix := idx5
          go_enter Tryd.func23, Tryd.ntmps23
          go_wp2_with (first | (go_at_call 30; refine (isYear_yes _ _ h1 h2).mono ?_; rintro e w' ⟨rfl, rfl⟩) | (go_at_call 31; refine (lengths_any _).mono ?_; rintro e w1 ⟨rfl, hb⟩))
          go_ret
          exact ⟨by rw [HF.out]; rfl, hb⟩
        · clear hd1 hd2 g1 g2
          have ix := idx6
          go_enter Tryd.func23, Tryd.ntmps23
          go_wp2_with (first | (go_at_call 30; refine (isYear_yes _ _ h1 h2).mono ?_; rintro e w' ⟨rfl, rfl⟩) | (go_at_call 31; refine (lengths_any _).mono ?_; rintro e w1 ⟨rfl, hb⟩))
          go_ret
          exact ⟨by rw [HF.out]; rfl, hb⟩
        · clear hd1 hd2 g1 g2
          have ix := idx7
          go_enter Tryd.func23, Tryd.ntmps23
          go_wp2_with (first | (go_at_call 30; refine (isYear_yes _ _ h1 h2).mono ?_; rintro e w' ⟨rfl, rfl⟩) | (go_at_call 31; refine (lengths_any _).mono ?_; rintro e w1 ⟨rfl, hb⟩))
          go_ret
          exact ⟨by rw [HF.out]; rfl, hb⟩
        · clear hd1 hd2 g1 g2
          have ix := idx8
          go_enter Tryd.func23, Tryd.ntmps23
          go_wp2_with (first | (go_at_call 30; refine (isYear_yes _ _ h1 h2).mono ?_; rintro e w' ⟨rfl, rfl⟩) | (go_at_call 31; refine (lengths_any _).mono ?_; rintro e w1 ⟨rfl, hb⟩))
          go_ret
          exact ⟨by rw [HF.out]; rfl, hb⟩
        · clear hd1 hd2 g1 g2
          have ix := idx9
          go_enter Tryd.func23, Tryd.ntmps23
          go_wp2_with (first | (go_at_call 30; refine (isYear_yes _ _ h1 h2).mono ?_; rintro e w' ⟨rfl, rfl⟩) | (go_at_call 31; refine (lengths_any _).mono ?_; rintro e w1 ⟨rfl, hb⟩))
          go_ret
          exact ⟨by rw [HF.out]; rfl, hb⟩
        · clear hd1 hd2 g1 g2
          have ix := idx10
          go_enter Tryd.func23, Tryd.ntmps23
          go_wp2_with (first | (go_at_call 30; refine (isYear_yes _ _ h1 h2).mono ?_; rintro e w' ⟨rfl, rfl⟩) | (go_at_call 31; refine (lengths_any _).mono ?_; rintro e w1 ⟨rfl, hb⟩))
          go_ret
          exact ⟨by rw [HF.out]; rfl, hb⟩
        · clear hd1 hd2 g1 g2
          have ix := idx11
          go_enter Tryd.func23, Tryd.ntmps23
          go_wp2_with (first | (go_at_call 30; refine (isYear_yes _ _ h1 h2).mono ?_; rintro e w' ⟨rfl, rfl⟩) | (go_at_call 31; refine (lengths_any _).mono ?_; rintro e w1 ⟨rfl, hb⟩))
          go_ret
          exact ⟨by rw [HF.out]; rfl, hb⟩
      · have hd1 : decide (m < 1) = false := by simp; omega
        have hd2 : decide (12 < m) = true := by simp; omega
        have HF : Hid (Cal.len y m = 0) := Cal.len_out _ _ (by omega)
        go_enter Tryd.func23, Tryd.ntmps23
        go_wp2_with (go_at_call 30; refine (isYear_yes _ _ h1 h2).mono ?_; rintro e w' ⟨rfl, rfl⟩)
        go_ret
        exact ⟨by rw [HF.out]; rfl, Below.refl _ _⟩
    · have hd1 : decide (m < 1) = true := by simp; omega
      have HF : Hid (Cal.len y m = 0) := Cal.len_out _ _ (by omega)
      go_enter Tryd.func23, Tryd.ntmps23
      go_wp2_with (go_at_call 30; refine (isYear_yes _ _ h1 h2).mono ?_; rintro e w' ⟨rfl, rfl⟩)
      go_ret
      exact ⟨by rw [HF.out]; rfl, Below.refl _ _⟩
  · have HF : Hid (Cal.len y m = 0) := Cal.len_out _ _ (by omega)
    go_enter Tryd.func23, Tryd.ntmps23
    go_wp2_with (go_at_call 30; refine (isYear_no _ _ h).mono ?_; rintro e w' ⟨rfl, rfl⟩)
    go_ret
    exact ⟨by rw [HF.out]; rfl, Below.refl _ _⟩
end Go.Proofs.YthbgkokepnifdaaDoor
