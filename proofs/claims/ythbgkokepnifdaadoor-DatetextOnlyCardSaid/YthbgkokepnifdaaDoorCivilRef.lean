/-
  THE WALKS of the reference's calendar: what each call computes, stated by the plain functions of CivilPlain.
-/
import Derived.Test.YthbgkokepnifdaaDoorKit
import Derived.Test.YthbgkokepnifdaaDoorCivilPlain
namespace Go.Proofs.YthbgkokepnifdaaDoor
open Go.RowKit

set_option maxHeartbeats 1000000 in
theorem rleap_any (y : Int) (w : World) :
    Calls Tryd.prog 26 #[.int .i64 y] w fun e w' => e = .returned (.bool (Cal.leap y)) ∧ w = w' := by
  by_cases h1 : 1 ≤ y
  · by_cases h2 : y ≤ 9999
    · have hd1 : decide (y < 1) = false := by simp; omega
      have hd2 : decide (9999 < y) = false := by simp; omega
      have H0 : Cal.leap y = ((y % 4 == 0) && ((y % 100 != 0) || (y % 400 == 0))) := by
        unfold Cal.leap; simp [h1, h2, bne]; rfl
      cases a : (y % 4 == 0) <;> cases b : (y % 100 == 0) <;> cases c : (y % 400 == 0)
      all_goals
        have b2 : (y % 100 != 0) = !(y % 100 == 0) := rfl
        rw [b] at b2
        rw [a, b2, c] at H0
        have HF : Hid (Cal.leap y = _) := H0
        clear H0
        try (exfalso; simp at a b c; omega)
        try
          go_enter Tryd.func26, Tryd.ntmps26
          go_wp2
          go_ret
          exact ⟨by rw [HF.out]; rfl, rfl⟩
    · have hd1 : decide (y < 1) = false := by simp; omega
      have hd2 : decide (9999 < y) = true := by simp; omega
      have HF : Hid (Cal.leap y = false) := by
        show Cal.leap y = _; unfold Cal.leap; simp [h2]
      go_enter Tryd.func26, Tryd.ntmps26
      go_wp2
      go_ret
      exact ⟨by rw [HF.out]; rfl, rfl⟩
  · have hd1 : decide (y < 1) = true := by simp; omega
    have HF : Hid (Cal.leap y = false) := by
      show Cal.leap y = _; unfold Cal.leap; simp [h1]
    go_enter Tryd.func26, Tryd.ntmps26
    go_wp2
    go_ret
    exact ⟨by rw [HF.out]; rfl, rfl⟩

set_option maxHeartbeats 4000000 in
theorem rlength_any (y m : Int) (w : World) :
    Calls Tryd.prog 25 #[.int .i64 y, .int .i64 m] w fun e w' => e = .returned (.int .i64 (Cal.len y m)) ∧ w = w' := by
  by_cases h1 : 1 ≤ y
  · by_cases h2 : y ≤ 9999
    · have hd1 : decide (y < 1) = false := by simp; omega
      have hd2 : decide (9999 < y) = false := by simp; omega
      by_cases hm : 1 ≤ m ∧ m ≤ 12
      · obtain ⟨g1, g2⟩ := hm
        have HF : Hid (Cal.len y m = if m = 2 then 28 + Cal.lpI y else Cal.tab m) := by show Cal.len y m = _; unfold Cal.len; rw [if_pos ⟨h1, h2, g1, g2⟩]
        obtain rfl | rfl | rfl | rfl | rfl | rfl | rfl | rfl | rfl | rfl | rfl | rfl : m = 1 ∨ m = 2 ∨ m = 3 ∨ m = 4 ∨ m = 5 ∨ m = 6 ∨ m = 7 ∨ m = 8 ∨ m = 9 ∨ m = 10 ∨ m = 11 ∨ m = 12 := by omega
        · clear g1 g2
          go_enter Tryd.func25, Tryd.ntmps25
          go_wp2
          go_ret
          exact ⟨by rw [HF.out]; rfl, rfl⟩
        · clear g1 g2
          have HL : Hid (Cal.len y 2 = 28 + Cal.lpI y) := HF
          clear HF
          cases hl : Cal.leap y
          all_goals
            have HH : Hid (Cal.lpI y = if Cal.leap y = true then 1 else 0) := rfl
            rw [hl] at HH
            go_enter Tryd.func25, Tryd.ntmps25
            go_wp2_with (go_at_call 26; refine (rleap_any _ _).mono ?_; rintro e w' ⟨rfl, rfl⟩)
            go_ret
            exact ⟨by rw [HL.out, HH.out]; rfl, rfl⟩
        · clear g1 g2
          go_enter Tryd.func25, Tryd.ntmps25
          go_wp2
          go_ret
          exact ⟨by rw [HF.out]; rfl, rfl⟩
        · clear g1 g2
          go_enter Tryd.func25, Tryd.ntmps25
          go_wp2
          go_ret
          exact ⟨by rw [HF.out]; rfl, rfl⟩
        · clear g1 g2
          go_enter Tryd.func25, Tryd.ntmps25
          go_wp2
          go_ret
          exact ⟨by rw [HF.out]; rfl, rfl⟩
        · clear g1 g2
          go_enter Tryd.func25, Tryd.ntmps25
          go_wp2
          go_ret
          exact ⟨by rw [HF.out]; rfl, rfl⟩
        · clear g1 g2
          go_enter Tryd.func25, Tryd.ntmps25
          go_wp2
          go_ret
          exact ⟨by rw [HF.out]; rfl, rfl⟩
        · clear g1 g2
          go_enter Tryd.func25, Tryd.ntmps25
          go_wp2
          go_ret
          exact ⟨by rw [HF.out]; rfl, rfl⟩
        · clear g1 g2
          go_enter Tryd.func25, Tryd.ntmps25
          go_wp2
          go_ret
          exact ⟨by rw [HF.out]; rfl, rfl⟩
        · clear g1 g2
          go_enter Tryd.func25, Tryd.ntmps25
          go_wp2
          go_ret
          exact ⟨by rw [HF.out]; rfl, rfl⟩
        · clear g1 g2
          go_enter Tryd.func25, Tryd.ntmps25
          go_wp2
          go_ret
          exact ⟨by rw [HF.out]; rfl, rfl⟩
        · clear g1 g2
          go_enter Tryd.func25, Tryd.ntmps25
          go_wp2
          go_ret
          exact ⟨by rw [HF.out]; rfl, rfl⟩
      · have HF : Hid (Cal.len y m = 0) := Cal.len_out _ _ (by omega)
        have n1 : (m == 1) = false := by rw [beq_eq_false_iff_ne]; omega
        have n2 : (m == 2) = false := by rw [beq_eq_false_iff_ne]; omega
        have n3 : (m == 3) = false := by rw [beq_eq_false_iff_ne]; omega
        have n4 : (m == 4) = false := by rw [beq_eq_false_iff_ne]; omega
        have n5 : (m == 5) = false := by rw [beq_eq_false_iff_ne]; omega
        have n6 : (m == 6) = false := by rw [beq_eq_false_iff_ne]; omega
        have n7 : (m == 7) = false := by rw [beq_eq_false_iff_ne]; omega
        have n8 : (m == 8) = false := by rw [beq_eq_false_iff_ne]; omega
        have n9 : (m == 9) = false := by rw [beq_eq_false_iff_ne]; omega
        have n10 : (m == 10) = false := by rw [beq_eq_false_iff_ne]; omega
        have n11 : (m == 11) = false := by rw [beq_eq_false_iff_ne]; omega
        have n12 : (m == 12) = false := by rw [beq_eq_false_iff_ne]; omega
        clear hm
        go_enter Tryd.func25, Tryd.ntmps25
        go_wp2
        go_ret
        exact ⟨by rw [HF.out]; rfl, rfl⟩
    · have hd1 : decide (y < 1) = false := by simp; omega
      have hd2 : decide (9999 < y) = true := by simp; omega
      have HF : Hid (Cal.len y m = 0) := Cal.len_out _ _ (by omega)
      go_enter Tryd.func25, Tryd.ntmps25
      go_wp2
      go_ret
      exact ⟨by rw [HF.out]; rfl, rfl⟩
  · have hd1 : decide (y < 1) = true := by simp; omega
    have HF : Hid (Cal.len y m = 0) := Cal.len_out _ _ (by omega)
    go_enter Tryd.func25, Tryd.ntmps25
    go_wp2
    go_ret
    exact ⟨by rw [HF.out]; rfl, rfl⟩
end Go.Proofs.YthbgkokepnifdaaDoor
