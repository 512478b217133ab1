/-
  THE WALK of corrodylaw01's WideDivides, divisors that are not 0.
-/
import Derived.Test.YtfonpegkaajnkaaDoorM28
/-
  THE WALK of corrodylaw01's WideDivides, divisors that are not 0.
-/
namespace Go.Proofs.YtfonpegkaajnkaaDoor
open Go.RowKit
attribute [local go_sem ↓] Go.wp_at_zero Go.wp_at_succ

/-- a power of ten that Ten answers -/
def tenI (n : Int) : Int := if 0 ≤ n ∧ n ≤ 19 then ((10 ^ n.toNat : Nat) : Int) else 0
theorem wTen_c (n t : Int) (w : World) (h0 : -9223372036854775808 ≤ n) (h1 : n ≤ 9223372036854775807) (ht : tenI n = t) :
    Calls Tryd.prog 100 #[.int .i64 n] w fun e w' => e = .returned (.int .u64 t) ∧ w' = w := by rw [← ht]; exact wTen_any n w h0 h1
theorem asV_ten (n : Int) (h0 : 0 ≤ n) (h1 : n ≤ 19) : asV ((10 : Int) ^ n.toNat) = .tuple #[.agg #[.bool false, .int .u64 0, .int .u64 (tenI n)], .bool true] := by
  obtain ⟨m, rfl⟩ := Int.eq_ofNat_of_zero_le h0
  unfold tenI
  rw [if_pos ⟨h0, h1⟩, show ((m : Nat) : Int).toNat = m from rfl]
  have e : ((10 : Int) ^ m) = ((10 ^ m : Nat) : Int) := by simp
  have l : 10 ^ m ≤ 10 ^ 19 := Nat.pow_le_pow_right (by omega) (by omega)
  rw [e]
  generalize 10 ^ m = T at l
  unfold asV
  rw [show ((T : Nat) : Int).natAbs = T from rfl, if_pos (by omega), Nat.div_eq_of_lt (by omega), Nat.mod_eq_of_lt (by omega)]
  simp
theorem wAt_ne {w : World} {b b' : Nat} {n : Bool} {h l : Int} {v0 v1 : Value} (X : WAt w b n h l) (Y : BoxAt w b' v0 v1) : b ≠ b' := by
  rintro rfl
  unfold WAt at X; unfold BoxAt at Y
  rw [X] at Y
  simp at Y
theorem wAt_other2 {w : World} {b b' : Nat} {n : Bool} {h l : Int} (u0 u1 : Value) (H : WAt w b n h l) (hb : b ≠ b') : WAt ((w.setCell ⟨b', 0, none⟩ u0).setCell ⟨b', 1, none⟩ u1) b n h l := by
  unfold WAt; rw [Below.heap_setCell _ _ _ _ hb, Below.heap_setCell _ _ _ _ hb]; exact H
theorem evenZ_abs (z : Int) (d : Nat) (hd : 0 < d) : (evenZ z d).natAbs ≤ z.natAbs ∧ (z / (d : Int)).natAbs ≤ z.natAbs := by
  have hd' : (0 : Int) < (d : Int) := by omega
  have e := Int.emod_add_mul_ediv z (d : Int)
  have r0 := Int.emod_nonneg z (show (d : Int) ≠ 0 by omega)
  have r1 := Int.emod_lt_of_pos z hd'
  unfold evenZ
  generalize z % (d : Int) = r at *
  generalize z / (d : Int) = q at *
  have hc : (if (d : Int) < r + r ∨ (r + r = (d : Int) ∧ q % 2 ≠ 0) then (1 : Int) else 0) = 0 ∨ ((if (d : Int) < r + r ∨ (r + r = (d : Int) ∧ q % 2 ≠ 0) then (1 : Int) else 0) = 1 ∧ 1 ≤ r) := by
    split
    · rename_i h; right; exact ⟨rfl, by omega⟩
    · left; rfl
  generalize (if (d : Int) < r + r ∨ (r + r = (d : Int) ∧ q % 2 ≠ 0) then (1 : Int) else 0) = c at *
  by_cases hq : 0 ≤ q
  · have : q ≤ (d : Int) * q := by
      have := Int.mul_le_mul_of_nonneg_right (show (1 : Int) ≤ d by omega) hq
      omega
    omega
  · have : ((d : Int) - 1) * (-q - 1) ≥ 0 := Int.mul_nonneg (by omega) (by omega)
    have e2 : ((d : Int) - 1) * (-q - 1) = -((d : Int) * q) - (d : Int) + q + 1 := by
      rw [Int.sub_mul, Int.mul_sub, Int.mul_neg]; omega
    omega

theorem tenT (n t : Int) (HW : Hid (tenI n = t)) : ∃ cb : Bool, Hid ((decide (0 ≤ n) = true ∧ decide (n ≤ 19) = true ∧ asV ((10 : Int) ^ n.toNat) = .tuple #[.agg #[.bool false, .int .u64 0, .int .u64 t], .bool true] ∧ cb = true) ∨ (decide (0 ≤ n) = false ∧ t = 0 ∧ cb = false) ∨ (decide (0 ≤ n) = true ∧ decide (n ≤ 19) = false ∧ t = 0 ∧ cb = false)) := by
  by_cases g0 : 0 ≤ n
  · by_cases g1 : n ≤ 19
    · exact ⟨true, .inl ⟨by simpa using g0, by simpa using g1, by rw [asV_ten n g0 g1, HW.out], rfl⟩⟩
    · exact ⟨false, .inr (.inr ⟨by simpa using g0, by simpa using g1, by rw [← HW.out]; unfold tenI; rw [if_neg (by omega)], rfl⟩)⟩
  · exact ⟨false, .inr (.inl ⟨by simpa using g0, by rw [← HW.out]; unfold tenI; rw [if_neg (by omega)], rfl⟩)⟩
theorem ovV_small (z : Int) (v : Value) (h : z.natAbs < 340282366920938463463374607431768211456) (hv : wv z = v) : ovV z = .tuple #[v, .int .i64 0] := by
  unfold ovV; rw [if_pos h, hv]

end Go.Proofs.YtfonpegkaajnkaaDoor
