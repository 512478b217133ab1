/-
  PLAIN LAWS of math/bits.Div64 (no Go in sight): the school method by halves of a word.
-/
import Derived.Test.YtbcnbahfjpgmaaaDoorM7
/-
  PLAIN LAWS of math/bits.Div64 (no Go in sight): the school method by halves of a word.
-/
namespace Go.Proofs.YtbcnbahfjpgmaaaDoor
open Go.RowKit

namespace Dv
/-- one half word of a quotient: q is tried, r is what q leaves of U beside the divisor's upper half -/
structure Inv (U u Y y1 y0 q r : Nat) : Prop where
  split : q * y1 + r = U
  above : U * 4294967296 + u < (q + 1) * Y
  small : q ≤ 4294967297
structure Div (U u Y y1 y0 : Nat) : Prop where
  y : Y = y1 * 4294967296 + y0
  l1 : y1 < 4294967296
  h1 : 2147483648 ≤ y1
  l0 : y0 < 4294967296
  lu : U < Y
  l : u < 4294967296
variable {U u Y y1 y0 q r : Nat}
theorem mulY (D : Div U u Y y1 y0) : q * Y = q * y1 * 4294967296 + q * y0 := by
  rw [D.y, Nat.mul_add, Nat.mul_assoc]
theorem mulY1 (D : Div U u Y y1 y0) : (q + 1) * Y = q * y1 * 4294967296 + q * y0 + Y := by
  rw [Nat.add_mul, Nat.one_mul, mulY D]
theorem init (D : Div U u Y y1 y0) : Inv U u Y y1 y0 (U / y1) (U % y1) := by
  have hy := D.h1
  have e := Nat.div_add_mod U y1
  have l := Nat.mod_lt U (show 0 < y1 by omega)
  have c := Nat.mul_comm y1 (U / y1)
  generalize U / y1 = Q at *
  generalize U % y1 = R at *
  refine ⟨by omega, ?_, ?_⟩
  · rw [mulY1 D, D.y]
    have := D.l
    have : U = Q * y1 + R := by omega
    rw [this]
    generalize Q * y1 = P
    omega
  · have hu := D.lu; rw [D.y] at hu
    have h0 := D.l0
    rcases Nat.lt_or_ge 4294967297 Q with h | h
    · have := Nat.mul_le_mul_right y1 h
      have e2 : (4294967297 + 1) * y1 = 4294967298 * y1 := rfl
      omega
    · exact h
theorem step (D : Div U u Y y1 y0) (h : Inv U u Y y1 y0 q r) (t : 4294967296 ≤ q ∨ 4294967296 * r + u < q * y0) :
    1 ≤ q ∧ Inv U u Y y1 y0 (q - 1) (r + y1) ∧ q - 1 ≤ 4294967296 := by
  have hq : 1 ≤ q := by
    rcases t with t | t
    · omega
    · rcases Nat.eq_zero_or_pos q with e | e
      · subst e; simp at t
      · exact e
  obtain ⟨p, rfl⟩ : ∃ p, q = p + 1 := ⟨q - 1, by omega⟩
  have a := h.split; have b := h.small
  refine ⟨hq, ⟨?_, ?_, by omega⟩, by omega⟩
  · rw [Nat.add_sub_cancel, ← a, Nat.add_mul]; omega
  · rw [Nat.add_sub_cancel]
    rcases t with t | t
    · have h1 : 4294967296 * Y ≤ (p + 1) * Y := Nat.mul_le_mul_right _ t
      have := D.lu; have := D.l
      omega
    · rw [mulY D, ← a]
      generalize (p + 1) * y1 = P at *
      generalize (p + 1) * y0 = S at *
      omega
theorem found (D : Div U u Y y1 y0) (h : Inv U u Y y1 y0 q r) (t : q * y0 ≤ 4294967296 * r + u) : q = (U * 4294967296 + u) / Y := by
  have h1 : q * Y ≤ U * 4294967296 + u := by
    rw [mulY D, ← h.split]
    generalize q * y1 = P
    generalize q * y0 = S at *
    omega
  have hy : 0 < Y := by have := D.lu; omega
  have a := (Nat.le_div_iff_mul_le hy).2 h1
  have b := (Nat.div_lt_iff_lt_mul hy).2 h.above
  omega
theorem broke (D : Div U u Y y1 y0) (hq : q ≤ 4294967296) (hr : 4294967296 ≤ r) : q * y0 ≤ 4294967296 * r + u := by
  have h1 : q * y0 ≤ 4294967296 * y0 := Nat.mul_le_mul_right _ hq
  have := D.l0
  omega
theorem bothB (B U u1 u0 Y : Nat) (hY : 0 < Y) :
    ((U * B + u1) * B + u0) / Y = (U * B + u1) / Y * B + ((U * B + u1) % Y * B + u0) / Y ∧
    ((U * B + u1) * B + u0) % Y = ((U * B + u1) % Y * B + u0) % Y := by
  have e1 := Nat.div_add_mod (U * B + u1) Y
  have e2 := Nat.div_add_mod ((U * B + u1) % Y * B + u0) Y
  have l2 := Nat.mod_lt ((U * B + u1) % Y * B + u0) hY
  generalize (U * B + u1) / Y = Q1 at *
  generalize (U * B + u1) % Y = R1 at *
  generalize (R1 * B + u0) / Y = Q0 at *
  generalize (R1 * B + u0) % Y = R0 at *
  have key : (U * B + u1) * B + u0 = Y * (Q1 * B + Q0) + R0 := by
    rw [← e1, Nat.mul_add, Nat.add_mul, ← Nat.mul_assoc, Nat.add_assoc, ← e2]
    generalize Y * Q1 * B = A
    generalize Y * Q0 = C
    omega
  rw [key]
  refine ⟨?_, ?_⟩
  · rw [Nat.mul_add_div hY, Nat.div_eq_of_lt l2, Nat.add_zero]
  · rw [Nat.mul_add_mod, Nat.mod_eq_of_lt l2]
/-- the two halves together -/
theorem both (U u1 u0 Y : Nat) (hY : 0 < Y) :
    ((U * 4294967296 + u1) * 4294967296 + u0) / Y = (U * 4294967296 + u1) / Y * 4294967296 + ((U * 4294967296 + u1) % Y * 4294967296 + u0) / Y ∧
    ((U * 4294967296 + u1) * 4294967296 + u0) % Y = ((U * 4294967296 + u1) % Y * 4294967296 + u0) % Y := bothB 4294967296 U u1 u0 Y hY
/-- the shift ahead of it -/
theorem shifted (N y s : Nat) : (N * 2 ^ s) / (y * 2 ^ s) = N / y ∧ (N * 2 ^ s) % (y * 2 ^ s) / 2 ^ s = N % y := by
  have hp : 0 < 2 ^ s := Nat.two_pow_pos s
  refine ⟨Nat.mul_div_mul_right _ _ hp, ?_⟩
  rw [Nat.mul_mod_mul_right, Nat.mul_div_cancel _ hp]
theorem upperW (W hi lo y s t : Nat) (hq : 2 ^ s * 2 ^ t = W) (hy : hi < y) (hl : lo < W) (hY : y * 2 ^ s < W) :
    hi * 2 ^ s < W ∧ lo / 2 ^ t < 2 ^ s ∧ hi * 2 ^ s + lo / 2 ^ t < y * 2 ^ s ∧
    (hi * W + lo) * 2 ^ s = (hi * 2 ^ s + lo / 2 ^ t) * W + lo * 2 ^ s % W := by
  have hp : 0 < 2 ^ s := Nat.two_pow_pos s
  have hr : 0 < 2 ^ t := Nat.two_pow_pos _
  have h1 : (hi + 1) * 2 ^ s ≤ y * 2 ^ s := Nat.mul_le_mul_right _ hy
  have h2 : lo / 2 ^ t < 2 ^ s := by
    rw [Nat.div_lt_iff_lt_mul hr, hq]; exact hl
  rw [Nat.add_mul, Nat.one_mul] at h1
  refine ⟨by omega, h2, by omega, ?_⟩
  have e := Nat.div_add_mod lo (2 ^ t)
  have l := Nat.mod_lt lo hr
  have e3 : lo * 2 ^ s = W * (lo / 2 ^ t) + lo % 2 ^ t * 2 ^ s := by
    conv => lhs; rw [← e]
    rw [Nat.add_mul, Nat.mul_right_comm, Nat.mul_comm (2 ^ t) (2 ^ s), hq]
  have l2 : lo % 2 ^ t * 2 ^ s < W := by
    rw [← hq, Nat.mul_comm (2 ^ s)]; exact Nat.mul_lt_mul_of_pos_right l hp
  have e4 : lo * 2 ^ s % W = lo % 2 ^ t * 2 ^ s := by
    rw [e3, Nat.mul_add_mod, Nat.mod_eq_of_lt l2]
  rw [e4, Nat.add_mul, Nat.add_mul, e3, Nat.mul_right_comm, Nat.mul_comm (lo / 2 ^ t) W, Nat.add_assoc]
/-- the number's upper word, shifted -/
theorem upper (hi lo y s : Nat) (hs : s ≤ 63) (hy : hi < y) (hl : lo < 18446744073709551616) (hY : y * 2 ^ s < 18446744073709551616) :
    hi * 2 ^ s < 18446744073709551616 ∧ lo / 2 ^ (64 - s) < 2 ^ s ∧ hi * 2 ^ s + lo / 2 ^ (64 - s) < y * 2 ^ s ∧
    (hi * 18446744073709551616 + lo) * 2 ^ s = (hi * 2 ^ s + lo / 2 ^ (64 - s)) * 18446744073709551616 + lo * 2 ^ s % 18446744073709551616 :=
  upperW 18446744073709551616 hi lo y s (64 - s) (by rw [← Nat.pow_add, show s + (64 - s) = 64 by omega]) hy hl hY
/-- 'or' of two parts that do not meet -/
theorem or_parts (a s b : Nat) (hb : b < 2 ^ s) : a * 2 ^ s ||| b = a * 2 ^ s + b := by
  rw [Nat.mul_comm, Nat.two_pow_add_eq_or_of_lt hb]
/-- the divisor, shifted -/
theorem norm (y s : Nat) (h : y < 18446744073709551616) (h0 : y ≠ 0) (hs : s = 64 - Lib.bitLen y) : s ≤ 63 ∧ y * 2 ^ s < 18446744073709551616 ∧ 9223372036854775808 ≤ y * 2 ^ s := by
  have a := Bt.len_spec y h h0
  have b := Bt.len_le y h h0
  have e : 2 ^ Lib.bitLen y * 2 ^ s = 18446744073709551616 := by rw [← Nat.pow_add, show Lib.bitLen y + s = 64 by omega]
  have hp : 0 < 2 ^ s := Nat.two_pow_pos s
  have c1 : y * 2 ^ s < 2 ^ Lib.bitLen y * 2 ^ s := Nat.mul_lt_mul_of_pos_right a.1 hp
  have c2 : 2 ^ Lib.bitLen y * 2 ^ s ≤ 2 * y * 2 ^ s := Nat.mul_le_mul_right _ a.2
  rw [Nat.mul_assoc] at c2
  omega
end Dv
end Go.Proofs.YtbcnbahfjpgmaaaDoor
