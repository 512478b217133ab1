/-
  decimal's functions, walked: Cmp, Add, Sub; decimal's functions, walked: Mul, Div, Neg, Abs, Round, Of, May.
-/
import Derived.Test.YtbcnbahfjpgmaaaDoorM38
/-
  decimal's functions, walked: Cmp, Add, Sub.
-/
namespace Go.Proofs.YtbcnbahfjpgmaaaDoor
open Go.RowKit
set_option linter.unusedSimpArgs false
attribute [local go_sem ↓] Go.wp_at_zero Go.wp_at_succ

theorem cmpZ_scale (x y k : Int) (hk : 0 < k) : cmpZ (x * k) (y * k) = cmpZ x y := by
  unfold cmpZ
  have e1 : (x * k = y * k) ↔ x = y := Int.mul_eq_mul_right_iff (by omega)
  have e2 : (x * k < y * k) ↔ x < y := Int.mul_lt_mul_right hk
  simp only [e1, e2]
theorem un_scale (c : Int) (s m : Nat) (h1 : s ≤ m) (h2 : m ≤ 9) : un c s = c * ((10 ^ (m - s) : Nat) : Int) * ((10 ^ (9 - m) : Nat) : Int) := by
  unfold un
  rw [Int.mul_assoc, ← Int.natCast_mul, ← Nat.pow_add, show m - s + (9 - m) = 9 - s by omega]
  simp
theorem both_bools {s s' : Int} {a : Bool} (h : (isB s && isB s') = a) : (a = false ∧ ¬ (isB s = true ∧ isB s' = true)) ∨ (a = true ∧ ∃ n n' : Nat, s = (n : Int) ∧ s' = (n' : Int) ∧ n ≤ 9 ∧ n' ≤ 9) := by
  cases a
  · left; refine ⟨rfl, fun k => ?_⟩; rw [k.1, k.2] at h; simp at h
  · right; simp only [Bool.and_eq_true] at h
    obtain ⟨n, e, hn⟩ := isB_nat h.1; obtain ⟨n', e', hn'⟩ := isB_nat h.2
    exact ⟨rfl, n, n', e, e', hn, hn'⟩
/-- what Cmp answers -/
def cmpV (c s c' s' : Int) : Value := if (isB s && isB s') = true then .tuple #[.int .i64 (cmpZ (un c s.toNat) (un c' s'.toNat)), .int .i64 0] else .tuple #[.int .i64 0, .int .i64 2]
/-- what an answer of a number is -/
def ansV (c s c' s' u : Int) : Value := if (isB s && isB s') = true then decV u 9 else noneV 2
theorem max_raised (c : Int) (s m : Nat) (hc : fits c) (h1 : s ≤ m) (h2 : m ≤ 9) : ∃ (b : Bool) (h l : Nat), Hid (wv (c * ((10 ^ (m - s) : Nat) : Int)) = .agg #[.bool b, .int .u64 (h : Int), .int .u64 (l : Int)]) ∧ Hid (IsW (c * ((10 ^ (m - s) : Nat) : Int)) b h l) :=
  isW_wv _ (raised_lt c (m - s) hc (by omega))
theorem raised_abs (c : Int) (j : Nat) (hc : fits c) (hj : j ≤ 9) : (c * ((10 ^ j : Nat) : Int)).natAbs ≤ 9223372036854775808000000000 := by
  have h1 : -9223372036854775808 ≤ c ∧ c ≤ 9223372036854775807 := hc
  have hp : 10 ^ j ≤ 10 ^ 9 := Nat.pow_le_pow_right (by omega) hj
  rw [Int.natAbs_mul, Int.natAbs_natCast]
  have := Nat.mul_le_mul (show c.natAbs ≤ 9223372036854775808 by omega) hp
  omega

end Go.Proofs.YtbcnbahfjpgmaaaDoor
/-
  decimal's functions, walked: Mul, Div, Neg, Abs, Round, Of, May.
-/
namespace Go.Proofs.YtbcnbahfjpgmaaaDoor
set_option linter.unusedSimpArgs false
set_option linter.unusedVariables false
open Go.RowKit
set_option linter.unusedSimpArgs false
attribute [local go_sem ↓] Go.wp_at_zero Go.wp_at_succ

theorem pow_split (a b c : Nat) (h : a + b = c) : (10 ^ c : Nat) = 10 ^ a * 10 ^ b := by rw [← h, Nat.pow_add]
theorem pow_int (a : Nat) : ((10 ^ a : Nat) : Int) = (10 : Int) ^ a := by simp
theorem ten_pos (a : Nat) : 0 < 10 ^ a := Nat.pow_pos (by omega)
/-- a product, as made makes it, is the even one of units -/
theorem mul_dec (c c' : Int) (n n' : Nat) (hn : n ≤ 9) (hn' : n' ≤ 9) :
    (if 9 < n + n' then decV (evenZ (c * c') (10 ^ (n + n' - 9))) 9 else decV (c * c') (n + n')) = decV (evenZ (un c n * un c' n') (10 ^ 9)) 9 := by
  have e : un c n * un c' n' = c * c' * ((10 ^ (18 - (n + n')) : Nat) : Int) := by
    unfold un
    rw [pow_int, show 18 - (n + n') = (9 - n) + (9 - n') by omega, Int.pow_add]
    rw [Int.mul_assoc, Int.mul_assoc]; congr 1
    rw [Int.mul_left_comm]
  rw [e]
  by_cases h : 9 < n + n'
  · rw [if_pos h, pow_split (n + n' - 9) (18 - (n + n')) 9 (by omega), evenZ_scale _ _ _ (ten_pos _)]
  · rw [if_neg h, pow_split (9 - (n + n')) 9 (18 - (n + n')) (by omega), Int.natCast_mul, ← Int.mul_assoc, evenZ_exact _ _ (ten_pos _)]
    have := decV_up (c * c') (n + n') (9 - (n + n'))
    rw [show n + n' + (9 - (n + n')) = 9 by omega] at this
    rw [← this, pow_int]
/-- what Mul answers -/
def mulV (c s c' s' : Int) : Value := ansV c s c' s' (evenZ (un c s.toNat * un c' s'.toNat) (10 ^ 9))
theorem ansV_form (c s c' s' u : Int) : ∃ p q e : Int, ansV c s c' s' u = .tuple #[.agg #[.int .i64 p, .int .i64 q], .int .i64 e] := by
  unfold ansV; split
  · exact decV_form _ _
  · exact ⟨_, _, _, rfl⟩
theorem mul_lt (a b : Int) (ha : fits a) (hb : fits b) : (a * b).natAbs < 340282366920938463463374607431768211456 := wMul_nat a b ha.1 ha.2 hb.1 hb.2

/-- what Neg answers -/
def negV (c s : Int) : Value := ansV 0 0 c s (un 0 0 - un c s.toNat)
/-- what Abs answers -/
def absV (c s : Int) : Value := if c < 0 then negV c s else putV c s
theorem putV_form (c s : Int) : ∃ p q e : Int, putV c s = .tuple #[.agg #[.int .i64 p, .int .i64 q], .int .i64 e] := by
  unfold putV; split
  · exact decV_form _ _
  · exact ⟨_, _, _, rfl⟩
theorem fits0 : fits 0 := by unfold fits; omega

/-- what May answers -/
def mayB (c s : Int) : Bool := isB s && (decide (s = 0) || !decide (c % 10 = 0))
theorem tmod10 (c : Int) : (c.tmod 10 = 0) ↔ (c % 10 = 0) := by
  rw [← Int.dvd_iff_tmod_eq_zero, ← Int.dvd_iff_emod_eq_zero]
/-- what Round answers -/
def roundV (c s t : Int) : Value := if (isB s && isB t) = true then decV (evenZ (un c s.toNat) (10 ^ (9 - t.toNat))) t.toNat else noneV 2
theorem round_lo (c : Int) (n t : Nat) (h : n ≤ t) (ht : t ≤ 9) : decV (evenZ (un c n) (10 ^ (9 - t))) t = decV c n := by
  have e : un c n = c * (10 : Int) ^ (t - n) * ((10 ^ (9 - t) : Nat) : Int) := by
    unfold un; rw [pow_int, Int.mul_assoc, ← Int.pow_add, show t - n + (9 - t) = 9 - n by omega]
  rw [e, evenZ_exact _ _ (ten_pos _)]
  have := decV_up c n (t - n)
  rw [show n + (t - n) = t by omega] at this
  exact this
theorem round_hi (c : Int) (n t : Nat) (h : t ≤ n) (hn : n ≤ 9) : evenZ (un c n) (10 ^ (9 - t)) = evenZ c (10 ^ (n - t)) := by
  unfold un
  rw [← pow_int, pow_split (n - t) (9 - n) (9 - t) (by omega), evenZ_scale _ _ _ (ten_pos _)]
theorem even_w0 {x : Int} {n1 : Bool} {l1 : Nat} (d : Nat) (h0 : 0 < d) (hd : d < 18446744073709551616) (v : Value) (w : World) (X : IsW x n1 0 l1) (hv : wv (evenZ x d) = v) :
    Calls Tryd.prog 44 #[.agg #[.bool n1, .int .u64 0, .int .u64 (l1 : Int)], .int .u64 (d : Int)] w fun e w' => e = .returned (.tuple #[v, .int .i64 0]) ∧ Below w.heap.size w w' := even_w d h0 hd v w X hv
theorem even_fits (c : Int) (d : Nat) (hc : fits c) (hd : 0 < d) : (evenZ c d).natAbs < 340282366920938463463374607431768211456 := by
  have h1 : -9223372036854775808 ≤ c ∧ c ≤ 9223372036854775807 := hc
  have := (evenZ_abs c d hd).1
  omega

/-- what Div answers -/
def dvdV (c s c' s' : Int) : Value := if (isB s && isB s') = true then (if c' = 0 then noneV 12 else decV (evenZ ((if c' < 0 then -(un c s.toNat) else un c s.toNat) * ((10 ^ 9 : Nat) : Int)) (un c' s'.toNat).natAbs) 9) else noneV 2
theorem div_dec (c c' : Int) (n n' : Nat) (hn' : n' ≤ 9) (hc' : c' ≠ 0) (u : Int) (hu : u = (if c' < 0 then -(c * ((10 ^ (9 - n) : Nat) : Int) * ((10 ^ n' : Nat) : Int)) else c * ((10 ^ (9 - n) : Nat) : Int) * ((10 ^ n' : Nat) : Int))) :
    evenZ ((if c' < 0 then -(un c n) else un c n) * ((10 ^ 9 : Nat) : Int)) (un c' n').natAbs = evenZ u c'.natAbs := by
  have e1 : (un c' n').natAbs = c'.natAbs * 10 ^ (9 - n') := by unfold un; rw [← pow_int, Int.natAbs_mul, Int.natAbs_natCast]
  have e2 : (if c' < 0 then -(un c n) else un c n) * ((10 ^ 9 : Nat) : Int) = u * ((10 ^ (9 - n') : Nat) : Int) := by
    rw [hu, pow_split n' (9 - n') 9 (by omega), Int.natCast_mul, ← Int.mul_assoc]
    unfold un
    rw [pow_int (9 - n)]
    split
    · rw [Int.neg_mul, Int.neg_mul]
    · rfl
  rw [e1, e2, evenZ_scale _ _ _ (ten_pos _)]
theorem div_abs (c : Int) (n n' : Nat) (hc : fits c) (hn' : n' ≤ 9) : (c * ((10 ^ (9 - n) : Nat) : Int) * ((10 ^ n' : Nat) : Int)).natAbs < 340282366920938463463374607431768211456 := by
  have h1 := raised_abs c (9 - n) hc (by omega)
  have hp : 10 ^ n' ≤ 10 ^ 9 := Nat.pow_le_pow_right (by omega) hn'
  rw [Int.natAbs_mul, Int.natAbs_natCast]
  have := Nat.mul_le_mul h1 hp
  omega
/-- the box of a number, kept; a variable that is not it, kept -/
def DivMid (W : World) (z : Int) (iX iY iR iA : Nat) (c s c' s' : Int) (w : World) (wx : World) : Prop :=
  ∃ (b : Bool) (h l : Nat), Hid (WAt wx iA b h l) ∧ Hid (IsW z b h l) ∧ Hid (DAt wx iX c s) ∧ Hid (DAt wx iY c' s') ∧ Hid (DAt wx iR 0 0) ∧ Hid (Below w.heap.size w wx)

end Go.Proofs.YtbcnbahfjpgmaaaDoor
