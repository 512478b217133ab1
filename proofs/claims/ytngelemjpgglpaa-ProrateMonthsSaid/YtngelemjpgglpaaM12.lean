/-
  DECIMALS, plain: the canonical number of a whole one and its places; all numbers as units of the place 9; PRORATE, plain: an amount's units of a place; the shares by weights.
-/
import Derived.Test.YtngelemjpgglpaaM11
/-
  DECIMALS, plain: the canonical number of a whole one and its places; all numbers as units of the place 9.
-/
namespace Go.Proofs.Ytngelemjpgglpaa
open Go.RowKit

/-- a whole number and its places, with no nought at its end that the places allow to strike -/
def trim : Int → Nat → Int × Nat
  | u, 0 => (u, 0)
  | u, s + 1 => if u % 10 = 0 then trim (u / 10) s else (u, s + 1)
theorem trim_succ (u : Int) (s : Nat) : trim u (s + 1) = if u % 10 = 0 then trim (u / 10) s else (u, s + 1) := rfl
theorem trim_up (u : Int) (s k : Nat) : trim (u * 10 ^ k) (s + k) = trim u s := by
  induction k with
  | zero => simp
  | succ k ih =>
    have e : u * 10 ^ (k + 1) = u * 10 ^ k * 10 := by rw [Int.pow_succ, Int.mul_assoc]
    rw [e, ← Nat.add_assoc, trim_succ, if_pos (by omega), show u * 10 ^ k * 10 / 10 = u * 10 ^ k by omega]
    exact ih
theorem trim_le (u : Int) (s : Nat) : (trim u s).2 ≤ s := by
  induction s generalizing u with
  | zero => simp [trim]
  | succ s ih => unfold trim; split; exact Nat.le_succ_of_le (ih _); exact Nat.le_refl _
theorem trim_val (u : Int) (s : Nat) : (trim u s).1 * 10 ^ (s - (trim u s).2) = u := by
  induction s generalizing u with
  | zero => simp [trim]
  | succ s ih =>
    unfold trim
    split
    · rename_i h
      have l := trim_le (u / 10) s
      rw [show s + 1 - (trim (u / 10) s).2 = s - (trim (u / 10) s).2 + 1 by omega, Int.pow_succ, ← Int.mul_assoc, ih]
      omega
    · simp
theorem trim_canon (u : Int) (s : Nat) : (trim u s).2 = 0 ∨ (trim u s).1 % 10 ≠ 0 := by
  induction s generalizing u with
  | zero => simp [trim]
  | succ s ih =>
    unfold trim
    split
    · exact ih _
    · rename_i h; exact .inr h
theorem trim_self (c : Int) (s : Nat) (h : s = 0 ∨ c % 10 ≠ 0) : trim c s = (c, s) := by
  cases s with
  | zero => rfl
  | succ s => unfold trim; rw [if_neg (by omega)]
/-- small enough for a number of 64 bits -/
def fits (u : Int) : Prop := -9223372036854775808 ≤ u ∧ u ≤ 9223372036854775807
instance (u : Int) : Decidable (fits u) := by unfold fits; exact inferInstance
/-- a whole number of so many places, as it is told -/
def decV (u : Int) (s : Nat) : Value :=
  if fits (trim u s).1 then .tuple #[.agg #[.int .i64 (trim u s).1, .int .i64 ((trim u s).2 : Int)], .int .i64 0] else .tuple #[.agg #[.int .i64 0, .int .i64 0], .int .i64 11]
theorem decV_up (u : Int) (s k : Nat) : decV (u * 10 ^ k) (s + k) = decV u s := by unfold decV; rw [trim_up]
theorem decV_form (u : Int) (s : Nat) : ∃ c p e : Int, decV u s = .tuple #[.agg #[.int .i64 c, .int .i64 p], .int .i64 e] := by
  unfold decV; split
  · exact ⟨_, _, _, rfl⟩
  · exact ⟨_, _, _, rfl⟩
/-- units of the place 9 -/
def un (c : Int) (s : Nat) : Int := c * 10 ^ (9 - s)
theorem decV_un (c : Int) (s : Nat) (h : s ≤ 9) : decV (un c s) 9 = decV c s := by
  have := decV_up c s (9 - s)
  rw [show s + (9 - s) = 9 by omega] at this
  exact this
/-- what such an answer is -/
structure IsD (u c : Int) (s : Nat) : Prop where
  val : un c s = u
  le : s ≤ 9
  fit : fits c
  can : s = 0 ∨ c % 10 ≠ 0
theorem decV_any (u : Int) : ∃ (c : Int) (s : Nat) (e : Int), Hid (decV u 9 = .tuple #[.agg #[.int .i64 c, .int .i64 (s : Int)], .int .i64 e]) ∧ Hid ((e = 0 ∧ IsD u c s) ∨ (e = 11 ∧ c = 0 ∧ s = 0 ∧ ¬ fits (trim u 9).1)) := by
  by_cases h : fits (trim u 9).1
  · refine ⟨(trim u 9).1, (trim u 9).2, 0, ?_, .inl ⟨rfl, trim_val u 9, trim_le u 9, h, trim_canon u 9⟩⟩
    show _ = _; unfold decV; rw [if_pos h]
  · refine ⟨0, 0, 11, ?_, .inr ⟨rfl, rfl, rfl, h⟩⟩
    show _ = _; unfold decV; rw [if_neg h]; rfl
theorem isD_trim {u c : Int} {s : Nat} (h : IsD u c s) : trim u 9 = (c, s) := by
  have := trim_up c s (9 - s)
  rw [show s + (9 - s) = 9 by have := h.le; omega] at this
  rw [← h.val]; unfold un; rw [this, trim_self c s h.can]
/-- the even number hangs on no common factor -/
theorem evenZ_scale (x : Int) (Y m : Nat) (hm : 0 < m) : evenZ (x * (m : Int)) (Y * m) = evenZ x Y := by
  have hm' : (0 : Int) < (m : Int) := by omega
  unfold evenZ
  have em : x * (m : Int) % ((Y : Int) * (m : Int)) = x % (Y : Int) * (m : Int) := by
    rw [Int.mul_comm x, Int.mul_comm (Y : Int), Int.mul_emod_mul_of_pos _ _ hm', Int.mul_comm]
  rw [Int.natCast_mul, Int.mul_ediv_mul_of_pos_left _ _ hm', em]
  have e : (((Y : Int) * (m : Int) < x % (Y : Int) * (m : Int) + x % (Y : Int) * (m : Int)) ↔ ((Y : Int) < x % (Y : Int) + x % (Y : Int))) := by
    rw [← Int.add_mul]; exact Int.mul_lt_mul_right hm'
  have e2 : ((x % (Y : Int) * (m : Int) + x % (Y : Int) * (m : Int) = (Y : Int) * (m : Int)) ↔ (x % (Y : Int) + x % (Y : Int) = (Y : Int))) := by
    rw [← Int.add_mul]; exact Int.mul_eq_mul_right_iff (by omega)
  simp only [e, e2]
theorem evenZ_one (x : Int) : evenZ x 1 = x := by unfold evenZ; omega
theorem evenZ_exact (x : Int) (m : Nat) (hm : 0 < m) : evenZ (x * (m : Int)) m = x := by
  have := evenZ_scale x 1 m hm
  rw [Nat.one_mul, evenZ_one] at this; exact this
end Go.Proofs.Ytngelemjpgglpaa
/-
  PRORATE, plain: an amount's units of a place; the shares by weights.
-/
namespace Go.Proofs.Ytngelemjpgglpaa.Pro
open Go.RowKit

theorem pow_pos10 (n : Nat) : (0 : Int) < 10 ^ n := Int.pow_pos (by omega)
/-- an amount is a whole number of units of the place s just where its canonical form has no more places -/
theorem units_trim (c : Int) (n s : Nat) (hn : n ≤ 18) (hs : s ≤ 18) : (c * 10 ^ (18 - n)) % 10 ^ (18 - s) = 0 ↔ (trim c n).2 ≤ s := by
  have hv := trim_val c n
  have hl := trim_le c n
  have hc := trim_canon c n
  generalize (trim c n).1 = c1 at *
  generalize (trim c n).2 = s1 at *
  have e : c * 10 ^ (18 - n) = c1 * 10 ^ (18 - s1) := by
    rw [← hv, Int.mul_assoc, ← Int.pow_add, show n - s1 + (18 - n) = 18 - s1 by omega]
  rw [e]
  constructor
  · intro h
    by_cases hle : s1 ≤ s
    · exact hle
    · exfalso
      have e2 : (10 : Int) ^ (18 - s) = 10 ^ (s1 - s) * 10 ^ (18 - s1) := by rw [← Int.pow_add, show s1 - s + (18 - s1) = 18 - s by omega]
      rw [e2, Int.mul_comm c1, Int.mul_comm (10 ^ (s1 - s)), Int.mul_emod_mul_of_pos _ _ (pow_pos10 _)] at h
      have h1 : c1 % 10 ^ (s1 - s) = 0 := by
        rcases Int.mul_eq_zero.1 h with h | h
        · have := pow_pos10 (18 - s1); omega
        · exact h
      rcases hc with hc | hc
      · omega
      · apply hc
        have : (10 : Int) ∣ 10 ^ (s1 - s) := by
          obtain ⟨m, hm⟩ : ∃ m, s1 - s = m + 1 := ⟨s1 - s - 1, by omega⟩
          rw [hm, Int.pow_succ]; exact Int.dvd_mul_left _ _
        exact Int.emod_eq_zero_of_dvd (Int.dvd_trans this (Int.dvd_of_emod_eq_zero h1))
  · intro h
    have e2 : c1 * 10 ^ (18 - s1) = c1 * 10 ^ (s - s1) * 10 ^ (18 - s) := by rw [Int.mul_assoc, ← Int.pow_add, show s - s1 + (18 - s) = 18 - s1 by omega]
    rw [e2, Int.mul_emod_left]
theorem units_quot (c : Int) (n s : Nat) (hn : n ≤ 18) (hs : s ≤ 18) (h : (trim c n).2 ≤ s) : (c * 10 ^ (18 - n)) / 10 ^ (18 - s) = (trim c n).1 * 10 ^ (s - (trim c n).2) := by
  have hv := trim_val c n
  have hl := trim_le c n
  generalize (trim c n).1 = c1 at *
  generalize (trim c n).2 = s1 at *
  have e : c * 10 ^ (18 - n) = c1 * 10 ^ (s - s1) * 10 ^ (18 - s) := by
    rw [← hv, Int.mul_assoc, ← Int.pow_add, show n - s1 + (18 - n) = 18 - s1 by omega, Int.mul_assoc, ← Int.pow_add, show s - s1 + (18 - s) = 18 - s1 by omega]
  rw [e, Int.mul_ediv_cancel _ (by have := pow_pos10 (18 - s); omega)]
/-- an amount's units of the place s -/
def unitsA (c : Int) (n s : Nat) : Int := (c * 10 ^ (18 - n)) / 10 ^ (18 - s)
/-- the sum of the first k weights -/
def pre (ws : List Int) (k : Nat) : Int := (ws.take k).sum
theorem pre_zero (ws : List Int) : pre ws 0 = 0 := by simp [pre]
theorem pre_succ {ws : List Int} {k : Nat} {x : Int} (h : ws[k]? = some x) : pre ws (k + 1) = pre ws k + x := by
  unfold pre
  rw [List.take_add_one, h, List.sum_append]; simp
/-- a weight that may be -/
def okW (x : Int) : Prop := 0 ≤ x ∧ x ≤ 3652059
instance (x : Int) : Decidable (okW x) := by unfold okW; exact inferInstance
theorem pre_bound {ws : List Int} (h : ∀ x ∈ ws, okW x) : ∀ k, 0 ≤ pre ws k ∧ pre ws k ≤ 3652059 * k := by
  intro k
  induction k with
  | zero => rw [pre_zero]; simp
  | succ k ih =>
    by_cases hk : k < ws.length
    · have e := pre_succ (List.getElem?_eq_getElem hk)
      have := h _ (List.getElem_mem hk)
      unfold okW at this
      rw [e]; omega
    · have e : pre ws (k + 1) = pre ws k := by unfold pre; rw [List.take_of_length_le (by omega), List.take_of_length_le (by omega)]
      rw [e]; omega
theorem pre_mono {ws : List Int} (h : ∀ x ∈ ws, okW x) {k j : Nat} (hkj : k ≤ j) : pre ws k ≤ pre ws j := by
  induction j with
  | zero => have : k = 0 := by omega
            subst this; exact Int.le_refl _
  | succ j ih =>
    by_cases e : k = j + 1
    · subst e; exact Int.le_refl _
    · refine Int.le_trans (ih (by omega)) ?_
      by_cases hj : j < ws.length
      · have e := pre_succ (List.getElem?_eq_getElem hj)
        have := h _ (List.getElem_mem hj)
        unfold okW at this
        omega
      · have e : pre ws (j + 1) = pre ws j := by unfold pre; rw [List.take_of_length_le (by omega), List.take_of_length_le (by omega)]
        rw [e]; exact Int.le_refl _
theorem pre_all (ws : List Int) {k : Nat} (hk : ws.length ≤ k) : pre ws k = ws.sum := by unfold pre; rw [List.take_of_length_le hk]
/-- what the first k parts have together -/
def low (u all : Int) (ws : List Int) (k : Nat) : Int := u * pre ws k / all
def share (u all : Int) (ws : List Int) (k : Nat) : Int := low u all ws (k + 1) - low u all ws k
theorem low_zero (u all : Int) (ws : List Int) : low u all ws 0 = 0 := by unfold low; rw [pre_zero]; simp
/-- the first k shares, as decimals; none: one of them does not fit -/
def rowA (u all : Int) (s : Nat) (ws : List Int) : Nat → List (Int × Nat)
  | 0 => []
  | k + 1 => rowA u all s ws k ++ [trim (share u all ws k) s]
theorem rowA_len (u all : Int) (s : Nat) (ws : List Int) (k : Nat) : (rowA u all s ws k).length = k := by
  induction k with
  | zero => rfl
  | succ k ih => simp [rowA, ih]
def allFit (u all : Int) (s : Nat) (ws : List Int) (k : Nat) : Prop := ∀ i, i < k → fits (trim (share u all ws i) s).1

open Classical in
noncomputable def sharesA (c n s : Int) (ws : List Int) : List (Int × Nat) × Int :=
  if ¬ (0 ≤ n ∧ n ≤ 9) ∨ s < 0 ∨ 9 < s ∨ 1000 < ws.length ∨ ¬ (trim c n.toNat).2 ≤ s.toNat ∨ ¬ (∀ x ∈ ws, okW x) then ([], 2)
  else if 3652059 < ws.sum then ([], 11)
  else if ws.sum = 0 then ([], 12)
  else if allFit (unitsA c n.toNat s.toNat) ws.sum s.toNat ws ws.length then (rowA (unitsA c n.toNat s.toNat) ws.sum s.toNat ws ws.length, 0)
  else ([], 11)
end Go.Proofs.Ytngelemjpgglpaa.Pro
