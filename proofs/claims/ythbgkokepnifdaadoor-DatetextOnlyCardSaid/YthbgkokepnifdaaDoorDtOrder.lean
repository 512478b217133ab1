/-
  datetext: texts' order is days' order; plain.
-/
import Derived.Test.YthbgkokepnifdaaDoorDtTextsLaw
namespace Go.Proofs.YthbgkokepnifdaaDoor.Dt
open Go

theorem dg_lt (a b : Nat) : (dg a < dg b) = (a % 10 < b % 10) := by
  rw [UInt8.lt_iff_toNat_lt, dg_nat, dg_nat]; simp
theorem dg_eq (a b : Nat) : (dg a == dg b) = decide (a % 10 = b % 10) := by
  by_cases h : a % 10 = b % 10
  · rw [show dg a = dg b from by unfold dg; rw [h], beq_self_eq_true]; simp [h]
  · have : dg a ≠ dg b := fun k => h (by have := congrArg UInt8.toNat k; rw [dg_nat, dg_nat] at this; omega)
    rw [beq_eq_false_iff_ne.2 this]; simp [h]
theorem low_mod (n k : Nat) : n % 10 ^ (k + 1) = n % 10 ^ k + 10 ^ k * (n / 10 ^ k % 10) := by rw [Nat.pow_succ, Nat.mod_mul]
theorem cmp2 {p q q' r r' : Nat} (hr : r < p) (hr' : r' < p) : (r + p * q < r' + p * q') = (q < q' ∨ (q = q' ∧ r < r')) := by
  apply propext
  rcases Nat.lt_trichotomy q q' with h | h | h
  · have := Nat.mul_le_mul_left p (show q + 1 ≤ q' from h)
    rw [Nat.mul_add] at this
    constructor
    · intro _; exact .inl h
    · intro _; omega
  · subst h
    constructor
    · intro k; exact .inr ⟨rfl, by omega⟩
    · rintro (k | ⟨_, k⟩) <;> omega
  · have := Nat.mul_le_mul_left p (show q' + 1 ≤ q from h)
    rw [Nat.mul_add] at this
    constructor
    · intro k; omega
    · rintro (k | ⟨k, _⟩) <;> omega
theorem eq2 {p q q' r r' : Nat} (hr : r < p) (hr' : r' < p) : (r + p * q = r' + p * q') = (q = q' ∧ r = r') := by
  have h1 := cmp2 (q := q) (q' := q') hr hr'
  have h2 := cmp2 (q := q') (q' := q) hr' hr
  apply propext
  constructor
  · intro k
    have n1 : ¬ (r + p * q < r' + p * q') := by omega
    have n2 : ¬ (r' + p * q' < r + p * q) := by omega
    rw [h1] at n1; rw [h2] at n2
    omega
  · rintro ⟨rfl, rfl⟩; rfl
/-- digits' order -/
theorem less_low (n n' : Nat) (r r' : List UInt8) : ∀ k : Nat, Op.bytesLess (lowD n k ++ r) (lowD n' k ++ r') = (decide (n % 10 ^ k < n' % 10 ^ k) || (decide (n % 10 ^ k = n' % 10 ^ k) && Op.bytesLess r r'))
  | 0 => by simp [lowD, Nat.mod_one]
  | k + 1 => by
    have pk : 0 < 10 ^ k := Nat.pow_pos (by decide)
    have ih := less_low n n' r r' k
    show (decide (dg (n / 10 ^ k) < dg (n' / 10 ^ k)) || (dg (n / 10 ^ k) == dg (n' / 10 ^ k) && Op.bytesLess (lowD n k ++ r) (lowD n' k ++ r'))) = _
    rw [ih, low_mod, low_mod]
    have c := cmp2 (p := 10 ^ k) (q := n / 10 ^ k % 10) (q' := n' / 10 ^ k % 10) (Nat.mod_lt n pk) (Nat.mod_lt n' pk)
    have e := eq2 (p := 10 ^ k) (q := n / 10 ^ k % 10) (q' := n' / 10 ^ k % 10) (Nat.mod_lt n pk) (Nat.mod_lt n' pk)
    simp only [c, e, dg_eq, dg_lt]
    by_cases h1 : n / 10 ^ k % 10 < n' / 10 ^ k % 10
    · simp [h1]
    · by_cases h2 : n / 10 ^ k % 10 = n' / 10 ^ k % 10
      · simp [h1, h2]
      · simp [h1, h2]
theorem less_same (c : UInt8) (x y : List UInt8) : Op.bytesLess (c :: x) (c :: y) = Op.bytesLess x y := by
  show (decide (c < c) || (c == c && Op.bytesLess x y)) = _
  simp
theorem less_txt (y m d y' m' d' : Nat) (h1 : y < 10000) (h2 : m < 100) (h3 : d < 100) (h1' : y' < 10000) (h2' : m' < 100) (h3' : d' < 100) :
    Op.bytesLess (txt y m d) (txt y' m' d') = decide (y < y' ∨ (y = y' ∧ (m < m' ∨ (m = m' ∧ d < d')))) := by
  unfold txt
  rw [← lowD4, ← lowD2, ← lowD2, ← lowD4, ← lowD2, ← lowD2, less_low, less_same, less_low, less_same]
  have e := less_low d d' [] [] 2
  rw [List.append_nil, List.append_nil] at e
  rw [e]
  rw [Nat.mod_eq_of_lt (show y < 10 ^ 4 by omega), Nat.mod_eq_of_lt (show y' < 10 ^ 4 by omega), Nat.mod_eq_of_lt (show m < 10 ^ 2 by omega), Nat.mod_eq_of_lt (show m' < 10 ^ 2 by omega), Nat.mod_eq_of_lt (show d < 10 ^ 2 by omega), Nat.mod_eq_of_lt (show d' < 10 ^ 2 by omega)]
  simp [Op.bytesLess]
theorem day_less {n n' : Int} {y m d y' m' d' : Int} (h : Cal.IsDate n y m d) (h' : Cal.IsDate n' y' m' d') (hl : y < y' ∨ (y = y' ∧ (m < m' ∨ (m = m' ∧ d < d')))) : n < n' := by
  have a := Cal.isDate_year _ _ _ _ h
  have a' := Cal.isDate_year _ _ _ _ h'
  obtain ⟨⟨v1, v2, v3, v4, v5, v6⟩, e⟩ := h
  obtain ⟨⟨u1, u2, u3, u4, u5, u6⟩, e'⟩ := h'
  rcases hl with k | ⟨rfl, k | ⟨rfl, k⟩⟩
  · have := Cal.ahead_mono (y + 1) y' (by omega)
    omega
  · unfold Cal.dayN at e e'
    have s := Cal.cum_succ y m v3
    have t := Cal.cum_le y (m + 1) m' (by omega) (by omega)
    omega
  · unfold Cal.dayN at e e'
    omega
theorem text_order {l k : List UInt8} {a b : Int} (h1 : parseS l = (a, 0)) (h2 : parseS k = (b, 0)) : Op.bytesLess l k = decide (a < b) := by
  obtain ⟨y, m, d, i, rfl⟩ := text_of h1
  obtain ⟨y', m', d', i', rfl⟩ := text_of h2
  have i0 := i; have i0' := i'
  obtain ⟨⟨v1, v2, v3, v4, v5, v6⟩, e⟩ := i0
  obtain ⟨⟨u1, u2, u3, u4, u5, u6⟩, e'⟩ := i0'
  have b1 := Cal.len_bd y m
  have b2 := Cal.len_bd y' m'
  rw [less_txt y m d y' m' d' (by omega) (by omega) (by omega) (by omega) (by omega) (by omega)]
  by_cases c : y < y' ∨ (y = y' ∧ (m < m' ∨ (m = m' ∧ d < d')))
  · have := day_less i i' (by omega)
    simp [c, this]
  · have : ¬ a < b := by
      by_cases c2 : y' < y ∨ (y' = y ∧ (m' < m ∨ (m' = m ∧ d' < d)))
      · have := day_less i' i (by omega)
        omega
      · have e1 : y = y' := by omega
        have e2 : m = m' := by omega
        have e3 : d = d' := by omega
        subst e1; subst e2; subst e3
        omega
    simp [c, this]
theorem text_at {l : List UInt8} {a : Int} (h : parseS l = (a, 0)) : TextOf a l ∧ l.length = 10 := by
  obtain ⟨y, m, d, i, rfl⟩ := text_of h
  have := Cal.isDate_bd _ _ _ _ i
  exact ⟨⟨fun _ => ⟨y, m, d, i, rfl⟩, fun k => absurd this k⟩, rfl⟩
theorem pair_eta {l : List UInt8} (h : (parseS l).2 = 0) : parseS l = ((parseS l).1, 0) := by rw [← h]
theorem span_at_text {l : List UInt8} {a b : Int} (h : parseSp l = ((a, b), 0)) : SpanOf a b l ∧ l.length = 22 ∧ Within a b := by
  rw [← ref_same] at h
  unfold refSp at h
  split at h
  · rename_i c
    unfold spanRes at h
    split at h
    · simp at h
    · rename_i n1
      split at h
      · simp at h
      · rename_i n2
        have z1 : (parseS (l.take 10)).2 = 0 := by omega
        have z2 : (parseS (l.drop 12)).2 = 0 := by omega
        have z3 : ¬ (parseS (l.drop 12)).1 < (parseS (l.take 10)).1 := by omega
        simp only [Prod.mk.injEq, and_true] at h
        obtain ⟨rfl, rfl⟩ := h
        obtain ⟨t1, _⟩ := text_at (pair_eta z1)
        obtain ⟨t2, _⟩ := text_at (pair_eta z2)
        obtain ⟨_, _, _, i1, _⟩ := text_of (pair_eta z1)
        obtain ⟨_, _, _, i2, _⟩ := text_of (pair_eta z2)
        have q1 := Cal.isDate_bd _ _ _ _ i1
        have q2 := Cal.isDate_bd _ _ _ _ i2
        have wi : Within (parseS (l.take 10)).1 ((parseS (l.drop 12)).1 + 1) := ⟨by omega, by omega, by omega⟩
        refine ⟨⟨fun _ => ⟨l.take 10, l.drop 12, t1, by simpa using t2, ?_⟩, fun k => absurd wi k⟩, c.1, wi⟩
        have e1 : l = l.take 10 ++ ((l.drop 10).take 2 ++ (l.drop 10).drop 2) := by rw [List.take_append_drop, List.take_append_drop]
        rw [c.2, List.drop_drop] at e1
        exact e1
  · simp at h
end Go.Proofs.YthbgkokepnifdaaDoor.Dt
