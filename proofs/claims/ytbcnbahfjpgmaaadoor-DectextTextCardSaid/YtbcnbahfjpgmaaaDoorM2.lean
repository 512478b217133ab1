/-
  DECIMALS' TEXTS, plain: digits; the library's reading of a number; a number's text; DECIMALS' TEXTS, plain: a number's digits and its text.
-/
import Derived.Test.YtbcnbahfjpgmaaaDoorM1
import Derived.Lib.ParseIntB
import Derived.Lib.IndexMore
/-
  DECIMALS' TEXTS, plain: digits; the library's reading of a number; a number's text.
-/
namespace Go.Proofs.YtbcnbahfjpgmaaaDoor.Tx
open Go Dt

/-- digits, one at least -/
def digs (l : List UInt8) : Bool := !l.isEmpty && l.all isDg
def valF (l : List UInt8) (a : Nat) : Nat := l.foldl (fun n c => n * 10 + dv c) a
def val (l : List UInt8) : Nat := valF l 0
theorem valF_cons (c : UInt8) (l : List UInt8) (a : Nat) : valF (c :: l) a = valF l (a * 10 + dv c) := by unfold valF; rw [List.foldl_cons]
theorem valF_nil (a : Nat) : valF [] a = a := rfl
theorem valF_app (l k : List UInt8) (a : Nat) : valF (l ++ k) a = valF k (valF l a) := by unfold valF; rw [List.foldl_append]
theorem val_snoc (l : List UInt8) (c : UInt8) : val (l ++ [c]) = val l * 10 + dv c := by unfold val; rw [valF_app, valF_cons, valF_nil]
theorem valF_ge : ∀ (l : List UInt8) (a : Nat), a ≤ valF l a
  | [], a => Nat.le_refl _
  | c :: l, a => by rw [valF_cons]; have := valF_ge l (a * 10 + dv c); omega
theorem valF_lt : ∀ (l : List UInt8) (a k : Nat), a < 10 ^ k → l.all isDg = true → valF l a < 10 ^ (k + l.length)
  | [], a, k, h, _ => by rw [valF_nil]; simpa using h
  | c :: l, a, k, h, hd => by
    simp only [List.all_cons, Bool.and_eq_true] at hd
    have hc := dv_lt hd.1
    have := valF_lt l (a * 10 + dv c) (k + 1) (by rw [Nat.pow_succ]; omega) hd.2
    rw [valF_cons, List.length_cons, show k + (l.length + 1) = k + 1 + l.length by omega]
    exact this
theorem val_lt (l : List UInt8) (h : l.all isDg = true) : val l < 10 ^ l.length := by
  have := valF_lt l 0 0 (by decide) h
  rw [Nat.zero_add] at this
  exact this
theorem isDg_iff (c : UInt8) : isDg c = true ↔ 48 ≤ c.toNat ∧ c.toNat ≤ 57 := by unfold isDg; simp
theorem uintM : ∀ (l : List UInt8) (a : Nat), l.all isDg = true → a < 18446744073709551616 → Lib.parseUintM (2 ^ 64 - 1) a l = if valF l a < 18446744073709551616 then .ok (valF l a) else .range
  | [], a, _, h => by unfold Lib.parseUintM valF; rw [List.foldl_nil, if_pos h]
  | c :: l, a, hd, h => by
    simp only [List.all_cons, Bool.and_eq_true] at hd
    have hc := (isDg_iff c).1 hd.1
    have e : c.toNat - 48 = dv c := rfl
    have g := valF_ge l (a * 10 + dv c)
    unfold Lib.parseUintM
    rw [if_pos hc, e, valF_cons]
    by_cases h1 : 1844674407370955162 ≤ a
    · rw [if_pos h1, if_neg (by omega)]
    · rw [if_neg h1]
      by_cases h2 : 2 ^ 64 - 1 < a * 10 + dv c
      · rw [if_pos h2, if_neg (by omega)]
      · rw [if_neg h2]
        exact uintM l (a * 10 + dv c) hd.2 (by omega)
def Fit (z : Int) : Prop := -9223372036854775808 ≤ z ∧ z ≤ 9223372036854775807
instance (z : Int) : Decidable (Fit z) := by unfold Fit; exact inferInstance
def sg (neg : Bool) (n : Nat) : Int := if neg = true then -(n : Int) else (n : Int)
def sgn (neg : Bool) : List UInt8 := if neg = true then [45] else []
/-- a sign and digits, as the library reads them -/
theorem int_of (neg : Bool) (D : List UInt8) (hD : digs D = true) : Lib.parseIntB 64 (sgn neg ++ D) = if Fit (sg neg (val D)) then .ok (sg neg (val D)) else .range := by
  unfold digs at hD
  simp only [Bool.and_eq_true, Bool.not_eq_true', List.isEmpty_eq_false_iff] at hD
  obtain ⟨hne, hd⟩ := hD
  have u : Lib.parseUintB 64 D = if val D < 18446744073709551616 then .ok (val D) else .range := by
    unfold Lib.parseUintB
    rw [if_neg hne]
    exact uintM D 0 hd (by decide)
  have m (n : Nat) : (¬ Fit (sg false n) ↔ 9223372036854775808 ≤ n) ∧ (¬ Fit (sg true n) ↔ 9223372036854775808 < n) := by unfold Fit sg; simp; omega
  cases neg
  · obtain ⟨c, r, rfl⟩ := List.exists_cons_of_ne_nil hne
    have hc := (isDg_iff c).1 (by simp only [List.all_cons, Bool.and_eq_true] at hd; exact hd.1)
    have n45 : ¬ c.toNat = 45 := by omega
    have n43 : ¬ (c.toNat = 43 ∨ c.toNat = 45) := by omega
    have M := (m (val (c :: r))).1
    show Lib.parseIntB 64 (c :: r) = _
    unfold Lib.parseIntB
    dsimp only
    rw [if_neg n43, u]
    by_cases h1 : val (c :: r) < 18446744073709551616
    · rw [if_pos h1]
      dsimp only
      by_cases h2 : 9223372036854775808 ≤ val (c :: r)
      · rw [if_pos ⟨n45, h2⟩, if_neg (M.2 h2)]
      · rw [if_neg (fun k => h2 k.2), if_neg (fun k => n45 k.1), if_neg n45, if_pos (Decidable.not_not.1 (fun k => h2 (M.1 k)))]; rfl
    · rw [if_neg h1, if_neg (M.2 (by omega))]
  · have M := (m (val D)).2
    show Lib.parseIntB 64 (45 :: D) = _
    unfold Lib.parseIntB
    dsimp only
    rw [if_pos (.inr rfl), u]
    by_cases h1 : val D < 18446744073709551616
    · rw [if_pos h1]
      dsimp only
      by_cases h2 : 9223372036854775808 < val D
      · rw [if_neg (fun k => k.1 rfl), if_pos ⟨rfl, h2⟩, if_neg (M.2 h2)]
      · rw [if_neg (fun k => k.1 rfl), if_neg (fun k => h2 k.2), if_pos (show (45 : UInt8).toNat = 45 from rfl), if_pos (Decidable.not_not.1 (fun k => h2 (M.1 k)))]; rfl
    · rw [if_neg h1, if_neg (M.2 (by omega))]
end Go.Proofs.YtbcnbahfjpgmaaaDoor.Tx
/-
  DECIMALS' TEXTS, plain: a number's digits and its text.
-/
namespace Go.Proofs.YtbcnbahfjpgmaaaDoor.Tx
open Go Dt

theorem dd_len_pos (a : Nat) : 1 ≤ (Lib.decDigits a).length := by
  by_cases h : a < 10
  · rw [dd1 a h]; exact Nat.le_refl _
  · rw [dd2 a h, List.length_append]; exact Nat.le_add_left _ _
theorem dd_bounds : ∀ (n a : Nat), a ≤ n → a < 10 ^ (Lib.decDigits a).length ∧ ((Lib.decDigits a).length = 1 ∨ 10 ^ ((Lib.decDigits a).length - 1) ≤ a)
  | n, a, hn => by
    by_cases h : a < 10
    · rw [dd1 a h]; exact ⟨by simpa using h, .inl rfl⟩
    · match n, hn with
      | 0, hn => omega
      | n + 1, hn =>
        obtain ⟨i1, i2⟩ := dd_bounds n (a / 10) (by omega)
        have p := dd_len_pos (a / 10)
        rw [dd2 a h, List.length_append, List.length_singleton]
        refine ⟨by rw [Nat.pow_succ]; omega, .inr ?_⟩
        rw [Nat.add_sub_cancel]
        obtain ⟨k, hk⟩ : ∃ k, (Lib.decDigits (a / 10)).length = k + 1 := ⟨_, (Nat.sub_add_cancel p).symm⟩
        rw [hk] at i2 ⊢
        rw [Nat.pow_succ]
        rcases i2 with e | e
        · have : k = 0 := by omega
          subst this; omega
        · rw [Nat.add_sub_cancel] at e; omega
theorem lowD_one (a k : Nat) : lowD a (k + 1) = lowD (a / 10) k ++ [dg a] := by
  induction k with
  | zero => simp [lowD]
  | succ k ih =>
    show dg (a / 10 ^ (k + 1)) :: lowD a (k + 1) = (dg (a / 10 / 10 ^ k) :: lowD (a / 10) k) ++ [dg a]
    rw [ih, Nat.pow_succ, Nat.mul_comm, ← Nat.div_div_eq_div_mul]; rfl
theorem dd_low : ∀ (n a : Nat), a ≤ n → Lib.decDigits a = lowD a (Lib.decDigits a).length
  | n, a, hn => by
    by_cases h : a < 10
    · rw [dd1 a h]; simp [lowD]
    · match n, hn with
      | 0, hn => omega
      | n + 1, hn =>
        have ih := dd_low n (a / 10) (by omega)
        rw [dd2 a h, List.length_append, List.length_singleton, lowD_one, ← ih]
theorem lowD_add (a j s : Nat) : lowD a (j + s) = lowD (a / 10 ^ s) j ++ lowD a s := by
  induction j with
  | zero => simp [lowD]
  | succ j ih =>
    rw [show j + 1 + s = j + s + 1 by omega]
    show dg (a / 10 ^ (j + s)) :: lowD a (j + s) = (dg (a / 10 ^ s / 10 ^ j) :: lowD (a / 10 ^ s) j) ++ lowD a s
    rw [ih, Nat.add_comm j s, Nat.pow_add, Nat.div_div_eq_div_mul]; rfl
theorem lowD_zero (k : Nat) : lowD 0 k = List.replicate k 48 := by
  induction k with
  | zero => rfl
  | succ k ih =>
    show dg (0 / 10 ^ k) :: lowD 0 k = _
    rw [ih, Nat.zero_div, List.replicate_succ]; rfl
theorem padTo_low (a k : Nat) : padTo k (Lib.decDigits a) = lowD a (max k (Lib.decDigits a).length) := by
  have e := dd_low a a (Nat.le_refl _)
  have b := (dd_bounds a a (Nat.le_refl _)).1
  obtain ⟨n, hn⟩ : ∃ n, (Lib.decDigits a).length = n := ⟨_, rfl⟩
  unfold padTo
  rw [hn] at e b ⊢
  rw [e]
  by_cases h : k ≤ n
  · rw [Nat.max_eq_right h, Nat.sub_eq_zero_of_le h]; rfl
  · rw [Nat.max_eq_left (by omega), show k = (k - n) + n by omega, lowD_add, Nat.add_sub_cancel, Nat.div_eq_of_lt b, lowD_zero]
/-- how many digits a text has -/
def lenT (a s : Nat) : Nat := max (s + 1) (Lib.decDigits a).length
/-- so many digits, the point in its place -/
def refT (a s k : Nat) : List UInt8 := if s = 0 ∨ k ≤ s then lowD a k else lowD (a / 10 ^ s) (k - s) ++ 46 :: lowD a s
def dtxt (c : Int) (s : Nat) : List UInt8 := sgn (decide (c < 0)) ++ refT c.natAbs s (lenT c.natAbs s)
theorem lenT_gt (a s : Nat) : s < lenT a s := by unfold lenT; have := Nat.le_max_left (s + 1) (Lib.decDigits a).length; omega
theorem more_digits {a s k : Nat} (h : k ≤ s ∨ a / 10 ^ k ≠ 0) : k < lenT a s := by
  unfold lenT
  have m1 := Nat.le_max_left (s + 1) (Lib.decDigits a).length
  have m2 := Nat.le_max_right (s + 1) (Lib.decDigits a).length
  rcases h with h | h
  · omega
  · have b := (dd_bounds a a (Nat.le_refl _)).1
    rcases Nat.lt_or_ge k (Lib.decDigits a).length with g | g
    · omega
    · exact absurd (Nat.div_eq_of_lt (Nat.lt_of_lt_of_le b (Nat.pow_le_pow_right (by decide) g))) h
theorem no_digits {a s k : Nat} (h1 : s < k) (h2 : a / 10 ^ k = 0) (h3 : k ≤ lenT a s) : k = lenT a s := by
  have b := dd_bounds a a (Nat.le_refl _)
  have lt : a < 10 ^ k := by
    rcases Nat.lt_or_ge a (10 ^ k) with g | g
    · exact g
    · have := Nat.div_pos g (Nat.pow_pos (by decide)); omega
  unfold lenT at h3 ⊢
  have : (Lib.decDigits a).length ≤ k := by
    rcases b.2 with e | e
    · omega
    · rcases Nat.lt_or_ge k (Lib.decDigits a).length with g | g
      · have := Nat.pow_le_pow_right (n := 10) (by decide) (show k ≤ (Lib.decDigits a).length - 1 by omega)
        omega
      · exact g
  omega
theorem refT_lo {a s k : Nat} (h : s = 0 ∨ k ≤ s) : refT a s k = lowD a k := by unfold refT; rw [if_pos h]
theorem refT_hi {a s k : Nat} (h : ¬ (s = 0 ∨ k ≤ s)) : refT a s k = lowD (a / 10 ^ s) (k - s) ++ 46 :: lowD a s := by unfold refT; rw [if_neg h]
theorem refT_step (a s k : Nat) : refT a s (k + 1) = dg (a / 10 ^ k) :: (if k = s ∧ 0 < k then 46 :: refT a s k else refT a s k) := by
  by_cases h0 : s = 0
  · subst h0
    rw [if_neg (show ¬ (k = 0 ∧ 0 < k) by omega), refT_lo (.inl rfl), refT_lo (.inl rfl)]; rfl
  · by_cases h1 : k < s
    · rw [if_neg (show ¬ (k = s ∧ 0 < k) by omega), refT_lo (.inr (by omega)), refT_lo (.inr (by omega))]; rfl
    · by_cases h2 : k = s
      · subst h2
        rw [if_pos (show k = k ∧ 0 < k from ⟨rfl, by omega⟩), refT_hi (by omega), refT_lo (.inr (Nat.le_refl _)), show k + 1 - k = 1 by omega]
        simp [lowD]
      · rw [if_neg (show ¬ (k = s ∧ 0 < k) by omega), refT_hi (by omega), refT_hi (by omega), show k + 1 - s = (k - s) + 1 by omega]
        show dg (a / 10 ^ s / 10 ^ (k - s)) :: (lowD (a / 10 ^ s) (k - s) ++ _) = _
        rw [Nat.div_div_eq_div_mul, ← Nat.pow_add, show s + (k - s) = k by omega]
/-- the program's: the padded digits, parted -/
theorem parted (a s : Nat) (hs : s ≠ 0) : refT a s (lenT a s) = (lowD a (lenT a s)).take (lenT a s - s) ++ 46 :: (lowD a (lenT a s)).drop (lenT a s - s) := by
  have g := lenT_gt a s
  rw [refT_hi (by omega)]
  have e : lowD a (lenT a s) = lowD (a / 10 ^ s) (lenT a s - s) ++ lowD a s := by
    have := lowD_add a (lenT a s - s) s
    rwa [show lenT a s - s + s = lenT a s by omega] at this
  rw [e, List.take_left' (lowD_len _ _), List.drop_left' (lowD_len _ _)]
theorem val_low (a k : Nat) : (lowD a k).all isDg = true ∧ val (lowD a k) = a % 10 ^ k := by
  induction k generalizing a with
  | zero => exact ⟨rfl, by simp [lowD, val, valF, Nat.mod_one]⟩
  | succ k ih =>
    rw [lowD_one]
    obtain ⟨i1, i2⟩ := ih (a / 10)
    refine ⟨by rw [List.all_append, i1]; simp [dg_is], ?_⟩
    rw [val_snoc, i2, dv_dg, Nat.pow_succ, Nat.mul_comm (10 ^ k) 10, Nat.mod_mul]
    omega
theorem low_val : ∀ (l : List UInt8), l.all isDg = true → lowD (val l) l.length = l := by
  intro l
  have key : ∀ (n : Nat) (l : List UInt8), l.length = n → l.all isDg = true → lowD (val l) l.length = l := by
    intro n
    induction n with
    | zero => intro l h _; rw [List.length_eq_zero_iff.1 h]; rfl
    | succ n ih =>
      intro l h hd
      have hne : l ≠ [] := by intro e; rw [e] at h; cases h
      obtain ⟨k, c, rfl⟩ : ∃ k c, l = k ++ [c] := ⟨l.dropLast, l.getLast hne, (List.dropLast_concat_getLast hne).symm⟩
      rw [List.length_append, List.length_singleton] at h
      simp only [List.all_append, List.all_cons, List.all_nil, Bool.and_true, Bool.and_eq_true] at hd
      have hk := ih k (by omega) hd.1
      have hc := dv_lt hd.2
      rw [List.length_append, List.length_singleton, lowD_one, val_snoc, show (val k * 10 + dv c) / 10 = val k by omega, hk]
      congr 1
      have : dg (val k * 10 + dv c) = dg (dv c) := by unfold dg; rw [show (val k * 10 + dv c) % 10 = dv c % 10 by omega]
      rw [this, dg_dv hd.2]
  exact key _ l rfl
end Go.Proofs.YtbcnbahfjpgmaaaDoor.Tx
