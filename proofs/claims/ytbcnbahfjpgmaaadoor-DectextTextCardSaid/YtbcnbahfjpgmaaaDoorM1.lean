/-
  DATES' TEXTS, plain: digits; what a text is read as; texts' order.
-/
import Derived.Test.YtbcnbahfjpgmaaaDoorM0
import Derived.Lib.ItoaNum
/-
  DATES' TEXTS, plain: digits; what a text is read as; texts' order.
-/
namespace Go.Proofs.YtbcnbahfjpgmaaaDoor.Dt
open Go

def dg (n : Nat) : UInt8 := UInt8.ofNat (48 + n % 10)
def dig2 (n : Nat) : List UInt8 := [dg (n / 10), dg n]
def dig4 (n : Nat) : List UInt8 := [dg (n / 1000), dg (n / 100), dg (n / 10), dg n]
/-- a day's text -/
def txt (y m d : Nat) : List UInt8 := dig4 y ++ 45 :: (dig2 m ++ 45 :: dig2 d)
def isDg (c : UInt8) : Bool := decide (48 ≤ c.toNat) && decide (c.toNat ≤ 57)
def dv (c : UInt8) : Nat := c.toNat - 48
theorem dg_nat (n : Nat) : (dg n).toNat = 48 + n % 10 := by
  unfold dg
  rw [UInt8.toNat_ofNat']
  omega
theorem dg_is (n : Nat) : isDg (dg n) = true := by unfold isDg; rw [dg_nat]; simp; omega
theorem dv_dg (n : Nat) : dv (dg n) = n % 10 := by unfold dv; rw [dg_nat]; omega
theorem dg_dv {c : UInt8} (h : isDg c = true) : dg (dv c) = c := by
  unfold isDg at h
  simp only [Bool.and_eq_true, decide_eq_true_eq] at h
  apply UInt8.toNat.inj
  rw [dg_nat]; unfold dv; omega
theorem dv_lt {c : UInt8} (h : isDg c = true) : dv c < 10 := by
  unfold isDg at h
  simp only [Bool.and_eq_true, decide_eq_true_eq] at h
  unfold dv; omega
/-- noughts ahead -/
def padTo (k : Nat) (l : List UInt8) : List UInt8 := List.replicate (k - l.length) 48 ++ l
theorem dd1 (n : Nat) (h : n < 10) : Lib.decDigits n = [dg n] := by
  unfold Lib.decDigits
  rw [dif_pos h]; unfold dg
  rw [Nat.mod_eq_of_lt h]
theorem dd2 (n : Nat) (h : ¬ n < 10) : Lib.decDigits n = Lib.decDigits (n / 10) ++ [dg n] := by
  rw [Lib.decDigits, dif_neg h]; rfl
theorem dg0 (n : Nat) (h : n % 10 = 0) : dg n = 48 := by unfold dg; rw [h]; rfl
theorem pad2_eq (n : Nat) (h : n < 100) : padTo 2 (Lib.decDigits n) = dig2 n := by
  by_cases h1 : n < 10
  · rw [dd1 n h1]; unfold padTo dig2
    rw [dg0 (n / 10) (by omega)]; rfl
  · rw [dd2 n h1, dd1 (n / 10) (by omega)]; rfl
theorem pad4_eq (n : Nat) (h : n < 10000) : padTo 4 (Lib.decDigits n) = dig4 n := by
  have e2 : n / 10 / 10 = n / 100 := by omega
  have e3 : n / 100 / 10 = n / 1000 := by omega
  by_cases h1 : n < 10
  · rw [dd1 n h1]; unfold padTo dig4
    rw [dg0 (n / 10) (by omega), dg0 (n / 100) (by omega), dg0 (n / 1000) (by omega)]; rfl
  · by_cases h2 : n / 10 < 10
    · rw [dd2 n h1, dd1 (n / 10) h2]; unfold padTo dig4
      rw [dg0 (n / 100) (by omega), dg0 (n / 1000) (by omega)]; rfl
    · by_cases h3 : n / 100 < 10
      · rw [dd2 n h1, dd2 (n / 10) h2, e2, dd1 (n / 100) h3]; unfold padTo dig4
        rw [dg0 (n / 1000) (by omega)]; rfl
      · rw [dd2 n h1, dd2 (n / 10) h2, e2, dd2 (n / 100) h3, e3, dd1 (n / 1000) (by omega)]; rfl
/-- so many last digits -/
def lowD (n : Nat) : Nat → List UInt8
  | 0 => []
  | k + 1 => dg (n / 10 ^ k) :: lowD n k
theorem lowD_len (n k : Nat) : (lowD n k).length = k := by induction k with | zero => rfl | succ k ih => simp [lowD, ih]
theorem lowD2 (n : Nat) : lowD n 2 = dig2 n := by unfold lowD lowD lowD dig2; simp
theorem lowD4 (n : Nat) : lowD n 4 = dig4 n := by unfold lowD lowD lowD lowD lowD dig4; simp
/-- may the byte stand at the place? -/
def okAt (i : Nat) (c : UInt8) : Bool := if i = 4 ∨ i = 7 then c == 45 else isDg c
def formB (s : List UInt8) : Bool := decide (s.length = 10) && (List.range 10).all fun i => okAt i (s.getD i 0)
/-- a text's numbers, so far -/
def stepN (n : Int × Int × Int × Nat) (c : UInt8) : Int × Int × Int × Nat :=
  if c = 45 then (n.1, n.2.1, n.2.2.1, n.2.2.2 + 1)
  else match n.2.2.2 with
    | 0 => (n.1 * 10 + (dv c : Int), n.2.1, n.2.2.1, 0)
    | 1 => (n.1, n.2.1 * 10 + (dv c : Int), n.2.2.1, 1)
    | k + 2 => (n.1, n.2.1, n.2.2.1 * 10 + (dv c : Int), k + 2)
def nums (l : List UInt8) : Int × Int × Int × Nat := l.foldl stepN (0, 0, 0, 0)
theorem nums_snoc (l : List UInt8) (c : UInt8) : nums (l ++ [c]) = stepN (nums l) c := by unfold nums; rw [List.foldl_append]; rfl
/-- a text of the form, byte by byte -/
theorem form_cases {s : List UInt8} (h : formB s = true) : ∃ a b c d e f g k : UInt8, s = [a, b, c, d, 45, e, f, 45, g, k] ∧ (isDg a = true ∧ isDg b = true ∧ isDg c = true ∧ isDg d = true) ∧ (isDg e = true ∧ isDg f = true) ∧ isDg g = true ∧ isDg k = true := by
  unfold formB at h
  simp only [Bool.and_eq_true, decide_eq_true_eq] at h
  obtain ⟨h1, h2⟩ := h
  match s, h1 with
  | [a, b, c, d, p, e, f, q, g, k], _ =>
    simp [List.range, List.range.loop, okAt] at h2
    obtain ⟨h0, h1, h2, h3, h4, h5, h6, h7, h8, h9⟩ := h2
    subst h4; subst h7
    exact ⟨a, b, c, d, e, f, g, k, rfl, ⟨h0, h1, h2, h3⟩, ⟨h5, h6⟩, h8, h9⟩
theorem form_mk {a b c d e f g k : UInt8} (h1 : isDg a = true) (h2 : isDg b = true) (h3 : isDg c = true) (h4 : isDg d = true) (h5 : isDg e = true) (h6 : isDg f = true) (h7 : isDg g = true) (h8 : isDg k = true) : formB [a, b, c, d, 45, e, f, 45, g, k] = true := by
  simp [formB, List.range, List.range.loop, okAt, h1, h2, h3, h4, h5, h6, h7, h8]
theorem dg_ne {c : UInt8} (h : isDg c = true) : c ≠ 45 := by rintro rfl; simp [isDg] at h
theorem nums_form {a b c d e f g k : UInt8} (h1 : isDg a = true) (h2 : isDg b = true) (h3 : isDg c = true) (h4 : isDg d = true) (h5 : isDg e = true) (h6 : isDg f = true) (h7 : isDg g = true) (h8 : isDg k = true) :
    nums [a, b, c, d, 45, e, f, 45, g, k] = ((((dv a : Int) * 10 + dv b) * 10 + dv c) * 10 + dv d, (dv e : Int) * 10 + dv f, (dv g : Int) * 10 + dv k, 2) := by
  simp [nums, stepN, dg_ne h1, dg_ne h2, dg_ne h3, dg_ne h4, dg_ne h5, dg_ne h6, dg_ne h7, dg_ne h8]
def validB (y m d : Int) : Bool := decide (1 ≤ d ∧ d ≤ Cal.len y m)
/-- what a text is read as: a day, an error's number -/
def parseS (s : List UInt8) : Int × Int :=
  if formB s = true then (if validB (nums s).1 (nums s).2.1 (nums s).2.2.1 = true then (Cal.dayN (nums s).1 (nums s).2.1 (nums s).2.2.1, 0) else (0, 15)) else (0, 4)
theorem txt_form (y m d : Nat) : formB (txt y m d) = true := form_mk (dg_is _) (dg_is _) (dg_is _) (dg_is _) (dg_is _) (dg_is _) (dg_is _) (dg_is _)
theorem txt_nums (y m d : Nat) (hy : y < 10000) (hm : m < 100) (hd : d < 100) : nums (txt y m d) = ((y : Int), (m : Int), (d : Int), 2) := by
  have e := nums_form (dg_is (y / 1000)) (dg_is (y / 100)) (dg_is (y / 10)) (dg_is y) (dg_is (m / 10)) (dg_is m) (dg_is (d / 10)) (dg_is d)
  rw [show txt y m d = [dg (y / 1000), dg (y / 100), dg (y / 10), dg y, 45, dg (m / 10), dg m, 45, dg (d / 10), dg d] from rfl, e]
  simp only [dv_dg, Prod.mk.injEq, and_true]
  omega
theorem txt_parse (y m d : Nat) (h : Cal.Valid y m d) : parseS (txt y m d) = (Cal.dayN y m d, 0) := by
  obtain ⟨h1, h2, h3, h4, h5, h6⟩ := h
  have hb := Cal.len_bd y m
  unfold parseS validB
  rw [if_pos (txt_form _ _ _), txt_nums y m d (by omega) (by omega) (by omega)]
  dsimp only
  rw [if_pos (by simpa using ⟨h5, h6⟩)]
/-- a text that is read is its day's text -/
theorem text_of {s : List UInt8} {n : Int} (h : parseS s = (n, 0)) : ∃ y m d : Nat, Cal.IsDate n y m d ∧ s = txt y m d := by
  unfold parseS at h
  by_cases hf : formB s = true
  · rw [if_pos hf] at h
    obtain ⟨a, b, c, d, e, f, g, k, rfl, ⟨h1, h2, h3, h4⟩, ⟨h5, h6⟩, h7, h8⟩ := form_cases hf
    rw [nums_form h1 h2 h3 h4 h5 h6 h7 h8] at h
    dsimp only at h
    split at h
    · rename_i hv
      unfold validB at hv
      simp only [decide_eq_true_eq] at hv
      simp only [Prod.mk.injEq, and_true] at h
      refine ⟨((dv a * 10 + dv b) * 10 + dv c) * 10 + dv d, dv e * 10 + dv f, dv g * 10 + dv k, ⟨?_, ?_⟩, ?_⟩
      · have := Cal.valid_of _ _ _ hv.1 hv.2
        simpa using this
      · rw [← h]; simp
      · have a1 := dv_lt h1; have a2 := dv_lt h2; have a3 := dv_lt h3; have a4 := dv_lt h4; have a5 := dv_lt h5; have a6 := dv_lt h6; have a7 := dv_lt h7; have a8 := dv_lt h8
        have q : ∀ (n : Nat) (c : UInt8), isDg c = true → n % 10 = dv c → dg n = c := fun n c hc e => by
          rw [← dg_dv hc]; unfold dg; rw [e, Nat.mod_eq_of_lt (dv_lt hc)]
        show _ = [dg _, dg _, dg _, dg _, 45, dg _, dg _, 45, dg _, dg _]
        rw [q _ a h1 (by omega), q _ b h2 (by omega), q _ c h3 (by omega), q _ d h4 (by omega), q _ e h5 (by omega), q _ f h6 (by omega), q _ g h7 (by omega), q _ k h8 (by omega)]
    · simp at h
  · rw [if_neg hf] at h; simp at h
end Go.Proofs.YtbcnbahfjpgmaaaDoor.Dt
