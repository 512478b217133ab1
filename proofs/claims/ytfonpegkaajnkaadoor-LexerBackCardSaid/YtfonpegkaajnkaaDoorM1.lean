/-
  DATES' TEXTS, plain: digits; what a text is read as; texts' order; DECIMALS' TEXTS, plain: digits; the library's reading of a number; a number's text; DECIMALS' TEXTS, plain: a number's digits and its text.
-/
import Derived.Test.YtfonpegkaajnkaaDoorM0
import Derived.Lib.ItoaNum
import Derived.Lib.ParseIntB
import Derived.Lib.IndexMore
/-
  DATES' TEXTS, plain: digits; what a text is read as; texts' order.
-/
namespace Go.Proofs.YtfonpegkaajnkaaDoor.Dt
open Go

def dg (n : Nat) : UInt8 := UInt8.ofNat (48 + n % 10)
def dig2 (n : Nat) : List UInt8 := [dg (n / 10), dg n]
def dig4 (n : Nat) : List UInt8 := [dg (n / 1000), dg (n / 100), dg (n / 10), dg n]
/-- a day's text -/
def txt (y m d : Nat) : List UInt8 := dig4 y ++ 45 :: (dig2 m ++ 45 :: dig2 d)
def isDg (c : UInt8) : Bool := decide (48 ≤ c.toNat) && decide (c.toNat ≤ 57)
def dv (c : UInt8) : Nat := c.toNat - 48
theorem dg_nat (n : Nat) : (dg n).toNat = 48 + n % 10 := by
  unfold dg
  rw [UInt8.toNat_ofNat']
  omega
theorem dg_is (n : Nat) : isDg (dg n) = true := by unfold isDg; rw [dg_nat]; simp; omega
theorem dv_dg (n : Nat) : dv (dg n) = n % 10 := by unfold dv; rw [dg_nat]; omega
theorem dg_dv {c : UInt8} (h : isDg c = true) : dg (dv c) = c := by
  unfold isDg at h
  simp only [Bool.and_eq_true, decide_eq_true_eq] at h
  apply UInt8.toNat.inj
  rw [dg_nat]; unfold dv; omega
theorem dv_lt {c : UInt8} (h : isDg c = true) : dv c < 10 := by
  unfold isDg at h
  simp only [Bool.and_eq_true, decide_eq_true_eq] at h
  unfold dv; omega
/-- noughts ahead -/
def padTo (k : Nat) (l : List UInt8) : List UInt8 := List.replicate (k - l.length) 48 ++ l
theorem dd1 (n : Nat) (h : n < 10) : Lib.decDigits n = [dg n] := by
  unfold Lib.decDigits
  rw [dif_pos h]; unfold dg
  rw [Nat.mod_eq_of_lt h]
theorem dd2 (n : Nat) (h : ¬ n < 10) : Lib.decDigits n = Lib.decDigits (n / 10) ++ [dg n] := by
  rw [Lib.decDigits, dif_neg h]; rfl
theorem dg0 (n : Nat) (h : n % 10 = 0) : dg n = 48 := by unfold dg; rw [h]; rfl
theorem pad2_eq (n : Nat) (h : n < 100) : padTo 2 (Lib.decDigits n) = dig2 n := by
  by_cases h1 : n < 10
  · rw [dd1 n h1]; unfold padTo dig2
    rw [dg0 (n / 10) (by omega)]; rfl
  · rw [dd2 n h1, dd1 (n / 10) (by omega)]; rfl
theorem pad4_eq (n : Nat) (h : n < 10000) : padTo 4 (Lib.decDigits n) = dig4 n := by
  have e2 : n / 10 / 10 = n / 100 := by omega
  have e3 : n / 100 / 10 = n / 1000 := by omega
  by_cases h1 : n < 10
  · rw [dd1 n h1]; unfold padTo dig4
    rw [dg0 (n / 10) (by omega), dg0 (n / 100) (by omega), dg0 (n / 1000) (by omega)]; rfl
  · by_cases h2 : n / 10 < 10
    · rw [dd2 n h1, dd1 (n / 10) h2]; unfold padTo dig4
      rw [dg0 (n / 100) (by omega), dg0 (n / 1000) (by omega)]; rfl
    · by_cases h3 : n / 100 < 10
      · rw [dd2 n h1, dd2 (n / 10) h2, e2, dd1 (n / 100) h3]; unfold padTo dig4
        rw [dg0 (n / 1000) (by omega)]; rfl
      · rw [dd2 n h1, dd2 (n / 10) h2, e2, dd2 (n / 100) h3, e3, dd1 (n / 1000) (by omega)]; rfl
/-- so many last digits -/
def lowD (n : Nat) : Nat → List UInt8
  | 0 => []
  | k + 1 => dg (n / 10 ^ k) :: lowD n k
theorem lowD_len (n k : Nat) : (lowD n k).length = k := by induction k with | zero => rfl | succ k ih => simp [lowD, ih]
theorem lowD2 (n : Nat) : lowD n 2 = dig2 n := by unfold lowD lowD lowD dig2; simp
theorem lowD4 (n : Nat) : lowD n 4 = dig4 n := by unfold lowD lowD lowD lowD lowD dig4; simp
/-- may the byte stand at the place? -/
def okAt (i : Nat) (c : UInt8) : Bool := if i = 4 ∨ i = 7 then c == 45 else isDg c
def formB (s : List UInt8) : Bool := decide (s.length = 10) && (List.range 10).all fun i => okAt i (s.getD i 0)
/-- a text's numbers, so far -/
def stepN (n : Int × Int × Int × Nat) (c : UInt8) : Int × Int × Int × Nat :=
  if c = 45 then (n.1, n.2.1, n.2.2.1, n.2.2.2 + 1)
  else match n.2.2.2 with
    | 0 => (n.1 * 10 + (dv c : Int), n.2.1, n.2.2.1, 0)
    | 1 => (n.1, n.2.1 * 10 + (dv c : Int), n.2.2.1, 1)
    | k + 2 => (n.1, n.2.1, n.2.2.1 * 10 + (dv c : Int), k + 2)
def nums (l : List UInt8) : Int × Int × Int × Nat := l.foldl stepN (0, 0, 0, 0)
theorem nums_snoc (l : List UInt8) (c : UInt8) : nums (l ++ [c]) = stepN (nums l) c := by unfold nums; rw [List.foldl_append]; rfl
/-- a text of the form, byte by byte -/
theorem form_cases {s : List UInt8} (h : formB s = true) : ∃ a b c d e f g k : UInt8, s = [a, b, c, d, 45, e, f, 45, g, k] ∧ (isDg a = true ∧ isDg b = true ∧ isDg c = true ∧ isDg d = true) ∧ (isDg e = true ∧ isDg f = true) ∧ isDg g = true ∧ isDg k = true := by
  unfold formB at h
  simp only [Bool.and_eq_true, decide_eq_true_eq] at h
  obtain ⟨h1, h2⟩ := h
  match s, h1 with
  | [a, b, c, d, p, e, f, q, g, k], _ =>
    simp [List.range, List.range.loop, okAt] at h2
    obtain ⟨h0, h1, h2, h3, h4, h5, h6, h7, h8, h9⟩ := h2
    subst h4; subst h7
    exact ⟨a, b, c, d, e, f, g, k, rfl, ⟨h0, h1, h2, h3⟩, ⟨h5, h6⟩, h8, h9⟩
theorem form_mk {a b c d e f g k : UInt8} (h1 : isDg a = true) (h2 : isDg b = true) (h3 : isDg c = true) (h4 : isDg d = true) (h5 : isDg e = true) (h6 : isDg f = true) (h7 : isDg g = true) (h8 : isDg k = true) : formB [a, b, c, d, 45, e, f, 45, g, k] = true := by
  simp [formB, List.range, List.range.loop, okAt, h1, h2, h3, h4, h5, h6, h7, h8]
theorem dg_ne {c : UInt8} (h : isDg c = true) : c ≠ 45 := by rintro rfl; simp [isDg] at h
theorem nums_form {a b c d e f g k : UInt8} (h1 : isDg a = true) (h2 : isDg b = true) (h3 : isDg c = true) (h4 : isDg d = true) (h5 : isDg e = true) (h6 : isDg f = true) (h7 : isDg g = true) (h8 : isDg k = true) :
    nums [a, b, c, d, 45, e, f, 45, g, k] = ((((dv a : Int) * 10 + dv b) * 10 + dv c) * 10 + dv d, (dv e : Int) * 10 + dv f, (dv g : Int) * 10 + dv k, 2) := by
  simp [nums, stepN, dg_ne h1, dg_ne h2, dg_ne h3, dg_ne h4, dg_ne h5, dg_ne h6, dg_ne h7, dg_ne h8]
def validB (y m d : Int) : Bool := decide (1 ≤ d ∧ d ≤ Cal.len y m)
/-- what a text is read as: a day, an error's number -/
def parseS (s : List UInt8) : Int × Int :=
  if formB s = true then (if validB (nums s).1 (nums s).2.1 (nums s).2.2.1 = true then (Cal.dayN (nums s).1 (nums s).2.1 (nums s).2.2.1, 0) else (0, 15)) else (0, 4)
theorem txt_form (y m d : Nat) : formB (txt y m d) = true := form_mk (dg_is _) (dg_is _) (dg_is _) (dg_is _) (dg_is _) (dg_is _) (dg_is _) (dg_is _)
theorem txt_nums (y m d : Nat) (hy : y < 10000) (hm : m < 100) (hd : d < 100) : nums (txt y m d) = ((y : Int), (m : Int), (d : Int), 2) := by
  have e := nums_form (dg_is (y / 1000)) (dg_is (y / 100)) (dg_is (y / 10)) (dg_is y) (dg_is (m / 10)) (dg_is m) (dg_is (d / 10)) (dg_is d)
  rw [show txt y m d = [dg (y / 1000), dg (y / 100), dg (y / 10), dg y, 45, dg (m / 10), dg m, 45, dg (d / 10), dg d] from rfl, e]
  simp only [dv_dg, Prod.mk.injEq, and_true]
  omega
theorem txt_parse (y m d : Nat) (h : Cal.Valid y m d) : parseS (txt y m d) = (Cal.dayN y m d, 0) := by
  obtain ⟨h1, h2, h3, h4, h5, h6⟩ := h
  have hb := Cal.len_bd y m
  unfold parseS validB
  rw [if_pos (txt_form _ _ _), txt_nums y m d (by omega) (by omega) (by omega)]
  dsimp only
  rw [if_pos (by simpa using ⟨h5, h6⟩)]
/-- a text that is read is its day's text -/
theorem text_of {s : List UInt8} {n : Int} (h : parseS s = (n, 0)) : ∃ y m d : Nat, Cal.IsDate n y m d ∧ s = txt y m d := by
  unfold parseS at h
  by_cases hf : formB s = true
  · rw [if_pos hf] at h
    obtain ⟨a, b, c, d, e, f, g, k, rfl, ⟨h1, h2, h3, h4⟩, ⟨h5, h6⟩, h7, h8⟩ := form_cases hf
    rw [nums_form h1 h2 h3 h4 h5 h6 h7 h8] at h
    dsimp only at h
    split at h
    · rename_i hv
      unfold validB at hv
      simp only [decide_eq_true_eq] at hv
      simp only [Prod.mk.injEq, and_true] at h
      refine ⟨((dv a * 10 + dv b) * 10 + dv c) * 10 + dv d, dv e * 10 + dv f, dv g * 10 + dv k, ⟨?_, ?_⟩, ?_⟩
      · have := Cal.valid_of _ _ _ hv.1 hv.2
        simpa using this
      · rw [← h]; simp
      · have a1 := dv_lt h1; have a2 := dv_lt h2; have a3 := dv_lt h3; have a4 := dv_lt h4; have a5 := dv_lt h5; have a6 := dv_lt h6; have a7 := dv_lt h7; have a8 := dv_lt h8
        have q : ∀ (n : Nat) (c : UInt8), isDg c = true → n % 10 = dv c → dg n = c := fun n c hc e => by
          rw [← dg_dv hc]; unfold dg; rw [e, Nat.mod_eq_of_lt (dv_lt hc)]
        show _ = [dg _, dg _, dg _, dg _, 45, dg _, dg _, 45, dg _, dg _]
        rw [q _ a h1 (by omega), q _ b h2 (by omega), q _ c h3 (by omega), q _ d h4 (by omega), q _ e h5 (by omega), q _ f h6 (by omega), q _ g h7 (by omega), q _ k h8 (by omega)]
    · simp at h
  · rw [if_neg hf] at h; simp at h
end Go.Proofs.YtfonpegkaajnkaaDoor.Dt
/-
  DECIMALS' TEXTS, plain: digits; the library's reading of a number; a number's text.
-/
namespace Go.Proofs.YtfonpegkaajnkaaDoor.Tx
open Go Dt

/-- digits, one at least -/
def digs (l : List UInt8) : Bool := !l.isEmpty && l.all isDg
def valF (l : List UInt8) (a : Nat) : Nat := l.foldl (fun n c => n * 10 + dv c) a
def val (l : List UInt8) : Nat := valF l 0
theorem valF_cons (c : UInt8) (l : List UInt8) (a : Nat) : valF (c :: l) a = valF l (a * 10 + dv c) := by unfold valF; rw [List.foldl_cons]
theorem valF_nil (a : Nat) : valF [] a = a := rfl
theorem valF_app (l k : List UInt8) (a : Nat) : valF (l ++ k) a = valF k (valF l a) := by unfold valF; rw [List.foldl_append]
theorem val_snoc (l : List UInt8) (c : UInt8) : val (l ++ [c]) = val l * 10 + dv c := by unfold val; rw [valF_app, valF_cons, valF_nil]
theorem valF_ge : ∀ (l : List UInt8) (a : Nat), a ≤ valF l a
  | [], a => Nat.le_refl _
  | c :: l, a => by rw [valF_cons]; have := valF_ge l (a * 10 + dv c); omega
theorem valF_lt : ∀ (l : List UInt8) (a k : Nat), a < 10 ^ k → l.all isDg = true → valF l a < 10 ^ (k + l.length)
  | [], a, k, h, _ => by rw [valF_nil]; simpa using h
  | c :: l, a, k, h, hd => by
    simp only [List.all_cons, Bool.and_eq_true] at hd
    have hc := dv_lt hd.1
    have := valF_lt l (a * 10 + dv c) (k + 1) (by rw [Nat.pow_succ]; omega) hd.2
    rw [valF_cons, List.length_cons, show k + (l.length + 1) = k + 1 + l.length by omega]
    exact this
theorem val_lt (l : List UInt8) (h : l.all isDg = true) : val l < 10 ^ l.length := by
  have := valF_lt l 0 0 (by decide) h
  rw [Nat.zero_add] at this
  exact this
theorem isDg_iff (c : UInt8) : isDg c = true ↔ 48 ≤ c.toNat ∧ c.toNat ≤ 57 := by unfold isDg; simp
theorem uintM : ∀ (l : List UInt8) (a : Nat), l.all isDg = true → a < 18446744073709551616 → Lib.parseUintM (2 ^ 64 - 1) a l = if valF l a < 18446744073709551616 then .ok (valF l a) else .range
  | [], a, _, h => by unfold Lib.parseUintM valF; rw [List.foldl_nil, if_pos h]
  | c :: l, a, hd, h => by
    simp only [List.all_cons, Bool.and_eq_true] at hd
    have hc := (isDg_iff c).1 hd.1
    have e : c.toNat - 48 = dv c := rfl
    have g := valF_ge l (a * 10 + dv c)
    unfold Lib.parseUintM
    rw [if_pos hc, e, valF_cons]
    by_cases h1 : 1844674407370955162 ≤ a
    · rw [if_pos h1, if_neg (by omega)]
    · rw [if_neg h1]
      by_cases h2 : 2 ^ 64 - 1 < a * 10 + dv c
      · rw [if_pos h2, if_neg (by omega)]
      · rw [if_neg h2]
        exact uintM l (a * 10 + dv c) hd.2 (by omega)
def Fit (z : Int) : Prop := -9223372036854775808 ≤ z ∧ z ≤ 9223372036854775807
instance (z : Int) : Decidable (Fit z) := by unfold Fit; exact inferInstance
def sg (neg : Bool) (n : Nat) : Int := if neg = true then -(n : Int) else (n : Int)
def sgn (neg : Bool) : List UInt8 := if neg = true then [45] else []
/-- a sign and digits, as the library reads them -/
theorem int_of (neg : Bool) (D : List UInt8) (hD : digs D = true) : Lib.parseIntB 64 (sgn neg ++ D) = if Fit (sg neg (val D)) then .ok (sg neg (val D)) else .range := by
  unfold digs at hD
  simp only [Bool.and_eq_true, Bool.not_eq_true', List.isEmpty_eq_false_iff] at hD
  obtain ⟨hne, hd⟩ := hD
  have u : Lib.parseUintB 64 D = if val D < 18446744073709551616 then .ok (val D) else .range := by
    unfold Lib.parseUintB
    rw [if_neg hne]
    exact uintM D 0 hd (by decide)
  have m (n : Nat) : (¬ Fit (sg false n) ↔ 9223372036854775808 ≤ n) ∧ (¬ Fit (sg true n) ↔ 9223372036854775808 < n) := by unfold Fit sg; simp; omega
  cases neg
  · obtain ⟨c, r, rfl⟩ := List.exists_cons_of_ne_nil hne
    have hc := (isDg_iff c).1 (by simp only [List.all_cons, Bool.and_eq_true] at hd; exact hd.1)
    have n45 : ¬ c.toNat = 45 := by omega
    have n43 : ¬ (c.toNat = 43 ∨ c.toNat = 45) := by omega
    have M := (m (val (c :: r))).1
    show Lib.parseIntB 64 (c :: r) = _
    unfold Lib.parseIntB
    dsimp only
    rw [if_neg n43, u]
    by_cases h1 : val (c :: r) < 18446744073709551616
    · rw [if_pos h1]
      dsimp only
      by_cases h2 : 9223372036854775808 ≤ val (c :: r)
      · rw [if_pos ⟨n45, h2⟩, if_neg (M.2 h2)]
      · rw [if_neg (fun k => h2 k.2), if_neg (fun k => n45 k.1), if_neg n45, if_pos (Decidable.not_not.1 (fun k => h2 (M.1 k)))]; rfl
    · rw [if_neg h1, if_neg (M.2 (by omega))]
  · have M := (m (val D)).2
    show Lib.parseIntB 64 (45 :: D) = _
    unfold Lib.parseIntB
    dsimp only
    rw [if_pos (.inr rfl), u]
    by_cases h1 : val D < 18446744073709551616
    · rw [if_pos h1]
      dsimp only
      by_cases h2 : 9223372036854775808 < val D
      · rw [if_neg (fun k => k.1 rfl), if_pos ⟨rfl, h2⟩, if_neg (M.2 h2)]
      · rw [if_neg (fun k => k.1 rfl), if_neg (fun k => h2 k.2), if_pos (show (45 : UInt8).toNat = 45 from rfl), if_pos (Decidable.not_not.1 (fun k => h2 (M.1 k)))]; rfl
    · rw [if_neg h1, if_neg (M.2 (by omega))]
end Go.Proofs.YtfonpegkaajnkaaDoor.Tx
/-
  DECIMALS' TEXTS, plain: a number's digits and its text.
-/
namespace Go.Proofs.YtfonpegkaajnkaaDoor.Tx
open Go Dt

theorem dd_len_pos (a : Nat) : 1 ≤ (Lib.decDigits a).length := by
  by_cases h : a < 10
  · rw [dd1 a h]; exact Nat.le_refl _
  · rw [dd2 a h, List.length_append]; exact Nat.le_add_left _ _
theorem dd_bounds : ∀ (n a : Nat), a ≤ n → a < 10 ^ (Lib.decDigits a).length ∧ ((Lib.decDigits a).length = 1 ∨ 10 ^ ((Lib.decDigits a).length - 1) ≤ a)
  | n, a, hn => by
    by_cases h : a < 10
    · rw [dd1 a h]; exact ⟨by simpa using h, .inl rfl⟩
    · match n, hn with
      | 0, hn => omega
      | n + 1, hn =>
        obtain ⟨i1, i2⟩ := dd_bounds n (a / 10) (by omega)
        have p := dd_len_pos (a / 10)
        rw [dd2 a h, List.length_append, List.length_singleton]
        refine ⟨by rw [Nat.pow_succ]; omega, .inr ?_⟩
        rw [Nat.add_sub_cancel]
        obtain ⟨k, hk⟩ : ∃ k, (Lib.decDigits (a / 10)).length = k + 1 := ⟨_, (Nat.sub_add_cancel p).symm⟩
        rw [hk] at i2 ⊢
        rw [Nat.pow_succ]
        rcases i2 with e | e
        · have : k = 0 := by omega
          subst this; omega
        · rw [Nat.add_sub_cancel] at e; omega
theorem lowD_one (a k : Nat) : lowD a (k + 1) = lowD (a / 10) k ++ [dg a] := by
  induction k with
  | zero => simp [lowD]
  | succ k ih =>
    show dg (a / 10 ^ (k + 1)) :: lowD a (k + 1) = (dg (a / 10 / 10 ^ k) :: lowD (a / 10) k) ++ [dg a]
    rw [ih, Nat.pow_succ, Nat.mul_comm, ← Nat.div_div_eq_div_mul]; rfl
theorem dd_low : ∀ (n a : Nat), a ≤ n → Lib.decDigits a = lowD a (Lib.decDigits a).length
  | n, a, hn => by
    by_cases h : a < 10
    · rw [dd1 a h]; simp [lowD]
    · match n, hn with
      | 0, hn => omega
      | n + 1, hn =>
        have ih := dd_low n (a / 10) (by omega)
        rw [dd2 a h, List.length_append, List.length_singleton, lowD_one, ← ih]
theorem lowD_add (a j s : Nat) : lowD a (j + s) = lowD (a / 10 ^ s) j ++ lowD a s := by
  induction j with
  | zero => simp [lowD]
  | succ j ih =>
    rw [show j + 1 + s = j + s + 1 by omega]
    show dg (a / 10 ^ (j + s)) :: lowD a (j + s) = (dg (a / 10 ^ s / 10 ^ j) :: lowD (a / 10 ^ s) j) ++ lowD a s
    rw [ih, Nat.add_comm j s, Nat.pow_add, Nat.div_div_eq_div_mul]; rfl
theorem lowD_zero (k : Nat) : lowD 0 k = List.replicate k 48 := by
  induction k with
  | zero => rfl
  | succ k ih =>
    show dg (0 / 10 ^ k) :: lowD 0 k = _
    rw [ih, Nat.zero_div, List.replicate_succ]; rfl
theorem padTo_low (a k : Nat) : padTo k (Lib.decDigits a) = lowD a (max k (Lib.decDigits a).length) := by
  have e := dd_low a a (Nat.le_refl _)
  have b := (dd_bounds a a (Nat.le_refl _)).1
  obtain ⟨n, hn⟩ : ∃ n, (Lib.decDigits a).length = n := ⟨_, rfl⟩
  unfold padTo
  rw [hn] at e b ⊢
  rw [e]
  by_cases h : k ≤ n
  · rw [Nat.max_eq_right h, Nat.sub_eq_zero_of_le h]; rfl
  · rw [Nat.max_eq_left (by omega), show k = (k - n) + n by omega, lowD_add, Nat.add_sub_cancel, Nat.div_eq_of_lt b, lowD_zero]
/-- how many digits a text has -/
def lenT (a s : Nat) : Nat := max (s + 1) (Lib.decDigits a).length
/-- so many digits, the point in its place -/
def refT (a s k : Nat) : List UInt8 := if s = 0 ∨ k ≤ s then lowD a k else lowD (a / 10 ^ s) (k - s) ++ 46 :: lowD a s
def dtxt (c : Int) (s : Nat) : List UInt8 := sgn (decide (c < 0)) ++ refT c.natAbs s (lenT c.natAbs s)
theorem lenT_gt (a s : Nat) : s < lenT a s := by unfold lenT; have := Nat.le_max_left (s + 1) (Lib.decDigits a).length; omega
theorem more_digits {a s k : Nat} (h : k ≤ s ∨ a / 10 ^ k ≠ 0) : k < lenT a s := by
  unfold lenT
  have m1 := Nat.le_max_left (s + 1) (Lib.decDigits a).length
  have m2 := Nat.le_max_right (s + 1) (Lib.decDigits a).length
  rcases h with h | h
  · omega
  · have b := (dd_bounds a a (Nat.le_refl _)).1
    rcases Nat.lt_or_ge k (Lib.decDigits a).length with g | g
    · omega
    · exact absurd (Nat.div_eq_of_lt (Nat.lt_of_lt_of_le b (Nat.pow_le_pow_right (by decide) g))) h
theorem no_digits {a s k : Nat} (h1 : s < k) (h2 : a / 10 ^ k = 0) (h3 : k ≤ lenT a s) : k = lenT a s := by
  have b := dd_bounds a a (Nat.le_refl _)
  have lt : a < 10 ^ k := by
    rcases Nat.lt_or_ge a (10 ^ k) with g | g
    · exact g
    · have := Nat.div_pos g (Nat.pow_pos (by decide)); omega
  unfold lenT at h3 ⊢
  have : (Lib.decDigits a).length ≤ k := by
    rcases b.2 with e | e
    · omega
    · rcases Nat.lt_or_ge k (Lib.decDigits a).length with g | g
      · have := Nat.pow_le_pow_right (n := 10) (by decide) (show k ≤ (Lib.decDigits a).length - 1 by omega)
        omega
      · exact g
  omega
theorem refT_lo {a s k : Nat} (h : s = 0 ∨ k ≤ s) : refT a s k = lowD a k := by unfold refT; rw [if_pos h]
theorem refT_hi {a s k : Nat} (h : ¬ (s = 0 ∨ k ≤ s)) : refT a s k = lowD (a / 10 ^ s) (k - s) ++ 46 :: lowD a s := by unfold refT; rw [if_neg h]
theorem refT_step (a s k : Nat) : refT a s (k + 1) = dg (a / 10 ^ k) :: (if k = s ∧ 0 < k then 46 :: refT a s k else refT a s k) := by
  by_cases h0 : s = 0
  · subst h0
    rw [if_neg (show ¬ (k = 0 ∧ 0 < k) by omega), refT_lo (.inl rfl), refT_lo (.inl rfl)]; rfl
  · by_cases h1 : k < s
    · rw [if_neg (show ¬ (k = s ∧ 0 < k) by omega), refT_lo (.inr (by omega)), refT_lo (.inr (by omega))]; rfl
    · by_cases h2 : k = s
      · subst h2
        rw [if_pos (show k = k ∧ 0 < k from ⟨rfl, by omega⟩), refT_hi (by omega), refT_lo (.inr (Nat.le_refl _)), show k + 1 - k = 1 by omega]
        simp [lowD]
      · rw [if_neg (show ¬ (k = s ∧ 0 < k) by omega), refT_hi (by omega), refT_hi (by omega), show k + 1 - s = (k - s) + 1 by omega]
        show dg (a / 10 ^ s / 10 ^ (k - s)) :: (lowD (a / 10 ^ s) (k - s) ++ _) = _
        rw [Nat.div_div_eq_div_mul, ← Nat.pow_add, show s + (k - s) = k by omega]
/-- the program's: the padded digits, parted -/
theorem parted (a s : Nat) (hs : s ≠ 0) : refT a s (lenT a s) = (lowD a (lenT a s)).take (lenT a s - s) ++ 46 :: (lowD a (lenT a s)).drop (lenT a s - s) := by
  have g := lenT_gt a s
  rw [refT_hi (by omega)]
  have e : lowD a (lenT a s) = lowD (a / 10 ^ s) (lenT a s - s) ++ lowD a s := by
    have := lowD_add a (lenT a s - s) s
    rwa [show lenT a s - s + s = lenT a s by omega] at this
  rw [e, List.take_left' (lowD_len _ _), List.drop_left' (lowD_len _ _)]
theorem val_low (a k : Nat) : (lowD a k).all isDg = true ∧ val (lowD a k) = a % 10 ^ k := by
  induction k generalizing a with
  | zero => exact ⟨rfl, by simp [lowD, val, valF, Nat.mod_one]⟩
  | succ k ih =>
    rw [lowD_one]
    obtain ⟨i1, i2⟩ := ih (a / 10)
    refine ⟨by rw [List.all_append, i1]; simp [dg_is], ?_⟩
    rw [val_snoc, i2, dv_dg, Nat.pow_succ, Nat.mul_comm (10 ^ k) 10, Nat.mod_mul]
    omega
theorem low_val : ∀ (l : List UInt8), l.all isDg = true → lowD (val l) l.length = l := by
  intro l
  have key : ∀ (n : Nat) (l : List UInt8), l.length = n → l.all isDg = true → lowD (val l) l.length = l := by
    intro n
    induction n with
    | zero => intro l h _; rw [List.length_eq_zero_iff.1 h]; rfl
    | succ n ih =>
      intro l h hd
      have hne : l ≠ [] := by intro e; rw [e] at h; cases h
      obtain ⟨k, c, rfl⟩ : ∃ k c, l = k ++ [c] := ⟨l.dropLast, l.getLast hne, (List.dropLast_concat_getLast hne).symm⟩
      rw [List.length_append, List.length_singleton] at h
      simp only [List.all_append, List.all_cons, List.all_nil, Bool.and_true, Bool.and_eq_true] at hd
      have hk := ih k (by omega) hd.1
      have hc := dv_lt hd.2
      rw [List.length_append, List.length_singleton, lowD_one, val_snoc, show (val k * 10 + dv c) / 10 = val k by omega, hk]
      congr 1
      have : dg (val k * 10 + dv c) = dg (dv c) := by unfold dg; rw [show (val k * 10 + dv c) % 10 = dv c % 10 by omega]
      rw [this, dg_dv hd.2]
  exact key _ l rfl
end Go.Proofs.YtfonpegkaajnkaaDoor.Tx
