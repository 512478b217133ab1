/-
  PLAIN LAWS OF THE CALENDAR (no Go in sight): leap years, months' lengths, day numbers, and that a number has one date.
-/
/-
  PLAIN LAWS OF THE CALENDAR (no Go in sight): leap years, months' lengths, day numbers, and that a number has one date.
-/
namespace Go.Proofs.YtfonpegkaajnkaaDoor.Cal

def leap (y : Int) : Bool := decide (1 ≤ y) && decide (y ≤ 9999) && decide (y % 4 = 0) && (decide (y % 100 ≠ 0) || decide (y % 400 = 0))
def lpI (y : Int) : Int := if leap y = true then 1 else 0
def tab (m : Int) : Int := if m = 2 then 28 else if m = 4 ∨ m = 6 ∨ m = 9 ∨ m = 11 then 30 else 31
def len (y m : Int) : Int := if 1 ≤ y ∧ y ≤ 9999 ∧ 1 ≤ m ∧ m ≤ 12 then (if m = 2 then 28 + lpI y else tab m) else 0
def ahead (y : Int) : Int := 365 * (y - 1) + (y - 1) / 4 - (y - 1) / 100 + (y - 1) / 400
def cumN (y : Int) : Nat → Int
  | 0 => 0
  | k + 1 => cumN y k + len y ((k : Int) + 1)
/-- the days of the months ahead of month m -/
def cum (y m : Int) : Int := cumN y (m - 1).toNat
def dayN (y m d : Int) : Int := ahead y + cum y m + d
def Valid (y m d : Int) : Prop := 1 ≤ y ∧ y ≤ 9999 ∧ 1 ≤ m ∧ m ≤ 12 ∧ 1 ≤ d ∧ d ≤ len y m

theorem lpI_01 (y : Int) : 0 ≤ lpI y ∧ lpI y ≤ 1 := by unfold lpI; split <;> omega
theorem len_bd (y m : Int) : 0 ≤ len y m ∧ len y m ≤ 31 := by
  have := lpI_01 y
  unfold len tab; repeat' split
  all_goals omega
theorem len_pos (y m : Int) (h1 : 1 ≤ y) (h2 : y ≤ 9999) (h3 : 1 ≤ m) (h4 : m ≤ 12) : 28 ≤ len y m := by
  have := lpI_01 y
  unfold len tab; rw [if_pos ⟨h1, h2, h3, h4⟩]; repeat' split
  all_goals omega
theorem len_out (y m : Int) (h : ¬ (1 ≤ y ∧ y ≤ 9999 ∧ 1 ≤ m ∧ m ≤ 12)) : len y m = 0 := by unfold len; rw [if_neg h]
theorem len_in (y m d : Int) (h1 : 1 ≤ d) (h2 : d ≤ len y m) : 1 ≤ y ∧ y ≤ 9999 ∧ 1 ≤ m ∧ m ≤ 12 := by
  unfold len at h2; split at h2
  · assumption
  · omega
theorem valid_of (y m d : Int) (h1 : 1 ≤ d) (h2 : d ≤ len y m) : Valid y m d := by
  obtain ⟨a, b, c, e⟩ := len_in y m d h1 h2; exact ⟨a, b, c, e, h1, h2⟩
theorem leap_eq (y : Int) (h1 : 1 ≤ y) (h2 : y ≤ 9999) : lpI y = if y % 4 = 0 ∧ (y % 100 ≠ 0 ∨ y % 400 = 0) then 1 else 0 := by
  unfold lpI leap; simp [h1, h2]
theorem ahead_succ (y : Int) (h1 : 1 ≤ y) (h2 : y ≤ 9999) : ahead (y + 1) = ahead y + 365 + lpI y := by
  rw [leap_eq y h1 h2]; unfold ahead
  split <;> omega
theorem ahead_one : ahead 1 = 0 := by decide
theorem ahead_mono (a b : Int) (h : a ≤ b) : ahead a ≤ ahead b := by unfold ahead; omega
theorem ahead_step (a : Int) : ahead a + 365 ≤ ahead (a + 1) := by unfold ahead; omega
theorem ahead_bd (a : Int) (h1 : 1 ≤ a) (h2 : a ≤ 10000) : 0 ≤ ahead a ∧ ahead a ≤ 3652059 := by unfold ahead; omega
theorem ahead_max : ahead 10000 = 3652059 := by decide
theorem cumN_succ (y : Int) (k : Nat) : cumN y (k + 1) = cumN y k + len y ((k : Int) + 1) := rfl
theorem cum_one (y : Int) : cum y 1 = 0 := by unfold cum; rfl
theorem cum_succ (y m : Int) (h : 1 ≤ m) : cum y (m + 1) = cum y m + len y m := by
  unfold cum
  obtain ⟨k, rfl⟩ : ∃ k : Nat, m = (k : Int) + 1 := ⟨(m - 1).toNat, by omega⟩
  rw [show ((k : Int) + 1 + 1 - 1).toNat = k + 1 from by omega, show ((k : Int) + 1 - 1).toNat = k from by omega, cumN_succ]
theorem cum_le (y a b : Int) (h1 : 1 ≤ a) (h : a ≤ b) : cum y a ≤ cum y b := by
  obtain ⟨k, rfl⟩ : ∃ k : Nat, b = a + k := ⟨(b - a).toNat, by omega⟩
  induction k with
  | zero => simp
  | succ k ih =>
    have := cum_succ y (a + k) (by omega); have := len_bd y (a + k)
    have e : a + ((k + 1 : Nat) : Int) = a + k + 1 := by omega
    rw [e]; have := ih (by omega); omega
theorem cum_13 (y : Int) (h1 : 1 ≤ y) (h2 : y ≤ 9999) : cum y 13 = 365 + lpI y := by
  unfold cum
  show cumN y 12 = _
  simp only [cumN]
  unfold len tab
  simp [h1, h2]
  omega
theorem cum_bd (y m : Int) (h1 : 1 ≤ y) (h2 : y ≤ 9999) (h3 : 1 ≤ m) (h4 : m ≤ 13) : 0 ≤ cum y m ∧ cum y m ≤ 366 := by
  have a := cum_le y 1 m (by omega) h3; have b := cum_le y m 13 h3 h4
  rw [cum_one] at a; rw [cum_13 y h1 h2] at b
  have := lpI_01 y; omega

/-- (y, m, d) is the date of n. -/
def IsDate (n y m d : Int) : Prop := Valid y m d ∧ dayN y m d = n
theorem isDate_bd (n y m d : Int) (h : IsDate n y m d) : 1 ≤ n ∧ n ≤ 3652059 := by
  obtain ⟨⟨h1, h2, h3, h4, h5, h6⟩, rfl⟩ := h
  have a := ahead_bd y h1 (by omega); have b := cum_bd y m h1 h2 h3 (by omega)
  have c := cum_succ y m h3; have e := cum_bd y (m + 1) h1 h2 (by omega) (by omega)
  have f := ahead_succ y h1 h2; have g := ahead_mono (y + 1) 10000 (by omega); rw [ahead_max] at g
  have i := cum_le y (m + 1) 13 (by omega) (by omega); rw [cum_13 y h1 h2] at i
  unfold dayN; omega
theorem isDate_year (n y m d : Int) (h : IsDate n y m d) : ahead y < n ∧ n ≤ ahead (y + 1) := by
  obtain ⟨⟨h1, h2, h3, h4, h5, h6⟩, rfl⟩ := h
  have b := cum_bd y m h1 h2 h3 (by omega); have c := cum_succ y m h3
  have f := ahead_succ y h1 h2
  have i := cum_le y (m + 1) 13 (by omega) (by omega); rw [cum_13 y h1 h2] at i
  unfold dayN; omega
theorem year_uniq (n a b : Int) (h1 : ahead a < n) (h2 : n ≤ ahead (a + 1)) (h3 : ahead b < n) (h4 : n ≤ ahead (b + 1)) : a = b := by
  rcases Int.lt_trichotomy a b with h | h | h
  · have := ahead_mono (a + 1) b (by omega); omega
  · exact h
  · have := ahead_mono (b + 1) a (by omega); omega
theorem month_uniq (y n a b : Int) (ha : 1 ≤ a) (hb : 1 ≤ b) (h1 : cum y a < n) (h2 : n ≤ cum y (a + 1)) (h3 : cum y b < n) (h4 : n ≤ cum y (b + 1)) : a = b := by
  rcases Int.lt_trichotomy a b with h | h | h
  · have := cum_le y (a + 1) b (by omega) (by omega); omega
  · exact h
  · have := cum_le y (b + 1) a (by omega) (by omega); omega
theorem isDate_uniq (n y m d y' m' d' : Int) (h : IsDate n y m d) (h' : IsDate n y' m' d') : y = y' ∧ m = m' ∧ d = d' := by
  obtain ⟨a1, a2⟩ := isDate_year _ _ _ _ h; obtain ⟨b1, b2⟩ := isDate_year _ _ _ _ h'
  have e := year_uniq n y y' a1 a2 b1 b2; subst e
  obtain ⟨⟨h1, h2, h3, h4, h5, h6⟩, hn⟩ := h; obtain ⟨⟨k1, k2, k3, k4, k5, k6⟩, kn⟩ := h'
  have c := cum_succ y m h3; have c' := cum_succ y m' k3
  unfold dayN at hn kn
  have e := month_uniq y (n - ahead y) m m' h3 k3 (by omega) (by omega) (by omega) (by omega); subst e
  exact ⟨rfl, rfl, by omega⟩
theorem isDate_of (n y m : Int) (h1 : 1 ≤ y) (h2 : y ≤ 9999) (h3 : 1 ≤ m) (h4 : m ≤ 12) (h5 : cum y m < n - ahead y) (h6 : n - ahead y ≤ cum y m + len y m) :
    IsDate n y m (n - ahead y - cum y m) := ⟨⟨h1, h2, h3, h4, by omega, by omega⟩, by unfold dayN; omega⟩

theorem next_day (n y m d : Int) (h : IsDate n y m d) (hd : d < len y m) : IsDate (n + 1) y m (d + 1) := by
  obtain ⟨⟨h1, h2, h3, h4, h5, h6⟩, rfl⟩ := h
  exact ⟨⟨h1, h2, h3, h4, by omega, by omega⟩, by unfold dayN; omega⟩
theorem next_month (n y m d : Int) (h : IsDate n y m d) (hd : ¬ d < len y m) (hm : m < 12) : IsDate (n + 1) y (m + 1) 1 := by
  obtain ⟨⟨h1, h2, h3, h4, h5, h6⟩, rfl⟩ := h
  have := cum_succ y m h3; have := len_pos y (m + 1) h1 h2 (by omega) (by omega)
  exact ⟨⟨h1, h2, by omega, by omega, by omega, by omega⟩, by unfold dayN; omega⟩
theorem next_year (n y m d : Int) (h : IsDate n y m d) (hd : ¬ d < len y m) (hm : ¬ m < 12) (hn : n < 3652059) : IsDate (n + 1) (y + 1) 1 1 := by
  obtain ⟨⟨h1, h2, h3, h4, h5, h6⟩, rfl⟩ := h
  obtain rfl : m = 12 := by omega
  have a := cum_succ y 12 h3; have b := ahead_succ y h1 h2; have c := cum_13 y h1 h2
  rw [show (12 : Int) + 1 = 13 from rfl] at a
  have hy : y < 9999 := by
    rcases Int.lt_or_le y 9999 with g | g
    · exact g
    · obtain rfl : y = 9999 := by omega
      have := ahead_max; rw [show (9999 : Int) + 1 = 10000 from rfl] at b
      unfold dayN at hn; omega
  have := len_pos (y + 1) 1 (by omega) (by omega) (by omega) (by omega)
  exact ⟨⟨by omega, by omega, by omega, by omega, by omega, by omega⟩, by unfold dayN; rw [cum_one]; omega⟩
end Go.Proofs.YtfonpegkaajnkaaDoor.Cal
