/-
  PLAIN LAWS OF MONTHS (no Go in sight): months by their number from the first one on; days moved by months; how many whole months lie between; A period's months, plain.
-/
import Derived.Test.YtngelemjpgglpaaM44
/-
  PLAIN LAWS OF MONTHS (no Go in sight): months by their number from the first one on; days moved by months; how many whole months lie between.
-/
namespace Go.Proofs.Ytngelemjpgglpaa.Cal

/-- a month's number: 0 of January of the year 1 -/
def mk (y m : Int) : Int := 12 * y + m - 13
def yOf (j : Int) : Int := j / 12 + 1
def mOf (j : Int) : Int := j % 12 + 1
def mlen (j : Int) : Int := len (yOf j) (mOf j)
/-- the days ahead of a month -/
def mst (j : Int) : Int := ahead (yOf j) + cum (yOf j) (mOf j)
/-- may the month be? -/
def InM (j : Int) : Prop := 0 ≤ j ∧ j < 119988
/-- the smaller one -/
def mn (a b : Int) : Int := if a ≤ b then a else b
def mxI (a b : Int) : Int := if b ≤ a then a else b
/-- a day of a month, moved to month j -/
def mv (j d : Int) : Int := mst j + mn d (mlen j)

theorem yOf_mk (y m : Int) (h1 : 1 ≤ m) (h2 : m ≤ 12) : yOf (mk y m) = y := by unfold yOf mk; omega
theorem mOf_mk (y m : Int) (h1 : 1 ≤ m) (h2 : m ≤ 12) : mOf (mk y m) = m := by unfold mOf mk; omega
theorem mOf_bd (j : Int) : 1 ≤ mOf j ∧ mOf j ≤ 12 := by unfold mOf; omega
theorem yOf_bd (j : Int) (h : InM j) : 1 ≤ yOf j ∧ yOf j ≤ 9999 := by unfold InM at h; unfold yOf; omega
theorem yOf_out (j : Int) (h : ¬ InM j) : ¬ (1 ≤ yOf j ∧ yOf j ≤ 9999) := by unfold InM at h; unfold yOf; omega
theorem mk_in (y m : Int) (h1 : 1 ≤ y) (h2 : y ≤ 9999) (h3 : 1 ≤ m) (h4 : m ≤ 12) : InM (mk y m) := by unfold InM mk; omega
theorem mk_of (j y m : Int) (h : mk y m = j) (h1 : 1 ≤ m) (h2 : m ≤ 12) : y = yOf j ∧ m = mOf j := by subst h; rw [yOf_mk y m h1 h2, mOf_mk y m h1 h2]; exact ⟨rfl, rfl⟩
theorem mlen_bd (j : Int) (h : InM j) : 28 ≤ mlen j ∧ mlen j ≤ 31 := by
  obtain ⟨a, b⟩ := yOf_bd j h; obtain ⟨c, d⟩ := mOf_bd j
  exact ⟨len_pos _ _ a b c d, (len_bd _ _).2⟩
theorem mlen_out (j : Int) (h : ¬ InM j) : mlen j = 0 := len_out _ _ (by have := yOf_out j h; omega)
theorem mst_succ (j : Int) (h : InM j) : mst (j + 1) = mst j + mlen j := by
  obtain ⟨a, b⟩ := yOf_bd j h; obtain ⟨c, d⟩ := mOf_bd j
  unfold mst mlen
  have s := cum_succ (yOf j) (mOf j) c
  by_cases e : mOf j = 12
  · have e1 : yOf (j + 1) = yOf j + 1 := by unfold mOf at e; unfold yOf; omega
    have e2 : mOf (j + 1) = 1 := by unfold mOf at e ⊢; omega
    have f := ahead_succ (yOf j) a b; have g := cum_13 (yOf j) a b
    rw [e] at s; rw [show (12 : Int) + 1 = 13 from rfl] at s
    rw [e1, e2, cum_one, e]; omega
  · have e1 : yOf (j + 1) = yOf j := by unfold mOf at e; unfold yOf; omega
    have e2 : mOf (j + 1) = mOf j + 1 := by unfold mOf at e ⊢; omega
    rw [e1, e2]; omega
theorem mst_le (a b : Int) (h0 : 0 ≤ a) (h : a ≤ b) (h1 : b ≤ 119988) : mst a ≤ mst b := by
  obtain ⟨k, rfl⟩ : ∃ k : Nat, b = a + k := ⟨(b - a).toNat, by omega⟩
  induction k with
  | zero => simp
  | succ k ih =>
    have i : InM (a + k) := ⟨by omega, by omega⟩
    have s := mst_succ (a + k) i; have l := mlen_bd (a + k) i
    have e : a + ((k + 1 : Nat) : Int) = a + k + 1 := by omega
    rw [e]; have := ih (by omega) (by omega); omega
theorem isDate_mst (n y m d : Int) (h : IsDate n y m d) : InM (mk y m) ∧ n = mst (mk y m) + d ∧ 1 ≤ d ∧ d ≤ mlen (mk y m) := by
  obtain ⟨⟨h1, h2, h3, h4, h5, h6⟩, rfl⟩ := h
  unfold mst mlen
  rw [yOf_mk y m h3 h4, mOf_mk y m h3 h4]
  exact ⟨mk_in y m h1 h2 h3 h4, rfl, h5, h6⟩
theorem isDate_mk (j d : Int) (h : InM j) (h1 : 1 ≤ d) (h2 : d ≤ mlen j) : IsDate (mst j + d) (yOf j) (mOf j) d := by
  obtain ⟨a, b⟩ := yOf_bd j h; obtain ⟨c, e⟩ := mOf_bd j
  exact ⟨⟨a, b, c, e, h1, h2⟩, rfl⟩
theorem mn_bd (a b : Int) : mn a b ≤ a ∧ mn a b ≤ b ∧ (mn a b = a ∨ mn a b = b) := by unfold mn; split <;> omega
theorem isDate_mv (j d : Int) (h : InM j) (h1 : 1 ≤ d) : IsDate (mv j d) (yOf j) (mOf j) (mn d (mlen j)) := by
  have b := mlen_bd j h; have c := mn_bd d (mlen j)
  exact isDate_mk j _ h (by omega) (by omega)
theorem mv_lt (a b d e : Int) (ha : 0 ≤ a) (hb : b < 119988) (h : a < b) (hd : d ≤ mlen a) (he : 1 ≤ e) : mst a + d < mst b + e := by
  have s := mst_succ a ⟨ha, by omega⟩; have l := mst_le (a + 1) b (by omega) (by omega) (by omega); omega
/-- days rise with their months -/
theorem mk_le (a b y m d z k l : Int) (h : IsDate a y m d) (h' : IsDate b z k l) (hab : a ≤ b) : mk y m ≤ mk z k := by
  obtain ⟨⟨i1, i2⟩, rfl, d1, d2⟩ := isDate_mst _ _ _ _ h; obtain ⟨⟨k1, k2⟩, rfl, e1, e2⟩ := isDate_mst _ _ _ _ h'
  rcases Int.lt_or_le (mk z k) (mk y m) with g | g
  · have := mv_lt (mk z k) (mk y m) l d k1 i2 g e2 d1; omega
  · exact g
/-- a day moved to the month behind another day's lies behind that one -/
theorem mv_behind (b z k l j d : Int) (h' : IsDate b z k l) (hj : InM j) (hlt : mk z k < j) (hd : 1 ≤ d) : b < mv j d := by
  obtain ⟨⟨k1, k2⟩, rfl, e1, e2⟩ := isDate_mst _ _ _ _ h'
  have b := mlen_bd j hj; have c := mn_bd d (mlen j)
  exact mv_lt (mk z k) j l _ k1 hj.2 hlt e2 (by omega)
theorem mv_ahead (b z k l j d : Int) (h' : IsDate b z k l) (hj : InM j) (hlt : j < mk z k) : mv j d < b := by
  obtain ⟨⟨k1, k2⟩, rfl, e1, e2⟩ := isDate_mst _ _ _ _ h'
  have c := mn_bd d (mlen j)
  exact mv_lt j (mk z k) _ l hj.1 k2 hlt (by omega) e1
theorem mv_self (n y m d : Int) (h : IsDate n y m d) : mv (mk y m) d = n := by
  obtain ⟨_, rfl, e1, e2⟩ := isDate_mst _ _ _ _ h
  unfold mv mn; rw [if_pos e2]
/-- what 'on' computes, in the walk's own spelling -/
theorem on_k (y m d n x : Int) (hj : InM (mk y m + n)) (hd : 1 ≤ d) (hx : x = mn d (len ((y * 12 + m - 13 + n) / 12 + 1) ((y * 12 + m - 13 + n) % 12 + 1))) :
    Valid ((y * 12 + m - 13 + n) / 12 + 1) ((y * 12 + m - 13 + n) % 12 + 1) x ∧ dayN ((y * 12 + m - 13 + n) / 12 + 1) ((y * 12 + m - 13 + n) % 12 + 1) x = mv (mk y m + n) d := by
  have e : y * 12 + m - 13 + n = mk y m + n := by unfold mk; omega
  rw [e] at hx ⊢
  exact (by subst hx; exact isDate_mv (mk y m + n) d hj hd)
theorem on_b (y m x : Int) (hj : InM (mk y m)) (h1 : 1 ≤ x) (h2 : x ≤ len ((y * 12 + m - 13) / 12 + 1) ((y * 12 + m - 13) % 12 + 1)) :
    Valid ((y * 12 + m - 13) / 12 + 1) ((y * 12 + m - 13) % 12 + 1) x ∧ dayN ((y * 12 + m - 13) / 12 + 1) ((y * 12 + m - 13) % 12 + 1) x = mst (mk y m) + x := by
  have e : y * 12 + m - 13 = mk y m := by unfold mk; omega
  rw [e] at h2 ⊢
  exact isDate_mk (mk y m) x hj h1 h2
theorem len_mk (y m : Int) : len ((y * 12 + m - 13) / 12 + 1) ((y * 12 + m - 13) % 12 + 1) = mlen (mk y m) := by
  have e : y * 12 + m - 13 = mk y m := by unfold mk; omega
  rw [e]; rfl
theorem mk_bd (y m : Int) (h1 : 1 ≤ y) (h2 : y ≤ 9999) (h3 : 1 ≤ m) (h4 : m ≤ 12) : 0 ≤ mk y m ∧ mk y m < 119988 := mk_in y m h1 h2 h3 h4

/-- x is the day n months behind a, and er is 0; or there is none: x is 0 and er is 15 -/
def AddIs (a n x er : Int) : Prop := (∃ y m d, IsDate a y m d ∧ InM (mk y m + n) ∧ x = mv (mk y m + n) d ∧ er = 0) ∨ (x = 0 ∧ er = 15 ∧ ¬ ∃ y m d, IsDate a y m d ∧ InM (mk y m + n))
theorem addIs_uniq (a n x er x' er' : Int) (h : AddIs a n x er) (h' : AddIs a n x' er') : x = x' ∧ er = er' := by
  rcases h with ⟨y, m, d, h1, h2, rfl, rfl⟩ | ⟨rfl, rfl, h3⟩ <;> rcases h' with ⟨y', m', d', k1, k2, rfl, rfl⟩ | ⟨rfl, rfl, k3⟩
  · obtain ⟨rfl, rfl, rfl⟩ := isDate_uniq _ _ _ _ _ _ _ h1 k1; exact ⟨rfl, rfl⟩
  · exact (k3 ⟨_, _, _, h1, h2⟩).elim
  · exact (h3 ⟨_, _, _, k1, k2⟩).elim
  · exact ⟨rfl, rfl⟩
theorem addIs_in (a n y m d : Int) (h : IsDate a y m d) (hj : InM (mk y m + n)) : AddIs a n (mv (mk y m + n) d) 0 := .inl ⟨y, m, d, h, hj, rfl, rfl⟩
theorem addIs_out (a n y m d : Int) (h : IsDate a y m d) (hj : ¬ InM (mk y m + n)) : AddIs a n 0 15 := by
  refine .inr ⟨rfl, rfl, ?_⟩
  rintro ⟨y', m', d', k1, k2⟩
  obtain ⟨rfl, rfl, rfl⟩ := isDate_uniq _ _ _ _ _ _ _ h k1; exact hj k2
theorem addIs_none (a n : Int) (h : ¬ (1 ≤ a ∧ a ≤ 3652059)) : AddIs a n 0 15 := by
  refine .inr ⟨rfl, rfl, ?_⟩
  rintro ⟨y', m', d', k1, k2⟩
  exact h (isDate_bd _ _ _ _ k1)
theorem isDate_ex (n : Int) (h1 : 1 ≤ n) (h2 : n ≤ 3652059) : ∃ y m d, IsDate n y m d := by
  have hy : ∀ k : Nat, k ≤ 9999 → n ≤ ahead ((k : Int) + 1) → ∃ y, 1 ≤ y ∧ y ≤ 9999 ∧ ahead y < n ∧ n ≤ ahead (y + 1) := by
    intro k
    induction k with
    | zero => intro _ h; have := ahead_one; rw [show (((0 : Nat) : Int) + 1) = 1 from rfl] at h; omega
    | succ k ih =>
      intro hk h
      by_cases c : n ≤ ahead ((k : Int) + 1)
      · exact ih (by omega) c
      · exact ⟨(k : Int) + 1, by omega, by omega, by omega, by rw [show ((k : Int) + 1 + 1) = (((k + 1 : Nat) : Int) + 1) from by omega]; exact h⟩
  obtain ⟨y, y1, y2, y3, y4⟩ := hy 9999 (by omega) (by have := ahead_max; rw [show (((9999 : Nat) : Int) + 1) = 10000 from rfl]; omega)
  have hm : ∀ k : Nat, k ≤ 12 → n - ahead y ≤ cum y ((k : Int) + 1) → ∃ m, 1 ≤ m ∧ m ≤ 12 ∧ cum y m < n - ahead y ∧ n - ahead y ≤ cum y m + len y m := by
    intro k
    induction k with
    | zero => intro _ h; rw [show (((0 : Nat) : Int) + 1) = 1 from rfl, cum_one] at h; omega
    | succ k ih =>
      intro hk h
      by_cases c : n - ahead y ≤ cum y ((k : Int) + 1)
      · exact ih (by omega) c
      · refine ⟨(k : Int) + 1, by omega, by omega, by omega, ?_⟩
        rw [show (((k + 1 : Nat) : Int) + 1) = (k : Int) + 1 + 1 from by omega, cum_succ y _ (by omega)] at h; exact h
  have := ahead_succ y y1 y2; have c13 := cum_13 y y1 y2
  obtain ⟨m, m1, m2, m3, m4⟩ := hm 12 (by omega) (by rw [show (((12 : Nat) : Int) + 1) = 13 from rfl]; omega)
  exact ⟨y, m, _, isDate_of n y m y1 y2 m1 m2 m3 m4⟩
/-- a number clamped, as Years does it -/
def clamp (n : Int) : Int := if n < -10000 then -10000 else if 10000 < n then 10000 else n
theorem clamp_lo (n : Int) (h : n < -10000) : clamp n = -10000 := by unfold clamp; rw [if_pos h]
theorem clamp_hi (n : Int) (h : 10000 < n) : clamp n = 10000 := by unfold clamp; rw [if_neg (by omega), if_pos h]
theorem clamp_mid (n : Int) (h : -10000 ≤ n) (h' : n ≤ 10000) : clamp n = n := by unfold clamp; rw [if_neg (by omega), if_neg (by omega)]
theorem addIs_big (a n : Int) (h : n < -119988 ∨ 119988 < n) : AddIs a n 0 15 := by
  refine .inr ⟨rfl, rfl, ?_⟩
  rintro ⟨y', m', d', k1, k2⟩
  obtain ⟨⟨h1, h2, h3, h4, _, _⟩, _⟩ := k1
  have := mk_bd y' m' h1 h2 h3 h4
  unfold InM at k2; omega

/-- n is how many whole months lie from a to b, a not behind b -/
def IsBtw (a b n : Int) : Prop := 0 ≤ n ∧ n ≤ 119988 ∧ (∃ x, AddIs a n x 0 ∧ x ≤ b) ∧ ∀ n' x, n < n' → AddIs a n' x 0 → b < x
theorem isBtw_uniq (a b n n' : Int) (h : IsBtw a b n) (h' : IsBtw a b n') : n = n' := by
  obtain ⟨_, _, ⟨x, h1, h2⟩, h3⟩ := h; obtain ⟨_, _, ⟨x', k1, k2⟩, k3⟩ := h'
  rcases Int.lt_trichotomy n n' with g | g | g
  · have := h3 n' x' g k1; omega
  · exact g
  · have := k3 n x g h1; omega
theorem addIs_val (a n x y m d : Int) (h : IsDate a y m d) (h' : AddIs a n x 0) : InM (mk y m + n) ∧ x = mv (mk y m + n) d := by
  rcases h' with ⟨y', m', d', h1, h2, rfl, _⟩ | ⟨_, h2, _⟩
  · obtain ⟨rfl, rfl, rfl⟩ := isDate_uniq _ _ _ _ _ _ _ h h1; exact ⟨h2, rfl⟩
  · omega
theorem isBtw_of (a b y m d z k l : Int) (h : IsDate a y m d) (h' : IsDate b z k l) (hab : a ≤ b) :
    IsBtw a b (if b < mv (mk z k) d then mk z k - mk y m - 1 else mk z k - mk y m) := by
  have hle := mk_le a b y m d z k l h h' hab
  obtain ⟨⟨h1, h2, h3, h4, h5, h6⟩, _⟩ := id h; obtain ⟨⟨k1, k2, k3, k4, k5, k6⟩, _⟩ := id h'
  have i1 := mk_in y m h1 h2 h3 h4; have i2 := mk_in z k k1 k2 k3 k4
  have b1 := mk_bd y m h1 h2 h3 h4; have b2 := mk_bd z k k1 k2 k3 k4
  split
  · rename_i hb
    have hne : mk y m ≠ mk z k := by
      intro e
      have := mv_self a y m d h
      rw [e] at this; omega
    have e1 : mk y m + (mk z k - mk y m - 1) = mk z k - 1 := by omega
    have i3 : InM (mk z k - 1) := ⟨by omega, by omega⟩
    refine ⟨by omega, by omega, ⟨_, addIs_in a _ y m d h (by rw [e1]; exact i3), ?_⟩, ?_⟩
    · rw [e1]
      have := mv_ahead b z k l (mk z k - 1) d h' i3 (by omega); omega
    · intro n' x hn hx
      obtain ⟨j1, rfl⟩ := addIs_val a n' x y m d h hx
      by_cases c : mk y m + n' = mk z k
      · rw [c]; exact hb
      · exact mv_behind b z k l _ d h' j1 (by omega) h5
  · rename_i hb
    have e1 : mk y m + (mk z k - mk y m) = mk z k := by omega
    refine ⟨by omega, by omega, ⟨_, addIs_in a _ y m d h (by rw [e1]; exact i2), by rw [e1]; omega⟩, ?_⟩
    intro n' x hn hx
    obtain ⟨j1, rfl⟩ := addIs_val a n' x y m d h hx
    exact mv_behind b z k l _ d h' j1 (by omega) h5
/-- the same either way round -/
def BtwS (a b n : Int) : Prop := (a ≤ b ∧ IsBtw a b n) ∨ (b < a ∧ IsBtw b a (-n))
theorem btwS_uniq (a b n n' : Int) (h : BtwS a b n) (h' : BtwS a b n') : n = n' := by
  rcases h with ⟨h1, h2⟩ | ⟨h1, h2⟩ <;> rcases h' with ⟨k1, k2⟩ | ⟨k1, k2⟩
  · exact isBtw_uniq _ _ _ _ h2 k2
  · omega
  · omega
  · have := isBtw_uniq _ _ _ _ h2 k2; omega

/-- all that MonthsBack asks, in one place -/
theorem back_facts (a n x y m d : Int) (h : IsDate a y m d) (hx : AddIs a n x 0) :
    ∃ z o l M B : Int, IsDate x z o l ∧ z * 12 + o = y * 12 + m + n ∧ l = mn d (len z o) ∧ mst (mk z o) = M ∧ mlen (mk z o) = len z o ∧ x = M + l ∧ 1 ≤ l ∧ l ≤ len z o ∧
      InM (mk z o + -n) ∧ mv (mk z o + -n) l = B ∧ (d ≤ 28 → B = a) ∧ 0 ≤ M ∧ M ≤ 3652059 ∧ 1 ≤ y ∧ y ≤ 9999 ∧ 1 ≤ m ∧ m ≤ 12 ∧ 1 ≤ z ∧ z ≤ 9999 ∧ 1 ≤ o ∧ o ≤ 12 ∧ 1 ≤ d ∧ -120000 ≤ n ∧ n ≤ 120000 := by
  obtain ⟨hj, rfl⟩ := addIs_val a n x y m d h hx
  obtain ⟨⟨h1, h2, h3, h4, h5, h6⟩, _⟩ := id h
  have i := mk_bd y m h1 h2 h3 h4
  have hd := isDate_mv (mk y m + n) d hj h5
  obtain ⟨a1, a2⟩ := yOf_bd _ hj; obtain ⟨a3, a4⟩ := mOf_bd (mk y m + n)
  have e : mk (yOf (mk y m + n)) (mOf (mk y m + n)) = mk y m + n := by unfold mk yOf mOf; omega
  obtain ⟨_, b2, b3, b4⟩ := isDate_mst _ _ _ _ hd
  have bd := isDate_bd _ _ _ _ hd
  have ml := mlen_bd _ hj
  refine ⟨_, _, _, _, _, hd, ?_, rfl, rfl, by rw [e]; rfl, b2, b3, by rw [e] at b4; exact b4, ?_, rfl, ?_, ?_, ?_, h1, h2, h3, h4, a1, a2, a3, a4, h5, ?_, ?_⟩
  · have e' := e; unfold mk at e'; unfold mk; omega
  · rw [e]; unfold InM at hj ⊢; omega
  · intro h28
    rw [e, show mk y m + n + -n = mk y m from by omega]
    have : mn d (mlen (mk y m + n)) = d := by unfold mn; rw [if_pos (by omega)]
    rw [this]; exact mv_self a y m d h
  · rw [e]; have q1 := mst_le 0 (mk y m + n) (by omega) hj.1 (by have := hj.2; omega)
    have q2 : mst 0 = 0 := by decide
    omega
  · omega
  · unfold InM at hj; omega
  · unfold InM at hj; omega
end Go.Proofs.Ytngelemjpgglpaa.Cal
/-
  A period's months, plain.
-/
namespace Go.Proofs.Ytngelemjpgglpaa.Cal
open Classical in
/-- the last day of a day's month -/
noncomputable def endOf (n : Int) : Int := if h : ∃ p : Int × Int × Int, IsDate n p.1 p.2.1 p.2.2 then mst (mk h.choose.1 h.choose.2.1) + mlen (mk h.choose.1 h.choose.2.1) else n
theorem endOf_is {n y m d : Int} (h : IsDate n y m d) : endOf n = mst (mk y m) + mlen (mk y m) := by
  have hx : ∃ p : Int × Int × Int, IsDate n p.1 p.2.1 p.2.2 := ⟨(y, m, d), h⟩
  unfold endOf
  rw [dif_pos hx]
  obtain ⟨e1, e2, _⟩ := isDate_uniq _ _ _ _ _ _ _ h hx.choose_spec
  rw [← e1, ← e2]
theorem endOf_bd {n : Int} (h1 : 1 ≤ n) (h2 : n ≤ 3652059) : n ≤ endOf n ∧ endOf n ≤ n + 30 := by
  obtain ⟨y, m, d, h⟩ := isDate_ex n h1 h2
  obtain ⟨j1, j2, j3, j4⟩ := isDate_mst n y m d h
  have := mlen_bd _ j1
  rw [endOf_is h]; omega
/-- a later day of the month -/
theorem endOf_same {n x : Int} (h1 : 1 ≤ n) (h2 : n ≤ 3652059) (hx : n < x) (hx2 : x ≤ endOf n) : ∃ y m d, IsDate x y m d ∧ d ≠ 1 := by
  obtain ⟨y, m, d, h⟩ := isDate_ex n h1 h2
  obtain ⟨j1, j2, j3, j4⟩ := isDate_mst n y m d h
  rw [endOf_is h] at hx2
  have k := isDate_mk (mk y m) (x - mst (mk y m)) j1 (by omega) (by omega)
  rw [show mst (mk y m) + (x - mst (mk y m)) = x by omega] at k
  exact ⟨_, _, _, k, by omega⟩
/-- the day behind it is a first one -/
theorem endOf_next {n : Int} (h1 : 1 ≤ n) (h2 : n ≤ 3652059) (h3 : endOf n + 1 ≤ 3652059) : ∃ y m, IsDate (endOf n + 1) y m 1 := by
  obtain ⟨y, m, d, h⟩ := isDate_ex n h1 h2
  obtain ⟨j1, j2, j3, j4⟩ := isDate_mst n y m d h
  rw [endOf_is h] at h3 ⊢
  have s := mst_succ _ j1
  have hin : InM (mk y m + 1) := by
    unfold InM at *
    refine ⟨by omega, ?_⟩
    by_cases hc : mk y m + 1 < 119988
    · exact hc
    · exfalso
      have e : mk y m + 1 = 119988 := by omega
      rw [e] at s
      have e2 : mst 119988 = 3652059 := by decide
      omega
  have l := mlen_bd _ hin
  have k := isDate_mk _ 1 hin (by omega) (by omega)
  rw [s] at k
  exact ⟨_, _, k⟩
noncomputable def it (a z : Int) : Nat → Int
  | 0 => a
  | k + 1 => min (endOf (it a z k) + 1) z
section
variable {a z : Int} (h1 : 1 ≤ a) (h2 : a < z) (h3 : z ≤ 3652060)
include h1 h2 h3
theorem it_bd (k : Nat) : a ≤ it a z k ∧ it a z k ≤ z := by
  induction k with
  | zero => exact ⟨Int.le_refl _, by show a ≤ z; omega⟩
  | succ k ih =>
    show a ≤ min (endOf (it a z k) + 1) z ∧ min (endOf (it a z k) + 1) z ≤ z
    by_cases e : it a z k = z
    · by_cases hz : z ≤ 3652059
      · have := endOf_bd (n := it a z k) (by omega) (by omega); omega
      · have : endOf (it a z k) = it a z k := by
          unfold endOf
          rw [dif_neg]
          rintro ⟨p, hp⟩
          have := isDate_bd _ _ _ _ hp
          omega
        omega
    · have := endOf_bd (n := it a z k) (by omega) (by omega); omega
theorem it_step (k : Nat) (h : it a z k < z) : it a z k < it a z (k + 1) ∧ it a z (k + 1) ≤ it a z k + 31 := by
  have b := it_bd h1 h2 h3 k
  have := endOf_bd (n := it a z k) (by omega) (by omega)
  show _ < min (endOf (it a z k) + 1) z ∧ min (endOf (it a z k) + 1) z ≤ _
  omega
theorem it_hi (k : Nat) : it a z k ≤ a + 31 * k := by
  induction k with
  | zero => show a ≤ a + 31 * ((0 : Nat) : Int); omega
  | succ k ih =>
    by_cases h : it a z k < z
    · have := (it_step h1 h2 h3 k h).2; omega
    · have := (it_bd h1 h2 h3 k).2; have := (it_bd h1 h2 h3 (k + 1)).2; omega
end
/-- the first k months of a period, and their days -/
noncomputable def parts (a z : Int) (k : Nat) : List (Int × Int) := (List.range k).map fun i => (it a z i, it a z (i + 1))
noncomputable def days (a z : Int) (k : Nat) : List Int := (List.range k).map fun i => it a z (i + 1) - it a z i
theorem parts_succ (a z : Int) (k : Nat) : parts a z (k + 1) = parts a z k ++ [(it a z k, it a z (k + 1))] := by unfold parts; rw [List.range_succ, List.map_append]; rfl
theorem days_succ (a z : Int) (k : Nat) : days a z (k + 1) = days a z k ++ [it a z (k + 1) - it a z k] := by unfold days; rw [List.range_succ, List.map_append]; rfl
theorem parts_len (a z : Int) (k : Nat) : (parts a z k).length = k := by simp [parts]
theorem days_len (a z : Int) (k : Nat) : (days a z k).length = k := by simp [days]
end Go.Proofs.Ytngelemjpgglpaa.Cal
