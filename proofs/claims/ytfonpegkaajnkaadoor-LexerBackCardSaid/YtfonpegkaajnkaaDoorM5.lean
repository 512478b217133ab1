/-
  The document's reading of a number, plain: byte by byte; A number's text is read as that number; plain.
-/
import Derived.Test.YtfonpegkaajnkaaDoorM4
/-
  The document's reading of a number, plain: byte by byte.
-/
namespace Go.Proofs.YtfonpegkaajnkaaDoor.Tx
open Go Dt

/-- the digits so far, without the point -/
def dropDot (l : List UInt8) : List UInt8 := l.filter (fun c => c != 46)
/-- reading so far: at: bytes of the body read; pt: the point's place (in the body) if one was met -/
structure Rd (t : List UInt8) (k : Nat) (pt : Option Nat) (v : Nat) : Prop where
  no : pt = none → (t.take k).all isDg = true ∧ v = val (t.take k)
  yes : ∀ p, pt = some p → p < k ∧ 0 < p ∧ t[p]? = some 46 ∧ (t.take p).all isDg = true ∧ ((t.take k).drop (p + 1)).all isDg = true ∧ v = val (t.take p ++ (t.take k).drop (p + 1))
theorem Rd.start (t : List UInt8) : Rd t 0 none 0 := ⟨fun _ => ⟨rfl, rfl⟩, fun _ h => by cases h⟩
theorem Rd.dig {t : List UInt8} {k v : Nat} {pt : Option Nat} (h : Rd t k pt v) {c : UInt8} (hc : t[k]? = some c) (hd : isDg c = true) : Rd t (k + 1) pt (v * 10 + dv c) := by
  have hk : k < t.length := (List.getElem?_eq_some_iff.1 hc).1
  have e : t.take (k + 1) = t.take k ++ [c] := by rw [List.take_add_one, hc]; rfl
  refine ⟨fun hp => ?_, fun p hp => ?_⟩
  · obtain ⟨a, b⟩ := h.no hp
    rw [e]
    exact ⟨by rw [List.all_append, a]; simp [hd], by rw [val_snoc, b]⟩
  · obtain ⟨a1, a2, a3, a4, a5, a6⟩ := h.yes p hp
    have e2 : (t.take (k + 1)).drop (p + 1) = (t.take k).drop (p + 1) ++ [c] := by
      rw [e, List.drop_append_of_le_length (by rw [List.length_take]; omega)]
    refine ⟨by omega, a2, a3, a4, ?_, ?_⟩
    · rw [e2, List.all_append, a5]; simp [hd]
    · rw [e2, ← List.append_assoc, val_snoc, a6]
theorem Rd.dot {t : List UInt8} {k v : Nat} (h : Rd t k none v) (hc : t[k]? = some 46) (hk : 0 < k) : Rd t (k + 1) (some k) v := by
  have hl : k < t.length := (List.getElem?_eq_some_iff.1 hc).1
  obtain ⟨a, b⟩ := h.no rfl
  have e : (t.take (k + 1)).drop (k + 1) = [] := List.drop_eq_nil_of_le (by rw [List.length_take]; omega)
  refine ⟨fun hp => (by cases hp), fun p hp => ?_⟩
  cases hp
  refine ⟨by omega, hk, hc, a, by rw [e]; rfl, ?_⟩
  rw [e, List.append_nil, b]
theorem cutP_cases2 (l : List UInt8) : (cutP l = (l, [], false) ∧ ∀ j : Nat, l[j]? ≠ some 46) ∨ ∃ i : Nat, cutP l = (l.take i, l.drop (i + 1), true) ∧ i < l.length ∧ l[i]? = some 46 ∧ ∀ j : Nat, j < i → l[j]? ≠ some 46 := by
  rcases cutP_cases l with e | h
  · refine .inl ⟨e, fun j k => ?_⟩
    have hj : j < l.length := (List.getElem?_eq_some_iff.1 k).1
    unfold cutP Lib.cut at e
    rcases Lib.index_spec l [46] with ⟨h, ho⟩ | ⟨i, h, hi, ho, hn⟩
    · have := ho j (by omega)
      rw [Lib.occAt_iff_take l [46] j (by show j + 1 ≤ _; omega), List.length_singleton, List.take_one, List.head?_drop, k] at this
      simp at this
    · rw [h, if_pos (by omega)] at e
      simp at e
  · exact .inr h
theorem dg_no {c : UInt8} (h : isDg c = true) : c ≠ 46 := by rintro rfl; simp [isDg] at h
theorem cutP_none {t : List UInt8} (h : t.all isDg = true) : cutP t = (t, [], false) := by
  rcases cutP_cases2 t with ⟨e, _⟩ | ⟨i, _, _, k, _⟩
  · exact e
  · exact absurd rfl (dg_no (List.all_eq_true.1 h 46 (List.mem_of_getElem? k)))
theorem cutP_some {t : List UInt8} {p : Nat} (h : (t.take p).all isDg = true) (hp : t[p]? = some 46) : cutP t = (t.take p, t.drop (p + 1), true) := by
  rcases cutP_cases2 t with ⟨_, k⟩ | ⟨i, e, _, k, kn⟩
  · exact absurd hp (k p)
  · have : i = p := by
      rcases Nat.lt_trichotomy i p with g | g | g
      · have : (t.take p)[i]? = some 46 := by rw [List.getElem?_take, if_pos g]; exact k
        exact absurd rfl (dg_no (List.all_eq_true.1 h 46 (List.mem_of_getElem? this)))
      · exact g
      · exact absurd hp (kn p g)
    subst this; exact e
theorem digs_false {l : List UInt8} {c : UInt8} (h : c ∈ l) (hc : isDg c = false) : digs l = false := by
  unfold digs
  have : l.all isDg = false := by
    cases e : l.all isDg
    · rfl
    · rw [List.all_eq_true.1 e c h] at hc; cases hc
  rw [this, Bool.and_false]
theorem bad_form {l : List UInt8} (h21 : ¬ 21 < l.length) (h : wBad (cutP (body l)).1 = true ∨ ((cutP (body l)).2.2 = true ∧ rBad (cutP (body l)).2.1 = true) ∨ l = [45, 48]) : dparse l = ((0, 0), 4) := by
  unfold dparse; rw [if_neg h21, if_pos h]
theorem wBad_of {v : List UInt8} (h : digs v = false) : wBad v = true := by unfold wBad; rw [h]; rfl
theorem rBad_of {v : List UInt8} (h : digs v = false) : rBad v = true := by unfold rBad; rw [h]; rfl
/-- a byte that may not stand there -/
theorem Rd.bad {l : List UInt8} {k v : Nat} {pt : Option Nat} (h21 : ¬ 21 < l.length) (h : Rd (body l) k pt v) {c : UInt8} (hc : (body l)[k]? = some c) (hd : isDg c = false) (hdot : ¬ (c = 46 ∧ pt = none ∧ 0 < k)) : dparse l = ((0, 0), 4) := by
  apply bad_form h21
  have hk : k < (body l).length := (List.getElem?_eq_some_iff.1 hc).1
  cases pt with
  | none =>
    obtain ⟨a, _⟩ := h.no rfl
    by_cases c46 : c = 46
    · subst c46
      have k0 : k = 0 := by
        rcases Nat.eq_zero_or_pos k with g | g
        · exact g
        · exact absurd ⟨rfl, rfl, g⟩ hdot
      subst k0
      rw [cutP_some a hc]
      exact .inl rfl
    · left
      rcases cutP_cases2 (body l) with ⟨e, _⟩ | ⟨i, e, _, k1, k2⟩
      · rw [e]; exact wBad_of (digs_false (List.mem_of_getElem? hc) hd)
      · rw [e]
        have : k < i := by
          rcases Nat.lt_trichotomy k i with g | g | g
          · exact g
          · subst g; rw [hc] at k1; cases k1; exact absurd rfl c46
          · have : ((body l).take k)[i]? = some 46 := by rw [List.getElem?_take, if_pos g]; exact k1
            exact absurd rfl (dg_no (List.all_eq_true.1 a 46 (List.mem_of_getElem? this)))
        exact wBad_of (digs_false (c := c) (List.mem_of_getElem? (i := k) (by rw [List.getElem?_take, if_pos this]; exact hc)) hd)
  | some p =>
    obtain ⟨a1, a2, a3, a4, a5, a6⟩ := h.yes p rfl
    right; left
    rw [cutP_some a4 a3]
    refine ⟨rfl, rBad_of (digs_false (c := c) (List.mem_of_getElem? (i := k - (p + 1)) ?_) hd)⟩
    rw [List.getElem?_drop, show p + 1 + (k - (p + 1)) = k by omega]; exact hc
end Go.Proofs.YtfonpegkaajnkaaDoor.Tx
/-
  A number's text is read as that number; plain.
-/
namespace Go.Proofs.YtfonpegkaajnkaaDoor.Tx
open Go Dt

theorem lt_pow_len (a s : Nat) : a < 10 ^ lenT a s := by
  have b := (dd_bounds a a (Nat.le_refl _)).1
  exact Nat.lt_of_lt_of_le b (Nat.pow_le_pow_right (by decide) (Nat.le_max_right _ _))
theorem head_ne {a s : Nat} (h : 1 < lenT a s - s) : a / 10 ^ (lenT a s - 1) % 10 ≠ 0 := by
  have e : lenT a s = (Lib.decDigits a).length := by unfold lenT at h ⊢; omega
  have b := dd_bounds a a (Nat.le_refl _)
  rw [e] at h ⊢
  rcases b.2 with k | k
  · omega
  · have p : 0 < 10 ^ ((Lib.decDigits a).length - 1) := Nat.pow_pos (by decide)
    have h1 : 1 ≤ a / 10 ^ ((Lib.decDigits a).length - 1) := (Nat.le_div_iff_mul_le p).2 (by omega)
    have h2 : a / 10 ^ ((Lib.decDigits a).length - 1) < 10 := by
      rw [Nat.div_lt_iff_lt_mul p, Nat.mul_comm, ← Nat.pow_succ]
      rw [show ((Lib.decDigits a).length - 1).succ = (Lib.decDigits a).length by omega]
      exact b.1
    omega
theorem dg_48 {n : Nat} (h : n % 10 ≠ 0) : dg n ≠ 48 := fun k => h (by have := congrArg UInt8.toNat k; rw [dg_nat] at this; simp at this; omega)
theorem dg_45 (n : Nat) : dg n ≠ 45 := fun k => by have := dg_is n; rw [k] at this; simp [isDg] at this
theorem refT_head (a s : Nat) : ∃ r, refT a s (lenT a s) = dg (a / 10 ^ (lenT a s - 1)) :: r := by
  have g := lenT_gt a s
  obtain ⟨k, hk⟩ : ∃ k, lenT a s = k + 1 := ⟨lenT a s - 1, by omega⟩
  rw [hk, refT_step, Nat.add_sub_cancel]
  exact ⟨_, rfl⟩
theorem body_dtxt (C : Int) (D : Nat) : body (dtxt C D) = refT C.natAbs D (lenT C.natAbs D) ∧ neg (dtxt C D) = decide (C < 0) := by
  obtain ⟨r, hr⟩ := refT_head C.natAbs D
  unfold dtxt
  rw [hr]
  by_cases h : C < 0
  · have e : decide (C < 0) = true := by simpa using h
    rw [e]; unfold sgn body neg; simp
  · have e : decide (C < 0) = false := by simpa using h
    rw [e]; unfold sgn body neg
    simp [dg_45]
theorem lowD_digs (n k : Nat) (h : 0 < k) : digs (lowD n k) = true := by
  unfold digs
  rw [(val_low n k).1]
  cases k with
  | zero => omega
  | succ k => rfl
theorem lowD_last (n k : Nat) (h : 0 < k) : (lowD n k).getLast? = some (dg n) := by
  cases k with
  | zero => omega
  | succ k => rw [lowD_one]; simp
theorem lowD_head (n k : Nat) (h : 0 < k) : (lowD n k).head? = some (dg (n / 10 ^ (k - 1))) := by
  cases k with
  | zero => omega
  | succ k => rfl
/-- its parts -/
theorem cut_refT (a D : Nat) : ∃ v r : List UInt8, cutP (refT a D (lenT a D)) = (v, r, decide (0 < D)) ∧ v = lowD (a / 10 ^ D) (lenT a D - D) ∧ r = lowD a D ∧ v ++ r = lowD a (lenT a D) := by
  have g := lenT_gt a D
  have e := lowD_add a (lenT a D - D) D
  rw [show lenT a D - D + D = lenT a D by omega] at e
  by_cases h0 : D = 0
  · subst h0
    refine ⟨lowD a (lenT a 0), [], ?_, by simp, rfl, by simp⟩
    rw [refT_lo (.inl rfl), cutP_none (val_low _ _).1]; rfl
  · refine ⟨_, _, ?_, rfl, rfl, e.symm⟩
    rw [refT_hi (by omega)]
    have hl := lowD_len (a / 10 ^ D) (lenT a D - D)
    rw [cutP_some (p := lenT a D - D) (by rw [List.take_left' hl]; exact (val_low _ _).1) (by rw [List.getElem?_append_right (by rw [hl]; exact Nat.le_refl _), hl, Nat.sub_self]; rfl), List.take_left' hl]
    have : (lowD (a / 10 ^ D) (lenT a D - D) ++ 46 :: lowD a D).drop (lenT a D - D + 1) = lowD a D := by
      rw [← List.drop_drop, List.drop_left' hl]; rfl
    rw [this]
    simp; omega
theorem lenT_le {a D : Nat} (ha : a ≤ 9223372036854775808) (hD : D ≤ 9) : lenT a D ≤ 19 := by
  unfold lenT; have := (show (Lib.decDigits a).length ≤ 19 from by
    have b := (dd_bounds a a (Nat.le_refl _)).2
    rcases b with e | e
    · omega
    · rcases Nat.lt_or_ge 19 (Lib.decDigits a).length with g | g
      · have := Nat.pow_le_pow_right (n := 10) (by decide) (show 19 ≤ (Lib.decDigits a).length - 1 by omega)
        omega
      · exact g)
  omega
theorem refT_len (a D : Nat) : (refT a D (lenT a D)).length ≤ lenT a D + 1 := by
  have g := lenT_gt a D
  unfold refT
  split
  · rw [lowD_len]; omega
  · rw [List.length_append, List.length_cons, lowD_len, lowD_len]; omega
/-- a canonical number's text is read as that number -/
theorem read_back (C : Int) (D : Nat) (hC : Fit C) (hD : D ≤ 9) (hcan : D = 0 ∨ C % 10 ≠ 0) : dparse (dtxt C D) = ((C, (D : Int)), 0) := by
  obtain ⟨hb, hn⟩ := body_dtxt C D
  have ha : C.natAbs ≤ 9223372036854775808 := by unfold Fit at hC; omega
  obtain ⟨v, r, hc, hv, hr, hvr⟩ := cut_refT C.natAbs D
  have g := lenT_gt C.natAbs D
  have lt := lt_pow_len C.natAbs D
  have hval : val (v ++ r) = C.natAbs := by rw [hvr, (val_low _ _).2, Nat.mod_eq_of_lt lt]
  have hlen : ¬ 21 < (dtxt C D).length := by
    unfold dtxt
    rw [List.length_append]
    have h1 := refT_len C.natAbs D
    have h2 := lenT_le ha hD
    have h3 : (sgn (decide (C < 0))).length ≤ 1 := by unfold sgn; split <;> simp
    omega
  have hw : wBad v = false := by
    unfold wBad
    rw [hv, lowD_digs _ _ (by omega), lowD_len, lowD_head _ _ (by omega)]
    by_cases h1 : 1 < lenT C.natAbs D - D
    · have := dg_48 (head_ne h1)
      rw [Nat.div_div_eq_div_mul, ← Nat.pow_add, show D + (lenT C.natAbs D - D - 1) = lenT C.natAbs D - 1 by omega]
      simp [this]
    · simp [h1]
  have hr' : ¬ (decide (0 < D) = true ∧ rBad r = true) := by
    rintro ⟨h1, h2⟩
    have h0 : 0 < D := of_decide_eq_true h1
    unfold rBad at h2
    rw [hr, lowD_digs _ _ h0, lowD_len, lowD_last _ _ h0] at h2
    have := dg_48 (n := C.natAbs) (by rcases hcan with k | k <;> omega)
    simp [this] at h2
    omega
  have h48 : dtxt C D ≠ [45, 48] := fun e => by
    have hb' := hb
    rw [e] at hb'
    have e2 : refT C.natAbs D (lenT C.natAbs D) = [48] := hb'.symm
    rw [e2] at hc
    have : cutP [48] = ([48], [], false) := by decide
    rw [this] at hc
    simp only [Prod.mk.injEq] at hc
    obtain ⟨hc1, hc2, _⟩ := hc
    rw [← hc1, ← hc2] at hval
    have n0 : C.natAbs = 0 := by rw [← hval]; decide
    rw [e] at hn
    have : neg [45, 48] = true := by decide
    rw [this] at hn
    have := of_decide_eq_true hn.symm
    omega
  unfold dparse
  rw [if_neg hlen, hb, hc]
  dsimp only
  rw [if_neg (by rw [hw]; rintro (k | k | k); exact Bool.noConfusion k; exact hr' k; exact h48 k), hval, hn]
  have hs : sg (decide (C < 0)) C.natAbs = C := by unfold sg; by_cases h : C < 0 <;> simp [h] <;> omega
  rw [hs, if_pos hC, hr, lowD_len]
end Go.Proofs.YtfonpegkaajnkaaDoor.Tx
