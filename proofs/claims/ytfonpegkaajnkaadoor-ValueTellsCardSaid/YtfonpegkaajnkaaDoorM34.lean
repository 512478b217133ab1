/-
  A text that is read is that number's text; plain; With a sign more, a nought ahead, a blank behind: none; plain.
-/
import Derived.Test.YtfonpegkaajnkaaDoorM33
/-
  A text that is read is that number's text; plain.
-/
namespace Go.Proofs.YtfonpegkaajnkaaDoor.Tx
open Go Dt

/-- what a text that is read looks like -/
theorem read_parts {l : List UInt8} {c d : Int} (h : dparse l = ((c, d), 0)) : ∃ v r : List UInt8, ∃ p : Bool, cutP (body l) = (v, r, p) ∧ l.length ≤ 21 ∧ wBad v = false ∧ (p = true → rBad r = false) ∧ l ≠ [45, 48] ∧ c = sg (neg l) (val (v ++ r)) ∧ d = (r.length : Int) ∧ Fit c ∧ (p = false → r = []) := by
  unfold dparse at h
  split at h
  · simp at h
  · rename_i h21
    split at h
    · simp at h
    · rename_i hb
      split at h
      · rename_i hf
        simp only [Prod.mk.injEq, and_true] at h
        obtain ⟨rfl, rfl⟩ := h
        refine ⟨(cutP (body l)).1, (cutP (body l)).2.1, (cutP (body l)).2.2, rfl, by omega, ?_, ?_, ?_, rfl, rfl, hf, ?_⟩
        · cases e : wBad (cutP (body l)).1
          · rfl
          · exact absurd (.inl e) hb
        · intro hp
          cases e : rBad (cutP (body l)).2.1
          · rfl
          · exact absurd (.inr (.inl ⟨hp, e⟩)) hb
        · exact fun e => hb (.inr (.inr e))
        · intro hp
          rcases cutP_cases2 (body l) with ⟨e, _⟩ | ⟨i, e, _⟩
          · rw [e]
          · rw [e] at hp; cases hp
      · simp at h
theorem body_back (l : List UInt8) : l = sgn (neg l) ++ body l := by
  unfold sgn neg body
  cases l with
  | nil => rfl
  | cons c r =>
    by_cases h : c = 45
    · subst h; simp
    · simp [h]
theorem cut_back {t v r : List UInt8} {p : Bool} (h : cutP t = (v, r, p)) : t = if p = true then v ++ 46 :: r else v := by
  rcases cutP_cases2 t with ⟨e, _⟩ | ⟨i, e, hi, hd, _⟩
  · rw [e] at h; cases h; rfl
  · rw [e] at h; cases h
    rw [if_pos rfl]
    have : t.drop i = 46 :: t.drop (i + 1) := by
      rw [List.drop_eq_getElem_cons hi]
      congr 1
      rw [List.getElem?_eq_getElem hi] at hd
      exact Option.some.inj hd
    rw [← this, List.take_append_drop]
theorem valF_eq : ∀ (t : List UInt8) (a : Nat), valF t a = a * 10 ^ t.length + val t
  | [], a => by rw [valF_nil]; simp [val, valF_nil]
  | c :: t, a => by
    rw [valF_cons, valF_eq t, List.length_cons, Nat.pow_succ]
    unfold val
    rw [valF_cons, valF_eq t (0 * 10 + Dt.dv c)]
    unfold val
    rw [Nat.add_mul, Nat.zero_mul, Nat.zero_add, Nat.mul_assoc, Nat.mul_comm 10 (10 ^ t.length)]
    omega
theorem val_cons (c : UInt8) (t : List UInt8) : val (c :: t) = Dt.dv c * 10 ^ t.length + val t := by
  unfold val
  rw [valF_cons, valF_eq]
  unfold val
  rw [Nat.zero_mul, Nat.zero_add]
theorem len_of {a L : Nat} (h1 : a < 10 ^ L) (hL : 1 ≤ L) (h2 : L = 1 ∨ 10 ^ (L - 1) ≤ a) : (Lib.decDigits a).length = L := by
  have b := dd_bounds a a (Nat.le_refl _)
  have p := dd_len_pos a
  have up : (Lib.decDigits a).length ≤ L := by
    rcases b.2 with e | e
    · omega
    · rcases Nat.lt_or_ge L (Lib.decDigits a).length with g | g
      · have := Nat.pow_le_pow_right (n := 10) (by decide) (show L ≤ (Lib.decDigits a).length - 1 by omega); omega
      · exact g
  rcases h2 with e | e
  · omega
  · rcases Nat.lt_or_ge (Lib.decDigits a).length L with g | g
    · have := Nat.pow_le_pow_right (n := 10) (by decide) (show (Lib.decDigits a).length ≤ L - 1 by omega); omega
    · omega
theorem dv_pos {c : UInt8} (h : isDg c = true) (h0 : c ≠ 48) : 1 ≤ Dt.dv c := by
  have := (isDg_iff c).1 h
  unfold Dt.dv
  have : c.toNat ≠ 48 := fun e => h0 (UInt8.toNat.inj e)
  omega
/-- digits without a nought ahead: their number has so many digits -/
theorem lenT_digits {v r : List UInt8} (hv : wBad v = false) (hr : r.all isDg = true) : lenT (val (v ++ r)) r.length = (v ++ r).length ∧ (v ++ r).all isDg = true ∧ 1 ≤ v.length := by
  unfold wBad at hv
  rw [Bool.or_eq_false_iff] at hv
  obtain ⟨hd, hh⟩ := hv
  have hd' : digs v = true := by cases e : digs v; rw [e] at hd; cases hd; rfl
  have hall : (v ++ r).all isDg = true := by rw [List.all_append, digs_all hd', hr]; rfl
  have hlt := val_lt _ hall
  cases v with
  | nil => cases hd'
  | cons c t =>
    refine ⟨?_, hall, by simp⟩
    by_cases h1 : 1 < (c :: t).length
    · have hc : c ≠ 48 := fun e => by subst e; rw [show decide (1 < (48 :: t : List UInt8).length) = true from by simpa using h1] at hh; simp at hh
      have hcd : isDg c = true := by simp only [List.cons_append, List.all_cons, Bool.and_eq_true] at hall; exact hall.1
      have := dv_pos hcd hc
      have e := val_cons c (t ++ r)
      have big : 10 ^ (t ++ r).length ≤ val (c :: t ++ r) := by
        rw [List.cons_append, e]
        have := Nat.le_mul_of_pos_left (10 ^ (t ++ r).length) this
        omega
      have ll := len_of hlt (by simp) (.inr (by simpa using big))
      unfold lenT
      rw [ll, List.length_append]
      simp at h1 ⊢; omega
    · have ht : t = [] := by cases t; rfl; simp at h1
      subst ht
      have len : ([c] ++ r).length = r.length + 1 := by simp
      rw [len] at hlt ⊢
      have b := (dd_bounds (val ([c] ++ r)) _ (Nat.le_refl _)).2
      unfold lenT
      have up : (Lib.decDigits (val ([c] ++ r))).length ≤ r.length + 1 := by
        rcases b with e | e
        · omega
        · rcases Nat.lt_or_ge (r.length + 1) (Lib.decDigits (val ([c] ++ r))).length with g | g
          · have := Nat.pow_le_pow_right (n := 10) (by decide) (show r.length + 1 ≤ (Lib.decDigits (val ([c] ++ r))).length - 1 by omega); omega
          · exact g
      omega
theorem rBad_parts {r : List UInt8} (h : rBad r = false) : r.all isDg = true ∧ 0 < r.length ∧ r.length ≤ 9 ∧ val r % 10 ≠ 0 := by
  unfold rBad at h
  rw [Bool.or_eq_false_iff, Bool.or_eq_false_iff] at h
  obtain ⟨⟨hd, h9⟩, hl⟩ := h
  have hd' : digs r = true := by cases e : digs r; rw [e] at hd; cases hd; rfl
  have hne := digs_ne hd'
  have ha := digs_all hd'
  obtain ⟨k, c, rfl⟩ : ∃ k c, r = k ++ [c] := ⟨r.dropLast, r.getLast hne, (List.dropLast_concat_getLast hne).symm⟩
  rw [List.getLast?_concat] at hl
  simp at hl h9
  simp only [List.all_append, List.all_cons, List.all_nil, Bool.and_true, Bool.and_eq_true] at ha
  have := dv_pos ha.2 hl
  have := dv_lt ha.2
  refine ⟨by rw [List.all_append, ha.1]; simp [ha.2], by simp, by simpa using h9, ?_⟩
  rw [val_snoc]; omega
theorem val_app_mod (v r : List UInt8) (h : 0 < r.length) : val (v ++ r) % 10 = val r % 10 := by
  have e : val (v ++ r) = val v * 10 ^ r.length + val r := by
    unfold val; rw [valF_app, valF_eq]; rfl
  rw [e, show r.length = (r.length - 1) + 1 by omega, Nat.pow_succ, ← Nat.mul_assoc]
  omega
theorem read_text {l : List UInt8} {c d : Int} (h : dparse l = ((c, d), 0)) : ∃ D : Nat, d = (D : Int) ∧ D ≤ 9 ∧ Fit c ∧ (D = 0 ∨ c % 10 ≠ 0) ∧ dtxt c D = l := by
  obtain ⟨v, r, p, hc, h21, hw, hr, h48, hcv, hd, hf, hp⟩ := read_parts h
  have hb := cut_back hc
  have hl := body_back l
  have rall : r.all isDg = true := by
    cases p
    · rw [hp rfl]; rfl
    · exact (rBad_parts (hr rfl)).1
  obtain ⟨hlen, hall, hv1⟩ := lenT_digits hw rall
  have hlow := low_val _ hall
  have hD : r.length ≤ 9 ∧ (p = true → 0 < r.length) ∧ (r.length = 0 ∨ val (v ++ r) % 10 ≠ 0) := by
    cases p
    · rw [hp rfl]; exact ⟨by simp, (fun h => by cases h), .inl rfl⟩
    · obtain ⟨_, k1, k2, k3⟩ := rBad_parts (hr rfl)
      exact ⟨k2, fun _ => k1, .inr (by rw [val_app_mod v r k1]; exact k3)⟩
  have habs : c.natAbs = val (v ++ r) := by rw [hcv]; unfold sg; split <;> simp
  have hneg : decide (c < 0) = neg l := by
    rw [hcv]
    cases hn : neg l
    · unfold sg; simp
    · unfold sg
      have pos : val (v ++ r) ≠ 0 := fun e0 => by
        have hr0 : r = [] := by
          rcases hD.2.2 with k | k
          · exact List.length_eq_zero_iff.1 k
          · rw [e0] at k; exact absurd rfl k
        subst hr0
        have hpf : p = false := by cases p; rfl; exact absurd (hD.2.1 rfl) (by simp)
        subst hpf
        rw [List.append_nil] at *
        have : v = [48] := by
          have e := hlow
          rw [e0, lowD_zero] at e
          have hv48 : v.length = 1 := by
            unfold wBad at hw
            rw [Bool.or_eq_false_iff] at hw
            rcases Nat.lt_or_ge 1 v.length with g | g
            · have hh : v.head? = some 48 := by
                rw [← e]
                obtain ⟨q, hq⟩ : ∃ q, v.length = q + 1 := ⟨v.length - 1, by omega⟩
                rw [hq, List.replicate_succ]; rfl
              have h2 := hw.2
              rw [hh] at h2
              simp at h2; omega
            · omega
          rw [hv48] at e
          exact e.symm
        rw [this] at hb
        rw [if_neg (by simp)] at hb
        rw [hn, hb] at hl
        exact h48 hl
      simp; omega
  refine ⟨r.length, hd, hD.1, hf, ?_, ?_⟩
  · rcases hD.2.2 with k | k
    · exact .inl k
    · exact .inr (by omega)
  · unfold dtxt
    rw [hneg, habs, hlen]
    have hrt : refT (val (v ++ r)) r.length (v ++ r).length = body l := by
      rw [hb]
      cases p
      · rw [if_neg (by simp)]
        have := hp rfl
        subst this
        rw [refT_lo (s := ([] : List UInt8).length) (.inl rfl), hlow, List.append_nil]
      · rw [if_pos rfl]
        have h0 := hD.2.1 rfl
        rw [refT_hi (by rw [List.length_append]; omega)]
        have e := lowD_add (val (v ++ r)) v.length r.length
        rw [← List.length_append, hlow] at e
        have := List.append_inj e.symm (by rw [lowD_len])
        rw [List.length_append, Nat.add_sub_cancel, this.1, this.2]
    rw [hrt]
    exact hl.symm
end Go.Proofs.YtfonpegkaajnkaaDoor.Tx
/-
  With a sign more, a nought ahead, a blank behind: none; plain.
-/
namespace Go.Proofs.YtfonpegkaajnkaaDoor.Tx
open Go Dt

theorem wBad_digs {v : List UInt8} (h : wBad v = false) : digs v = true := by
  unfold wBad at h
  rw [Bool.or_eq_false_iff] at h
  cases e : digs v
  · rw [e] at h; cases h.1
  · rfl
/-- the first byte of what is read: a sign or a digit -/
theorem read_head {l : List UInt8} {c d : Int} (h : dparse l = ((c, d), 0)) : ∃ x t, l = x :: t ∧ (x = 45 ∨ isDg x = true) := by
  obtain ⟨v, r, p, hc, _, hw, _⟩ := read_parts h
  have hb := cut_back hc
  have hl := body_back l
  have hd := wBad_digs hw
  cases v with
  | nil => cases hd
  | cons x t =>
    have hx : isDg x = true := by have := digs_all hd; simp only [List.all_cons, Bool.and_eq_true] at this; exact this.1
    obtain ⟨t', ht'⟩ : ∃ t', body l = x :: t' := by
      rw [hb]; cases p
      · exact ⟨t, rfl⟩
      · exact ⟨t ++ 46 :: r, rfl⟩
    rw [ht'] at hl
    cases hn : neg l
    · rw [hn] at hl; exact ⟨x, t', hl, .inr hx⟩
    · rw [hn] at hl; exact ⟨45, x :: t', hl, .inl rfl⟩
theorem plus_none (l : List UInt8) (c d : Int) : dparse (43 :: l) ≠ ((c, d), 0) := fun h => by
  obtain ⟨x, t, e, k⟩ := read_head h
  cases e
  rcases k with k | k
  · cases k
  · simp [isDg] at k
theorem blank_none (l : List UInt8) (c d : Int) : dparse (l ++ [32]) ≠ ((c, d), 0) := fun h => by
  obtain ⟨v, r, p, hc, _, hw, hr, _⟩ := read_parts h
  have hb := cut_back hc
  have hl := body_back (l ++ [32])
  have hv := digs_all (wBad_digs hw)
  have m : (32 : UInt8) ∈ sgn (neg (l ++ [32])) ++ body (l ++ [32]) := by rw [← hl]; simp
  have nd : isDg 32 = false := by decide
  rw [List.mem_append] at m
  rcases m with m | m
  · unfold sgn at m; split at m <;> simp at m
  · rw [hb] at m
    cases p
    · rw [if_neg (by simp)] at m
      have := List.all_eq_true.1 hv _ m; rw [nd] at this; cases this
    · rw [if_pos rfl, List.mem_append, List.mem_cons] at m
      rcases m with m | m | m
      · have := List.all_eq_true.1 hv _ m; rw [nd] at this; cases this
      · cases m
      · have := List.all_eq_true.1 (rBad_parts (hr rfl)).1 _ m; rw [nd] at this; cases this
theorem zero_none {l : List UInt8} {c0 d0 : Int} (h0 : dparse l = ((c0, d0), 0)) (c d : Int) : dparse (48 :: l) ≠ ((c, d), 0) := fun h => by
  obtain ⟨x, t, rfl, k⟩ := read_head h0
  obtain ⟨v, r, p, hc, _, hw, _⟩ := read_parts h
  have hb := cut_back hc
  have hd := wBad_digs hw
  have e : body (48 :: x :: t) = 48 :: x :: t := by unfold body; simp
  rw [e] at hb
  have x46 : x ≠ 46 := by
    rintro rfl
    rcases k with k | k
    · cases k
    · simp [isDg] at k
  cases v with
  | nil => cases hd
  | cons y s =>
    cases s with
    | nil =>
      cases p
      · rw [if_neg (by simp)] at hb; simp at hb
      · rw [if_pos rfl] at hb; simp at hb; exact x46 hb.2.1
    | cons z s =>
      have hy : y = 48 := by
        cases p
        · rw [if_neg (by simp)] at hb; simp at hb; exact hb.1.symm
        · rw [if_pos rfl] at hb; simp at hb; exact hb.1.symm
      subst hy
      unfold wBad at hw
      rw [Bool.or_eq_false_iff] at hw
      simp at hw
end Go.Proofs.YtfonpegkaajnkaaDoor.Tx
