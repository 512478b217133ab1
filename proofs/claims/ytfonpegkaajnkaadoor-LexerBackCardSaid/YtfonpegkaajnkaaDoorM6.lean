/-
  A text that is read is that number's text; plain; With a sign more, a nought ahead, a blank behind: none; plain; The words of a text, plain.
-/
import Derived.Test.YtfonpegkaajnkaaDoorM5
/-
  A text that is read is that number's text; plain.
-/
namespace Go.Proofs.YtfonpegkaajnkaaDoor.Tx
open Go Dt

/-- what a text that is read looks like -/
theorem read_parts {l : List UInt8} {c d : Int} (h : dparse l = ((c, d), 0)) : ∃ v r : List UInt8, ∃ p : Bool, cutP (body l) = (v, r, p) ∧ l.length ≤ 21 ∧ wBad v = false ∧ (p = true → rBad r = false) ∧ l ≠ [45, 48] ∧ c = sg (neg l) (val (v ++ r)) ∧ d = (r.length : Int) ∧ Fit c ∧ (p = false → r = []) := by
  unfold dparse at h
  split at h
  · simp at h
  · rename_i h21
    split at h
    · simp at h
    · rename_i hb
      split at h
      · rename_i hf
        simp only [Prod.mk.injEq, and_true] at h
        obtain ⟨rfl, rfl⟩ := h
        refine ⟨(cutP (body l)).1, (cutP (body l)).2.1, (cutP (body l)).2.2, rfl, by omega, ?_, ?_, ?_, rfl, rfl, hf, ?_⟩
        · cases e : wBad (cutP (body l)).1
          · rfl
          · exact absurd (.inl e) hb
        · intro hp
          cases e : rBad (cutP (body l)).2.1
          · rfl
          · exact absurd (.inr (.inl ⟨hp, e⟩)) hb
        · exact fun e => hb (.inr (.inr e))
        · intro hp
          rcases cutP_cases2 (body l) with ⟨e, _⟩ | ⟨i, e, _⟩
          · rw [e]
          · rw [e] at hp; cases hp
      · simp at h
theorem body_back (l : List UInt8) : l = sgn (neg l) ++ body l := by
  unfold sgn neg body
  cases l with
  | nil => rfl
  | cons c r =>
    by_cases h : c = 45
    · subst h; simp
    · simp [h]
theorem cut_back {t v r : List UInt8} {p : Bool} (h : cutP t = (v, r, p)) : t = if p = true then v ++ 46 :: r else v := by
  rcases cutP_cases2 t with ⟨e, _⟩ | ⟨i, e, hi, hd, _⟩
  · rw [e] at h; cases h; rfl
  · rw [e] at h; cases h
    rw [if_pos rfl]
    have : t.drop i = 46 :: t.drop (i + 1) := by
      rw [List.drop_eq_getElem_cons hi]
      congr 1
      rw [List.getElem?_eq_getElem hi] at hd
      exact Option.some.inj hd
    rw [← this, List.take_append_drop]
theorem valF_eq : ∀ (t : List UInt8) (a : Nat), valF t a = a * 10 ^ t.length + val t
  | [], a => by rw [valF_nil]; simp [val, valF_nil]
  | c :: t, a => by
    rw [valF_cons, valF_eq t, List.length_cons, Nat.pow_succ]
    unfold val
    rw [valF_cons, valF_eq t (0 * 10 + Dt.dv c)]
    unfold val
    rw [Nat.add_mul, Nat.zero_mul, Nat.zero_add, Nat.mul_assoc, Nat.mul_comm 10 (10 ^ t.length)]
    omega
theorem val_cons (c : UInt8) (t : List UInt8) : val (c :: t) = Dt.dv c * 10 ^ t.length + val t := by
  unfold val
  rw [valF_cons, valF_eq]
  unfold val
  rw [Nat.zero_mul, Nat.zero_add]
theorem len_of {a L : Nat} (h1 : a < 10 ^ L) (hL : 1 ≤ L) (h2 : L = 1 ∨ 10 ^ (L - 1) ≤ a) : (Lib.decDigits a).length = L := by
  have b := dd_bounds a a (Nat.le_refl _)
  have p := dd_len_pos a
  have up : (Lib.decDigits a).length ≤ L := by
    rcases b.2 with e | e
    · omega
    · rcases Nat.lt_or_ge L (Lib.decDigits a).length with g | g
      · have := Nat.pow_le_pow_right (n := 10) (by decide) (show L ≤ (Lib.decDigits a).length - 1 by omega); omega
      · exact g
  rcases h2 with e | e
  · omega
  · rcases Nat.lt_or_ge (Lib.decDigits a).length L with g | g
    · have := Nat.pow_le_pow_right (n := 10) (by decide) (show (Lib.decDigits a).length ≤ L - 1 by omega); omega
    · omega
theorem dv_pos {c : UInt8} (h : isDg c = true) (h0 : c ≠ 48) : 1 ≤ Dt.dv c := by
  have := (isDg_iff c).1 h
  unfold Dt.dv
  have : c.toNat ≠ 48 := fun e => h0 (UInt8.toNat.inj e)
  omega
/-- digits without a nought ahead: their number has so many digits -/
theorem lenT_digits {v r : List UInt8} (hv : wBad v = false) (hr : r.all isDg = true) : lenT (val (v ++ r)) r.length = (v ++ r).length ∧ (v ++ r).all isDg = true ∧ 1 ≤ v.length := by
  unfold wBad at hv
  rw [Bool.or_eq_false_iff] at hv
  obtain ⟨hd, hh⟩ := hv
  have hd' : digs v = true := by cases e : digs v; rw [e] at hd; cases hd; rfl
  have hall : (v ++ r).all isDg = true := by rw [List.all_append, digs_all hd', hr]; rfl
  have hlt := val_lt _ hall
  cases v with
  | nil => cases hd'
  | cons c t =>
    refine ⟨?_, hall, by simp⟩
    by_cases h1 : 1 < (c :: t).length
    · have hc : c ≠ 48 := fun e => by subst e; rw [show decide (1 < (48 :: t : List UInt8).length) = true from by simpa using h1] at hh; simp at hh
      have hcd : isDg c = true := by simp only [List.cons_append, List.all_cons, Bool.and_eq_true] at hall; exact hall.1
      have := dv_pos hcd hc
      have e := val_cons c (t ++ r)
      have big : 10 ^ (t ++ r).length ≤ val (c :: t ++ r) := by
        rw [List.cons_append, e]
        have := Nat.le_mul_of_pos_left (10 ^ (t ++ r).length) this
        omega
      have ll := len_of hlt (by simp) (.inr (by simpa using big))
      unfold lenT
      rw [ll, List.length_append]
      simp at h1 ⊢; omega
    · have ht : t = [] := by cases t; rfl; simp at h1
      subst ht
      have len : ([c] ++ r).length = r.length + 1 := by simp
      rw [len] at hlt ⊢
      have b := (dd_bounds (val ([c] ++ r)) _ (Nat.le_refl _)).2
      unfold lenT
      have up : (Lib.decDigits (val ([c] ++ r))).length ≤ r.length + 1 := by
        rcases b with e | e
        · omega
        · rcases Nat.lt_or_ge (r.length + 1) (Lib.decDigits (val ([c] ++ r))).length with g | g
          · have := Nat.pow_le_pow_right (n := 10) (by decide) (show r.length + 1 ≤ (Lib.decDigits (val ([c] ++ r))).length - 1 by omega); omega
          · exact g
      omega
theorem rBad_parts {r : List UInt8} (h : rBad r = false) : r.all isDg = true ∧ 0 < r.length ∧ r.length ≤ 9 ∧ val r % 10 ≠ 0 := by
  unfold rBad at h
  rw [Bool.or_eq_false_iff, Bool.or_eq_false_iff] at h
  obtain ⟨⟨hd, h9⟩, hl⟩ := h
  have hd' : digs r = true := by cases e : digs r; rw [e] at hd; cases hd; rfl
  have hne := digs_ne hd'
  have ha := digs_all hd'
  obtain ⟨k, c, rfl⟩ : ∃ k c, r = k ++ [c] := ⟨r.dropLast, r.getLast hne, (List.dropLast_concat_getLast hne).symm⟩
  rw [List.getLast?_concat] at hl
  simp at hl h9
  simp only [List.all_append, List.all_cons, List.all_nil, Bool.and_true, Bool.and_eq_true] at ha
  have := dv_pos ha.2 hl
  have := dv_lt ha.2
  refine ⟨by rw [List.all_append, ha.1]; simp [ha.2], by simp, by simpa using h9, ?_⟩
  rw [val_snoc]; omega
theorem val_app_mod (v r : List UInt8) (h : 0 < r.length) : val (v ++ r) % 10 = val r % 10 := by
  have e : val (v ++ r) = val v * 10 ^ r.length + val r := by
    unfold val; rw [valF_app, valF_eq]; rfl
  rw [e, show r.length = (r.length - 1) + 1 by omega, Nat.pow_succ, ← Nat.mul_assoc]
  omega
theorem read_text {l : List UInt8} {c d : Int} (h : dparse l = ((c, d), 0)) : ∃ D : Nat, d = (D : Int) ∧ D ≤ 9 ∧ Fit c ∧ (D = 0 ∨ c % 10 ≠ 0) ∧ dtxt c D = l := by
  obtain ⟨v, r, p, hc, h21, hw, hr, h48, hcv, hd, hf, hp⟩ := read_parts h
  have hb := cut_back hc
  have hl := body_back l
  have rall : r.all isDg = true := by
    cases p
    · rw [hp rfl]; rfl
    · exact (rBad_parts (hr rfl)).1
  obtain ⟨hlen, hall, hv1⟩ := lenT_digits hw rall
  have hlow := low_val _ hall
  have hD : r.length ≤ 9 ∧ (p = true → 0 < r.length) ∧ (r.length = 0 ∨ val (v ++ r) % 10 ≠ 0) := by
    cases p
    · rw [hp rfl]; exact ⟨by simp, (fun h => by cases h), .inl rfl⟩
    · obtain ⟨_, k1, k2, k3⟩ := rBad_parts (hr rfl)
      exact ⟨k2, fun _ => k1, .inr (by rw [val_app_mod v r k1]; exact k3)⟩
  have habs : c.natAbs = val (v ++ r) := by rw [hcv]; unfold sg; split <;> simp
  have hneg : decide (c < 0) = neg l := by
    rw [hcv]
    cases hn : neg l
    · unfold sg; simp
    · unfold sg
      have pos : val (v ++ r) ≠ 0 := fun e0 => by
        have hr0 : r = [] := by
          rcases hD.2.2 with k | k
          · exact List.length_eq_zero_iff.1 k
          · rw [e0] at k; exact absurd rfl k
        subst hr0
        have hpf : p = false := by cases p; rfl; exact absurd (hD.2.1 rfl) (by simp)
        subst hpf
        rw [List.append_nil] at *
        have : v = [48] := by
          have e := hlow
          rw [e0, lowD_zero] at e
          have hv48 : v.length = 1 := by
            unfold wBad at hw
            rw [Bool.or_eq_false_iff] at hw
            rcases Nat.lt_or_ge 1 v.length with g | g
            · have hh : v.head? = some 48 := by
                rw [← e]
                obtain ⟨q, hq⟩ : ∃ q, v.length = q + 1 := ⟨v.length - 1, by omega⟩
                rw [hq, List.replicate_succ]; rfl
              have h2 := hw.2
              rw [hh] at h2
              simp at h2; omega
            · omega
          rw [hv48] at e
          exact e.symm
        rw [this] at hb
        rw [if_neg (by simp)] at hb
        rw [hn, hb] at hl
        exact h48 hl
      simp; omega
  refine ⟨r.length, hd, hD.1, hf, ?_, ?_⟩
  · rcases hD.2.2 with k | k
    · exact .inl k
    · exact .inr (by omega)
  · unfold dtxt
    rw [hneg, habs, hlen]
    have hrt : refT (val (v ++ r)) r.length (v ++ r).length = body l := by
      rw [hb]
      cases p
      · rw [if_neg (by simp)]
        have := hp rfl
        subst this
        rw [refT_lo (s := ([] : List UInt8).length) (.inl rfl), hlow, List.append_nil]
      · rw [if_pos rfl]
        have h0 := hD.2.1 rfl
        rw [refT_hi (by rw [List.length_append]; omega)]
        have e := lowD_add (val (v ++ r)) v.length r.length
        rw [← List.length_append, hlow] at e
        have := List.append_inj e.symm (by rw [lowD_len])
        rw [List.length_append, Nat.add_sub_cancel, this.1, this.2]
    rw [hrt]
    exact hl.symm
end Go.Proofs.YtfonpegkaajnkaaDoor.Tx
/-
  With a sign more, a nought ahead, a blank behind: none; plain.
-/
namespace Go.Proofs.YtfonpegkaajnkaaDoor.Tx
open Go Dt

theorem wBad_digs {v : List UInt8} (h : wBad v = false) : digs v = true := by
  unfold wBad at h
  rw [Bool.or_eq_false_iff] at h
  cases e : digs v
  · rw [e] at h; cases h.1
  · rfl
/-- the first byte of what is read: a sign or a digit -/
theorem read_head {l : List UInt8} {c d : Int} (h : dparse l = ((c, d), 0)) : ∃ x t, l = x :: t ∧ (x = 45 ∨ isDg x = true) := by
  obtain ⟨v, r, p, hc, _, hw, _⟩ := read_parts h
  have hb := cut_back hc
  have hl := body_back l
  have hd := wBad_digs hw
  cases v with
  | nil => cases hd
  | cons x t =>
    have hx : isDg x = true := by have := digs_all hd; simp only [List.all_cons, Bool.and_eq_true] at this; exact this.1
    obtain ⟨t', ht'⟩ : ∃ t', body l = x :: t' := by
      rw [hb]; cases p
      · exact ⟨t, rfl⟩
      · exact ⟨t ++ 46 :: r, rfl⟩
    rw [ht'] at hl
    cases hn : neg l
    · rw [hn] at hl; exact ⟨x, t', hl, .inr hx⟩
    · rw [hn] at hl; exact ⟨45, x :: t', hl, .inl rfl⟩
theorem plus_none (l : List UInt8) (c d : Int) : dparse (43 :: l) ≠ ((c, d), 0) := fun h => by
  obtain ⟨x, t, e, k⟩ := read_head h
  cases e
  rcases k with k | k
  · cases k
  · simp [isDg] at k
theorem blank_none (l : List UInt8) (c d : Int) : dparse (l ++ [32]) ≠ ((c, d), 0) := fun h => by
  obtain ⟨v, r, p, hc, _, hw, hr, _⟩ := read_parts h
  have hb := cut_back hc
  have hl := body_back (l ++ [32])
  have hv := digs_all (wBad_digs hw)
  have m : (32 : UInt8) ∈ sgn (neg (l ++ [32])) ++ body (l ++ [32]) := by rw [← hl]; simp
  have nd : isDg 32 = false := by decide
  rw [List.mem_append] at m
  rcases m with m | m
  · unfold sgn at m; split at m <;> simp at m
  · rw [hb] at m
    cases p
    · rw [if_neg (by simp)] at m
      have := List.all_eq_true.1 hv _ m; rw [nd] at this; cases this
    · rw [if_pos rfl, List.mem_append, List.mem_cons] at m
      rcases m with m | m | m
      · have := List.all_eq_true.1 hv _ m; rw [nd] at this; cases this
      · cases m
      · have := List.all_eq_true.1 (rBad_parts (hr rfl)).1 _ m; rw [nd] at this; cases this
theorem zero_none {l : List UInt8} {c0 d0 : Int} (h0 : dparse l = ((c0, d0), 0)) (c d : Int) : dparse (48 :: l) ≠ ((c, d), 0) := fun h => by
  obtain ⟨x, t, rfl, k⟩ := read_head h0
  obtain ⟨v, r, p, hc, _, hw, _⟩ := read_parts h
  have hb := cut_back hc
  have hd := wBad_digs hw
  have e : body (48 :: x :: t) = 48 :: x :: t := by unfold body; simp
  rw [e] at hb
  have x46 : x ≠ 46 := by
    rintro rfl
    rcases k with k | k
    · cases k
    · simp [isDg] at k
  cases v with
  | nil => cases hd
  | cons y s =>
    cases s with
    | nil =>
      cases p
      · rw [if_neg (by simp)] at hb; simp at hb
      · rw [if_pos rfl] at hb; simp at hb; exact x46 hb.2.1
    | cons z s =>
      have hy : y = 48 := by
        cases p
        · rw [if_neg (by simp)] at hb; simp at hb; exact hb.1.symm
        · rw [if_pos rfl] at hb; simp at hb; exact hb.1.symm
      subst hy
      unfold wBad at hw
      rw [Bool.or_eq_false_iff] at hw
      simp at hw
end Go.Proofs.YtfonpegkaajnkaaDoor.Tx
/-
  The words of a text, plain.
-/
namespace Go.Proofs.YtfonpegkaajnkaaDoor.Lx
open Go Dt Tx

def isLo (c : UInt8) : Bool := decide (97 ≤ c.toNat) && decide (c.toNat ≤ 122)
def isAl (c : UInt8) : Bool := isLo c || isDg c
def wh (p : UInt8 → Bool) (l : List UInt8) : Nat := (l.takeWhile p).length
def ptB (l : List UInt8) (n : Nat) : Bool := decide (n + 1 < l.length) && (l[n]? == some 46) && (l[n + 1]?).any isDg
def numL (l : List UInt8) : Nat := if ptB l (wh isDg l) = true then wh isDg l + 1 + wh isDg (l.drop (wh isDg l + 1)) else wh isDg l
def oneS (c : UInt8) : Bool := [61, 60, 62, 43, 45, 42, 47, 40, 41, 44].contains c
def twoS (l : List UInt8) : Bool := l.take 2 == [60, 61] || l.take 2 == [62, 61] || l.take 2 == [60, 62]
def sgnL (l : List UInt8) : Nat := if twoS l = true then 2 else if (l[0]?).any oneS = true then 1 else 0
/-- a word: kind, text, number's two, place -/
structure Tok where
  k : Int
  t : List UInt8
  c : Int
  s : Int
  p : Int
deriving DecidableEq
def wordP (l : List UInt8) (p : Int) : Tok × Int :=
  if (l[0]?).any isLo = true then (⟨1, l.take (wh isAl l), 0, 0, p⟩, if 12 < wh isAl l then 4 else 0)
  else if (l[0]?).any isDg = true then (⟨2, l.take (numL l), (dparse (l.take (numL l))).1.1, (dparse (l.take (numL l))).1.2, p⟩, if (dparse (l.take (numL l))).2 = 3 then 4 else (dparse (l.take (numL l))).2)
  else if 0 < sgnL l then (⟨3, l.take (sgnL l), 0, 0, p⟩, 0)
  else (⟨0, [], 0, 0, p⟩, 4)
def lexF (l : List UInt8) : Nat → Nat → List Tok → List Tok × Int × Int
  | 0, _, acc => (acc, 0, 0)
  | n + 1, at_, acc =>
    match l[at_]? with
    | none => (acc, 0, 0)
    | some x =>
      if x = 32 then lexF l n (at_ + 1) acc
      else if (wordP (l.drop at_) (at_ : Int)).2 = 0 then lexF l n (at_ + (wordP (l.drop at_) (at_ : Int)).1.t.length) (acc ++ [(wordP (l.drop at_) (at_ : Int)).1])
      else ([], (at_ : Int), (wordP (l.drop at_) (at_ : Int)).2)
def lexP (l : List UInt8) : List Tok × Int × Int := if 400 < l.length then ([], 0, 3) else lexF l l.length 0 []

theorem wh_le (p : UInt8 → Bool) (l : List UInt8) : wh p l ≤ l.length := by unfold wh; exact (List.takeWhile_sublist p).length_le
theorem wh_pos {p : UInt8 → Bool} {l : List UInt8} (h : (l[0]?).any p = true) : 0 < wh p l := by
  unfold wh
  cases l with
  | nil => simp at h
  | cons x r => simp at h; rw [List.takeWhile_cons, if_pos h]; simp
theorem wh_before (p : UInt8 → Bool) : ∀ (l : List UInt8) (i : Nat), i < wh p l → (l[i]?).any p = true
  | [], i, h => by simp [wh] at h
  | x :: r, i, h => by
    unfold wh at h
    rw [List.takeWhile_cons] at h
    split at h
    · rename_i hx
      cases i with
      | zero => simpa using hx
      | succ i =>
        simp only [List.length_cons] at h
        have := wh_before p r i (by unfold wh; omega)
        simpa using this
    · simp at h
theorem wh_at (p : UInt8 → Bool) : ∀ (l : List UInt8), (l[wh p l]?).any p = false
  | [] => by simp [wh]
  | x :: r => by
    unfold wh
    rw [List.takeWhile_cons]
    split
    · have := wh_at p r
      simp only [List.length_cons, List.getElem?_cons_succ]
      exact this
    · rename_i hx
      simp only [List.length_nil, List.getElem?_cons_zero, Option.any_some]
      simpa using hx
/-- the least place where it ends -/
theorem wh_eq {p : UInt8 → Bool} {l : List UInt8} {k : Nat} (h1 : ∀ i, i < k → (l[i]?).any p = true) (h2 : (l[k]?).any p = false) : wh p l = k := by
  rcases Nat.lt_trichotomy (wh p l) k with h | h | h
  · have := h1 _ h; rw [wh_at] at this; cases this
  · exact h
  · have := wh_before p l k h; rw [h2] at this; cases this
theorem numL_le (l : List UInt8) : numL l ≤ l.length := by
  unfold numL
  split
  · rename_i h
    unfold ptB at h
    simp only [Bool.and_eq_true, decide_eq_true_eq] at h
    have := wh_le isDg (l.drop (wh isDg l + 1))
    rw [List.length_drop] at this
    omega
  · exact wh_le _ _
theorem numL_pos {l : List UInt8} (h : (l[0]?).any isDg = true) : 0 < numL l := by
  have := wh_pos h
  unfold numL
  split <;> omega
theorem sgnL_le {l : List UInt8} : sgnL l ≤ l.length := by
  unfold sgnL
  split
  · rename_i h
    unfold twoS at h
    simp only [Bool.or_eq_true, beq_iff_eq] at h
    rcases Nat.lt_or_ge l.length 2 with k | k
    · have : (l.take 2).length < 2 := by rw [List.length_take]; omega
      rcases h with (h | h) | h <;> (rw [h] at this; simp at this)
    · exact k
  · split
    · rename_i h
      cases l with
      | nil => simp at h
      | cons x r => simp
    · omega
/-- a word that is one is not empty, and stands at the beginning -/
theorem word_len {l : List UInt8} {p : Int} (h : (wordP l p).2 = 0) : 0 < (wordP l p).1.t.length ∧ (wordP l p).1.t = l.take (wordP l p).1.t.length ∧ (wordP l p).1.t.length ≤ l.length := by
  unfold wordP at h ⊢
  have key : ∀ n, n ≤ l.length → 0 < n → 0 < (l.take n).length ∧ l.take n = l.take (l.take n).length ∧ (l.take n).length ≤ l.length := fun n h1 h2 => by
    rw [List.length_take, Nat.min_eq_left h1]; exact ⟨h2, rfl, h1⟩
  split at h
  · rename_i c1
    rw [if_pos c1]
    refine key _ (wh_le _ _) (wh_pos ?_)
    cases hx : l[0]? with
    | none => rw [hx] at c1; simp at c1
    | some x => rw [hx] at c1; simp only [Option.any_some] at c1 ⊢; unfold isAl; rw [c1]; rfl
  · rename_i c1
    rw [if_neg c1]
    split at h
    · rename_i c2
      rw [if_pos c2]
      exact key _ (numL_le _) (numL_pos c2)
    · rename_i c2
      rw [if_neg c2]
      split at h
      · rename_i c3
        rw [if_pos c3]
        exact key _ sgnL_le c3
      · simp at h
theorem lexF_more (l : List UInt8) : ∀ (n m at_ : Nat) (acc : List Tok), l.length - at_ ≤ n → l.length - at_ ≤ m → lexF l n at_ acc = lexF l m at_ acc
  | 0, 0, _, _, _, _ => rfl
  | 0, m + 1, at_, acc, h, _ => by
    have : l[at_]? = none := List.getElem?_eq_none (by omega)
    simp [lexF, this]
  | n + 1, 0, at_, acc, _, h => by
    have : l[at_]? = none := List.getElem?_eq_none (by omega)
    simp [lexF, this]
  | n + 1, m + 1, at_, acc, h1, h2 => by
    simp only [lexF]
    cases hx : l[at_]? with
    | none => rfl
    | some x =>
      have hlt := (List.getElem?_eq_some_iff.1 hx).1
      simp only
      split
      · exact lexF_more l n m (at_ + 1) acc (by omega) (by omega)
      · split
        · rename_i hw
          have := (word_len hw).1
          exact lexF_more l n m _ _ (by omega) (by omega)
        · rfl
/-- what is still to come -/
def lexR (l : List UInt8) (at_ : Nat) (acc : List Tok) : List Tok × Int × Int := lexF l (l.length - at_) at_ acc
theorem lexR_done {l : List UInt8} {at_ : Nat} {acc : List Tok} (h : l[at_]? = none) : lexR l at_ acc = (acc, 0, 0) := by
  have : l.length - at_ = 0 := by have := List.getElem?_eq_none_iff.1 h; omega
  unfold lexR; rw [this]; rfl
theorem lexR_blank {l : List UInt8} {at_ : Nat} {acc : List Tok} (h : l[at_]? = some 32) : lexR l at_ acc = lexR l (at_ + 1) acc := by
  have hlt := (List.getElem?_eq_some_iff.1 h).1
  unfold lexR
  rw [show l.length - at_ = (l.length - (at_ + 1)) + 1 by omega]
  simp only [lexF, h, if_true]
theorem lexR_word {l : List UInt8} {at_ : Nat} {acc : List Tok} {x : UInt8} (h : l[at_]? = some x) (hx : x ≠ 32) (hw : (wordP (l.drop at_) (at_ : Int)).2 = 0) :
    lexR l at_ acc = lexR l (at_ + (wordP (l.drop at_) (at_ : Int)).1.t.length) (acc ++ [(wordP (l.drop at_) (at_ : Int)).1]) := by
  have hlt := (List.getElem?_eq_some_iff.1 h).1
  have := (word_len hw).1
  unfold lexR
  rw [show l.length - at_ = (l.length - (at_ + 1)) + 1 by omega]
  simp only [lexF, h, if_neg hx, hw, if_true]
  exact lexF_more l _ _ _ _ (by omega) (by omega)
theorem lexR_bad {l : List UInt8} {at_ : Nat} {acc : List Tok} {x : UInt8} (h : l[at_]? = some x) (hx : x ≠ 32) (hw : ¬ (wordP (l.drop at_) (at_ : Int)).2 = 0) :
    lexR l at_ acc = ([], (at_ : Int), (wordP (l.drop at_) (at_ : Int)).2) := by
  have hlt := (List.getElem?_eq_some_iff.1 h).1
  unfold lexR
  rw [show l.length - at_ = (l.length - (at_ + 1)) + 1 by omega]
  simp only [lexF, h, if_neg hx, hw, if_false]
theorem lexP_eq {l : List UInt8} (h : l.length ≤ 400) : lexP l = lexR l 0 [] := by unfold lexP lexR; rw [if_neg (by omega)]; rfl
end Go.Proofs.YtfonpegkaajnkaaDoor.Lx
