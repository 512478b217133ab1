/-
  Words told with a blank between are read again; plain.
-/
import Derived.Test.YtfonpegkaajnkaaDoorM46
import Derived.Lib.Join
/-
  Words told with a blank between are read again; plain.
-/
namespace Go.Proofs.YtfonpegkaajnkaaDoor.Lx
open Go Dt Tx

/-- each word stands in the text, one behind the other, with blanks alone between -/
def segs (l : List UInt8) : Nat → List Tok → Prop
  | a, [] => a ≤ l.length ∧ ∀ i, a ≤ i → i < l.length → l[i]? = some 32
  | a, t :: r => ∃ p : Nat, t.p = (p : Int) ∧ a ≤ p ∧ (∀ i, a ≤ i → i < p → l[i]? = some 32) ∧ p + t.t.length ≤ l.length ∧ (l.drop p).take t.t.length = t.t ∧ 0 < t.t.length ∧ wordP (l.drop p) (p : Int) = (t, 0) ∧ segs l (p + t.t.length) r
theorem segs_back {l : List UInt8} {a : Nat} (h : l[a]? = some 32) : ∀ {ts : List Tok}, segs l (a + 1) ts → segs l a ts
  | [], ⟨h1, h2⟩ => ⟨by omega, fun i h3 h4 => by
      rcases Nat.eq_or_lt_of_le h3 with e | e
      · rw [← e]; exact h
      · exact h2 i e h4⟩
  | t :: r, ⟨p, h1, h2, h3, h4⟩ => ⟨p, h1, by omega, fun i h5 h6 => by
      rcases Nat.eq_or_lt_of_le h5 with e | e
      · rw [← e]; exact h
      · exact h3 i e h6, h4⟩
theorem word_p {l : List UInt8} {p : Int} : (wordP l p).1.p = p := by rw [word_at]
theorem lexF_segs (l : List UInt8) : ∀ (n a : Nat) (acc xs : List Tok) (q : Int), l.length - a ≤ n → a ≤ l.length → lexF l n a acc = (xs, q, 0) → ∃ ts, xs = acc ++ ts ∧ segs l a ts
  | 0, a, acc, xs, q, hn, ha, h => by
    simp only [lexF, Prod.mk.injEq] at h
    exact ⟨[], by rw [List.append_nil]; exact h.1.symm, ha, fun i h1 h2 => by omega⟩
  | n + 1, a, acc, xs, q, hn, ha, h => by
    simp only [lexF] at h
    cases hx : l[a]? with
    | none =>
      rw [hx] at h
      simp only [Prod.mk.injEq] at h
      have := List.getElem?_eq_none_iff.1 hx
      exact ⟨[], by rw [List.append_nil]; exact h.1.symm, ha, fun i h1 h2 => by omega⟩
    | some x =>
      have hlt := (List.getElem?_eq_some_iff.1 hx).1
      rw [hx] at h
      simp only at h
      split at h
      · rename_i e
        subst e
        obtain ⟨ts, h1, h2⟩ := lexF_segs l n (a + 1) acc xs q (by omega) (by omega) h
        exact ⟨ts, h1, segs_back hx h2⟩
      · split at h
        · rename_i hw
          obtain ⟨w1, w2, w3⟩ := word_len hw
          rw [List.length_drop] at w3
          obtain ⟨ts, h1, h2⟩ := lexF_segs l n _ _ xs q (by omega) (by omega) h
          refine ⟨(wordP (l.drop a) (a : Int)).1 :: ts, by rw [h1, List.append_assoc]; rfl, a, word_p, Nat.le_refl _, fun i h3 h4 => by omega, by omega, w2.symm, w1, ?_, h2⟩
          exact Prod.ext rfl hw
        · rename_i hw
          simp only [Prod.mk.injEq] at h
          exact absurd h.2.2 hw
theorem lexP_segs {l : List UInt8} {xs : List Tok} {q : Int} (h : lexP l = (xs, q, 0)) : segs l 0 xs := by
  unfold lexP at h
  split at h
  · simp at h
  · obtain ⟨ts, h1, h2⟩ := lexF_segs l _ 0 [] xs q (by omega) (Nat.zero_le _) h
    rw [List.nil_append] at h1
    rw [h1]; exact h2
theorem lexP_bad {l : List UInt8} {xs : List Tok} {q e : Int} (h : lexP l = (xs, q, e)) (he : ¬ e = 0) : xs = [] := by
  have key : ∀ (n a : Nat) (acc xs : List Tok) (q : Int), lexF l n a acc = (xs, q, e) → xs = [] := by
    intro n
    induction n with
    | zero => intro a acc xs q h; simp only [lexF, Prod.mk.injEq] at h; exact absurd h.2.2.symm he
    | succ n ih =>
      intro a acc xs q h
      simp only [lexF] at h
      split at h
      · simp only [Prod.mk.injEq] at h; exact absurd h.2.2.symm he
      · split at h
        · exact ih _ _ _ _ h
        · split at h
          · exact ih _ _ _ _ h
          · simp only [Prod.mk.injEq] at h; exact h.1.symm
  unfold lexP at h
  split at h
  · simp only [Prod.mk.injEq] at h; exact h.1.symm
  · exact key _ _ _ _ _ h
/-- what may stand behind a word: nothing, or a blank -/
def blankB (r : List UInt8) : Prop := r = [] ∨ r[0]? = some 32
theorem wh_app {p : UInt8 → Bool} (h32 : p 32 = false) {t r : List UInt8} (ht : ∀ i, i < t.length → (t[i]?).any p = true) (hr : blankB r) : wh p (t ++ r) = t.length := by
  refine wh_eq (fun i hi => by rw [List.getElem?_append_left hi]; exact ht i hi) ?_
  rw [List.getElem?_append_right (Nat.le_refl _), Nat.sub_self]
  rcases hr with rfl | hr
  · rfl
  · rw [hr]; exact h32
theorem take_get {m : List UInt8} {n i : Nat} (h : i < n) : (m.take n)[i]? = m[i]? := by rw [List.getElem?_take, if_pos h]
theorem numL_a {u : List UInt8} {n : Nat} (hw : wh isDg u = n) (hp : ptB u n = false) : numL u = n := by
  subst hw; unfold numL; rw [hp]; rfl
theorem numL_b {u : List UInt8} {n k : Nat} (hw : wh isDg u = n) (hp : ptB u n = true) (hk : wh isDg (u.drop (n + 1)) = k) : numL u = n + 1 + k := by
  subst hw; unfold numL; rw [hp, hk]; rfl
theorem num_app {m r : List UInt8} (hr : blankB r) : numL (m.take (numL m) ++ r) = numL m := by
  have h32 : isDg 32 = false := by decide
  obtain ⟨n, hn⟩ : ∃ n, wh isDg m = n := ⟨_, rfl⟩
  have hnl : n ≤ m.length := by rw [← hn]; exact wh_le _ _
  have hb : ∀ i, i < n → (m[i]?).any isDg = true := fun i hi => wh_before isDg m i (by omega)
  cases hp : ptB m n
  · have E := numL_a hn hp
    rw [E]
    have hlen : (m.take n).length = n := by rw [List.length_take, Nat.min_eq_left hnl]
    refine numL_a ?_ ?_
    · rw [wh_app h32 (fun i hi => by rw [hlen] at hi; rw [take_get hi]; exact hb i hi) hr, hlen]
    · unfold ptB
      have : (m.take n ++ r)[n]? = r[0]? := by rw [List.getElem?_append_right (by omega), hlen, Nat.sub_self]
      rw [this]
      rcases hr with rfl | hr
      · simp
      · rw [hr]; simp
  · obtain ⟨k, hk⟩ : ∃ k, wh isDg (m.drop (n + 1)) = k := ⟨_, rfl⟩
    have E := numL_b hn hp hk
    have hp' := hp
    unfold ptB at hp'
    simp only [Bool.and_eq_true, decide_eq_true_eq, beq_iff_eq] at hp'
    obtain ⟨⟨p1, p2⟩, p3⟩ := hp'
    have hk1 : 0 < k := by rw [← hk]; exact wh_pos (by rw [List.getElem?_drop]; exact p3)
    have hkl : k ≤ m.length - (n + 1) := by have := wh_le isDg (m.drop (n + 1)); rw [List.length_drop, hk] at this; exact this
    rw [E]
    have hlen : (m.take (n + 1 + k)).length = n + 1 + k := by rw [List.length_take, Nat.min_eq_left (by omega)]
    have hg : ∀ i, i < n + 1 + k → (m.take (n + 1 + k) ++ r)[i]? = m[i]? := fun i hi => by rw [List.getElem?_append_left (by rw [hlen]; exact hi), take_get hi]
    have hdrop : (m.take (n + 1 + k) ++ r).drop (n + 1) = (m.drop (n + 1)).take k ++ r := by
      rw [List.drop_append_of_le_length (by rw [hlen]; omega), List.drop_take, show n + 1 + k - (n + 1) = k by omega]
    have hlen2 : ((m.drop (n + 1)).take k).length = k := by rw [List.length_take, List.length_drop, Nat.min_eq_left hkl]
    refine numL_b ?_ ?_ ?_
    · refine wh_eq (fun i hi => by rw [hg i (by omega)]; exact hb i hi) ?_
      rw [hg n (by omega), p2]; decide
    · unfold ptB
      rw [hg n (by omega), hg (n + 1) (by omega), p2, p3, List.length_append, hlen]
      simp; omega
    · rw [hdrop, wh_app h32 (fun i hi => by rw [hlen2] at hi; rw [take_get hi]; exact wh_before isDg _ i (by rw [hk]; exact hi)) hr, hlen2]
theorem sgn_app {m r : List UInt8} (hr : blankB r) (h : 0 < sgnL m) : sgnL (m.take (sgnL m) ++ r) = sgnL m := by
  cases h2 : twoS m
  · have E : sgnL m = if (m[0]?).any oneS = true then 1 else 0 := by unfold sgnL; rw [h2]; rfl
    cases h1 : (m[0]?).any oneS
    · rw [h1] at E; simp at E; omega
    · rw [h1] at E
      simp only [if_true] at E
      rw [E]
      cases m with
      | nil => simp at h1
      | cons x t =>
        have h1' : oneS x = true := by simpa using h1
        have no : twoS (x :: r) = false := by
          unfold twoS
          rcases hr with rfl | hr
          · simp
          · cases r with
            | nil => simp at hr
            | cons y r' =>
              simp only [List.getElem?_cons_zero, Option.some.injEq] at hr
              subst hr
              simp
        show sgnL (x :: r) = 1
        unfold sgnL
        rw [no]
        simp [h1']
  · have E : sgnL m = 2 := by unfold sgnL; rw [h2]; rfl
    rw [E]
    have hlen : (m.take 2).length = 2 := by have := sgnL_le (l := m); rw [E] at this; rw [List.length_take, Nat.min_eq_left this]
    have : twoS (m.take 2 ++ r) = true := by
      have e : (m.take 2 ++ r).take 2 = m.take 2 := by rw [List.take_append_of_le_length (by omega), List.take_of_length_le (by omega)]
      unfold twoS at h2 ⊢
      rw [e]; exact h2
    unfold sgnL; rw [this]; rfl
/-- a word is read again, whatever blank stands behind it -/
theorem word_again {m r : List UInt8} {p q : Int} {t : Tok} (h : wordP m p = (t, 0)) (hr : blankB r) : wordP (t.t ++ r) q = (⟨t.k, t.t, t.c, t.s, q⟩, 0) := by
  have hl := word_len (l := m) (p := p) (by rw [h])
  rw [h] at hl
  simp only at hl
  obtain ⟨l1, l2, l3⟩ := hl
  have h0 : (t.t ++ r)[0]? = m[0]? := by
    rw [List.getElem?_append_left l1]
    rw [l2, take_get l1]
  have al32 : isAl 32 = false := by decide
  unfold wordP at h
  split at h
  · rename_i c1
    simp only [Prod.mk.injEq] at h
    obtain ⟨rfl, h2⟩ := h
    have hlen : (m.take (wh isAl m)).length = wh isAl m := by rw [List.length_take, Nat.min_eq_left (wh_le _ _)]
    have hw : wh isAl (m.take (wh isAl m) ++ r) = wh isAl m := by
      rw [wh_app al32 (fun i hi => by rw [hlen] at hi; rw [take_get hi]; exact wh_before isAl m i hi) hr, hlen]
    simp only at h0 ⊢
    rw [word_lo (by rw [h0]; exact c1), hw, h2, List.take_append_of_le_length (by omega), List.take_of_length_le (by omega)]
  · rename_i c1
    split at h
    · rename_i c2
      simp only [Prod.mk.injEq] at h
      obtain ⟨rfl, h2⟩ := h
      have hlen : (m.take (numL m)).length = numL m := by rw [List.length_take, Nat.min_eq_left (numL_le _)]
      have hw := num_app (m := m) hr
      simp only at h0 ⊢
      rw [word_dg (by rw [h0]; simpa using c1) (by rw [h0]; exact c2), hw, List.take_append_of_le_length (by omega), List.take_of_length_le (by omega), h2]
    · rename_i c2
      split at h
      · rename_i c3
        simp only [Prod.mk.injEq] at h
        obtain ⟨rfl, _⟩ := h
        have hlen : (m.take (sgnL m)).length = sgnL m := by rw [List.length_take, Nat.min_eq_left sgnL_le]
        have hw := sgn_app (m := m) hr c3
        simp only at h0 ⊢
        rw [word_sg (by rw [h0]; simpa using c1) (by rw [h0]; simpa using c2) (by rw [hw]; exact c3), hw, List.take_append_of_le_length (by omega), List.take_of_length_le (by omega)]
      · simp at h
theorem word_first {m : List UInt8} {p : Int} {t : Tok} (h : wordP m p = (t, 0)) : ∃ x, m[0]? = some x ∧ x ≠ 32 ∧ t.t[0]? = some x := by
  have hl := word_len (l := m) (p := p) (by rw [h])
  rw [h] at hl
  simp only at hl
  obtain ⟨l1, l2, l3⟩ := hl
  obtain ⟨x, hx⟩ : ∃ x, m[0]? = some x := ⟨_, List.getElem?_eq_getElem (by omega)⟩
  refine ⟨x, hx, ?_, by rw [l2, take_get l1]; exact hx⟩
  rintro rfl
  have n1 : (m[0]?).any isLo = false := by rw [hx]; decide
  have n2 : (m[0]?).any isDg = false := by rw [hx]; decide
  have n3 : ¬ 0 < sgnL m := by
    have : twoS m = false := by
      unfold twoS
      cases m with
      | nil => simp at hx
      | cons y r =>
        simp only [List.getElem?_cons_zero, Option.some.injEq] at hx
        subst hx
        cases r <;> simp
    unfold sgnL
    rw [this, hx]
    decide
  rw [word_no n1 n2 n3] at h
  simp at h
/-- told with a blank between -/
def joinT : List Tok → List UInt8
  | [] => []
  | [t] => t.t
  | t :: u :: r => t.t ++ 32 :: joinT (u :: r)
def reT : Nat → List Tok → List Tok
  | _, [] => []
  | a, t :: r => ⟨t.k, t.t, t.c, t.s, (a : Int)⟩ :: reT (a + t.t.length + 1) r
def goodT (ts : List Tok) : Prop := ∀ t ∈ ts, ∃ m p, wordP m p = (t, 0)
theorem lexR_join (J : List UInt8) : ∀ (ts : List Tok) (a : Nat) (acc : List Tok), goodT ts → J.drop a = joinT ts → lexR J a acc = (acc ++ reT a ts, 0, 0)
  | [], a, acc, _, h => by
    have : J[a]? = none := List.getElem?_eq_none (by have := congrArg List.length h; rw [List.length_drop] at this; simp [joinT] at this; omega)
    rw [lexR_done this]; simp [reT]
  | [t], a, acc, hg, h => by
    obtain ⟨m, p, hw⟩ := hg t (by simp)
    obtain ⟨x, _, hx, hx0⟩ := word_first hw
    have h' : J.drop a = t.t ++ [] := by rw [h]; simp [joinT]
    have hJ : J[a]? = some x := by
      have : (J.drop a)[0]? = some x := by rw [h', List.append_nil]; exact hx0
      rw [List.getElem?_drop] at this; simpa using this
    have ha := word_again (q := (a : Int)) hw (r := []) (.inl rfl)
    rw [← h'] at ha
    rw [lexR_word hJ hx (by rw [ha]), ha]
    have hend : J[a + t.t.length]? = none := List.getElem?_eq_none (by have := congrArg List.length h'; rw [List.length_drop, List.append_nil] at this; have := (List.getElem?_eq_some_iff.1 hJ).1; omega)
    simp only
    rw [lexR_done hend]
    rfl
  | t :: u :: r, a, acc, hg, h => by
    obtain ⟨m, p, hw⟩ := hg t (by simp)
    obtain ⟨x, _, hx, hx0⟩ := word_first hw
    have h' : J.drop a = t.t ++ (32 :: joinT (u :: r)) := h
    have hlen0 : 0 < t.t.length := (List.getElem?_eq_some_iff.1 hx0).1
    have hJ : J[a]? = some x := by
      have : (J.drop a)[0]? = some x := by rw [h', List.getElem?_append_left hlen0]; exact hx0
      rw [List.getElem?_drop] at this; simpa using this
    have ha := word_again (q := (a : Int)) hw (r := 32 :: joinT (u :: r)) (.inr rfl)
    rw [← h'] at ha
    rw [lexR_word hJ hx (by rw [ha]), ha]
    simp only
    have hbl : J[a + t.t.length]? = some 32 := by
      have : (J.drop a)[t.t.length]? = some 32 := by rw [h', List.getElem?_append_right (Nat.le_refl _), Nat.sub_self]; rfl
      rw [List.getElem?_drop] at this; exact this
    rw [lexR_blank hbl]
    have hd : J.drop (a + t.t.length + 1) = joinT (u :: r) := by
      rw [show a + t.t.length + 1 = a + (t.t.length + 1) by omega, ← List.drop_drop, h', List.drop_append, List.drop_of_length_le (by omega), List.nil_append, show t.t.length + 1 - t.t.length = 1 by omega]
      rfl
    rw [lexR_join J (u :: r) (a + t.t.length + 1) _ (fun y hy => hg y (List.mem_cons_of_mem _ hy)) hd, List.append_assoc]
    rfl
theorem joinT_is : ∀ ts : List Tok, joinT ts = Lib.join (ts.map (·.t)) [32]
  | [] => rfl
  | [t] => by rw [joinT, List.map_singleton, Lib.join_one]
  | t :: u :: r => by
    rw [joinT, joinT_is (u :: r), List.map_cons, Lib.join_cons, List.map_cons, Lib.join_cons]
    unfold Lib.joinTail
    simp
theorem joinT_len : ∀ {l : List UInt8} {a : Nat} {ts : List Tok}, segs l a ts → (joinT ts).length ≤ 2 * (l.length - a) ∧ ts.length ≤ l.length - a
  | l, a, [], _ => by simp [joinT]
  | l, a, [t], h => by
    obtain ⟨p, _, h2, _, h4, _, h6, _, _⟩ := h
    simp only [joinT, List.length_cons, List.length_nil]
    omega
  | l, a, t :: u :: r, h => by
    obtain ⟨p, _, h2, _, h4, _, h6, _, h8⟩ := h
    have ih := joinT_len h8
    simp only [joinT, List.length_append, List.length_cons] at ih ⊢
    omega
theorem segs_good : ∀ {l : List UInt8} {a : Nat} {ts : List Tok}, segs l a ts → goodT ts
  | l, a, [], _ => fun t ht => by cases ht
  | l, a, u :: r, h => fun t ht => by
    obtain ⟨p, _, _, _, _, _, _, h7, h8⟩ := h
    rcases List.mem_cons.1 ht with rfl | ht
    · exact ⟨_, _, h7⟩
    · exact segs_good h8 t ht
/-- what is read of what was read, told with a blank between -/
theorem lex_back {l : List UInt8} {ts : List Tok} {q : Int} (hl : l.length ≤ 200) (h : lexP l = (ts, q, 0)) : lexP (joinT ts) = (reT 0 ts, 0, 0) ∧ (joinT ts).length ≤ 400 := by
  have hs := lexP_segs h
  have hlen := (joinT_len hs).1
  have h4 : (joinT ts).length ≤ 400 := by omega
  exact ⟨by rw [lexP_eq h4, lexR_join _ ts 0 [] (segs_good hs) rfl]; rfl, h4⟩
theorem reT_get : ∀ (ts : List Tok) (a i : Nat) (t : Tok), ts[i]? = some t → ∃ p, (reT a ts)[i]? = some ⟨t.k, t.t, t.c, t.s, p⟩
  | u :: r, a, 0, t, h => by simp at h; subst h; exact ⟨_, rfl⟩
  | u :: r, a, i + 1, t, h => by simp only [List.getElem?_cons_succ] at h; exact reT_get r _ i t h
theorem reT_len : ∀ (ts : List Tok) (a : Nat), (reT a ts).length = ts.length
  | [], _ => rfl
  | u :: r, a => by rw [reT, List.length_cons, reT_len r, List.length_cons]
end Go.Proofs.YtfonpegkaajnkaaDoor.Lx
