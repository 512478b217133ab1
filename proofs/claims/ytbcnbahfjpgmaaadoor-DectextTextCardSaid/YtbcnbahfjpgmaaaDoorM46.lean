/-
  With a sign more, a nought ahead, a blank behind: none; plain; Decimals' texts: the known texts, walked.
-/
import Derived.Test.YtbcnbahfjpgmaaaDoorM45
import Derived.Test.YtbcnbahfjpgmaaaDoorM43
/-
  With a sign more, a nought ahead, a blank behind: none; plain.
-/
namespace Go.Proofs.YtbcnbahfjpgmaaaDoor.Tx
open Go Dt

theorem wBad_digs {v : List UInt8} (h : wBad v = false) : digs v = true := by
  unfold wBad at h
  rw [Bool.or_eq_false_iff] at h
  cases e : digs v
  · rw [e] at h; cases h.1
  · rfl
/-- the first byte of what is read: a sign or a digit -/
theorem read_head {l : List UInt8} {c d : Int} (h : dparse l = ((c, d), 0)) : ∃ x t, l = x :: t ∧ (x = 45 ∨ isDg x = true) := by
  obtain ⟨v, r, p, hc, _, hw, _⟩ := read_parts h
  have hb := cut_back hc
  have hl := body_back l
  have hd := wBad_digs hw
  cases v with
  | nil => cases hd
  | cons x t =>
    have hx : isDg x = true := by have := digs_all hd; simp only [List.all_cons, Bool.and_eq_true] at this; exact this.1
    obtain ⟨t', ht'⟩ : ∃ t', body l = x :: t' := by
      rw [hb]; cases p
      · exact ⟨t, rfl⟩
      · exact ⟨t ++ 46 :: r, rfl⟩
    rw [ht'] at hl
    cases hn : neg l
    · rw [hn] at hl; exact ⟨x, t', hl, .inr hx⟩
    · rw [hn] at hl; exact ⟨45, x :: t', hl, .inl rfl⟩
theorem plus_none (l : List UInt8) (c d : Int) : dparse (43 :: l) ≠ ((c, d), 0) := fun h => by
  obtain ⟨x, t, e, k⟩ := read_head h
  cases e
  rcases k with k | k
  · cases k
  · simp [isDg] at k
theorem blank_none (l : List UInt8) (c d : Int) : dparse (l ++ [32]) ≠ ((c, d), 0) := fun h => by
  obtain ⟨v, r, p, hc, _, hw, hr, _⟩ := read_parts h
  have hb := cut_back hc
  have hl := body_back (l ++ [32])
  have hv := digs_all (wBad_digs hw)
  have m : (32 : UInt8) ∈ sgn (neg (l ++ [32])) ++ body (l ++ [32]) := by rw [← hl]; simp
  have nd : isDg 32 = false := by decide
  rw [List.mem_append] at m
  rcases m with m | m
  · unfold sgn at m; split at m <;> simp at m
  · rw [hb] at m
    cases p
    · rw [if_neg (by simp)] at m
      have := List.all_eq_true.1 hv _ m; rw [nd] at this; cases this
    · rw [if_pos rfl, List.mem_append, List.mem_cons] at m
      rcases m with m | m | m
      · have := List.all_eq_true.1 hv _ m; rw [nd] at this; cases this
      · cases m
      · have := List.all_eq_true.1 (rBad_parts (hr rfl)).1 _ m; rw [nd] at this; cases this
theorem zero_none {l : List UInt8} {c0 d0 : Int} (h0 : dparse l = ((c0, d0), 0)) (c d : Int) : dparse (48 :: l) ≠ ((c, d), 0) := fun h => by
  obtain ⟨x, t, rfl, k⟩ := read_head h0
  obtain ⟨v, r, p, hc, _, hw, _⟩ := read_parts h
  have hb := cut_back hc
  have hd := wBad_digs hw
  have e : body (48 :: x :: t) = 48 :: x :: t := by unfold body; simp
  rw [e] at hb
  have x46 : x ≠ 46 := by
    rintro rfl
    rcases k with k | k
    · cases k
    · simp [isDg] at k
  cases v with
  | nil => cases hd
  | cons y s =>
    cases s with
    | nil =>
      cases p
      · rw [if_neg (by simp)] at hb; simp at hb
      · rw [if_pos rfl] at hb; simp at hb; exact x46 hb.2.1
    | cons z s =>
      have hy : y = 48 := by
        cases p
        · rw [if_neg (by simp)] at hb; simp at hb; exact hb.1.symm
        · rw [if_pos rfl] at hb; simp at hb; exact hb.1.symm
      subst hy
      unfold wBad at hw
      rw [Bool.or_eq_false_iff] at hw
      simp at hw
end Go.Proofs.YtbcnbahfjpgmaaaDoor.Tx
/-
  Decimals' texts: the known texts, walked.
-/
namespace Go.Proofs.YtbcnbahfjpgmaaaDoor.Tx
open Go Go.RowKit Dt
set_option linter.unusedSimpArgs false
set_option linter.unusedVariables false
attribute [local go_sem ↓] Go.wp_at_zero Go.wp_at_succ

def word5 : Nat → List UInt8
  | 0 => [49, 46, 53, 48]
  | 1 => [46, 53]
  | 2 => [48, 49]
  | 3 => [45, 48]
  | _ => [49, 46]
theorem word5_bad (k : Nat) (h : k < 5) : dparse (word5 k) = ((0, 0), 4) ∧ (word5 k).length ≤ 4 := by
  match k, h with
  | 0, _ => exact ⟨by decide +kernel, by decide⟩
  | 1, _ => exact ⟨by decide +kernel, by decide⟩
  | 2, _ => exact ⟨by decide +kernel, by decide⟩
  | 3, _ => exact ⟨by decide +kernel, by decide⟩
  | 4, _ => exact ⟨by decide +kernel, by decide⟩
theorem dparse_at {l : List UInt8} {a b e : Int} (h : dparse l = ((a, b), e)) (hl : l.length ≤ 1000) (w : World) (he : Env w) : Calls Tryd.prog 10 #[.string (bs l)] w fun e' w' => e' = .returned (.tuple #[.agg #[.int .i64 a, .int .i64 b], .int .i64 e]) ∧ Below w.heap.size w w' := by
  have := dparse_is (w := w) l hl he
  unfold DpPost at this
  rw [h] at this
  exact this
theorem text_any {w : World} (c s : Int) (hc : Fit c) (he : Env w) : Calls Tryd.prog 6 #[.agg #[.int .i64 c, .int .i64 s]] w (TextPost c s w) := by
  cases h : isB s
  · exact text_no c s hc he h
  · exact text_yes c s hc he h
theorem idx5 (k : Nat) (h : k < 5) (w : World) : (Instr.index 42 (.agg #[.string ⟨#[49, 46, 53, 48]⟩, .string ⟨#[46, 53]⟩, .string ⟨#[48, 49]⟩, .string ⟨#[45, 48]⟩, .string ⟨#[49, 46]⟩]) (.int .i64 (k : Int))).run Tryd.prog w = .ok (.string (bs (word5 k))) w :=
  match k, h with
  | 0, _ => by kernel_rfl
  | 1, _ => by kernel_rfl
  | 2, _ => by kernel_rfl
  | 3, _ => by kernel_rfl
  | 4, _ => by kernel_rfl
set_option maxRecDepth 100000 in
set_option maxHeartbeats 1000000 in
theorem known_is {w : World} (he : Env w) : Calls Tryd.prog 9 #[] w fun e w' => e = .returned (.bool true) ∧ Below w.heap.size w w' := by
  have HE := Lib.hid he
  clear he
  go_enter Tryd.func9, Tryd.ntmps9
  go_wp2_with fail
  go_loopw [6] (fun i wr => ∃ k : Nat, i = .int .i64 (k : Int) ∧ k ≤ 5 ∧ Hid (Below w.heap.size w wr)) (fun i _ => 5 - (intOf i).toNat)
  case atStart => exact ⟨0, rfl, by omega, Below.refl _ _⟩
  case round =>
    obtain ⟨wo, rfl⟩ : ∃ wo : World, wo = wr := ⟨_, rfl⟩
    obtain ⟨k, rfl, hk, HB⟩ := hrel
    by_cases hkl : k < 5
    · have kc := idx5 k hkl
      obtain ⟨hb, hlen⟩ := word5_bad k hkl
      have P := dparse_at hb (by omega) wo (HE.out.below HB.out)
      obtain ⟨S, hS⟩ : ∃ S, Hid (bs (word5 k) = S) := ⟨_, rfl⟩
      rw [hS.out] at kc P
      have i1 : (k : Int) < 5 := by omega
      have i2 : decide (k < 5) = true := by simpa using hkl
      have kw : IntKind.i64.wrap ((k : Int) + 1) = (k : Int) + 1 := by rw [IntWalk.i64_left]; exact IntWalk.wrap64_in _ (by omega)
      have HK := Lib.hid hkl
      clear hb hlen hkl hk
      go_wp2_with (go_at_call 10; (with_reducible refine P.mono ?_); rintro e1 w1 ⟨rfl, b1⟩; have B1 := Lib.hid (bt HB.out b1); clear b1 P)
      refine ⟨⟨k + 1, rfl, HK.out, bt B1.out (ba _ _)⟩, ?_⟩
      show 5 - ((k : Int) + 1).toNat < 5 - (k : Int).toNat
      have := HK.out; omega
    · have hke : k = 5 := by omega
      subst hke
      have T1 : ∀ w, Env w → Calls Tryd.prog 6 #[.agg #[.int .i64 125, .int .i64 3]] w fun e w' => e = .returned (.string ⟨#[48, 46, 49, 50, 53]⟩) ∧ Below w.heap.size w w' := fun w h => (text_any 125 3 (by decide) h).mono (by rintro e w' ⟨rfl, hb⟩; exact ⟨by rw [show textS 125 3 = [48, 46, 49, 50, 53] from by decide +kernel]; rfl, hb⟩)
      have T2 : ∀ w, Env w → Calls Tryd.prog 6 #[.agg #[.int .i64 (-7), .int .i64 0]] w fun e w' => e = .returned (.string ⟨#[45, 55]⟩) ∧ Below w.heap.size w w' := fun w h => (text_any (-7) 0 (by decide) h).mono (by rintro e w' ⟨rfl, hb⟩; exact ⟨by rw [show textS (-7) 0 = [45, 55] from by decide +kernel]; rfl, hb⟩)
      have T3 : ∀ w, Env w → Calls Tryd.prog 6 #[.agg #[.int .i64 50, .int .i64 1]] w fun e w' => e = .returned (.string ⟨#[53]⟩) ∧ Below w.heap.size w w' := fun w h => (text_any 50 1 (by decide) h).mono (by rintro e w' ⟨rfl, hb⟩; exact ⟨by rw [show textS 50 1 = [53] from by decide +kernel]; rfl, hb⟩)
      have T1' := T1 wo (HE.out.below HB.out)
      clear hkl hk T1
      go_wp2_with (first | (go_at_call 6; (with_reducible refine T1'.mono ?_); rintro e1 w1 ⟨rfl, b1⟩; have B1 := Lib.hid (bt HB.out b1); have T2' := T2 w1 (HE.out.below B1.out); clear b1 T1' T2) | (go_at_call 6; (with_reducible refine T2'.mono ?_); rintro e2 w2 ⟨rfl, b2⟩; have B2 := Lib.hid (bt B1.out b2); have T3' := T3 w2 (HE.out.below B2.out); clear b2 T2' T3) | (go_at_call 6; (with_reducible refine T3'.mono ?_); rintro e3 w3 ⟨rfl, b3⟩; have B3 := Lib.hid (bt B2.out b3); clear b3 T3'))
      go_ret
      exact ⟨rfl, B3.out⟩
end Go.Proofs.YtbcnbahfjpgmaaaDoor.Tx
