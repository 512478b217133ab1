/-
  DatetextTexts: walked.
-/
import Derived.Test.YthbgkokepnifdaaDoorDtParsesLaw
namespace Go.Proofs.YthbgkokepnifdaaDoor.Dt
open Go Go.RowKit
set_option linter.unusedSimpArgs false
set_option linter.unusedVariables false
attribute [local go_sem ↓] Go.wp_at_zero Go.wp_at_succ

theorem text_back {n : Int} {l : List UInt8} (h : TextOf n l) : (l = [] ∧ parseS l = (0, 4)) ∨ (l ≠ [] ∧ l.length = 10 ∧ parseS l = (n, 0)) := by
  by_cases c : 1 ≤ n ∧ n ≤ 3652059
  · obtain ⟨y, m, d, e, rfl⟩ := h.1 c
    refine .inr ⟨(fun k => by cases k), rfl, ?_⟩
    rw [txt_parse y m d e.1, e.2]
  · rw [h.2 c]; exact .inl ⟨rfl, rfl⟩
theorem span_back {a b : Int} {l : List UInt8} (h : SpanOf a b l) : (l = [] ∧ parseSp l = ((0, 0), 4)) ∨ (l ≠ [] ∧ l.length = 22 ∧ parseSp l = ((a, b), 0)) := by
  by_cases c : Within a b
  · obtain ⟨p, q, e1, e2, rfl⟩ := h.1 c
    have c' := c
    obtain ⟨c1, c2, c3⟩ := c'
    obtain ⟨y, m, d, i1, rfl⟩ := e1.1 ⟨by omega, by omega⟩
    obtain ⟨y', m', d', i2, rfl⟩ := e2.1 ⟨by omega, by omega⟩
    refine .inr ⟨(fun k => by cases k), rfl, ?_⟩
    rw [← ref_same]
    unfold refSp
    rw [if_pos ⟨rfl, rfl⟩]
    have t1 : (txt y m d ++ 46 :: 46 :: txt y' m' d').take 10 = txt y m d := rfl
    have t2 : (txt y m d ++ 46 :: 46 :: txt y' m' d').drop 12 = txt y' m' d' := rfl
    rw [t1, t2, txt_parse y m d i1.1, txt_parse y' m' d' i2.1, i1.2, i2.2]
    unfold spanRes
    rw [if_neg (by simp), if_neg (by simp; omega)]
    simp
  · rw [h.2 c]; exact .inl ⟨rfl, by decide +kernel⟩
theorem ne_toList {l : List UInt8} (h : l ≠ []) : ((bs l).toList == []) = false := by rw [bs_toList, beq_eq_false_iff_ne]; exact h
theorem self_toList (S : ByteArray) : (S.toList == S.toList) = true := by simp
set_option maxRecDepth 100000 in
set_option maxHeartbeats 4000000 in
theorem texts_law {w : World} (n f t : Int) (hf : IntKind.i64.wrap (t - 1) = t - 1 ∨ ¬ Within f t) (he : Env w) : Calls Tryd.prog 4 #[.int .i64 n, .agg #[.int .i64 f, .int .i64 t]] w fun e w' => e = .returned (.bool true) ∧ Below w.heap.size w w' := by
  have HE := Lib.hid he
  have HF := Lib.hid hf
  have B0 := Lib.hid (ba w (.cells #[.int .i64 f, .int .i64 t] 27))
  have T0 := Lib.hid (Two.new w f t)
  clear he hf
  go_enter Tryd.func4, Tryd.ntmps4
  go_upto_region 1 with fail
  obtain ⟨wa, hwa⟩ : ∃ v, Hid (v = w.alloc (.cells #[.int .i64 f, .int .i64 t] 27)) := ⟨_, rfl⟩
  rw [← hwa.out] at B0 T0 ⊢
  have mkS : ∀ w', Below wa.heap.size wa w' → (Below wa.heap.size wa w' ∧ w'.cell? ⟨w.heap.size, 0, none⟩ = some (.int .i64 f) ∧ w'.cell? ⟨w.heap.size, 1, none⟩ = some (.int .i64 t)) := fun w' hb => ⟨hb, (T0.out.below hb).c0, (T0.out.below hb).c1⟩
  have HS0 := mkS _ ((Below.refl _ _).drew)
  clear hwa
  go_region_held3 (fun w' => Below wa.heap.size wa w' ∧ w'.cell? ⟨w.heap.size, 0, none⟩ = some (.int .i64 f) ∧ w'.cell? ⟨w.heap.size, 1, none⟩ = some (.int .i64 t))
    (first | with_reducible exact HS0 | with_reducible assumption)
    (first
      | (go_at_call 11; (with_reducible refine (text_is n ((HE.out.below B0.out).below (And.left (by assumption)))).mono ?_); ((with_reducible refine fun e w2 h2 => ?_)); obtain ⟨l1, t1, rfl, b2⟩ := h2; have HS1 := mkS _ (bt (And.left (by assumption)) b2); have HT1 := Lib.hid t1; clear b2 t1)
      | (go_at_call 12; (with_reducible refine (span_is f t ((HE.out.below B0.out).below (And.left (by assumption))) HF.out).mono ?_); ((with_reducible refine fun e w3 h3 => ?_)); obtain ⟨l2, t2, rfl, b3⟩ := h3; have HS2 := mkS _ (bt (And.left (by assumption)) b3); have HT2 := Lib.hid t2; clear b3 t2))
  have BB := Lib.hid (bt B0.out HS2.1)
  have T3 := Lib.hid (T0.out.below HS2.1)
  clear HS0 HS1 HS2 mkS B0 T0
  have R1 : ∀ w, Calls Tryd.prog 13 #[.int .i64 n] w fun e w' => e = .returned (.string (bs l1)) ∧ Below w.heap.size w w' := fun w => (rtext_is n).mono (by rintro e w' ⟨l, h, rfl, hb⟩; rw [h.eq HT1.out]; exact ⟨rfl, hb⟩)
  have R2 : ∀ w, Calls Tryd.prog 14 #[.agg #[.int .i64 f, .int .i64 t]] w fun e w' => e = .returned (.string (bs l2)) ∧ Below w.heap.size w w' := fun w => (rspan_is f t HF.out).mono (by rintro e w' ⟨l, h, rfl, hb⟩; rw [h.eq HT2.out]; exact ⟨rfl, hb⟩)
  have X1 := text_back HT1.out
  have X2 := span_back HT2.out
  have P1 : ∃ a e, (∀ w, Calls Tryd.prog 7 #[.string (bs l1)] w fun e' w' => e' = .returned (.tuple #[.int .i64 a, .int .i64 e]) ∧ Below w.heap.size w w') ∧ ((bs l1 = ⟨#[]⟩ ∧ a = 0 ∧ e = 4) ∨ (((bs l1).toList == []) = false ∧ a = n ∧ e = 0)) := by
    rcases X1 with ⟨rfl, h⟩ | ⟨h1, h2, h⟩
    · exact ⟨0, 4, parse_at_ h (by decide), .inl ⟨rfl, rfl, rfl⟩⟩
    · exact ⟨n, 0, parse_at_ h (by rw [h2]; decide), .inr ⟨ne_toList h1, rfl, rfl⟩⟩
  have P2 : ∃ a b e, (∀ w, Env w → Calls Tryd.prog 9 #[.string (bs l2)] w fun e' w' => e' = .returned (.tuple #[.agg #[.int .i64 a, .int .i64 b], .int .i64 e]) ∧ Below w.heap.size w w') ∧ ((bs l2 = ⟨#[]⟩ ∧ a = 0 ∧ b = 0 ∧ e = 4) ∨ (((bs l2).toList == []) = false ∧ a = f ∧ b = t ∧ e = 0)) := by
    rcases X2 with ⟨rfl, h⟩ | ⟨h1, h2, h⟩
    · exact ⟨0, 0, 4, fun w he => pspan_at h (by decide) w he, .inl ⟨rfl, rfl, rfl, rfl⟩⟩
    · exact ⟨f, t, 0, fun w he => pspan_at h (by rw [h2]; decide) w he, .inr ⟨ne_toList h1, rfl, rfl, rfl⟩⟩
  clear X1 X2 HT1 HT2
  obtain ⟨S1, hS1⟩ : ∃ S, Hid (bs l1 = S) := ⟨_, rfl⟩
  obtain ⟨S2, hS2⟩ : ∃ S, Hid (bs l2 = S) := ⟨_, rfl⟩
  rw [hS1.out] at R1 P1
  rw [hS2.out] at R2 P2
  rw [hS1.out, hS2.out]
  have es := self_toList S1
  have et := self_toList S2
  have c0 := T3.out.c0
  have c1 := T3.out.c1
  obtain ⟨a, e, P1, K1⟩ := P1
  obtain ⟨a1, a2, g, P2, K2⟩ := P2
  have K1 := Lib.hid K1
  have K2 := Lib.hid K2
  clear hS1 hS2
  go_upto_region 5 with (first | (go_at_call 13; (with_reducible refine (R1 _).mono ?_); rintro e4 w4 ⟨rfl, b4⟩; have B4 := Lib.hid (bt BB.out b4); have T4 := Lib.hid (T3.out.below b4); have d0 := T4.out.c0; have d1 := T4.out.c1; clear b4 R1) | (go_at_call 14; (with_reducible refine (R2 _).mono ?_); rintro e5 w5 ⟨rfl, b5⟩; have B5 := Lib.hid (bt B4.out b5); have T5 := Lib.hid (T4.out.below b5); clear b5 R2) | (go_at_call 7; (with_reducible refine (P1 _).mono ?_); rintro e6 w6 ⟨rfl, b6⟩; have B6 := Lib.hid (bt B5.out b6); have T6 := Lib.hid (T5.out.below b6); clear b6 P1))
  have P2' := P2 w6 (HE.out.below B6.out)
  clear P2 c0 c1 d0 d1
  go_upto_region 6 with (go_at_call 9; (with_reducible refine P2'.mono ?_); rintro e7 w7 ⟨rfl, b7⟩; have B7 := Lib.hid (bt B6.out b7); have T7 := Lib.hid (T6.out.below b7); clear b7 P2')
  have K := known_is (w := w7.alloc (.cells #[.int .i64 a1, .int .i64 a2] 27)) ((HE.out.below B7.out).below (ba _ _))
  have B8 := Lib.hid (bt B7.out (ba w7 (.cells #[.int .i64 a1, .int .i64 a2] 27)))
  have X8 := T7.out.below (Below.mono (ba w7 (.cells #[.int .i64 a1, .int .i64 a2] 27)) (Nat.le_refl _))
  have Y8 := Two.new w7 a1 a2
  have c0 := X8.c0; have c1 := X8.c1; have e0 := Y8.c0; have e1 := Y8.c1
  obtain ⟨wz, hwz⟩ : ∃ v, Hid (v = w7.alloc (.cells #[.int .i64 a1, .int .i64 a2] 27)) := ⟨_, rfl⟩
  rw [← hwz.out] at K B8 c0 c1 e0 e1 ⊢
  clear hwz X8 Y8 T3 T4 T5 T6 T7 BB B4 B5 B6 B7
  rcases K1.out with ⟨rfl, rfl, rfl⟩ | ⟨n1, rfl, rfl⟩ <;> rcases K2.out with ⟨rfl, rfl, rfl, rfl⟩ | ⟨n2, rfl, rfl, rfl⟩
  all_goals
    go_wp2_with (go_at_call 6; (with_reducible refine K.mono ?_); rintro e9 w9 ⟨rfl, b9⟩; have B9 := Lib.hid (bt B8.out b9); clear b9 K)
    go_ret
    exact ⟨rfl, B9.out⟩
theorem texts_lawW {w : World} (n f t : Int) (hf : (Lit.int .i64 f).wf = true) (ht : (Lit.int .i64 t).wf = true) (he : Env w) : Calls Tryd.prog 4 #[.int .i64 n, .agg #[.int .i64 f, .int .i64 t]] w fun e w' => e = .returned (.bool true) ∧ Below w.heap.size w w' := by
  refine texts_law n f t ?_ he
  by_cases c : Within f t
  · refine .inl ?_
    rw [IntWalk.i64_left]
    exact IntWalk.wrap64_in _ (by have := c.1; have := c.2; omega)
  · exact .inr c
end Go.Proofs.YthbgkokepnifdaaDoor.Dt
