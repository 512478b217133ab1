/-
  datetext: Span, the document's too, walked.
-/
import Derived.Test.YthbgkokepnifdaaDoorDtRText
namespace Go.Proofs.YthbgkokepnifdaaDoor.Dt
open Go Go.RowKit
set_option linter.unusedSimpArgs false
set_option linter.unusedVariables false
attribute [local go_sem ↓] Go.wp_at_zero Go.wp_at_succ

def Within (a b : Int) : Prop := 1 ≤ a ∧ a < b ∧ b ≤ 3652060
/-- a span's text, or none -/
def SpanOf (a b : Int) (l : List UInt8) : Prop := (Within a b → ∃ p q, TextOf a p ∧ TextOf (b - 1) q ∧ l = p ++ 46 :: 46 :: q) ∧ (¬ Within a b → l = [])
theorem SpanOf.eq {a b : Int} {l l' : List UInt8} (h : SpanOf a b l) (h' : SpanOf a b l') : l = l' := by
  by_cases c : Within a b
  · obtain ⟨p, q, e1, e2, rfl⟩ := h.1 c
    obtain ⟨p', q', e1', e2', rfl⟩ := h'.1 c
    rw [e1.eq e1', e2.eq e2']
  · rw [h.2 c, h'.2 c]
def SpanPost (a b : Int) (w : World) (e : Ending) (w' : World) : Prop := ∃ l, SpanOf a b l ∧ e = .returned (.string (bs l)) ∧ Below w.heap.size w w'
theorem ten {n : Int} {w : World} {e : Ending} {w' : World} (h1 : 1 ≤ n) (h2 : n ≤ 3652059) (h : TextPost n w e w') : ∃ S : ByteArray, e = .returned (.string S) ∧ S.size = 10 ∧ Hid (∃ l, TextOf n l ∧ S = bs l) ∧ Hid (Below w.heap.size w w') := by
  obtain ⟨l, hl, rfl, hb⟩ := h
  refine ⟨_, rfl, ?_, ⟨l, hl, rfl⟩, hb⟩
  obtain ⟨y, m, d, _, rfl⟩ := hl.1 ⟨h1, h2⟩
  rfl
set_option maxRecDepth 100000 in
set_option maxHeartbeats 1000000 in
theorem span_is {w : World} (a b : Int) (he : Env w) (hbd : IntKind.i64.wrap (b - 1) = b - 1 ∨ ¬ Within a b) : Calls Tryd.prog 12 #[.agg #[.int .i64 a, .int .i64 b]] w (SpanPost a b w) := by
  have B0 : Hid (Below w.heap.size w (w.alloc (.cells #[.int .i64 a, .int .i64 b] 27))) := ba w _
  by_cases h : Within a b
  · have d1 : decide (a < 1) = false := by simp; have := h.1; omega
    have d2 : decide (b ≤ a) = false := by simp; have := h.2.1; omega
    have d3 : decide (3652060 < b) = false := by simp; have := h.2.2; omega
    have kw := hbd.resolve_right (fun k => k h)
    have HR := Lib.hid h
    have X1 := fun w w1 e (k : TextPost a w e w1) => ten (by have := h.1; omega) (by have := h.2; omega) k
    have X2 := fun w w1 e (k : TextPost (b - 1) w e w1) => ten (by have := h.1; have := h.2; omega) (by have := h.2; omega) k
    have sz2 : (⟨#[46, 46]⟩ : ByteArray).size = 2 := rfl
    have HE := Lib.hid he; clear he
    clear h hbd
    go_enter Tryd.func12, Tryd.ntmps12
    go_upto_region 3 with fail
    have c0 : (w.alloc (.cells #[.int .i64 a, .int .i64 b] 27)).cell? ⟨w.heap.size, 0, none⟩ = some (.int .i64 a) := by rw [World.cell?_alloc_at _ _ _ _ rfl]; rfl
    have c1 : (w.alloc (.cells #[.int .i64 a, .int .i64 b] 27)).cell? ⟨w.heap.size, 1, none⟩ = some (.int .i64 b) := by rw [World.cell?_alloc_at _ _ _ _ rfl]; rfl
    have hl : w.heap.size < (w.alloc (.cells #[.int .i64 a, .int .i64 b] 27)).heap.size := by rw [World.size_alloc]; omega
    obtain ⟨wa, hwa⟩ : ∃ v, Hid (v = w.alloc (.cells #[.int .i64 a, .int .i64 b] 27)) := ⟨_, rfl⟩
    rw [← hwa.out] at c0 c1 hl B0 ⊢
    have mkS : ∀ w', Below wa.heap.size wa w' → (Below wa.heap.size wa w' ∧ w'.cell? ⟨w.heap.size, 0, none⟩ = some (.int .i64 a) ∧ w'.cell? ⟨w.heap.size, 1, none⟩ = some (.int .i64 b)) := fun w' hb => ⟨hb, (hb.cell (p := ⟨w.heap.size, 0, none⟩) hl).trans c0, (hb.cell (p := ⟨w.heap.size, 1, none⟩) hl).trans c1⟩
    have HS0 := mkS _ ((Below.refl _ _).drew)
    clear hwa c0 c1 hl
    go_region_held3 (fun w' => Below wa.heap.size wa w' ∧ w'.cell? ⟨w.heap.size, 0, none⟩ = some (.int .i64 a) ∧ w'.cell? ⟨w.heap.size, 1, none⟩ = some (.int .i64 b))
      (first | with_reducible exact HS0 | with_reducible assumption)
      (first
        | (go_at_call 11; (with_reducible refine (text_is a ((HE.out.below B0.out).below (And.left (by assumption)))).mono ?_); ((with_reducible refine fun e w2 h2 => ?_)); obtain ⟨S1, rfl, s1, t1, b2⟩ := X1 _ _ _ h2; have HS1 := mkS _ (bt (And.left (by assumption)) b2.out); clear b2 h2)
        | (go_at_call 11; (with_reducible refine (text_is (b - 1) ((HE.out.below B0.out).below (And.left (by assumption)))).mono ?_); ((with_reducible refine fun e w3 h3 => ?_)); obtain ⟨S2, rfl, s2, t2, b3⟩ := X2 _ _ _ h3; have HS2 := mkS _ (bt (And.left (by assumption)) b3.out); clear b3 h3))
    all_goals
      go_wp2_with fail
      go_ret
      obtain ⟨p, hp, rfl⟩ := t1.out
      obtain ⟨q, hq, rfl⟩ := t2.out
      refine ⟨p ++ 46 :: 46 :: q, ⟨fun _ => ⟨p, q, hp, hq, rfl⟩, fun k => absurd HR.out k⟩, ?_, bt B0.out HS2.1⟩
      rw [show (⟨#[46, 46]⟩ : ByteArray) = bs [46, 46] from rfl, bs_cat, bs_cat, List.append_assoc]
      rfl
  · have HN := Lib.hid h
    by_cases q1 : a < 1
    · have d1 : decide (a < 1) = true := by simpa using q1
      clear h q1 hbd
      go_enter Tryd.func12, Tryd.ntmps12
      go_wp2_with fail
      go_ret
      exact ⟨[], ⟨fun k => absurd k HN.out, fun _ => rfl⟩, rfl, B0.out⟩
    · have d1 : decide (a < 1) = false := by simpa using q1
      by_cases q2 : b ≤ a
      · have d2 : decide (b ≤ a) = true := by simpa using q2
        clear h q1 q2 hbd
        go_enter Tryd.func12, Tryd.ntmps12
        go_wp2_with fail
        go_ret
        exact ⟨[], ⟨fun k => absurd k HN.out, fun _ => rfl⟩, rfl, B0.out⟩
      · have d2 : decide (b ≤ a) = false := by simpa using q2
        have d3 : decide (3652060 < b) = true := by
          simp only [decide_eq_true_eq]
          by_cases q3 : 3652060 < b
          · exact q3
          · exact absurd (show Within a b from ⟨by omega, by omega, by omega⟩) h
        clear h q1 q2 hbd
        go_enter Tryd.func12, Tryd.ntmps12
        go_wp2_with fail
        go_ret
        exact ⟨[], ⟨fun k => absurd k HN.out, fun _ => rfl⟩, rfl, B0.out⟩
set_option maxRecDepth 100000 in
set_option maxHeartbeats 1000000 in
theorem rspan_is {w : World} (a b : Int) (hbd : IntKind.i64.wrap (b - 1) = b - 1 ∨ ¬ Within a b) : Calls Tryd.prog 14 #[.agg #[.int .i64 a, .int .i64 b]] w (SpanPost a b w) := by
  have B0 : Hid (Below w.heap.size w (w.alloc (.cells #[.int .i64 a, .int .i64 b] 27))) := ba w _
  by_cases h : Within a b
  · have d1 : decide (a < 1) = false := by simp; have := h.1; omega
    have d2 : decide (b ≤ a) = false := by simp; have := h.2.1; omega
    have d3 : decide (3652060 < b) = false := by simp; have := h.2.2; omega
    have kw := hbd.resolve_right (fun k => k h)
    have HR := Lib.hid h
    have X1 := fun w w1 e (k : TextPost a w e w1) => ten (by have := h.1; omega) (by have := h.2; omega) k
    have X2 := fun w w1 e (k : TextPost (b - 1) w e w1) => ten (by have := h.1; have := h.2; omega) (by have := h.2; omega) k
    have sz2 : (⟨#[46, 46]⟩ : ByteArray).size = 2 := rfl
    skip
    clear h hbd
    go_enter Tryd.func14, Tryd.ntmps14
    go_upto_region 3 with fail
    have c0 : (w.alloc (.cells #[.int .i64 a, .int .i64 b] 27)).cell? ⟨w.heap.size, 0, none⟩ = some (.int .i64 a) := by rw [World.cell?_alloc_at _ _ _ _ rfl]; rfl
    have c1 : (w.alloc (.cells #[.int .i64 a, .int .i64 b] 27)).cell? ⟨w.heap.size, 1, none⟩ = some (.int .i64 b) := by rw [World.cell?_alloc_at _ _ _ _ rfl]; rfl
    have hl : w.heap.size < (w.alloc (.cells #[.int .i64 a, .int .i64 b] 27)).heap.size := by rw [World.size_alloc]; omega
    obtain ⟨wa, hwa⟩ : ∃ v, Hid (v = w.alloc (.cells #[.int .i64 a, .int .i64 b] 27)) := ⟨_, rfl⟩
    rw [← hwa.out] at c0 c1 hl B0 ⊢
    have mkS : ∀ w', Below wa.heap.size wa w' → (Below wa.heap.size wa w' ∧ w'.cell? ⟨w.heap.size, 0, none⟩ = some (.int .i64 a) ∧ w'.cell? ⟨w.heap.size, 1, none⟩ = some (.int .i64 b)) := fun w' hb => ⟨hb, (hb.cell (p := ⟨w.heap.size, 0, none⟩) hl).trans c0, (hb.cell (p := ⟨w.heap.size, 1, none⟩) hl).trans c1⟩
    have HS0 := mkS _ ((Below.refl _ _).drew)
    clear hwa c0 c1 hl
    go_region_held3 (fun w' => Below wa.heap.size wa w' ∧ w'.cell? ⟨w.heap.size, 0, none⟩ = some (.int .i64 a) ∧ w'.cell? ⟨w.heap.size, 1, none⟩ = some (.int .i64 b))
      (first | with_reducible exact HS0 | with_reducible assumption)
      (first
        | (go_at_call 13; (with_reducible refine (rtext_is a).mono ?_); ((with_reducible refine fun e w2 h2 => ?_)); obtain ⟨S1, rfl, s1, t1, b2⟩ := X1 _ _ _ h2; have HS1 := mkS _ (bt (And.left (by assumption)) b2.out); clear b2 h2)
        | (go_at_call 13; (with_reducible refine (rtext_is (b - 1)).mono ?_); ((with_reducible refine fun e w3 h3 => ?_)); obtain ⟨S2, rfl, s2, t2, b3⟩ := X2 _ _ _ h3; have HS2 := mkS _ (bt (And.left (by assumption)) b3.out); clear b3 h3))
    all_goals
      go_wp2_with fail
      go_ret
      obtain ⟨p, hp, rfl⟩ := t1.out
      obtain ⟨q, hq, rfl⟩ := t2.out
      refine ⟨p ++ 46 :: 46 :: q, ⟨fun _ => ⟨p, q, hp, hq, rfl⟩, fun k => absurd HR.out k⟩, ?_, bt B0.out HS2.1⟩
      rw [show (⟨#[46, 46]⟩ : ByteArray) = bs [46, 46] from rfl, bs_cat, bs_cat, List.append_assoc]
      rfl
  · have HN := Lib.hid h
    by_cases q1 : a < 1
    · have d1 : decide (a < 1) = true := by simpa using q1
      clear h q1 hbd
      go_enter Tryd.func14, Tryd.ntmps14
      go_wp2_with fail
      go_ret
      exact ⟨[], ⟨fun k => absurd k HN.out, fun _ => rfl⟩, rfl, B0.out⟩
    · have d1 : decide (a < 1) = false := by simpa using q1
      by_cases q2 : b ≤ a
      · have d2 : decide (b ≤ a) = true := by simpa using q2
        clear h q1 q2 hbd
        go_enter Tryd.func14, Tryd.ntmps14
        go_wp2_with fail
        go_ret
        exact ⟨[], ⟨fun k => absurd k HN.out, fun _ => rfl⟩, rfl, B0.out⟩
      · have d2 : decide (b ≤ a) = false := by simpa using q2
        have d3 : decide (3652060 < b) = true := by
          simp only [decide_eq_true_eq]
          by_cases q3 : 3652060 < b
          · exact q3
          · exact absurd (show Within a b from ⟨by omega, by omega, by omega⟩) h
        clear h q1 q2 hbd
        go_enter Tryd.func14, Tryd.ntmps14
        go_wp2_with fail
        go_ret
        exact ⟨[], ⟨fun k => absurd k HN.out, fun _ => rfl⟩, rfl, B0.out⟩
end Go.Proofs.YthbgkokepnifdaaDoor.Dt
