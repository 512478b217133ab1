/-
  datetext: the known texts, walked.
-/
import Derived.Test.YthbgkokepnifdaaDoorDtSpanW
namespace Go.Proofs.YthbgkokepnifdaaDoor.Dt
open Go Go.RowKit
set_option linter.unusedSimpArgs false
set_option linter.unusedVariables false
attribute [local go_sem ↓] Go.wp_at_zero Go.wp_at_succ

def k1 : List UInt8 := [50, 48, 48, 48, 45, 48, 50, 45, 50, 57]
def k2 : List UInt8 := [50, 48, 48, 48, 45, 50, 45, 50, 57]
def k3 : List UInt8 := [49, 57, 48, 48, 45, 48, 50, 45, 50, 57]
def k4 : List UInt8 := [50, 48, 48, 48, 45, 48, 49, 45, 48, 49, 46, 46, 50, 48, 48, 48, 45, 48, 49, 45, 48, 49]
theorem k1_is : parseS k1 = (730179, 0) := by decide +kernel
theorem k2_is : parseS k2 = (0, 4) := by decide +kernel
theorem k3_is : parseS k3 = (0, 15) := by decide +kernel
theorem k4_is : parseSp k4 = ((730120, 730121), 0) := by decide +kernel
theorem one_text {l : List UInt8} (h : TextOf 1 l) : l = [48, 48, 48, 49, 45, 48, 49, 45, 48, 49] := by
  have h' : TextOf 1 [48, 48, 48, 49, 45, 48, 49, 45, 48, 49] := ⟨fun _ => ⟨1, 1, 1, ⟨by unfold Cal.Valid; decide +kernel, by decide +kernel⟩, by decide +kernel⟩, fun k => absurd (show (1 : Int) ≤ 1 ∧ (1 : Int) ≤ 3652059 by decide) k⟩
  exact h.eq h'
set_option maxRecDepth 100000 in
set_option maxHeartbeats 4000000 in
theorem known_is {w : World} (he : Env w) : Calls Tryd.prog 6 #[] w fun e w' => e = .returned (.bool true) ∧ Below w.heap.size w w' := by
  have HE := Lib.hid he
  have A1 : ∀ w, Calls Tryd.prog 7 #[.string ⟨#[50, 48, 48, 48, 45, 48, 50, 45, 50, 57]⟩] w fun e w' => e = .returned (.tuple #[.int .i64 730179, .int .i64 0]) ∧ Below w.heap.size w w' := fun w => parse_at_ k1_is (by decide) w
  have A2 : ∀ w, Calls Tryd.prog 7 #[.string ⟨#[50, 48, 48, 48, 45, 50, 45, 50, 57]⟩] w fun e w' => e = .returned (.tuple #[.int .i64 0, .int .i64 4]) ∧ Below w.heap.size w w' := fun w => parse_at_ k2_is (by decide) w
  have A3 : ∀ w, Calls Tryd.prog 7 #[.string ⟨#[49, 57, 48, 48, 45, 48, 50, 45, 50, 57]⟩] w fun e w' => e = .returned (.tuple #[.int .i64 0, .int .i64 15]) ∧ Below w.heap.size w w' := fun w => parse_at_ k3_is (by decide) w
  have A4 : ∀ w, Env w → Calls Tryd.prog 9 #[.string ⟨#[50, 48, 48, 48, 45, 48, 49, 45, 48, 49, 46, 46, 50, 48, 48, 48, 45, 48, 49, 45, 48, 49]⟩] w fun e w' => e = .returned (.tuple #[.agg #[.int .i64 730120, .int .i64 730121], .int .i64 0]) ∧ Below w.heap.size w w' := fun w h => by
    have := pspan_is (w := w) k4 (by decide) h
    unfold SpPost at this
    rw [k4_is] at this
    exact this
  clear he
  go_enter Tryd.func6, Tryd.ntmps6
  go_upto_region 4 with (first | (go_at_call 7; (with_reducible refine (A1 _).mono ?_); rintro e1 w1 ⟨rfl, b1⟩; have B1 := Lib.hid b1; clear b1 A1) | (go_at_call 7; (with_reducible refine (A2 _).mono ?_); rintro e2 w2 ⟨rfl, b2⟩; have B2 := Lib.hid (bt B1.out b2); clear b2 A2) | (go_at_call 7; (with_reducible refine (A3 _).mono ?_); rintro e3 w3 ⟨rfl, b3⟩; have B3 := Lib.hid (bt B2.out b3); clear b3 A3))
  have A4' := A4 w3 (HE.out.below B3.out)
  clear A4
  go_upto_region 5 with (go_at_call 9; (with_reducible refine A4'.mono ?_); rintro e4 w4 ⟨rfl, b4⟩; have B4 := Lib.hid (bt B3.out b4); clear b4 A4')
  have A5 := text_is (w := w4.alloc (.cells #[.int .i64 730120, .int .i64 730121] 27)) 1 ((HE.out.below B4.out).below (ba _ _))
  have T4 := Lib.hid (Two.new w4 730120 730121)
  have B5 := Lib.hid (bt B4.out (ba w4 (.cells #[.int .i64 730120, .int .i64 730121] 27)))
  have A6 : Hid (∀ e w', TextPost 1 (w4.alloc (.cells #[.int .i64 730120, .int .i64 730121] 27)) e w' → e = .returned (.string ⟨#[48, 48, 48, 49, 45, 48, 49, 45, 48, 49]⟩) ∧ Below (w4.alloc (.cells #[.int .i64 730120, .int .i64 730121] 27)).heap.size (w4.alloc (.cells #[.int .i64 730120, .int .i64 730121] 27)) w') := fun e w' h => by
    obtain ⟨l, hl, rfl, hb⟩ := h
    rw [one_text hl]
    exact ⟨rfl, hb⟩
  obtain ⟨w5, hw5⟩ : ∃ v, Hid (v = w4.alloc (.cells #[.int .i64 730120, .int .i64 730121] 27)) := ⟨_, rfl⟩
  rw [← hw5.out] at A5 A6 B5 T4 ⊢
  clear hw5 B4 B3 B2 B1
  go_wp2_with (go_at_call 11; ((with_reducible refine A5.mono ?_); ((with_reducible refine fun e w6 h6 => ?_)); obtain ⟨rfl, b6⟩ := A6.out _ _ h6; have T6 := T4.out.below b6; have c0 := T6.c0; have c1 := T6.c1; have B6 := Lib.hid (bt B5.out b6); clear b6 h6 A5 A6 T6))
  go_ret
  exact ⟨rfl, B6.out⟩
end Go.Proofs.YthbgkokepnifdaaDoor.Dt
