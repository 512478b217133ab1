/-
  datetext: the document's Text, walked.
-/
import Derived.Test.YthbgkokepnifdaaDoorDtText
namespace Go.Proofs.YthbgkokepnifdaaDoor.Dt
open Go Go.RowKit
set_option linter.unusedSimpArgs false
set_option linter.unusedVariables false
attribute [local go_sem ↓] Go.wp_at_zero Go.wp_at_succ

theorem bs_cat (l k : List UInt8) : bs l ++ bs k = bs (l ++ k) := by
  unfold bs
  apply ByteArray.ext
  rw [ByteArray.data_append]
  simp
theorem txt_cat (a b c : Nat) : bs (lowD a 4) ++ ⟨#[45]⟩ ++ bs (lowD b 2) ++ ⟨#[45]⟩ ++ bs (lowD c 2) = bs (txt a b c) := by
  rw [show (⟨#[45]⟩ : ByteArray) = bs [45] from rfl, bs_cat, bs_cat, bs_cat, bs_cat, lowD4, lowD2, lowD2]
  rfl
theorem digits4_is {w : World} (n : Nat) (hn : n < 10000) : Calls Tryd.prog 22 #[.int .i64 (n : Int), .int .i64 4] w fun e w' => e = .returned (.string (bs (lowD n 4))) ∧ Below w.heap.size w w' := digits_is n 4 (by decide) hn
theorem digits2_is {w : World} (n : Nat) (hn : n < 10000) : Calls Tryd.prog 22 #[.int .i64 (n : Int), .int .i64 2] w fun e w' => e = .returned (.string (bs (lowD n 2))) ∧ Below w.heap.size w w' := digits_is n 2 (by decide) hn
set_option maxRecDepth 100000 in
set_option maxHeartbeats 1000000 in
theorem rtext_is {w : World} (n : Int) : Calls Tryd.prog 13 #[.int .i64 n] w (TextPost n w) := by
  by_cases h : 1 ≤ n ∧ n ≤ 3652059
  · have A := rdate_yes n w h.1 h.2
    have HN := Lib.hid h
    clear h
    go_enter Tryd.func13, Tryd.ntmps13
    go_upto_region 4 with (go_at_call 21; (with_reducible refine A.mono ?_); rintro e w1 ⟨y, m, d, hd, rfl, b1⟩; have B1 := Lib.hid b1; have HD := Lib.hid hd; clear b1 hd A)
    obtain ⟨a, b, c, rfl, rfl, rfl, h1, h2, h3⟩ := nats HD.out
    have P1 := fun w => digits4_is (w := w) a h1
    have P2 := fun w => digits2_is (w := w) b (by omega)
    have P3 := fun w => digits2_is (w := w) c (by omega)
    have q := txt_cat a b c
    obtain ⟨S4, hS4⟩ : ∃ S, Hid (bs (lowD a 4) = S) := ⟨_, rfl⟩
    obtain ⟨S2, hS2⟩ : ∃ S, Hid (bs (lowD b 2) = S) := ⟨_, rfl⟩
    obtain ⟨S3, hS3⟩ : ∃ S, Hid (bs (lowD c 2) = S) := ⟨_, rfl⟩
    have z1 : S4.size = 4 := by rw [← hS4.out, bs_size, lowD_len]
    have z2 : S2.size = 2 := by rw [← hS2.out, bs_size, lowD_len]
    have z3 : S3.size = 2 := by rw [← hS3.out, bs_size, lowD_len]
    have z4 : ((⟨#[45]⟩ : ByteArray)).size = 1 := rfl
    rw [hS4.out] at P1 q
    rw [hS2.out] at P2 q
    rw [hS3.out] at P3 q
    have Q := Lib.hid q
    clear hS4 hS2 hS3 h1 h2 h3 q
    go_wp2_with (go_at_call 22; first | (with_reducible refine (P1 _).mono ?_; rintro e w2 ⟨rfl, b2⟩; have B2 := Lib.hid b2; clear b2 P1) | (with_reducible refine (P2 _).mono ?_; rintro e w3 ⟨rfl, b3⟩; have B3 := Lib.hid b3; clear b3 P2) | (with_reducible refine (P3 _).mono ?_; rintro e w4 ⟨rfl, b4⟩; have B4 := Lib.hid b4; clear b4 P3))
    go_ret
    exact ⟨_, ⟨fun _ => ⟨a, b, c, HD.out, rfl⟩, fun k => absurd HN.out k⟩, congrArg (fun x => Ending.returned (Value.string x)) Q.out, bt B1.out (bt B2.out (bt B3.out B4.out))⟩
  · have A := rdate_no n w h
    have HN := Lib.hid h
    clear h
    go_enter Tryd.func13, Tryd.ntmps13
    go_wp2_with (go_at_call 21; (with_reducible refine A.mono ?_); rintro e w1 ⟨rfl, b1⟩; have B1 := Lib.hid b1; clear b1 A)
    go_ret
    exact ⟨[], ⟨fun k => absurd k HN.out, fun _ => rfl⟩, rfl, B1.out⟩
end Go.Proofs.YthbgkokepnifdaaDoor.Dt
