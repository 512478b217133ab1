/-
  avl: turn, toLeft, toRight turn a node below its side.
-/
import Derived.Test.YtmgljgmfipodeaaM11
/-
  avl: turn, toLeft, toRight turn a node below its side.
-/
namespace Go.Proofs.Ytmgljgmfipodeaa.Av
open Go Go.RowKit
set_option linter.unusedSimpArgs false
set_option linter.unusedVariables false
attribute [local go_sem ↓] Go.wp_at_zero Go.wp_at_succ
set_option maxRecDepth 100000 in
theorem turn_st {w : World} {B b g cap p : Nat} {most root many K : Int} {fv : Value} {ns : List Nd} {r : Bool} (h : St w B b g cap most root many fv ns) (hp : p < ns.length) (hF : Fit ns K) (hK : K ≤ 900000) (hs : 0 ≤ sideN ns p r) :
    Calls Try.prog 48 #[.pointer (some ⟨b, 0, none⟩), .int .i64 (p : Int), .bool r] w fun e w' => e = .returned (.int .i64 ((turnN ns p r).1 : Int)) ∧ St w' B b g cap most root many fv (turnN ns p r).2 ∧ But (· = g) w w' := by
  have hu := hF.side p r hp
  obtain ⟨u, e⟩ : ∃ n : Nat, sideN ns p r = (n : Int) := ⟨(sideN ns p r).toNat, by omega⟩
  have A1 := side_st p r h hp
  rw [e] at A1 hu
  have ul : u < ns.length := by omega
  have A2 := side_st u (!r) h ul
  have d1 := hF.side u (!r) ul
  have A3 := hang_st p r (sideN ns u (!r)) h hp
  have F1 := hF.hang p r (sideN ns u (!r)) d1
  have F2 := F1.hang u (!r) (p : Int) (by rw [hangN_len]; omega)
  have F3 := F2.sum p
  have HT : Hid (turnN ns p r = (u, sumN (sumN (hangN (hangN ns p r (sideN ns u (!r))) u (!r) (p : Int)) p) u)) := by
    show _ = _
    unfold turnN
    rw [e]
    rfl
  have HUL := Lib.hid ul
  have HPL := Lib.hid hp
  have HF2 := Lib.hid F2
  have HF3 := Lib.hid F3
  have HKK := Lib.hid hK
  clear h hF F1 F2 F3 d1 e hu hs hK
  go_enter Try.func48, Try.ntmps48
  go_wp2_with (first
    | (go_at_call 38; (with_reducible refine A1.mono ?_); rintro e w1 ⟨rfl, rfl⟩)
    | (go_at_call 38; (with_reducible refine A2.mono ?_); rintro e w1 ⟨rfl, rfl⟩)
    | (go_at_call 39; (with_reducible refine A3.mono ?_); rintro e w1 ⟨rfl, s1, b1⟩; have H1 := Lib.hid s1; have B1 := Lib.hid b1; clear s1 b1 A1 A2 A3; have A4 := hang_st u (!r) (p : Int) H1.out (by rw [hangN_len]; exact HUL.out))
    | (go_at_call 39; (with_reducible refine A4.mono ?_); rintro e w2 ⟨rfl, s2, b2⟩; have H2 := Lib.hid s2; have B2 := Lib.hid (B1.out.trans b2); clear s2 b2 A4 B1 H1; have A5 := sum_st H2.out (p := p) (by rw [hangN_len, hangN_len]; exact HPL.out) HF2.out (by have := HKK.out; omega))
    | (go_at_call 43; (with_reducible refine A5.mono ?_); rintro e w3 ⟨rfl, s3, b3⟩; have H3 := Lib.hid s3; have B3 := Lib.hid (B2.out.trans b3); clear s3 b3 A5 B2 H2; have A6 := sum_st H3.out (p := u) (by rw [sumN_len, hangN_len, hangN_len]; exact HUL.out) HF3.out (by have := HKK.out; omega))
    | (go_at_call 43; (with_reducible refine A6.mono ?_); rintro e w4 ⟨rfl, s4, b4⟩; have H4 := Lib.hid s4; have B4 := Lib.hid (B3.out.trans b4); clear s4 b4 A6 B3 H3))
  rw [HT.out]
  go_ret
  exact ⟨rfl, H4.out, B4.out⟩
theorem left_st {w : World} {B b g cap p : Nat} {most root many K : Int} {fv : Value} {ns : List Nd} (h : St w B b g cap most root many fv ns) (hp : p < ns.length) (hF : Fit ns K) (hK : K ≤ 900000) (hs : 0 ≤ sideN ns p true) :
    Calls Try.prog 46 #[.pointer (some ⟨b, 0, none⟩), .int .i64 (p : Int)] w fun e w' => e = .returned (.int .i64 ((turnN ns p true).1 : Int)) ∧ St w' B b g cap most root many fv (turnN ns p true).2 ∧ But (· = g) w w' := by
  have A := turn_st h hp hF hK hs
  clear h hF hp hK hs
  go_enter Try.func46, Try.ntmps46
  go_wp2_with (go_at_call 48; (with_reducible refine A.mono ?_); rintro e w1 ⟨rfl, s1, b1⟩; have H1 := Lib.hid s1; have B1 := Lib.hid b1; clear s1 b1 A)
  go_ret
  exact ⟨rfl, H1.out, B1.out⟩
theorem right_st {w : World} {B b g cap p : Nat} {most root many K : Int} {fv : Value} {ns : List Nd} (h : St w B b g cap most root many fv ns) (hp : p < ns.length) (hF : Fit ns K) (hK : K ≤ 900000) (hs : 0 ≤ sideN ns p false) :
    Calls Try.prog 45 #[.pointer (some ⟨b, 0, none⟩), .int .i64 (p : Int)] w fun e w' => e = .returned (.int .i64 ((turnN ns p false).1 : Int)) ∧ St w' B b g cap most root many fv (turnN ns p false).2 ∧ But (· = g) w w' := by
  have A := turn_st h hp hF hK hs
  clear h hF hp hK hs
  go_enter Try.func45, Try.ntmps45
  go_wp2_with (go_at_call 48; (with_reducible refine A.mono ?_); rintro e w1 ⟨rfl, s1, b1⟩; have H1 := Lib.hid s1; have B1 := Lib.hid b1; clear s1 b1 A)
  go_ret
  exact ⟨rfl, H1.out, B1.out⟩
end Go.Proofs.Ytmgljgmfipodeaa.Av
