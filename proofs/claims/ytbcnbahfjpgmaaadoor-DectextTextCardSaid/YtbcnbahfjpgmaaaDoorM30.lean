/-
  THE WALKS of corrodylaw01's told and known; THE WALK of corrodylaw01's known; THE WALKS of cmp.Compare at uint64, cmp.Or at int, and of wide's above; THE WALK of wide's above; THE WALKS of wide's Add, Cmp.
-/
import Derived.Test.YtbcnbahfjpgmaaaDoorM27
import Derived.Test.YtbcnbahfjpgmaaaDoorM29
import Derived.Deep.RegionHeld3
import Derived.Test.YtbcnbahfjpgmaaaDoorM16
import Derived.Test.YtbcnbahfjpgmaaaDoorM26
import Derived.StillTailTactics
/-
  THE WALKS of corrodylaw01's told and known.
-/
namespace Go.Proofs.YtbcnbahfjpgmaaaDoor
open Go.RowKit
attribute [local go_sem ↓] Go.wp_at_zero Go.wp_at_succ

/-- an answer's two parts, out of the number -/
theorem ov_parts (z : Int) (b : Bool) (h l : Nat) (e : Int) (hov : ovV z = .tuple #[.agg #[.bool b, .int .u64 (h : Int), .int .u64 (l : Int)], .int .i64 e]) :
    (e = 0 ∧ asV z = .tuple #[.agg #[.bool b, .int .u64 (h : Int), .int .u64 (l : Int)], .bool true]) ∨ (e = 11 ∧ b = false ∧ h = 0 ∧ l = 0 ∧ asV z = .tuple #[.agg #[.bool false, .int .u64 0, .int .u64 0], .bool false]) := by
  unfold ovV at hov
  unfold asV
  split at hov
  · rename_i hz
    rw [if_pos hz]
    simp only [Value.tuple.injEq, Array.mk.injEq, List.cons.injEq, Value.int.injEq, and_true, true_and] at hov
    refine .inl ⟨hov.2.symm, ?_⟩
    rw [← hov.1]; rfl
  · rename_i hz
    rw [if_neg hz]
    simp only [Value.tuple.injEq, Value.agg.injEq, Array.mk.injEq, List.cons.injEq, Value.int.injEq, Value.bool.injEq, and_true, true_and] at hov
    exact .inr ⟨hov.2.symm, hov.1.1.symm, by omega, by omega, rfl⟩

/-- the number 10 times .. of a known one -/
theorem wv_small (z : Int) (h0 : -9223372036854775808 ≤ z) (h1 : z ≤ 9223372036854775807) : ∃ (b : Bool) (l : Nat), wv z = .agg #[.bool b, .int .u64 ((0 : Nat) : Int), .int .u64 (l : Int)] ∧ l < 18446744073709551616 ∧ wz b (0 : Nat) l = z := by
  refine ⟨decide (z < 0), z.natAbs, ?_, by omega, wz_of z⟩
  unfold wv wr
  rw [show z.natAbs / 18446744073709551616 = 0 by omega, show z.natAbs % 18446744073709551616 = z.natAbs by omega]

end Go.Proofs.YtbcnbahfjpgmaaaDoor
/-
  THE WALK of corrodylaw01's known.
-/
namespace Go.Proofs.YtbcnbahfjpgmaaaDoor
open Go.RowKit
attribute [local go_sem ↓] Go.wp_at_zero Go.wp_at_succ

theorem wOf_c (n : Int) (v : Value) (w : World) (h0 : -9223372036854775808 ≤ n) (h1 : n ≤ 9223372036854775807) (hv : wv n = v) :
    Calls Tryd.prog 29 #[.int .i64 n] w fun e w' => e = .returned v ∧ Below w.heap.size w w' := by
  rw [← hv]; exact wOf_any n w h0 h1

end Go.Proofs.YtbcnbahfjpgmaaaDoor
/-
  THE WALKS of cmp.Compare at uint64, cmp.Or at int, and of wide's above.
-/

namespace Go.Proofs.YtbcnbahfjpgmaaaDoor
open Go.RowKit
attribute [local go_sem ↓] Go.wp_at_zero Go.wp_at_succ

def orZ (a b : Int) : Int := if a = 0 then b else a
end Go.Proofs.YtbcnbahfjpgmaaaDoor
/-
  THE WALK of wide's above.
-/
namespace Go.Proofs.YtbcnbahfjpgmaaaDoor
open Go.RowKit
attribute [local go_sem ↓] Go.wp_at_zero Go.wp_at_succ

theorem orZ_cmp (h1 l1 h2 l2 : Nat) (a : l1 < 18446744073709551616) (b : l2 < 18446744073709551616) :
    orZ (cmpZ h1 h2) (cmpZ l1 l2) = cmpZ ((h1 * 18446744073709551616 + l1 : Nat) : Int) ((h2 * 18446744073709551616 + l2 : Nat) : Int) := by
  unfold orZ cmpZ
  by_cases e : h1 = h2
  · subst e
    by_cases f : l1 = l2
    · subst f; simp
    · have : ((h1 * 18446744073709551616 + l1 : Nat) : Int) ≠ ((h1 * 18446744073709551616 + l2 : Nat) : Int) := by omega
      have g : (l1 : Int) ≠ l2 := by omega
      rw [if_neg this, if_neg g]
      by_cases k : (l1 : Int) < l2
      · rw [if_pos k, if_pos (show ((h1 * 18446744073709551616 + l1 : Nat) : Int) < ((h1 * 18446744073709551616 + l2 : Nat) : Int) by omega)]; simp
      · rw [if_neg k, if_neg (show ¬ ((h1 * 18446744073709551616 + l1 : Nat) : Int) < ((h1 * 18446744073709551616 + l2 : Nat) : Int) by omega)]; simp
  · have : ((h1 * 18446744073709551616 + l1 : Nat) : Int) ≠ ((h2 * 18446744073709551616 + l2 : Nat) : Int) := by omega
    have g : (h1 : Int) ≠ h2 := by omega
    rw [if_neg this, if_neg g]
    by_cases k : (h1 : Int) < h2
    · rw [if_pos k, if_pos (show ((h1 * 18446744073709551616 + l1 : Nat) : Int) < ((h2 * 18446744073709551616 + l2 : Nat) : Int) by omega)]; simp
    · rw [if_neg k, if_neg (show ¬ ((h1 * 18446744073709551616 + l1 : Nat) : Int) < ((h2 * 18446744073709551616 + l2 : Nat) : Int) by omega)]; simp

end Go.Proofs.YtbcnbahfjpgmaaaDoor
/-
  THE WALKS of wide's Add, Cmp.
-/
namespace Go.Proofs.YtbcnbahfjpgmaaaDoor
set_option linter.unusedSimpArgs false
set_option linter.unusedVariables false
open Go.RowKit
attribute [local go_sem ↓] Go.wp_at_zero Go.wp_at_succ

theorem wz_plus (n : Bool) (h1 l1 h2 l2 H L : Nat) (h : h1 * 18446744073709551616 + l1 + (h2 * 18446744073709551616 + l2) = H * 18446744073709551616 + L) : wz n h1 l1 + wz n h2 l2 = wz n H L := by
  unfold wz; cases n
  · simp only [Bool.false_eq_true, if_false]; omega
  · simp only [if_true]; omega
theorem wz_less (n : Bool) (h1 l1 h2 l2 H L : Nat) (h : h1 * 18446744073709551616 + l1 = H * 18446744073709551616 + L + (h2 * 18446744073709551616 + l2)) : wz n h1 l1 + wz (!n) h2 l2 = wz n H L := by
  unfold wz; cases n
  · simp only [Bool.false_eq_true, if_false, Bool.not_false, if_true]; omega
  · simp only [if_true, Bool.not_true, Bool.false_eq_true, if_false]; omega

theorem add_nat (h1 l1 h2 l2 L C H O : Nat) (a : l1 + l2 = C * 18446744073709551616 + L) (b : h1 + h2 + C = O * 18446744073709551616 + H) :
    h1 * 18446744073709551616 + l1 + (h2 * 18446744073709551616 + l2) = O * 340282366920938463463374607431768211456 + (H * 18446744073709551616 + L) := by omega
theorem divmodB (x C L : Nat) (h1 : x / 18446744073709551616 = C) (h2 : x % 18446744073709551616 = L) : x = C * 18446744073709551616 + L := by omega

/-- behind the order of the two -/
def AddOrd (w : World) (n : Bool) (h1 l1 h2 l2 : Nat) (wx : World) : Prop :=
  WAt wx w.heap.size n h1 l1 ∧ WAt wx (w.heap.size + 1) (!n) h2 l2 ∧ WAt wx (w.heap.size + 1 + 1) false 0 0 ∧ Below w.heap.size w wx

theorem add_swapped {w : World} {b1 b2 b3 : Nat} {n1 n2 : Bool} {h1 l1 h2 l2 : Int} (X : WAt w b1 n1 h1 l1) (Y : WAt w b2 n2 h2 l2) (Z : WAt w b3 false 0 0) (e12 : b1 ≠ b2) (e13 : b1 ≠ b3) (e23 : b2 ≠ b3) :
    WAt ((((((w.setCell ⟨b1, 0, none⟩ (.bool n2)).setCell ⟨b1, 1, none⟩ (.int .u64 h2)).setCell ⟨b1, 2, none⟩ (.int .u64 l2)).setCell ⟨b2, 0, none⟩ (.bool n1)).setCell ⟨b2, 1, none⟩ (.int .u64 h1)).setCell ⟨b2, 2, none⟩ (.int .u64 l1)) b1 n2 h2 l2 ∧
    WAt ((((((w.setCell ⟨b1, 0, none⟩ (.bool n2)).setCell ⟨b1, 1, none⟩ (.int .u64 h2)).setCell ⟨b1, 2, none⟩ (.int .u64 l2)).setCell ⟨b2, 0, none⟩ (.bool n1)).setCell ⟨b2, 1, none⟩ (.int .u64 h1)).setCell ⟨b2, 2, none⟩ (.int .u64 l1)) b2 n1 h1 l1 ∧
    WAt ((((((w.setCell ⟨b1, 0, none⟩ (.bool n2)).setCell ⟨b1, 1, none⟩ (.int .u64 h2)).setCell ⟨b1, 2, none⟩ (.int .u64 l2)).setCell ⟨b2, 0, none⟩ (.bool n1)).setCell ⟨b2, 1, none⟩ (.int .u64 h1)).setCell ⟨b2, 2, none⟩ (.int .u64 l1)) b3 false 0 0 := by
  have other : ∀ {w : World} {b b' : Nat} {n : Bool} {h l : Int} (o : Nat) (u : Value), WAt w b n h l → b ≠ b' → WAt (w.setCell ⟨b', o, none⟩ u) b n h l := by
    intro w b b' n h l o u H hb; unfold WAt; rw [Below.heap_setCell _ _ _ _ hb]; exact H
  refine ⟨other _ _ (other _ _ (other _ _ (wAt_set3 _ _ _ X) e12) e12) e12, wAt_set3 _ _ _ (other _ _ (other _ _ (other _ _ Y (Ne.symm e12)) (Ne.symm e12)) (Ne.symm e12)), ?_⟩
  exact other _ _ (other _ _ (other _ _ (other _ _ (other _ _ (other _ _ Z (Ne.symm e13)) (Ne.symm e13)) (Ne.symm e13)) (Ne.symm e23)) (Ne.symm e23)) (Ne.symm e23)

theorem sub_parts (h1 l1 h2 l2 : Nat) (hl1 : l1 < 18446744073709551616) (hl2 : l2 < 18446744073709551616) (b1 : h1 < 18446744073709551616) (b3 : h2 < 18446744073709551616)
    (h : h2 * 18446744073709551616 + l2 ≤ h1 * 18446744073709551616 + l1) : ∃ H L b : Nat, H < 18446744073709551616 ∧ L < 18446744073709551616 ∧ b ≤ 1 ∧ h1 * 18446744073709551616 + l1 = H * 18446744073709551616 + L + (h2 * 18446744073709551616 + l2) ∧
      ((l1 : Int) - l2 - 0) % 18446744073709551616 = L ∧ (if (l1 : Int) < l2 + 0 then (1 : Int) else 0) = b ∧ ((h1 : Int) - h2 - b) % 18446744073709551616 = H := by
  by_cases c : l1 < l2
  · exact ⟨h1 - h2 - 1, l1 + 18446744073709551616 - l2, 1, by omega, by omega, by omega, by omega, by omega, by rw [if_pos (by omega)]; rfl, by omega⟩
  · exact ⟨h1 - h2, l1 - l2, 0, by omega, by omega, by omega, by omega, by omega, by rw [if_neg (by omega)]; rfl, by omega⟩

end Go.Proofs.YtbcnbahfjpgmaaaDoor
