/-
  THE WALK of wide's Cmp.
-/
import Derived.Test.YtbcnbahfjpgmaaaDoorM30
import Derived.Test.YtbcnbahfjpgmaaaDoorM27
import Derived.Test.YtbcnbahfjpgmaaaDoorM31
import Derived.Deep.RegionHeld3
/-
  THE WALK of wide's Cmp.
-/
namespace Go.Proofs.YtbcnbahfjpgmaaaDoor
open Go.RowKit
attribute [local go_sem ↓] Go.wp_at_zero Go.wp_at_succ

theorem wv_is (n : Bool) (hi lo : Nat) (h : lo < 18446744073709551616) (b : Bool) (hb : (n && decide (0 < hi ∨ 0 < lo)) = b) : wv (wz n hi lo) = .agg #[.bool b, .int .u64 (hi : Int), .int .u64 (lo : Int)] := by
  rw [wv_wz n hi lo h, hb]; rfl
/-- the comparison out of signs and sizes -/
theorem cmp_parts (n1 n2 : Bool) (h1 l1 h2 l2 : Nat) (p q : Bool) (hp : (n1 && decide (0 < h1 ∨ 0 < l1)) = p) (hq : (n2 && decide (0 < h2 ∨ 0 < l2)) = q) :
    cmpZ (wz n1 h1 l1) (wz n2 h2 l2) = if p = true then (if q = true then cmpZ ((h2 * 18446744073709551616 + l2 : Nat) : Int) ((h1 * 18446744073709551616 + l1 : Nat) : Int) else -1) else (if q = true then 1 else cmpZ ((h1 * 18446744073709551616 + l1 : Nat) : Int) ((h2 * 18446744073709551616 + l2 : Nat) : Int)) := by
  have a1 := wz_abs n1 h1 l1; have a2 := wz_abs n2 h2 l2
  have s1 := wz_neg n1 h1 l1; have s2 := wz_neg n2 h2 l2
  rw [hp] at s1; rw [hq] at s2
  generalize wz n1 h1 l1 = x at *
  generalize wz n2 h2 l2 = y at *
  have e1 : ((h1 * 18446744073709551616 + l1 : Nat) : Int) = (x.natAbs : Int) := by rw [a1]
  have e2 : ((h2 * 18446744073709551616 + l2 : Nat) : Int) = (y.natAbs : Int) := by rw [a2]
  rw [e1, e2]
  clear a1 a2 e1 e2 hp hq
  cases p <;> cases q <;> simp only [decide_eq_true_eq, decide_eq_false_iff_not, Bool.false_eq_true, if_false, if_true] at s1 s2 ⊢ <;> unfold cmpZ <;> (repeat' split) <;> omega
/-- behind 'x, y = put(..), put(..)' -/
def CmpMid (B1 : Nat) (w : World) (p q : Bool) (h1 l1 h2 l2 : Nat) (wx : World) : Prop :=
  WAt wx B1 p h1 l1 ∧ WAt wx (B1 + 1) q h2 l2 ∧ Below w.heap.size w wx

theorem below_set3 {w w' : World} {B b : Nat} (u0 u1 u2 : Value) (h : Below B w w') (hb : B ≤ b) : Below B w (((w'.setCell ⟨b, 0, none⟩ u0).setCell ⟨b, 1, none⟩ u1).setCell ⟨b, 2, none⟩ u2) := ((h.setCell hb _).setCell hb _).setCell hb _
theorem wAt_other3 {w : World} {b b' : Nat} {n : Bool} {h l : Int} (u0 u1 u2 : Value) (H : WAt w b n h l) (hb : b ≠ b') : WAt (((w.setCell ⟨b', 0, none⟩ u0).setCell ⟨b', 1, none⟩ u1).setCell ⟨b', 2, none⟩ u2) b n h l := by
  unfold WAt; rw [Below.heap_setCell _ _ _ _ hb, Below.heap_setCell _ _ _ _ hb, Below.heap_setCell _ _ _ _ hb]; exact H
end Go.Proofs.YtbcnbahfjpgmaaaDoor
