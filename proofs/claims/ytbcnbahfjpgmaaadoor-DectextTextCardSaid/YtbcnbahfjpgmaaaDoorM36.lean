/-
  VARIABLES of type api.Dec; decimal.is.
-/
import Derived.Test.YtbcnbahfjpgmaaaDoorM35
import Derived.Test.YtbcnbahfjpgmaaaDoorM27
import Derived.Test.YtbcnbahfjpgmaaaDoorM23
/-
  VARIABLES of type api.Dec; decimal.is.
-/
namespace Go.Proofs.YtbcnbahfjpgmaaaDoor
open Go.RowKit

/-- a variable of type api.Dec -/
def DAt (w : World) (b : Nat) (c s : Int) : Prop := w.heap[b]? = some (.cells #[.int .i64 c, .int .i64 s] 23 (0, 0))
theorem dAt_new (w : World) (c s : Int) : DAt (w.alloc (.cells #[.int .i64 c, .int .i64 s] 23)) w.heap.size c s := heap_alloc_new w _
section
variable {w : World} {b : Nat} {c s : Int}
theorem DAt.lt (h : DAt w b c s) : b < w.heap.size := (Array.getElem?_eq_some_iff.1 h).1
theorem DAt.below {w' : World} (h : DAt w b c s) (hb : Below w.heap.size w w') : DAt w' b c s := by
  unfold DAt; rw [hb.block b h.lt]; exact h
theorem DAt.c0 (h : DAt w b c s) : w.cell? ⟨b, 0, none⟩ = some (.int .i64 c) := by rw [cell_of_row w _ _ _ _ (0, 0) h]; rfl
theorem DAt.c1 (h : DAt w b c s) : w.cell? ⟨b, 1, none⟩ = some (.int .i64 s) := by rw [cell_of_row w _ _ _ _ (0, 0) h]; rfl
theorem DAt.f0 (h : DAt w b c s) : w.frozen? ⟨b, 0, none⟩ = false := frozen_of_row w _ _ _ _ h
theorem DAt.f1 (h : DAt w b c s) : w.frozen? ⟨b, 1, none⟩ = false := frozen_of_row w _ _ _ _ h
theorem dAt_set2 (x y : Int) (h : DAt w b c s) : DAt ((w.setCell ⟨b, 0, none⟩ (.int .i64 x)).setCell ⟨b, 1, none⟩ (.int .i64 y)) b x y := heap_set (.int .i64 y) (heap_set (.int .i64 x) h)
theorem dAt_other {b' : Nat} (o : Nat) (u : Value) (h : DAt w b c s) (hb : b ≠ b') : DAt (w.setCell ⟨b', o, none⟩ u) b c s := by
  unfold DAt; rw [Below.heap_setCell _ _ _ _ hb]; exact h
end
theorem wAt_other {w : World} {b b' : Nat} {n : Bool} {h l : Int} (o : Nat) (u : Value) (H : WAt w b n h l) (hb : b ≠ b') : WAt (w.setCell ⟨b', o, none⟩ u) b n h l := by
  unfold WAt; rw [Below.heap_setCell _ _ _ _ hb]; exact H
/-- are the places those of a number? -/
def isB (s : Int) : Bool := decide (0 ≤ s ∧ s ≤ 9)
theorem isB_nat {s : Int} (h : isB s = true) : ∃ n : Nat, s = (n : Int) ∧ n ≤ 9 := by
  unfold isB at h
  have := of_decide_eq_true h
  exact ⟨s.toNat, by omega, by omega⟩

set_option maxRecDepth 100000 in
theorem is1_any (g : Nat) (c s : Int) (w : World) (h0 : w.cell? ⟨g, 0, none⟩ = some (.int .i64 c)) (h1 : w.cell? ⟨g, 1, none⟩ = some (.int .i64 s)) (hg : g < w.heap.size) :
    Calls Tryd.prog 27 #[.slice (some ⟨g, 0, none⟩) 1 1] w fun e w' => e = .returned (.bool (isB s)) ∧ Below w.heap.size w w' := by
  have hz : w.heap.size ≠ g := by omega
  by_cases g0 : s < 0
  · have d1 : decide (s < 0) = true := by simpa using g0
    have e : isB s = false := by unfold isB; simp; omega
    rw [e]
    clear g0 e
    go_enter Tryd.func27, Tryd.ntmps27
    go_wp2_with fail
    refine wp_loop_rounds 1 ?_
    rw [rounds_succ]
    go_wp2_with fail
    go_ret
    exact ⟨rfl, ba _ _⟩
  · by_cases g1 : 9 < s
    · have d1 : decide (s < 0) = false := by simpa using g0
      have d2 : decide (9 < s) = true := by simpa using g1
      have e : isB s = false := by unfold isB; simp; omega
      rw [e]
      clear g0 g1 e
      go_enter Tryd.func27, Tryd.ntmps27
      go_wp2_with fail
      refine wp_loop_rounds 1 ?_
      rw [rounds_succ]
      go_wp2_with fail
      go_ret
      exact ⟨rfl, ba _ _⟩
    · have d1 : decide (s < 0) = false := by simpa using g0
      have d2 : decide (9 < s) = false := by simpa using g1
      have e : isB s = true := by unfold isB; simp; omega
      rw [e]
      clear g0 g1 e
      go_enter Tryd.func27, Tryd.ntmps27
      go_wp2_with fail
      refine wp_loop_rounds 2 ?_
      rw [rounds_succ]
      go_wp2_with fail
      rw [rounds_succ]
      go_wp2_with fail
      go_ret
      exact ⟨rfl, ba _ _⟩

set_option maxRecDepth 100000 in
theorem is2_any (g : Nat) (c s c' s' : Int) (w : World) (h0 : w.cell? ⟨g, 0, none⟩ = some (.int .i64 c)) (h1 : w.cell? ⟨g, 1, none⟩ = some (.int .i64 s))
    (h2 : w.cell? ⟨g, 2, none⟩ = some (.int .i64 c')) (h3 : w.cell? ⟨g, 3, none⟩ = some (.int .i64 s')) (hg : g < w.heap.size) :
    Calls Tryd.prog 27 #[.slice (some ⟨g, 0, none⟩) 2 2] w fun e w' => e = .returned (.bool (isB s && isB s')) ∧ Below w.heap.size w w' := by
  have hz : w.heap.size ≠ g := by omega
  by_cases g0 : isB s = true
  · obtain ⟨n, rfl, hn⟩ := isB_nat g0
    have d1 : decide ((n : Int) < 0) = false := by simp
    have d2 : decide (9 < (n : Int)) = false := by simp; omega
    rw [g0, Bool.true_and]
    clear g0 hn
    by_cases k0 : s' < 0
    · have q1 : decide (s' < 0) = true := by simpa using k0
      have e : isB s' = false := by unfold isB; simp; omega
      rw [e]
      clear k0 e
      go_enter Tryd.func27, Tryd.ntmps27
      go_wp2_with fail
      refine wp_loop_rounds 2 ?_
      rw [rounds_succ]
      go_wp2_with fail
      rw [rounds_succ]
      go_wp2_with fail
      go_ret
      exact ⟨rfl, bt (ba _ _) (ba _ _)⟩
    · by_cases k1 : 9 < s'
      · have q1 : decide (s' < 0) = false := by simpa using k0
        have q2 : decide (9 < s') = true := by simpa using k1
        have e : isB s' = false := by unfold isB; simp; omega
        rw [e]
        clear k0 k1 e
        go_enter Tryd.func27, Tryd.ntmps27
        go_wp2_with fail
        refine wp_loop_rounds 2 ?_
        rw [rounds_succ]
        go_wp2_with fail
        rw [rounds_succ]
        go_wp2_with fail
        go_ret
        exact ⟨rfl, bt (ba _ _) (ba _ _)⟩
      · have q1 : decide (s' < 0) = false := by simpa using k0
        have q2 : decide (9 < s') = false := by simpa using k1
        have e : isB s' = true := by unfold isB; simp; omega
        rw [e]
        clear k0 k1 e
        go_enter Tryd.func27, Tryd.ntmps27
        go_wp2_with fail
        refine wp_loop_rounds 3 ?_
        rw [rounds_succ]
        go_wp2_with fail
        rw [rounds_succ]
        go_wp2_with fail
        rw [rounds_succ]
        go_wp2_with fail
        go_ret
        exact ⟨rfl, bt (ba _ _) (ba _ _)⟩
  · have g0 : isB s = false := by simpa using g0
    rw [g0, Bool.false_and]
    by_cases k0 : s < 0
    · have q1 : decide (s < 0) = true := by simpa using k0
      clear k0 g0
      go_enter Tryd.func27, Tryd.ntmps27
      go_wp2_with fail
      refine wp_loop_rounds 1 ?_
      rw [rounds_succ]
      go_wp2_with fail
      go_ret
      exact ⟨rfl, ba _ _⟩
    · have q1 : decide (s < 0) = false := by simpa using k0
      have q2 : decide (9 < s) = true := by unfold isB at g0; simp at g0; simp; omega
      clear k0 g0
      go_enter Tryd.func27, Tryd.ntmps27
      go_wp2_with fail
      refine wp_loop_rounds 1 ?_
      rw [rounds_succ]
      go_wp2_with fail
      go_ret
      exact ⟨rfl, ba _ _⟩
end Go.Proofs.YtbcnbahfjpgmaaaDoor
