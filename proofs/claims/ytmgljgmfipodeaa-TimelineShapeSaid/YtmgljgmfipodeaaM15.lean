/-
  avl: order compares two items; none.
-/
import Derived.Test.YtmgljgmfipodeaaM14
/-
  avl: order compares two items; none.
-/
namespace Go.Proofs.Ytmgljgmfipodeaa.Av
open Go Go.RowKit
set_option linter.unusedSimpArgs false
set_option linter.unusedVariables false
attribute [local go_sem ↓] Go.wp_at_zero Go.wp_at_succ

def cmpI (a b : Int) : Int := if a < b then -1 else if b < a then 1 else 0
def orI (x y z : Int) : Int := if x ≠ 0 then x else if y ≠ 0 then y else z
def ordI (a b : It) : Int := orI (cmpI a.f b.f) (cmpI a.t b.t) (cmpI a.i b.i)
theorem ordI_neg (a b : It) : ordI a b < 0 ↔ a.lt b := by unfold ordI orI cmpI It.lt; repeat' split <;> omega
theorem ordI_pos (a b : It) : 0 < ordI a b ↔ b.lt a := by unfold ordI orI cmpI It.lt; repeat' split <;> omega
theorem isNaN_any (a : Int) (w : World) : Calls Try.prog 47 #[.int .i64 a] w fun e w' => e = .returned (.bool false) ∧ w' = w := by
  go_enter Try.func47, Try.ntmps47
  go_wp2
  go_ret
  exact ⟨by simp, rfl⟩
theorem compare_any (a b : Int) (w : World) : Calls Try.prog 42 #[.int .i64 a, .int .i64 b] w fun e w' => e = .returned (.int .i64 (cmpI a b)) ∧ w' = w := by
  rcases Int.lt_or_le a b with h | h
  · have e : cmpI a b = -1 := by unfold cmpI; rw [if_pos h]
    rw [e]
    go_enter Try.func42, Try.ntmps42
    go_wp2_with (go_at_call 47; (with_reducible refine (isNaN_any _ _).mono ?_); rintro e w20 ⟨rfl, rfl⟩)
    go_ret
    exact ⟨rfl, rfl⟩
  · rcases Int.lt_or_le b a with k | k
    · have e : cmpI a b = 1 := by unfold cmpI; rw [if_neg (by omega), if_pos k]
      rw [e]
      go_enter Try.func42, Try.ntmps42
      go_wp2_with (go_at_call 47; (with_reducible refine (isNaN_any _ _).mono ?_); rintro e w20 ⟨rfl, rfl⟩)
      go_ret
      exact ⟨rfl, rfl⟩
    · have e : cmpI a b = 0 := by unfold cmpI; rw [if_neg (by omega), if_neg (by omega)]
      rw [e]
      go_enter Try.func42, Try.ntmps42
      go_wp2_with (go_at_call 47; (with_reducible refine (isNaN_any _ _).mono ?_); rintro e w20 ⟨rfl, rfl⟩)
      go_ret
      exact ⟨rfl, rfl⟩
theorem or_any (x y z : Int) (s c : Nat) (w : World) (h0 : w.cell? ⟨s, 0, none⟩ = some (.int .i64 x)) (h1 : w.cell? ⟨s, 1, none⟩ = some (.int .i64 y)) (h2 : w.cell? ⟨s, 2, none⟩ = some (.int .i64 z)) :
    Calls Try.prog 41 #[.slice (some ⟨s, 0, none⟩) 3 c] w fun e w' => e = .returned (.int .i64 (orI x y z)) ∧ w' = w := by
  unfold orI
  by_cases hx : x = 0
  · rw [if_neg (by omega)]
    by_cases hy : y = 0
    · rw [if_neg (by omega)]
      by_cases hz : z = 0
      · subst hx hy hz
        go_enter Try.func41, Try.ntmps41
        go_wp2
        refine wp_loop_rounds 4 ?_
        rw [rounds_succ]
        go_wp2
        rw [rounds_succ]
        go_wp2
        rw [rounds_succ]
        go_wp2
        rw [rounds_succ]
        go_wp2
        go_ret
        exact ⟨rfl, rfl⟩
      · subst hx hy
        go_enter Try.func41, Try.ntmps41
        go_wp2
        refine wp_loop_rounds 4 ?_
        rw [rounds_succ]
        go_wp2
        rw [rounds_succ]
        go_wp2
        rw [rounds_succ]
        go_wp2
        go_ret
        exact ⟨rfl, rfl⟩
    · subst hx
      rw [if_pos hy]
      go_enter Try.func41, Try.ntmps41
      go_wp2
      refine wp_loop_rounds 4 ?_
      rw [rounds_succ]
      go_wp2
      rw [rounds_succ]
      go_wp2
      go_ret
      exact ⟨rfl, rfl⟩
  · rw [if_pos hx]
    go_enter Try.func41, Try.ntmps41
    go_wp2
    refine wp_loop_rounds 4 ?_
    rw [rounds_succ]
    go_wp2
    go_ret
    exact ⟨rfl, rfl⟩
/-- a variable that holds an item -/
def ItAt (w : World) (b : Nat) (x : It) : Prop := w.heap[b]? = some (.cells #[.int .i64 x.f, .int .i64 x.t, .int .i64 x.i] 54 (0, 0))
theorem itAt_new (w : World) (x : It) : ItAt (w.alloc (.cells #[.int .i64 x.f, .int .i64 x.t, .int .i64 x.i] 54)) w.heap.size x := heap_alloc_new w _
section
variable {w : World} {b : Nat} {x : It}
theorem ItAt.lt (h : ItAt w b x) : b < w.heap.size := (Array.getElem?_eq_some_iff.1 h).1
theorem ItAt.but {S : Nat → Prop} {w' : World} (h : ItAt w b x) (hb : But S w w') (hs : ¬ S b) : ItAt w' b x := by
  unfold ItAt; rw [hb.block b h.lt hs]; exact h
theorem ItAt.below {w' : World} (h : ItAt w b x) (hb : Below w.heap.size w w') : ItAt w' b x := by
  unfold ItAt; rw [hb.block b h.lt]; exact h
theorem ItAt.c0 (h : ItAt w b x) : w.cell? ⟨b, 0, none⟩ = some (.int .i64 x.f) := by rw [cell_of_row w _ _ _ _ (0, 0) h]; rfl
theorem ItAt.c1 (h : ItAt w b x) : w.cell? ⟨b, 1, none⟩ = some (.int .i64 x.t) := by rw [cell_of_row w _ _ _ _ (0, 0) h]; rfl
theorem ItAt.c2 (h : ItAt w b x) : w.cell? ⟨b, 2, none⟩ = some (.int .i64 x.i) := by rw [cell_of_row w _ _ _ _ (0, 0) h]; rfl
theorem ItAt.f (h : ItAt w b x) (i : Nat) : w.frozen? ⟨b, i, none⟩ = false := frozen_of_row w _ _ _ _ h
end
set_option maxRecDepth 100000 in
theorem order_any (x y : It) (w : World) :
    Calls Try.prog 37 #[.agg #[.int .i64 x.f, .int .i64 x.t, .int .i64 x.i], .agg #[.int .i64 y.f, .int .i64 y.t, .int .i64 y.i]] w fun e w' => e = .returned (.int .i64 (ordI x y)) ∧ Below w.heap.size w w' := by
  have X0 := (itAt_new w x).below (ba _ (.cells #[.int .i64 y.f, .int .i64 y.t, .int .i64 y.i] 54))
  have Y0 := itAt_new (w.alloc (.cells #[.int .i64 x.f, .int .i64 x.t, .int .i64 x.i] 54)) y
  have B0 : Below w.heap.size w ((w.alloc (.cells #[.int .i64 x.f, .int .i64 x.t, .int .i64 x.i] 54)).alloc (.cells #[.int .i64 y.f, .int .i64 y.t, .int .i64 y.i] 54)) := bt (ba _ _) (ba _ _)
  rw [World.size_alloc] at Y0
  replace X0 := Lib.hid X0
  replace Y0 := Lib.hid Y0
  replace B0 := Lib.hid B0
  go_enter Try.func37, Try.ntmps37
  go_wp2_with fail
  obtain ⟨wb, hwb⟩ : ∃ v, Hid (v = (w.alloc (.cells #[.int .i64 x.f, .int .i64 x.t, .int .i64 x.i] 54)).alloc (.cells #[.int .i64 y.f, .int .i64 y.t, .int .i64 y.i] 54)) := ⟨_, rfl⟩
  rw [← hwb.out] at X0 Y0 B0 ⊢
  clear hwb
  obtain ⟨i1, hi1⟩ : ∃ i, Hid (w.heap.size = i) := ⟨_, rfl⟩
  obtain ⟨i2, hi2⟩ : ∃ i, Hid (w.heap.size + 1 = i) := ⟨_, rfl⟩
  rw [hi1.out] at X0
  rw [hi2.out] at Y0 ⊢
  rw [hi1.out] at ⊢
  have mkS : ∀ w', Below wb.heap.size wb w' → (Below wb.heap.size wb w' ∧ w'.cell? ⟨i1, 0, none⟩ = some (.int .i64 x.f) ∧ w'.cell? ⟨i1, 1, none⟩ = some (.int .i64 x.t) ∧ w'.cell? ⟨i1, 2, none⟩ = some (.int .i64 x.i) ∧ w'.cell? ⟨i2, 0, none⟩ = some (.int .i64 y.f) ∧ w'.cell? ⟨i2, 1, none⟩ = some (.int .i64 y.t) ∧ w'.cell? ⟨i2, 2, none⟩ = some (.int .i64 y.i)) := fun w' hb => ⟨hb, (X0.out.below hb).c0, (X0.out.below hb).c1, (X0.out.below hb).c2, (Y0.out.below hb).c0, (Y0.out.below hb).c1, (Y0.out.below hb).c2⟩
  have HS0 := mkS _ ((Below.refl _ _).drew)
  go_region_held3 (fun w' => Below wb.heap.size wb w' ∧ w'.cell? ⟨i1, 0, none⟩ = some (.int .i64 x.f) ∧ w'.cell? ⟨i1, 1, none⟩ = some (.int .i64 x.t) ∧ w'.cell? ⟨i1, 2, none⟩ = some (.int .i64 x.i) ∧ w'.cell? ⟨i2, 0, none⟩ = some (.int .i64 y.f) ∧ w'.cell? ⟨i2, 1, none⟩ = some (.int .i64 y.t) ∧ w'.cell? ⟨i2, 2, none⟩ = some (.int .i64 y.i))
    (first | with_reducible exact HS0 | with_reducible assumption | (refine mkS _ ?_; (repeat (first | with_reducible exact And.left (by with_reducible assumption) | with_reducible exact Below.refl _ _ | refine Below.setCell ?_ (by first | omega | (simp only [World.size_alloc, hdrew]; omega) | (simp <;> omega)) _ | refine Below.alloc ?_ (by first | omega | (simp only [World.size_alloc, hdrew]; omega) | (simp <;> omega)) _ | refine Below.drew ?_))))
    (first
      | (go_at_call 42; (with_reducible refine (compare_any _ _ _).mono ?_); rintro e w20 ⟨rfl, rfl⟩)
      | (go_at_call 41; (with_reducible refine (or_any (cmpI x.f y.f) (cmpI x.t y.t) (cmpI x.i y.i) _ _ _ (by simp) (by simp) (by simp)).mono ?_); rintro e w20 ⟨rfl, rfl⟩))
  go_wp2
  go_ret
  exact ⟨rfl, bt B0.out ((ba _ _).drew)⟩
theorem none_nil (w : World) : Calls Try.prog 31 #[.pointer none] w fun e w' => e = .returned (.bool true) ∧ w' = w := by
  go_enter Try.func31, Try.ntmps31
  go_wp2
  go_ret
  exact ⟨rfl, rfl⟩
theorem none_at {w : World} {b : Nat} {most root many : Int} {nv fv : Value} (h : TAt w b most nv fv root many) : Calls Try.prog 31 #[.pointer (some ⟨b, 0, none⟩)] w fun e w' => e = .returned (.bool (decide (most = 0))) ∧ w' = w := by
  have c0 := h.c0
  clear h
  by_cases hm : most = 0
  · subst hm
    go_enter Try.func31, Try.ntmps31
    go_wp2
    go_ret
    exact ⟨rfl, rfl⟩
  · have d : decide (most = 0) = false := by simp [hm]
    rw [d]
    go_enter Try.func31, Try.ntmps31
    go_wp2
    go_ret
    exact ⟨by simp [hm], rfl⟩
/-- Len, Root of a tree that is not there, or was not made -/
theorem len_nil (w : World) : Calls Try.prog 22 #[.pointer none] w fun e w' => e = .returned (.int .i64 0) ∧ w' = w := by
  go_enter Try.func22, Try.ntmps22
  go_wp2_with (go_at_call 31; (with_reducible refine (none_nil _).mono ?_); rintro e w20 ⟨rfl, rfl⟩)
  go_ret
  exact ⟨rfl, rfl⟩
theorem root_nil (w : World) : Calls Try.prog 29 #[.pointer none] w fun e w' => e = .returned (.int .i64 (-1)) ∧ w' = w := by
  go_enter Try.func29, Try.ntmps29
  go_wp2_with (go_at_call 31; (with_reducible refine (none_nil _).mono ?_); rintro e w20 ⟨rfl, rfl⟩)
  go_ret
  exact ⟨rfl, rfl⟩
theorem len_zero {w : World} {b : Nat} {root many : Int} {nv fv : Value} (h : TAt w b 0 nv fv root many) : Calls Try.prog 22 #[.pointer (some ⟨b, 0, none⟩)] w fun e w' => e = .returned (.int .i64 0) ∧ w' = w := by
  go_enter Try.func22, Try.ntmps22
  go_wp2_with (go_at_call 31; (with_reducible refine (none_at h).mono ?_); rintro e w20 ⟨rfl, rfl⟩)
  go_ret
  exact ⟨rfl, rfl⟩
theorem root_zero {w : World} {b : Nat} {root many : Int} {nv fv : Value} (h : TAt w b 0 nv fv root many) : Calls Try.prog 29 #[.pointer (some ⟨b, 0, none⟩)] w fun e w' => e = .returned (.int .i64 (-1)) ∧ w' = w := by
  go_enter Try.func29, Try.ntmps29
  go_wp2_with (go_at_call 31; (with_reducible refine (none_at h).mono ?_); rintro e w20 ⟨rfl, rfl⟩)
  go_ret
  exact ⟨rfl, rfl⟩
theorem len_at {w : World} {b : Nat} {most root many : Int} {nv fv : Value} (h : TAt w b most nv fv root many) (hm : ¬ most = 0) : Calls Try.prog 22 #[.pointer (some ⟨b, 0, none⟩)] w fun e w' => e = .returned (.int .i64 many) ∧ w' = w := by
  have A := none_at h
  rw [show decide (most = 0) = false by simp [hm]] at A
  have c4 := h.c4
  clear h hm
  go_enter Try.func22, Try.ntmps22
  go_wp2_with (go_at_call 31; (with_reducible refine A.mono ?_); rintro e w20 ⟨rfl, rfl⟩)
  go_ret
  exact ⟨rfl, rfl⟩
theorem root_at {w : World} {b : Nat} {most root many : Int} {nv fv : Value} (h : TAt w b most nv fv root many) (hm : ¬ most = 0) : Calls Try.prog 29 #[.pointer (some ⟨b, 0, none⟩)] w fun e w' => e = .returned (.int .i64 root) ∧ w' = w := by
  have A := none_at h
  rw [show decide (most = 0) = false by simp [hm]] at A
  have c3 := h.c3
  clear h hm
  go_enter Try.func29, Try.ntmps29
  go_wp2_with (go_at_call 31; (with_reducible refine A.mono ?_); rintro e w20 ⟨rfl, rfl⟩)
  go_ret
  exact ⟨rfl, rfl⟩
end Go.Proofs.Ytmgljgmfipodeaa.Av
