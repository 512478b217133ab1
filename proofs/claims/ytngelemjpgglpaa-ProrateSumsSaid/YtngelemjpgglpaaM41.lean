/-
  The law ProrateSums, plain: the shares' sums, and how far each is off.
-/
import Derived.Test.YtngelemjpgglpaaM40
/-
  The law ProrateSums, plain: the shares' sums, and how far each is off.
-/
namespace Go.Proofs.Ytngelemjpgglpaa.Pro
open Go.RowKit
/-- a share is off from its exact part by less than all -/
theorem off_lt (u : Int) (al : Nat) (ws : List Int) (k : Nat) (x : Int) (hx : ws[k]? = some x) (h0 : 0 < al) : (share u (al : Int) ws k * (al : Int) - u * x).natAbs < al := by
  unfold share low
  rw [pre_succ hx, Int.mul_add]
  generalize u * pre ws k = a
  generalize u * x = b
  have h1 := Int.emod_add_mul_ediv (a + b) (al : Int)
  have h2 := Int.emod_add_mul_ediv a (al : Int)
  have l1 := Int.emod_nonneg (a + b) (show (al : Int) ≠ 0 by omega)
  have l2 := Int.emod_lt_of_pos (a + b) (show (0 : Int) < al by omega)
  have l3 := Int.emod_nonneg a (show (al : Int) ≠ 0 by omega)
  have l4 := Int.emod_lt_of_pos a (show (0 : Int) < al by omega)
  have e : ((a + b) / (al : Int) - a / (al : Int)) * (al : Int) = (al : Int) * ((a + b) / (al : Int)) - (al : Int) * (a / (al : Int)) := by rw [Int.sub_mul, Int.mul_comm, Int.mul_comm (a / (al : Int))]
  rw [e]
  omega
theorem low_succ (u al : Int) (ws : List Int) (k : Nat) : low u al ws k + share u al ws k = low u al ws (k + 1) := by unfold share; omega
theorem low_all (u : Int) (al : Nat) (ws : List Int) (hs : ws.sum = (al : Int)) (h0 : 0 < al) : low u (al : Int) ws ws.length = u := by
  unfold low
  rw [pre_all ws (Nat.le_refl _), hs, Int.mul_ediv_cancel _ (by omega)]
/-- what is made of some units is canonical, and of so many units -/
theorem trim_may (z : Int) (S : Nat) (hS : S ≤ 9) : mayB (trim z S).1 ((trim z S).2 : Int) = true := by
  have h1 := trim_le z S
  have h2 := trim_canon z S
  unfold mayB isB
  rcases h2 with h2 | h2
  · simp [h2]
  · simp [h2]; omega
theorem trim_units (z : Int) (S : Nat) (hS : S ≤ 9) : unitsA (trim z S).1 (trim z S).2 S = z ∧ (trim (trim z S).1 (trim z S).2).2 ≤ S := by
  have h1 := trim_le z S
  have h2 := trim_self _ _ (trim_canon z S)
  have h3 := trim_val z S
  refine ⟨?_, by rw [h2]; exact h1⟩
  unfold unitsA
  rw [units_quot _ _ _ (by omega) (by omega) (by rw [h2]; exact h1), h2]
  exact h3
theorem rowA_get (u al : Int) (S : Nat) (ws : List Int) : ∀ (n k : Nat), k < n → (rowA u al S ws n)[k]? = some (trim (share u al ws k) S)
  | 0, k, h => by omega
  | n + 1, k, h => by
    rw [rowA]
    by_cases e : k = n
    · subst e
      rw [List.getElem?_append_right (by rw [rowA_len]; exact Nat.le_refl _), rowA_len, Nat.sub_self]; rfl
    · rw [List.getElem?_append_left (by rw [rowA_len]; omega)]
      exact rowA_get u al S ws n k (by omega)
theorem num_abs {k : Nat} {w : World} {b : Bool} {s : Value} {z : Int} (h : Num k w (.agg #[.bool b, s]) z) : Num k w (.agg #[.bool false, s]) ((z.natAbs : Nat) : Int) := by
  obtain ⟨s', ds, e, hw, hc, hv, hd⟩ := h
  simp only [Value.agg.injEq, Array.mk.injEq, List.cons.injEq, Value.bool.injEq, and_true] at e
  obtain ⟨_, rfl⟩ := e
  exact ⟨s, ds, by rw [show decide (((z.natAbs : Nat) : Int) < 0) = false by simp], hw, hc, by rw [hv]; rfl, hd⟩
/-- what sharesA says where it says no error -/
theorem sharesA_ok {c n s : Int} {ws : List Int} {row : List (Int × Nat)} (h : sharesA c n s ws = (row, 0)) :
    ∃ (m S al : Nat), n = (m : Int) ∧ s = (S : Int) ∧ m ≤ 9 ∧ S ≤ 9 ∧ (∀ x ∈ ws, okW x) ∧ ws.sum = (al : Int) ∧ 0 < al ∧ al ≤ 3652059 ∧ row = rowA (unitsA c m S) (al : Int) S ws ws.length ∧ allFit (unitsA c m S) (al : Int) S ws ws.length := by
  unfold sharesA at h
  split at h
  · cases h
  · rename_i h1
    split at h
    · cases h
    · split at h
      · cases h
      · split at h
        · rename_i h2 h3 h4
          have e1 : 0 ≤ n ∧ n ≤ 9 := Decidable.byContradiction fun q => h1 (.inl q)
          have e2 : 0 ≤ s := by have := fun q => h1 (.inr (.inl q)); omega
          have e3 : s ≤ 9 := by have := fun q => h1 (.inr (.inr (.inl q))); omega
          have e4 : ∀ x ∈ ws, okW x := Classical.byContradiction fun q => h1 (.inr (.inr (.inr (.inr (.inr q)))))
          have e5 : 0 ≤ ws.sum := by rw [← pre_all ws (Nat.le_refl _)]; exact (pre_bound e4 _).1
          refine ⟨n.toNat, s.toNat, ws.sum.toNat, by omega, by omega, by omega, by omega, e4, by omega, by omega, by omega, ?_, ?_⟩
          · rw [show ((ws.sum.toNat : Nat) : Int) = ws.sum by omega]; cases h; rfl
          · rw [show ((ws.sum.toNat : Nat) : Int) = ws.sum by omega]; exact h4
        · cases h
/-- where there is an error there is no share -/
theorem sharesA_err {c n s : Int} {ws : List Int} {row : List (Int × Nat)} {e : Int} (h : sharesA c n s ws = (row, e)) (he : e ≠ 0) : row = [] := by
  unfold sharesA at h
  repeat' split at h
  all_goals (cases h; first | rfl | exact absurd rfl he)
end Go.Proofs.Ytngelemjpgglpaa.Pro
