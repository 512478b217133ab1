/-
  corrodylaw29.ProrateMonths, the law, whatever the period; OPENING AND SHUTTING an argument of type api.Span.
-/
import Derived.Test.YtngelemjpgglpaaM50
import Derived.Test.YtngelemjpgglpaaM0
import Derived.ProofKit
import Derived.OpenShut
import Derived.Lib.SmallJoins
/-
  corrodylaw29.ProrateMonths, the law, whatever the period.
-/
namespace Go.Proofs.Ytngelemjpgglpaa.Pro
open Go Go.RowKit
set_option linter.unusedSimpArgs false
set_option linter.unusedVariables false
attribute [local go_sem ↓] Go.wp_at_zero Go.wp_at_succ

set_option maxRecDepth 100000 in
set_option maxHeartbeats 4000000 in
theorem monLaw_bad (c n s a z : Int) (w : World) (hb : a < 1 ∨ z ≤ a ∨ 3652060 < z) :
    Calls Try.prog 5 #[.agg #[.int .i64 c, .int .i64 n], .int .i64 s, .agg #[.int .i64 a, .int .i64 z]] w fun e w' => e = .returned (.bool true) ∧ Below w.heap.size w w' := by
  obtain ⟨D1, D2, D3, d1, d2, d3, dd⟩ : ∃ D1 D2 D3 : Bool, decide (a < 1) = D1 ∧ decide (z ≤ a) = D2 ∧ decide (3652060 < z) = D3 ∧ (D1 || D2 || D3) = true := ⟨_, _, _, rfl, rfl, rfl, by simpa [or_assoc] using hb⟩
  have X0 := Lib.hid (DAt.below (dAt_new w c n) (ba _ (.cells #[.int .i64 a, .int .i64 z] 44)))
  have P0 : Hid (((w.alloc (.cells #[.int .i64 c, .int .i64 n] 23)).alloc (.cells #[.int .i64 a, .int .i64 z] 44)).heap[w.heap.size + 1]? = some (.cells #[.int .i64 a, .int .i64 z] 44 (0, 0))) := by
    have h := heap_alloc_new (w.alloc (.cells #[.int .i64 c, .int .i64 n] 23)) (.cells #[.int .i64 a, .int .i64 z] 44)
    rw [World.size_alloc] at h; exact h
  have B0 := Lib.hid (bt (ba w (.cells #[.int .i64 c, .int .i64 n] 23)) (ba _ (.cells #[.int .i64 a, .int .i64 z] 44)))
  obtain ⟨P, hP⟩ : ∃ P : Ending → World → Prop, Hid ((fun e w' => e = .returned (.bool true) ∧ Below w.heap.size w w') = P) := ⟨_, rfl⟩
  rw [hP.out]
  obtain ⟨i0, hi0⟩ : ∃ k, Hid (w.heap.size = k) := ⟨_, rfl⟩
  go_enter Try.func5, Try.ntmps5
  go_upto_region 1 with fail
  obtain ⟨w0, hw0⟩ : ∃ x, Hid (x = (w.alloc (.cells #[.int .i64 c, .int .i64 n] 23)).alloc (.cells #[.int .i64 a, .int .i64 z] 44)) := ⟨_, rfl⟩
  rw [← hw0.out] at X0 P0 B0 ⊢
  rw [hi0.out] at X0 P0 ⊢
  clear hw0
  have p0 : w0.cell? ⟨i0 + 1, 0, none⟩ = some (.int .i64 a) := by rw [cell_of_row w0 _ _ _ _ (0, 0) P0.out]; rfl
  have p1 : w0.cell? ⟨i0 + 1, 1, none⟩ = some (.int .i64 z) := by rw [cell_of_row w0 _ _ _ _ (0, 0) P0.out]; rfl
  have x0 := X0.out.c0; have x1 := X0.out.c1
  have MS := months_bad c n s a z w0 hb
  clear hb
  go_upto_region 2 with (go_at_call 18; (with_reducible refine MS.mono ?_); rintro e w2 ⟨rfl, b2⟩; have P2 : Hid (w2.heap[i0 + 1]? = some (.cells #[.int .i64 a, .int .i64 z] 44 (0, 0))) := (b2.block _ (Array.getElem?_eq_some_iff.1 P0.out).1).trans P0.out; have B2 := Lib.hid (bt B0.out b2); clear b2 p0 p1 x0 x1 X0 P0 B0 MS)
  have p0 : w2.cell? ⟨i0 + 1, 0, none⟩ = some (.int .i64 a) := by rw [cell_of_row w2 _ _ _ _ (0, 0) P2.out]; rfl
  have p1 : w2.cell? ⟨i0 + 1, 1, none⟩ = some (.int .i64 z) := by rw [cell_of_row w2 _ _ _ _ (0, 0) P2.out]; rfl
  have KN := known_is w2
  cases D1 with
  | true =>
    go_wp2_with (go_at_call 6; (with_reducible refine KN.mono ?_); rintro e w8 ⟨rfl, b8⟩; have D8 := Lib.hid (bt B2.out b8); clear b8 KN)
    show P (.returned (.bool true)) _
    rw [← hP.out]
    exact ⟨rfl, D8.out⟩
  | false =>
    cases D2 with
    | true =>
      go_wp2_with (go_at_call 6; (with_reducible refine KN.mono ?_); rintro e w8 ⟨rfl, b8⟩; have D8 := Lib.hid (bt B2.out b8); clear b8 KN)
      show P (.returned (.bool true)) _
      rw [← hP.out]
      exact ⟨rfl, D8.out⟩
    | false =>
      cases D3 with
      | true =>
        go_wp2_with (go_at_call 6; (with_reducible refine KN.mono ?_); rintro e w8 ⟨rfl, b8⟩; have D8 := Lib.hid (bt B2.out b8); clear b8 KN)
        show P (.returned (.bool true)) _
        rw [← hP.out]
        exact ⟨rfl, D8.out⟩
      | false => cases dd
/-- what Months tells of a long period -/
theorem months_long (c n s a z : Int) (w : World) (hc : fits c) (h1 : 1 ≤ a) (h2 : a < z) (h3 : z ≤ 3652060) (h4 : a + 32000 < z) :
    Calls Try.prog 18 #[.agg #[.int .i64 c, .int .i64 n], .int .i64 s, .agg #[.int .i64 a, .int .i64 z]] w fun e w' => e = .returned (.tuple #[.slice none 0 0, .slice none 0 0, .int .i64 3]) ∧ Below w.heap.size w w' := by
  refine (months_in c n s a z w hc h1 h2 h3).mono ?_
  rintro e w' ⟨B, k, hk, HI, ⟨rfl, hlt, rfl⟩ | ⟨hz, _⟩⟩
  · exact ⟨rfl, B⟩
  · have := Cal.it_hi h1 h2 h3 k; omega
/-- what Months tells of any period -/
theorem months_mid (c n s a z : Int) (w : World) (hc : fits c) (h1 : 1 ≤ a) (h2 : a < z) (h3 : z ≤ 3652060) :
    Calls Try.prog 18 #[.agg #[.int .i64 c, .int .i64 n], .int .i64 s, .agg #[.int .i64 a, .int .i64 z]] w fun e w' => ∃ vp vx er, e = .returned (.tuple #[vp, vx, .int .i64 er]) ∧ Below w.heap.size w w' := by
  refine (months_in c n s a z w hc h1 h2 h3).mono ?_
  rintro e w' ⟨B, k, hk, HI, ⟨rfl, hlt, rfl⟩ | ⟨hz, row, er, he, ⟨hne, rfl⟩ | ⟨rfl, vp, vx, r1, r2, rfl⟩⟩⟩ <;> exact ⟨_, _, _, rfl, B⟩
set_option maxRecDepth 100000 in
set_option maxHeartbeats 4000000 in
theorem monLaw_long (c n s a z : Int) (w : World) (hc : fits c) (h1 : 1 ≤ a) (h2 : a < z) (h3 : z ≤ 3652060) (h4 : a + 32000 < z) :
    Calls Try.prog 5 #[.agg #[.int .i64 c, .int .i64 n], .int .i64 s, .agg #[.int .i64 a, .int .i64 z]] w fun e w' => e = .returned (.bool true) ∧ Below w.heap.size w w' := by
  have d1 : decide (a < 1) = false := by simp; omega
  have d2 : decide (z ≤ a) = false := by simp; omega
  have d3 : decide (3652060 < z) = false := by simp; omega
  have zw : IntKind.i64.wrap (z - a) = z - a := by rw [IntWalk.i64_left]; exact IntWalk.wrap64_in _ (by omega)
  have d4 : decide (32000 < z - a) = true := by simp; omega
  have X0 := Lib.hid (DAt.below (dAt_new w c n) (ba _ (.cells #[.int .i64 a, .int .i64 z] 44)))
  have P0 : Hid (((w.alloc (.cells #[.int .i64 c, .int .i64 n] 23)).alloc (.cells #[.int .i64 a, .int .i64 z] 44)).heap[w.heap.size + 1]? = some (.cells #[.int .i64 a, .int .i64 z] 44 (0, 0))) := by
    have h := heap_alloc_new (w.alloc (.cells #[.int .i64 c, .int .i64 n] 23)) (.cells #[.int .i64 a, .int .i64 z] 44)
    rw [World.size_alloc] at h; exact h
  have B0 := Lib.hid (bt (ba w (.cells #[.int .i64 c, .int .i64 n] 23)) (ba _ (.cells #[.int .i64 a, .int .i64 z] 44)))
  obtain ⟨P, hP⟩ : ∃ P : Ending → World → Prop, Hid ((fun e w' => e = .returned (.bool true) ∧ Below w.heap.size w w') = P) := ⟨_, rfl⟩
  rw [hP.out]
  obtain ⟨i0, hi0⟩ : ∃ k, Hid (w.heap.size = k) := ⟨_, rfl⟩
  go_enter Try.func5, Try.ntmps5
  go_upto_region 1 with fail
  obtain ⟨w0, hw0⟩ : ∃ x, Hid (x = (w.alloc (.cells #[.int .i64 c, .int .i64 n] 23)).alloc (.cells #[.int .i64 a, .int .i64 z] 44)) := ⟨_, rfl⟩
  rw [← hw0.out] at X0 P0 B0 ⊢
  rw [hi0.out] at X0 P0 ⊢
  clear hw0
  have p0 : w0.cell? ⟨i0 + 1, 0, none⟩ = some (.int .i64 a) := by rw [cell_of_row w0 _ _ _ _ (0, 0) P0.out]; rfl
  have p1 : w0.cell? ⟨i0 + 1, 1, none⟩ = some (.int .i64 z) := by rw [cell_of_row w0 _ _ _ _ (0, 0) P0.out]; rfl
  have x0 := X0.out.c0; have x1 := X0.out.c1
  have MS := months_long c n s a z w0 hc h1 h2 h3 h4
  clear hc h1 h2 h3 h4
  go_upto_region 2 with (go_at_call 18; (with_reducible refine MS.mono ?_); rintro e w2 ⟨rfl, b2⟩; have P2 : Hid (w2.heap[i0 + 1]? = some (.cells #[.int .i64 a, .int .i64 z] 44 (0, 0))) := (b2.block _ (Array.getElem?_eq_some_iff.1 P0.out).1).trans P0.out; have B2 := Lib.hid (bt B0.out b2); clear b2 p0 p1 x0 x1 X0 P0 B0 MS)
  have p0 : w2.cell? ⟨i0 + 1, 0, none⟩ = some (.int .i64 a) := by rw [cell_of_row w2 _ _ _ _ (0, 0) P2.out]; rfl
  have p1 : w2.cell? ⟨i0 + 1, 1, none⟩ = some (.int .i64 z) := by rw [cell_of_row w2 _ _ _ _ (0, 0) P2.out]; rfl
  have KN := known_is w2
  go_wp2_with (go_at_call 6; (with_reducible refine KN.mono ?_); rintro e w8 ⟨rfl, b8⟩; have D8 := Lib.hid (bt B2.out b8); clear b8 KN)
  show P (.returned (.bool true)) _
  rw [← hP.out]
  exact ⟨rfl, D8.out⟩
set_option maxRecDepth 100000 in
set_option maxHeartbeats 4000000 in
theorem monLaw_mid (c n s a z : Int) (w : World) (hc : fits c) (h1 : 1 ≤ a) (h2 : a < z) (h3 : z ≤ 3652060) (h4 : a + 1500 < z) (h5 : z ≤ a + 32000) :
    Calls Try.prog 5 #[.agg #[.int .i64 c, .int .i64 n], .int .i64 s, .agg #[.int .i64 a, .int .i64 z]] w fun e w' => e = .returned (.bool true) ∧ Below w.heap.size w w' := by
  have d1 : decide (a < 1) = false := by simp; omega
  have d2 : decide (z ≤ a) = false := by simp; omega
  have d3 : decide (3652060 < z) = false := by simp; omega
  have zw : IntKind.i64.wrap (z - a) = z - a := by rw [IntWalk.i64_left]; exact IntWalk.wrap64_in _ (by omega)
  have d4 : decide (32000 < z - a) = false := by simp; omega
  have d5 : decide (1500 < z - a) = true := by simp; omega
  have X0 := Lib.hid (DAt.below (dAt_new w c n) (ba _ (.cells #[.int .i64 a, .int .i64 z] 44)))
  have P0 : Hid (((w.alloc (.cells #[.int .i64 c, .int .i64 n] 23)).alloc (.cells #[.int .i64 a, .int .i64 z] 44)).heap[w.heap.size + 1]? = some (.cells #[.int .i64 a, .int .i64 z] 44 (0, 0))) := by
    have h := heap_alloc_new (w.alloc (.cells #[.int .i64 c, .int .i64 n] 23)) (.cells #[.int .i64 a, .int .i64 z] 44)
    rw [World.size_alloc] at h; exact h
  have B0 := Lib.hid (bt (ba w (.cells #[.int .i64 c, .int .i64 n] 23)) (ba _ (.cells #[.int .i64 a, .int .i64 z] 44)))
  obtain ⟨P, hP⟩ : ∃ P : Ending → World → Prop, Hid ((fun e w' => e = .returned (.bool true) ∧ Below w.heap.size w w') = P) := ⟨_, rfl⟩
  rw [hP.out]
  obtain ⟨i0, hi0⟩ : ∃ k, Hid (w.heap.size = k) := ⟨_, rfl⟩
  go_enter Try.func5, Try.ntmps5
  go_upto_region 1 with fail
  obtain ⟨w0, hw0⟩ : ∃ x, Hid (x = (w.alloc (.cells #[.int .i64 c, .int .i64 n] 23)).alloc (.cells #[.int .i64 a, .int .i64 z] 44)) := ⟨_, rfl⟩
  rw [← hw0.out] at X0 P0 B0 ⊢
  rw [hi0.out] at X0 P0 ⊢
  clear hw0
  have p0 : w0.cell? ⟨i0 + 1, 0, none⟩ = some (.int .i64 a) := by rw [cell_of_row w0 _ _ _ _ (0, 0) P0.out]; rfl
  have p1 : w0.cell? ⟨i0 + 1, 1, none⟩ = some (.int .i64 z) := by rw [cell_of_row w0 _ _ _ _ (0, 0) P0.out]; rfl
  have x0 := X0.out.c0; have x1 := X0.out.c1
  have MS := months_mid c n s a z w0 hc h1 h2 h3
  clear hc h1 h2 h3 h4 h5
  go_upto_region 2 with (go_at_call 18; (with_reducible refine MS.mono ?_); rintro e w2 ⟨vp, vx, er, rfl, b2⟩; have P2 : Hid (w2.heap[i0 + 1]? = some (.cells #[.int .i64 a, .int .i64 z] 44 (0, 0))) := (b2.block _ (Array.getElem?_eq_some_iff.1 P0.out).1).trans P0.out; have B2 := Lib.hid (bt B0.out b2); clear b2 p0 p1 x0 x1 X0 P0 B0 MS)
  have p0 : w2.cell? ⟨i0 + 1, 0, none⟩ = some (.int .i64 a) := by rw [cell_of_row w2 _ _ _ _ (0, 0) P2.out]; rfl
  have p1 : w2.cell? ⟨i0 + 1, 1, none⟩ = some (.int .i64 z) := by rw [cell_of_row w2 _ _ _ _ (0, 0) P2.out]; rfl
  have KN := known_is w2
  go_wp2_with (go_at_call 6; (with_reducible refine KN.mono ?_); rintro e w8 ⟨rfl, b8⟩; have D8 := Lib.hid (bt B2.out b8); clear b8 KN)
  show P (.returned (.bool true)) _
  rw [← hP.out]
  exact ⟨rfl, D8.out⟩
/-- THE LAW -/
theorem prorateMonths_law (c n s a z : Int) (w : World) (hc : fits c) :
    Calls Try.prog 5 #[.agg #[.int .i64 c, .int .i64 n], .int .i64 s, .agg #[.int .i64 a, .int .i64 z]] w fun e w' => e = .returned (.bool true) ∧ Below w.heap.size w w' := by
  by_cases hb : a < 1 ∨ z ≤ a ∨ 3652060 < z
  · exact monLaw_bad c n s a z w hb
  · have h1 : 1 ≤ a := by omega
    have h2 : a < z := by omega
    have h3 : z ≤ 3652060 := by omega
    by_cases h4 : a + 32000 < z
    · exact monLaw_long c n s a z w hc h1 h2 h3 h4
    · by_cases h5 : a + 1500 < z
      · exact monLaw_mid c n s a z w hc h1 h2 h3 h5 (by omega)
      · exact monLaw_short c n s a z w hc h1 h2 h3 (by omega)
end Go.Proofs.Ytngelemjpgglpaa.Pro
/-
  OPENING AND SHUTTING an argument of type api.Span.
-/
namespace Go.Proofs.Ytngelemjpgglpaa
open Go.ChangeShapes Go.WideShapes Go.ChangeAt Go.RowKit Go.Joins

section
variable {H : Type} {enc : TypeId × Value → H} {w : World} {base : Nat} {spare : Nat → Bool} {held : Bool}
set_option maxRecDepth 100000 in
theorem open_span {r : Reach} {b0 : Nat} {v : Value} {d : DataW H} {p : List MemPlace} (hv : Value.okWide Try.prog w r b0 44 v) (h : DataW.Trod enc Try.prog w base spare held 44 v d p) :
    ∃ a z : Int, v = .agg #[.int .i64 a, .int .i64 z] ∧ d = .agg [.lit (.int .i64 a), .lit (.int .i64 z)] ∧ p = [] ∧ (Lit.int .i64 a).wf = true ∧ (Lit.int .i64 z).wf = true := by
  obtain ⟨v0, v1, y0, y1, n, rfl, rfl, rfl, h0, h1⟩ := open_agg2 Try.underlying44 (by kernel_rfl) (by kernel_rfl) hv h
  obtain ⟨c, e0, rfl, w0⟩ := DataW.trod_int Try.underlying3 h0
  obtain ⟨s, e1, rfl, w1⟩ := DataW.trod_int Try.underlying3 h1
  simp only [List.cons.injEq, and_true] at e0 e1
  subst e0 e1
  exact ⟨c, s, rfl, rfl, rfl, w0, w1⟩
set_option maxRecDepth 100000 in
theorem shut_span {a z : Int} (h1 : (Lit.int .i64 a).wf = true) (h2 : (Lit.int .i64 z).wf = true) :
    DataW.Trod enc Try.prog w base spare held 44 (.agg #[.int .i64 a, .int .i64 z]) (.agg [.lit (.int .i64 a), .lit (.int .i64 z)]) [] :=
  shut_agg2 Try.underlying44 (by kernel_rfl) (by kernel_rfl) (field_of_Trod (shut_int Try.underlying3 h1) rfl) (field_of_Trod (shut_int Try.underlying3 h2) rfl)
end
end Go.Proofs.Ytngelemjpgglpaa
