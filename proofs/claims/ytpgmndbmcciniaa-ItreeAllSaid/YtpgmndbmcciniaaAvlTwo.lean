/-
  avl: two trees side by side, and a row of items; rows that came in.
-/
import Derived.Test.YtpgmndbmcciniaaAvlKnown
namespace Go.Proofs.Ytpgmndbmcciniaa.Av
open Go Go.RowKit
set_option linter.unusedSimpArgs false
set_option linter.unusedVariables false
attribute [local go_sem ↓] Go.wp_at_zero Go.wp_at_succ

/-- a row of items that came in -/
def ArgT (w : World) (v : Value) (xs : List It) : Prop := ∃ (ao : Option Addr) (cap : Nat), v = .slice ao xs.length cap ∧ xs.length ≤ cap ∧ ∀ (i : Nat) (x : It), xs[i]? = some x → ∃ b o : Nat, ao = some ⟨b, o, none⟩ ∧ b < w.heap.size ∧
  w.cell? ⟨b, o + i * 3, none⟩ = some (.int .i64 x.f) ∧ w.cell? ⟨b, o + i * 3 + 1, none⟩ = some (.int .i64 x.t) ∧ w.cell? ⟨b, o + i * 3 + 2, none⟩ = some (.int .i64 x.i)
theorem ArgT.below {w w' : World} {v : Value} {xs : List It} (h : ArgT w v xs) (k : Below w.heap.size w w') : ArgT w' v xs := by
  obtain ⟨ao, cap, e, hc, h⟩ := h
  refine ⟨ao, cap, e, hc, fun i x hx => ?_⟩
  obtain ⟨b, o, e, hb, c0, c1, c2⟩ := h i x hx
  have := k.size
  exact ⟨b, o, e, by omega, (k.cell (p := ⟨b, _, none⟩) hb).trans c0, (k.cell (p := ⟨b, _, none⟩) hb).trans c1, (k.cell (p := ⟨b, _, none⟩) hb).trans c2⟩
theorem rowT_cells {w : World} {B : Nat} {v : Value} {xs : List It} (h : RowT w B v xs) : ArgT w v xs := by
  obtain ⟨ao, cap, rfl, hc, hg⟩ := row_form h
  refine ⟨ao, cap, rfl, hc, fun i x hx => ?_⟩
  have il := (List.getElem?_eq_some_iff.1 hx).1
  obtain ⟨g, rfl⟩ := hg (by omega)
  have key : ∀ k u, x.cells[k]? = some u → k < 3 → w.cell? ⟨g, i * 3 + k, none⟩ = some u := fun k u hu hk => by
    have := World.ownsRow.cellAt h (i * 3 + k) (by omega)
    rw [this, flat_get It.cells 3 (fun _ => rfl) xs i k hk, hx]; exact hu
  refine ⟨g, 0, rfl, (World.ownsRow.lt h g rfl).2, ?_, ?_, ?_⟩
  · rw [Nat.zero_add]; exact key 0 _ rfl (by omega)
  · rw [Nat.zero_add]; exact key 1 _ rfl (by omega)
  · rw [Nat.zero_add]; exact key 2 _ rfl (by omega)
/-- two trees, and a row of items of the call's own -/
def Two (w wr : World) (a b : Nat) (La Lb : List It) (v : Value) (mine : List It) : Prop :=
  ∃ Oa Ob : Nat → Prop, TreeIs wr w.heap.size a 200 Oa La ∧ TreeIs wr w.heap.size b 200 Ob Lb ∧ (∀ k, Oa k → ¬ Ob k) ∧ (∀ k, Oa k → w.heap.size ≤ k) ∧ (∀ k, Ob k → w.heap.size ≤ k) ∧
    RowT wr w.heap.size v mine ∧ (∀ k, v.ownBlock = some k → ¬ Oa k ∧ ¬ Ob k) ∧ Below w.heap.size w wr
section
variable {w wr w' : World} {a b : Nat} {La Lb mine : List It} {v : Value}
theorem Two.below (h : Two w wr a b La Lb v mine) (k : Below wr.heap.size wr w') : Two w w' a b La Lb v mine := by
  obtain ⟨Oa, Ob, h1, h2, h3, h4, h5, h6, h7, h8⟩ := h
  exact ⟨Oa, Ob, h1.but (Below.but k (fun _ => False)) (fun _ _ z => z), h2.but (Below.but k (fun _ => False)) (fun _ _ z => z), h3, h4, h5, owns_but h6 (Below.but k (fun _ => False)) (fun _ _ z => z), h7, bt h8 k⟩
theorem Two.bel (h : Two w wr a b La Lb v mine) : Below w.heap.size w wr := by obtain ⟨_, _, _, _, _, _, _, _, _, h⟩ := h; exact h
theorem two_turn {Oa Ob : Nat → Prop} (h2 : TreeIs wr w.heap.size b 200 Ob Lb) (h3 : ∀ k, Oa k → ¬ Ob k) (h4 : ∀ k, Oa k → w.heap.size ≤ k) (h6 : RowT wr w.heap.size v mine) (h7 : ∀ k, v.ownBlock = some k → ¬ Oa k ∧ ¬ Ob k) (h8 : Below w.heap.size w wr) {L' : List It} (T : Turned wr w' w.heap.size a 200 Oa L') :
    ∃ Oa' : Nat → Prop, TreeIs w' w.heap.size a 200 Oa' L' ∧ TreeIs w' w.heap.size b 200 Ob Lb ∧ (∀ k, Oa' k → ¬ Ob k) ∧ (∀ k, Oa' k → w.heap.size ≤ k) ∧ RowT w' w.heap.size v mine ∧ (∀ k, v.ownBlock = some k → ¬ Oa' k ∧ ¬ Ob k) ∧ Below w.heap.size w w' := by
  obtain ⟨Oa', t1, t2, t3⟩ := T
  have hs := h8.size
  refine ⟨Oa', t1, h2.but t2 (fun k z y => h3 k y z), fun k hk hb => ?_, fun k hk => ?_, owns_but h6 t2 (fun k hk z => (h7 k hk).1 z), fun k hk => ⟨fun z => ?_, (h7 k hk).2⟩, h8.trans ⟨t2.os, t2.tape, t2.output, t2.size, fun z hz => t2.block z (by omega) (fun y => by have := h4 z y; omega)⟩⟩
  · rcases t3 k hk with q | q
    · exact h3 k q hb
    · have := h2.lt k hb; omega
  · rcases t3 k hk with q | q
    · exact h4 k q
    · omega
  · rcases t3 k z with q | q
    · exact (h7 k hk).1 q
    · have := (World.ownsRow.lt h6 k hk).2; omega
theorem two_insA {x : It} (h : Two w wr a b La Lb v mine) : Calls Try.prog 9 #[.pointer (some ⟨a, 0, none⟩), .agg #[.int .i64 x.f, .int .i64 x.t, .int .i64 x.i]] wr fun e w' => e = .returned (.int .i64 (putA 200 x La).1) ∧ Two w w' a b (putA 200 x La).2 Lb v mine := by
  obtain ⟨Oa, Ob, h1, h2, h3, h4, h5, h6, h7, h8⟩ := h
  refine (insert_is h1).mono ?_
  rintro e w' ⟨rfl, T⟩
  obtain ⟨Oa', q1, q2, q3, q4, q5, q6, q7⟩ := two_turn h2 h3 h4 h6 h7 h8 T
  exact ⟨rfl, Oa', Ob, q1, q2, q3, q4, h5, q5, q6, q7⟩
theorem two_insB {x : It} (h : Two w wr a b La Lb v mine) : Calls Try.prog 9 #[.pointer (some ⟨b, 0, none⟩), .agg #[.int .i64 x.f, .int .i64 x.t, .int .i64 x.i]] wr fun e w' => e = .returned (.int .i64 (putA 200 x Lb).1) ∧ Two w w' a b La (putA 200 x Lb).2 v mine := by
  obtain ⟨Oa, Ob, h1, h2, h3, h4, h5, h6, h7, h8⟩ := h
  refine (insert_is h2).mono ?_
  rintro e w' ⟨rfl, T⟩
  obtain ⟨Ob', q1, q2, q3, q4, q5, q6, q7⟩ := two_turn h1 (fun k y z => h3 k z y) h5 h6 (fun k hk => (h7 k hk).symm) h8 T
  exact ⟨rfl, Oa, Ob', q2, q1, fun k y z => q3 k z y, h4, q4, q5, fun k hk => (q6 k hk).symm, q7⟩
theorem two_delB {x : It} (h : Two w wr a b La Lb v mine) : Calls Try.prog 11 #[.pointer (some ⟨b, 0, none⟩), .agg #[.int .i64 x.f, .int .i64 x.t, .int .i64 x.i]] wr fun e w' => e = .returned (.int .i64 (delA x Lb).1) ∧ Two w w' a b La (delA x Lb).2 v mine := by
  obtain ⟨Oa, Ob, h1, h2, h3, h4, h5, h6, h7, h8⟩ := h
  refine (delete_is h2).mono ?_
  rintro e w' ⟨rfl, T⟩
  obtain ⟨Ob', q1, q2, q3, q4, q5, q6, q7⟩ := two_turn h1 (fun k y z => h3 k z y) h5 h6 (fun k hk => (h7 k hk).symm) h8 T
  exact ⟨rfl, Oa, Ob', q2, q1, fun k y z => q3 k z y, h4, q4, q5, fun k hk => (q6 k hk).symm, q7⟩
theorem two_hasA {x : It} (h : Two w wr a b La Lb v mine) : Calls Try.prog 13 #[.pointer (some ⟨a, 0, none⟩), .agg #[.int .i64 x.f, .int .i64 x.t, .int .i64 x.i]] wr fun e w' => e = .returned (.bool (decide (x ∈ La))) ∧ Two w w' a b La Lb v mine ∧ Below wr.heap.size wr w' := by
  have h' := h
  obtain ⟨Oa, Ob, h1, h2, h3, h4, h5, h6, h7, h8⟩ := h
  refine (has_is h1).mono ?_
  rintro e w' ⟨rfl, k⟩
  exact ⟨rfl, h'.below k, k⟩
theorem two_itemsA (h : Two w wr a b La Lb v mine) : Calls Try.prog 15 #[.pointer (some ⟨a, 0, none⟩)] wr fun e w' => ∃ u, e = .returned u ∧ RowT w' (wr.heap.size + 1) u La ∧ Below wr.heap.size wr w' := by
  obtain ⟨Oa, Ob, h1, h2, h3, h4, h5, h6, h7, h8⟩ := h
  exact items_is h1
theorem two_itemsB (h : Two w wr a b La Lb v mine) : Calls Try.prog 15 #[.pointer (some ⟨b, 0, none⟩)] wr fun e w' => ∃ u, e = .returned u ∧ RowT w' (wr.heap.size + 1) u Lb ∧ Below wr.heap.size wr w' := by
  obtain ⟨Oa, Ob, h1, h2, h3, h4, h5, h6, h7, h8⟩ := h
  exact items_is h2
/-- a put of a variable that was made just now -/
theorem two_insX {x : It} (h : Two w wr a b La Lb v mine) : Calls Try.prog 9 #[.pointer (some ⟨b, 0, none⟩), .agg #[.int .i64 x.f, .int .i64 x.t, .int .i64 x.i]] (wr.alloc (Obj.cells #[.int .i64 x.f, .int .i64 x.t, .int .i64 x.i] 33)) fun e w' => e = .returned (.int .i64 (putA 200 x Lb).1) ∧ Two w w' a b La (putA 200 x Lb).2 v mine ∧ ItAt w' wr.heap.size x := by
  obtain ⟨Oa, Ob, h1, h2, h3, h4, h5, h6, h7, h8⟩ := h
  have k := ba wr (Obj.cells #[.int .i64 x.f, .int .i64 x.t, .int .i64 x.i] 33)
  have g1 := h1.but (Below.but k (fun _ => False)) (fun _ _ z => z)
  have g2 := h2.but (Below.but k (fun _ => False)) (fun _ _ z => z)
  have g6 := owns_but h6 (Below.but k (fun _ => False)) (fun _ _ z => z)
  refine (insert_is g2).mono ?_
  rintro e w' ⟨rfl, T⟩
  obtain ⟨Ob', q1, q2, q3, q4, q5, q6, q7⟩ := two_turn g1 (fun k y z => h3 k z y) h5 g6 (fun k hk => (h7 k hk).symm) (bt h8 k) T
  obtain ⟨_, _, t2, _⟩ := T
  exact ⟨rfl, ⟨Oa, Ob', q2, q1, fun k y z => q3 k z y, h4, q4, q5, fun k hk => (q6 k hk).symm, q7⟩, (itAt_new wr x).but t2 (fun z => by have := h2.lt _ z; omega)⟩
/-- the row grown -/
theorem Two.grown (h : Two w wr a b La Lb v mine) {u : Value} {y : It} (r : RowT w' w.heap.size u (mine ++ [y])) (k : But (fun z => v.ownBlock = some z) wr w') (l : u.ownBlock = v.ownBlock ∨ u.ownBlock = some wr.heap.size) : Two w w' a b La Lb u (mine ++ [y]) := by
  obtain ⟨Oa, Ob, h1, h2, h3, h4, h5, h6, h7, h8⟩ := h
  have hs := h8.size
  refine ⟨Oa, Ob, h1.but k (fun z hz hv => (h7 z hv).1 hz), h2.but k (fun z hz hv => (h7 z hv).2 hz), h3, h4, h5, r, fun z hz => ?_, h8.trans ⟨k.os, k.tape, k.output, k.size, fun z hz => k.block z (by omega) (fun hv => by have := (World.ownsRow.lt h6 z hv).1; omega)⟩⟩
  rcases l with l | l
  · exact h7 z (by rw [← l]; exact hz)
  · rw [l] at hz
    simp only [Option.some.injEq] at hz
    exact ⟨fun q => by have := h1.lt z q; omega, fun q => by have := h2.lt z q; omega⟩
end
end Go.Proofs.Ytpgmndbmcciniaa.Av
