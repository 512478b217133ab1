/-
  avl: Items, walked; avl: trees that are not there, or were not made; New; Node.
-/
import Derived.Test.YtmgljgmfipodeaaM22
import Derived.Test.YtmgljgmfipodeaaM5
/-
  avl: Items, walked.
-/
namespace Go.Proofs.Ytmgljgmfipodeaa.Av
open Go Go.RowKit
set_option linter.unusedSimpArgs false
set_option linter.unusedVariables false
attribute [local go_sem ↓] Go.wp_at_zero Go.wp_at_succ

def It.cells (x : It) : List Value := [.int .i64 x.f, .int .i64 x.t, .int .i64 x.i]
/-- a row of items -/
def RowT (w : World) (B : Nat) (v : Value) (xs : List It) : Prop := w.ownsRow B 54 3 v xs.length (xs.flatMap It.cells)
def lenV : Value → Nat
  | .slice _ n _ => n
  | _ => 0
/-- the places that wait, in a path's cells -/
structure PathS (cs : Array Value) (ps : List Nat) : Prop where
  size : cs.size = 81
  n : cs[80]? = some (.int .i64 (ps.length : Int))
  at' : ∀ (i p : Nat), ps[i]? = some p → cs[i]? = some (.int .i64 (p : Int))
theorem pathZ_s : PathS pathZ [] := ⟨pathZ_ok.size, pathZ_ok.n, fun i p h => by simp at h⟩
theorem PathS.push {cs : Array Value} {ps : List Nat} (h : PathS cs ps) (hl : ps.length < 40) (p : Nat) : PathS ((cs.setIfInBounds ps.length (.int .i64 (p : Int))).setIfInBounds 80 (.int .i64 ((ps.length : Int) + 1))) (ps ++ [p]) := by
  refine ⟨by simp [h.size], ?_, fun i q hq => ?_⟩
  · rw [Array.getElem?_setIfInBounds]; simp [h.size]
  · have := (List.getElem?_eq_some_iff.1 hq).1
    rw [List.length_append, List.length_singleton] at this
    rw [Array.getElem?_setIfInBounds_ne (by omega)]
    by_cases e : i = ps.length
    · subst e
      simp only [List.getElem?_concat_length, Option.some.injEq] at hq
      subst hq
      rw [Array.getElem?_setIfInBounds]; simp [h.size]; omega
    · rw [List.getElem?_append_left (by omega)] at hq
      rw [Array.getElem?_setIfInBounds_ne (by omega)]
      exact h.at' i q hq
theorem PathS.pop {cs : Array Value} {ps : List Nat} {p : Nat} (h : PathS cs (ps ++ [p])) (hl : ps.length < 40) : PathS (cs.setIfInBounds 80 (.int .i64 (ps.length : Int))) ps ∧ cs[ps.length]? = some (.int .i64 (p : Int)) := by
  refine ⟨⟨by simp [h.size], ?_, fun i q hq => ?_⟩, h.at' _ _ (by simp)⟩
  · rw [Array.getElem?_setIfInBounds]; simp [h.size]
  · have := (List.getElem?_eq_some_iff.1 hq).1
    rw [Array.getElem?_setIfInBounds_ne (by omega)]
    exact h.at' i q (by rw [List.getElem?_append_left this]; exact hq)
theorem info_item : (Try.prog.info? 54).map (fun i => (i.zero, i.size, i.bytes)) = some (some (.agg #[.int .i64 0, .int .i64 0, .int .i64 0]), 3, 24) := by kernel_rfl
/-- append of one item -/
theorem app_item {w : World} {ops : Array Oper} {rest : List Oper} {o : Oper} {a : Act} {Q : Exit → Act → World → Prop} (hgd : o.guard = none) (s x : Operand)
    (ho : o.op = .call { callee := .builtin .append, args := #[s, x], argTypes := #[51, 51] }) (B : Nat) (v : Value) (xs : List It) (y : It) (hs : a.eval s = v) (hown : RowT w B v xs)
    (g : Nat) (hx : a.eval x = .slice (some ⟨g, 0, none⟩) 1 1) (hc : ∀ j u, y.cells[j]? = some u → w.cell? ⟨g, j, none⟩ = some u) (hl : xs.length < 1000001) (hB : B ≤ w.heap.size)
    (h : ∀ (ao : Option Addr) (cap' : Nat) w', RowT w' B (.slice ao (xs.length + 1) cap') (xs ++ [y]) → But (fun k => v.ownBlock = some k) w w' → ((Value.slice ao (xs.length + 1) cap').ownBlock = v.ownBlock ∨ (Value.slice ao (xs.length + 1) cap').ownBlock = some w.heap.size) → wpList Try.prog ops Q rest (a.put o.dst (.slice ao (xs.length + 1) cap')) w') : wpList Try.prog ops Q (o :: rest) a w := by
  obtain ⟨i0, hi, hz0, hz1, hz2⟩ := info_parts info_item
  refine wpList_append_own_at _ hgd s x _ ho B 54 i0 (.agg #[.int .i64 0, .int .i64 0, .int .i64 0]) 3 24 Try.underlying51 hi hz0 hz1 hz2 rfl (by decide) v xs.length _ hs hown ⟨g, 0, none⟩ 1 1 y.cells hx rfl ?_ ?_ ?_ ?_ hB ?_
  · intro j u hu
    have := hc j u hu
    rw [show (⟨g, 0, none⟩ : Addr).add j = ⟨g, j, none⟩ by unfold Addr.add; split <;> simp_all]; exact this
  · intro u hu
    simp only [It.cells, List.mem_cons, List.not_mem_nil, or_false] at hu
    rcases hu with rfl | rfl | rfl <;> rfl
  · simp only [maxLen]; omega
  · omega
  · intro v' w' h1 h2 h3 h4
    obtain ⟨ao, cap', rfl, _, _⟩ := row_form h1
    refine h ao cap' w' ?_ ⟨h2.os, h2.tape, h2.output, h2.size, fun k hk hs => h2.block k hk (fun e => hs e.symm)⟩ h4
    unfold RowT
    rw [List.length_append, List.length_singleton, List.flatMap_append, List.flatMap_singleton]; exact h1
theorem item_cells (w : World) (y : It) : ∀ j u, y.cells[j]? = some u → (w.alloc (Obj.cells #[.int .i64 y.f, .int .i64 y.t, .int .i64 y.i] 54)).cell? ⟨w.heap.size, j, none⟩ = some u := fun j u hu => by
  rw [cell_of_row _ _ _ _ _ (0, 0) (heap_alloc_new w _)]; show ([Value.int .i64 y.f, .int .i64 y.t, .int .i64 y.i] : List Value).toArray[j]? = _; rw [List.getElem?_toArray]; exact hu
end Go.Proofs.Ytmgljgmfipodeaa.Av
/-
  avl: trees that are not there, or were not made; New; Node.
-/
namespace Go.Proofs.Ytmgljgmfipodeaa.Av
open Go Go.RowKit
set_option linter.unusedSimpArgs false
set_option linter.unusedVariables false
attribute [local go_sem ↓] Go.wp_at_zero Go.wp_at_succ

/-- a tree that is not there, or was not made -/
def NoTree (w : World) (v : Value) : Prop := v = .pointer none ∨ ∃ b nv fv root many, v = .pointer (some ⟨b, 0, none⟩) ∧ TAt w b 0 nv fv root many
theorem NoTree.below {w w' : World} {v : Value} (h : NoTree w v) (k : Below w.heap.size w w') : NoTree w' v := by
  rcases h with h | ⟨b, nv, fv, root, many, rfl, h⟩
  · exact .inl h
  · refine .inr ⟨b, nv, fv, root, many, rfl, ?_⟩
    have hb := h.lt
    unfold TAt at h ⊢
    rw [k.block b hb]; exact h
theorem none_no {w : World} {v : Value} (h : NoTree w v) : Calls Try.prog 31 #[v] w fun e w' => e = .returned (.bool true) ∧ w' = w := by
  rcases h with rfl | ⟨b, nv, fv, root, many, rfl, h⟩
  · exact none_nil w
  · exact none_at h
theorem len_no {w : World} {v : Value} (h : NoTree w v) : Calls Try.prog 22 #[v] w fun e w' => e = .returned (.int .i64 0) ∧ w' = w := by
  rcases h with rfl | ⟨b, nv, fv, root, many, rfl, h⟩
  · exact len_nil w
  · exact len_zero h
theorem root_no {w : World} {v : Value} (h : NoTree w v) : Calls Try.prog 29 #[v] w fun e w' => e = .returned (.int .i64 (-1)) ∧ w' = w := by
  rcases h with rfl | ⟨b, nv, fv, root, many, rfl, h⟩
  · exact root_nil w
  · exact root_zero h
set_option maxRecDepth 100000 in
theorem insertx_no {w : World} {v : Value} {x : It} (h : NoTree w v) : Calls Try.prog 25 #[v, .agg #[.int .i64 x.f, .int .i64 x.t, .int .i64 x.i]] w fun e w' => e = .returned (.int .i64 1) ∧ Below w.heap.size w w' := by
  have B0 := ba w (.cells #[.int .i64 x.f, .int .i64 x.t, .int .i64 x.i] 54)
  have A := none_no (h.below B0)
  replace B0 := Lib.hid B0
  clear h
  go_enter Try.func25, Try.ntmps25
  go_wp2_with (go_at_call 31; (with_reducible refine A.mono ?_); rintro e w20 ⟨rfl, rfl⟩)
  go_ret
  exact ⟨rfl, B0.out⟩
set_option maxRecDepth 100000 in
theorem deletex_no {w : World} {v : Value} {x : It} (h : NoTree w v) : Calls Try.prog 24 #[v, .agg #[.int .i64 x.f, .int .i64 x.t, .int .i64 x.i]] w fun e w' => e = .returned (.int .i64 1) ∧ Below w.heap.size w w' := by
  have B0 := ba w (.cells #[.int .i64 x.f, .int .i64 x.t, .int .i64 x.i] 54)
  have A := none_no (h.below B0)
  replace B0 := Lib.hid B0
  clear h
  go_enter Try.func24, Try.ntmps24
  go_wp2_with (go_at_call 31; (with_reducible refine A.mono ?_); rintro e w20 ⟨rfl, rfl⟩)
  go_ret
  exact ⟨rfl, B0.out⟩
def knotV (f t i l r h top : Int) : Value := .agg #[.int .i64 f, .int .i64 t, .int .i64 i, .int .i64 l, .int .i64 r, .int .i64 h, .int .i64 top]
set_option maxRecDepth 100000 in
theorem node_no {w : World} {v : Value} {p : Int} (h : NoTree w v) : Calls Try.prog 36 #[v, .int .i64 p] w fun e w' => e = .returned (.tuple #[knotV 0 0 0 0 0 0 0, .bool false]) ∧ Below w.heap.size w w' := by
  have B0 := ba w (.cells #[.int .i64 0, .int .i64 0, .int .i64 0, .int .i64 0, .int .i64 0, .int .i64 0, .int .i64 0] 71)
  have A := none_no (h.below B0)
  replace B0 := Lib.hid B0
  clear h
  go_enter Try.func36, Try.ntmps36
  go_wp2_with (go_at_call 31; (with_reducible refine A.mono ?_); rintro e w20 ⟨rfl, rfl⟩)
  refine bodyPost_ret (v := .tuple #[knotV 0 0 0 0 0 0 0, .bool false]) (results_row2 (fn := Try.f36) (p := 4) (u := 5) rfl _ _ w.heap.size _ _ (0, 0) _ rfl (heap_alloc_new w _) Try.underlying71 rfl (by kernel_rfl)) rfl ?_
  exact ⟨rfl, B0.out⟩
set_option maxRecDepth 100000 in
theorem node_at {w : World} {B b : Nat} {most : Int} {t : Tr} {ns : List Nd} {free : List Nat} {nv fv : Value} {p : Nat} {n : Nd} (h : Tre w B b most t ns free nv fv) (hn : ns[p]? = some n) (hu : n.used = true) :
    Calls Try.prog 36 #[.pointer (some ⟨b, 0, none⟩), .int .i64 (p : Int)] w fun e w' => e = .returned (.tuple #[knotV n.x.f n.x.t n.x.i n.l n.r n.h n.top, .bool true]) ∧ Below w.heap.size w w' := by
  have B0 := ba w (.cells #[.int .i64 0, .int .i64 0, .int .i64 0, .int .i64 0, .int .i64 0, .int .i64 0, .int .i64 0] 71)
  have h1 := h.but (Below.but B0 (fun _ => False)) (fun _ _ k => k)
  have A := none_at h1.tt
  rw [show decide (most = 0) = false by have := h.m1; simp; omega] at A
  obtain ⟨an, cap, rfl, _, hg⟩ := row_form h1.rn
  have pl := (List.getElem?_eq_some_iff.1 hn).1
  obtain ⟨g, rfl⟩ := hg (by omega)
  have S1 : St (w.alloc (.cells #[.int .i64 0, .int .i64 0, .int .i64 0, .int .i64 0, .int .i64 0, .int .i64 0, .int .i64 0] 71)) B b g cap most (place t) (t.size : Int) fv ns := ⟨h1.tt, h1.rn, fun z => h1.bn (by rw [z]; rfl)⟩
  have c1 := S1.t.c1
  have p0 : (0 : Int) ≤ (p : Int) := by omega
  have p1 : (p : Int) < ((ns.length : Nat) : Int) := by omega
  have q0 := S1.cell p 0 n (.int .i64 n.x.f) hn (by omega) rfl
  rw [Nat.add_zero] at q0
  have q1 := S1.cell p 1 n (.int .i64 n.x.t) hn (by omega) rfl
  have q2 := S1.cell p 2 n (.int .i64 n.x.i) hn (by omega) rfl
  have q3 := S1.cell p 3 n (.int .i64 n.l) hn (by omega) rfl
  have q4 := S1.cell p 4 n (.int .i64 n.r) hn (by omega) rfl
  have q5 := S1.cell p 5 n (.int .i64 n.h) hn (by omega) rfl
  have q6 := S1.cell p 6 n (.int .i64 n.top) hn (by omega) rfl
  have q7 := S1.cell p 7 n (.bool true) hn (by omega) (by rw [← hu]; rfl)
  have d0 : decide ((p : Int) < 0) = false := by simp
  have d1 : decide (((ns.length : Nat) : Int) ≤ (p : Int)) = false := by simp; omega
  have d2 : decide (ns.length ≤ p) = false := by simp; omega
  replace B0 := Lib.hid B0
  clear h h1 hn hu S1 hg pl
  go_enter Try.func36, Try.ntmps36
  go_wp2_with (go_at_call 31; (with_reducible refine A.mono ?_); rintro e w20 ⟨rfl, rfl⟩)
  refine bodyPost_ret (v := .tuple #[knotV n.x.f n.x.t n.x.i n.l n.r n.h n.top, .bool true]) (results_row2 (fn := Try.f36) (p := 4) (u := 5) rfl _ _ w.heap.size _ _ (0, 0) _ rfl (heap_alloc_new w _) Try.underlying71 rfl (by kernel_rfl)) rfl ?_
  exact ⟨rfl, ba w _⟩
set_option maxRecDepth 100000 in
theorem new_no {w : World} {m : Int} (h : m < 1 ∨ 1000000 < m) : Calls Try.prog 13 #[.int .i64 m] w fun e w' => e = .returned (.tuple #[.pointer none, .int .i64 2]) ∧ w' = w := by
  by_cases h1 : m < 1
  · have d1 : decide (m < 1) = true := by simpa using h1
    clear h
    go_enter Try.func13, Try.ntmps13
    go_wp2_with fail
    go_ret2
    exact ⟨rfl, rfl⟩
  · have h2 : 1000000 < m := by omega
    have d1 : decide (m < 1) = false := by simpa using h1
    have d2 : decide (1000000 < m) = true := by simpa using h2
    clear h
    go_enter Try.func13, Try.ntmps13
    go_wp2_with fail
    go_ret2
    exact ⟨rfl, rfl⟩
set_option maxRecDepth 100000 in
theorem new_is {w : World} {B : Nat} {m : Int} (h1 : 1 ≤ m) (h2 : m ≤ 1000000) (hB : B ≤ w.heap.size) : Calls Try.prog 13 #[.int .i64 m] w fun e w' => e = .returned (.tuple #[.pointer (some ⟨w.heap.size, 0, none⟩), .int .i64 0]) ∧ TreeIs w' B w.heap.size m (· = w.heap.size) [] ∧ Below w.heap.size w w' := by
  have d1 : decide (m < 1) = false := by simp; omega
  have d2 : decide (1000000 < m) = false := by simp; omega
  have d3 : ¬ m < 1 := by omega
  have d4 : ¬ 1000000 < m := by omega
  have HM := Lib.hid (And.intro h1 (And.intro h2 hB))
  clear h1 h2 hB
  go_enter Try.func13, Try.ntmps13
  go_wp2_with fail
  go_ret2
  refine ⟨rfl, ⟨.nil, [], [], .slice none 0 0, .slice none 0 0, { tt := ?_, rn := rowN_nil _ _ _, rf := World.ownsRow_nil _ _ _ _, bn := by simp [Value.ownBlock], bf := by simp [Value.ownBlock], nf := fun k hk => by simp [Value.ownBlock] at hk, bB := HM.out.2.2, m1 := HM.out.1, m2 := HM.out.2.1, ok := ⟨trivial, by simp [Tr.Sorted, Tr.items], by simp [Tr.places]⟩, ls := trivial, ft := ⟨by omega, fun n hn => by simp at hn⟩, sz := rfl, le := by have := HM.out.1; simp; omega, ap := by simp [Tr.places], fl := fun q hq => by simp at hq }, rfl, ?_⟩, ba _ _⟩
  · exact heap_alloc_new w _
  · funext k; simp [own, Value.ownBlock]
end Go.Proofs.Ytmgljgmfipodeaa.Av
