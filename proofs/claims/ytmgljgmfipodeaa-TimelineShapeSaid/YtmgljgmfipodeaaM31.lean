/-
  itree: Stab: the items that have a day, walked.
-/
import Derived.Test.YtmgljgmfipodeaaM30
/-
  itree: Stab: the items that have a day, walked.
-/
namespace Go.Proofs.Ytmgljgmfipodeaa.Itr
open Go Go.RowKit Go.Shelf Av
set_option linter.unusedSimpArgs false
set_option linter.unusedVariables false
attribute [local go_sem] Oper.semAt_some

/-- append of one item, plainly -/
theorem app_itemB {w : World} {ops : Array Oper} {rest : List Oper} {o : Oper} {a : Act} {Q : Exit → Act → World → Prop} (hgd : o.guard = none) (s x : Operand)
    (ho : o.op = .call { callee := .builtin .append, args := #[s, x], argTypes := #[51, 51] }) (B : Nat) (v : Value) (xs : List It) (y : It) (hs : a.eval s = v) (hown : RowT w B v xs)
    (g : Nat) (hx : a.eval x = .slice (some ⟨g, 0, none⟩) 1 1) (hc : ∀ j u, y.cells[j]? = some u → w.cell? ⟨g, j, none⟩ = some u) (hl : xs.length < 1000001) (hB : B ≤ w.heap.size)
    (h : ∀ (g' : Nat) (cap' : Nat) w', RowT w' B (.slice (some ⟨g', 0, none⟩) (xs.length + 1) cap') (xs ++ [y]) → w.grownBy w' v.ownBlock → wpList Try.prog ops Q rest (a.put o.dst (.slice (some ⟨g', 0, none⟩) (xs.length + 1) cap')) w') : wpList Try.prog ops Q (o :: rest) a w := by
  obtain ⟨i0, hi, hz0, hz1, hz2⟩ := info_parts info_item
  refine wpList_append_own_at _ hgd s x _ ho B 54 i0 (.agg #[.int .i64 0, .int .i64 0, .int .i64 0]) 3 24 Try.underlying51 hi hz0 hz1 hz2 rfl (by decide) v xs.length _ hs hown ⟨g, 0, none⟩ 1 1 y.cells hx rfl ?_ ?_ ?_ ?_ hB ?_
  · intro j u hu
    have := hc j u hu
    rw [show (⟨g, 0, none⟩ : Addr).add j = ⟨g, j, none⟩ by unfold Addr.add; split <;> simp_all]; exact this
  · intro u hu
    simp only [It.cells, List.mem_cons, List.not_mem_nil, or_false] at hu
    rcases hu with rfl | rfl | rfl <;> rfl
  · simp only [maxLen]; omega
  · omega
  · intro v' w' h1 h2 h3 h4
    obtain ⟨g', cap', rfl⟩ := ownsRow_succ h1
    refine h g' cap' w' ?_ h2
    unfold RowT
    rw [List.length_append, List.length_singleton, List.flatMap_append, List.flatMap_singleton]; exact h1

/-- the function value 'add' -/
def addV (k : Nat) : Value := .func (.func 26) #[] #[.pointer (some ⟨k, 0, none⟩)]
set_option maxRecDepth 100000 in
set_option maxHeartbeats 1000000 in
theorem add_is {W : World} {k base : Nat} {v : Value} {pre : List It} (x : It) (hv : Boxed W k 51 v) (hrow : RowT W base v pre) (hl : pre.length < 1000001) (hb : base ≤ W.heap.size) :
    Calls Try.prog 26 #[itV x, .pointer (some ⟨k, 0, none⟩)] W fun e w' => (∃ u, e = .returned u) ∧ ∃ v', Boxed w' k 51 v' ∧ RowT w' base v' (pre ++ [x]) ∧
      (∀ T : Nat → Prop, (∀ g, v.ownBlock = some g → ¬ T g) → ¬ T k → Keep T W w') ∧ ∀ n, (∀ g, v.ownBlock = some g → n ≤ g) → n ≤ k → n ≤ W.heap.size → Below n W w' := by
  obtain ⟨a0, c0, rfl, _⟩ := row_form hrow
  have hv1 := hv.alloc (.cells #[.int .i64 x.f, .int .i64 x.t, .int .i64 x.i] 54)
  have c1 := hv1.cell
  obtain ⟨W1, hW1⟩ : ∃ v, Hid (v = W.alloc (.cells #[.int .i64 x.f, .int .i64 x.t, .int .i64 x.i] 54)) := ⟨_, rfl⟩
  have hr1 : RowT W1 base (.slice a0 pre.length c0) pre := by rw [hW1.out]; exact World.ownsRow.alloc hrow _
  have x0 := heap_alloc_new W (.cells #[.int .i64 x.f, .int .i64 x.t, .int .i64 x.i] 54)
  have s1 : base ≤ W1.heap.size := by rw [hW1.out, World.size_alloc]; omega
  rw [← hW1.out] at hv1 c1 x0
  have y0 : W1.cell? ⟨W.heap.size, 0, none⟩ = some (.int .i64 x.f) := by rw [cell_of_row W1 _ _ _ _ (0, 0) x0]; rfl
  have y1 : W1.cell? ⟨W.heap.size, 1, none⟩ = some (.int .i64 x.t) := by rw [cell_of_row W1 _ _ _ _ (0, 0) x0]; rfl
  have y2 : W1.cell? ⟨W.heap.size, 2, none⟩ = some (.int .i64 x.i) := by rw [cell_of_row W1 _ _ _ _ (0, 0) x0]; rfl
  have HR := Lib.hid (World.ownsRow.alloc hr1 (.cells #[.int .i64 x.f, .int .i64 x.t, .int .i64 x.i] 54))
  have HV := Lib.hid (hv1.alloc (.cells #[.int .i64 x.f, .int .i64 x.t, .int .i64 x.i] 54))
  have HROW := Lib.hid hr1
  have HZ : Hid (base ≤ (W1.alloc (.cells #[.int .i64 x.f, .int .i64 x.t, .int .i64 x.i] 54)).heap.size) := by show _ ≤ _; rw [World.size_alloc]; omega
  have HL1 := Lib.hid hl
  have HC := Lib.hid (item_cells W1 x)
  have KP : Hid (∀ T : Nat → Prop, Keep T W W1) := fun T => by rw [hW1.out]; exact (Keep.refl T W).alloc _
  have KB : Hid (∀ n, n ≤ W.heap.size → Below n W W1) := fun n hn => by rw [hW1.out]; exact (Below.refl n W).alloc hn _
  have HB := Lib.hid hb
  clear hv hrow hl hb hv1 hr1 x0 s1
  unfold itV
  go_enter Try.func26, Try.ntmps26
  go_upto_region 1 with fail
  rw [← hW1.out]
  go_wp2_with (at_builtin; go_loud (refine app_itemB rfl _ _ rfl base (.slice a0 pre.length c0) pre x rfl HR.out W1.heap.size rfl HC.out HL1.out HZ.out ?_; intro g' cap' w5 r5 b5; have B5 := Lib.hid b5; have R5 := Lib.hid r5; have hv5 := HV.out.kept b5 (HV.out.not_row (by decide) HR.out); have c5 := hv5.cell; have f5 := hv5.frozen; have HV5 := Lib.hid hv5; clear b5 r5 hv5))
  go_end0
  refine ⟨⟨_, rfl⟩, _, HV5.out.set _, World.ownsRow.kept R5.out (grownBy_setCell' w5 k _) (.inr (HV5.out.not_row (by decide) R5.out).symm), fun T hT hk => (KP.out T).trans (keep_app B5.out hT hk), fun n hn hk hz => (KB.out n hz).trans (Below.setCell (Below.grown ((Below.refl n W1).alloc (by have := (KB.out n hz).size; omega) _) B5.out (by simp; have := (KB.out n hz).size; omega) (fun j ej => hn j ej)) hk _)⟩

def addB (W : World) (m k : Nat) : Prop := W.heap[m]? = some (.cells #[addV k] 67 (0, 0))
theorem steady_addB (B d m k : Nat) (hm : m < B) : Steady (Own B d) (fun (pre : List It) W => addB W m k) := by
  intro s A C row h hg hr
  refine (hg.block m (Array.getElem?_eq_some_iff.1 h).1 (fun e => ?_)).trans h
  have := (hr m e.symm).1
  omega
theorem steady_boxrow (B d k : Nat) (hk : k < B) : Steady (Own B d) (fun (pre : List It) W => ∃ v, Boxed W k 51 v ∧ RowT W (B + 2 + d) v pre) := by
  rintro s A C row ⟨v, h1, h2⟩ hg hr
  refine ⟨v, h1.kept hg (fun e => ?_), World.ownsRow.kept h2 hg ?_⟩
  · have := (hr k e.symm).1; omega
  · by_cases e : v.ownBlock = none
    · exact .inl e
    · refine .inr fun e' => ?_
      obtain ⟨j, hj⟩ := Option.ne_none_iff_exists'.1 e
      have h4 := World.ownsRow.lt h2 j hj
      have h5 := (hr j (e'.symm.trans hj)).2
      omega
set_option maxRecDepth 100000 in
set_option maxHeartbeats 2000000 in
/-- Stab: the items that have the day -/
theorem stab_is {w : World} {B b : Nat} {most : Int} {O : Nat → Prop} {L : List It} (h : TreeIs w B b most O L) (day : Int) (hd : IntKind.i64.wrap (day + 1) = day + 1) (hd' : ¬ day = 9223372036854775807) :
    Calls Try.prog 19 #[.pointer (some ⟨b, 0, none⟩), .int .i64 day] w fun e w' => ∃ v, e = .returned v ∧ RowT w' w.heap.size v (overS day (day + 1) L) ∧ Below w.heap.size w w' := by
  obtain ⟨k, hk⟩ : ∃ i, Hid (w.heap.size = i) := ⟨_, rfl⟩
  have dd : decide (day = 9223372036854775807) = false := by simpa using hd'
  refine (callsIn_wide (n := 10)).1 (callsIn_of_wp_marks Try.func19 rfl trivial ?_ rfl)
  simp only [Try.ntmps19, List.size_toArray, List.length_cons, List.length_nil, Nat.reduceAdd, Nat.reduceSub, Array.replicate_succ, Array.replicate_zero, List.push_toArray, List.append_toArray, List.nil_append, List.cons_append]
  gi_upto_region 4 with fail
  have A := all_is (w := (w.alloc (Obj.cells #[Value.slice none 0 0] 51)).alloc (Obj.cells #[addV w.heap.size] 67)) b day (day + 1)
  unfold addV at A
  have bO := (Boxed.new w 51 (.slice none 0 0)).alloc (Obj.cells #[addV w.heap.size] 67)
  have bA : addB ((w.alloc (Obj.cells #[Value.slice none 0 0] 51)).alloc (Obj.cells #[addV w.heap.size] 67)) (w.heap.size + 1) w.heap.size := by
    have := heap_alloc_new (w.alloc (Obj.cells #[Value.slice none 0 0] 51)) (Obj.cells #[addV w.heap.size] 67)
    rw [World.size_alloc] at this; exact this
  have B2 : Below w.heap.size w ((w.alloc (Obj.cells #[Value.slice none 0 0] 51)).alloc (Obj.cells #[addV w.heap.size] 67)) := bt (ba _ _) (ba _ _)
  unfold addV at bO bA B2
  have z2 : ((w.alloc (Obj.cells #[Value.slice none 0 0] 51)).alloc (Obj.cells #[.func (.func 26) #[] #[.pointer (some ⟨w.heap.size, 0, none⟩)]] 67)).heap.size = k + 2 := by simp; rw [hk.out]
  obtain ⟨w2, hw2⟩ : ∃ v, Hid (v = (w.alloc (Obj.cells #[Value.slice none 0 0] 51)).alloc (Obj.cells #[.func (.func 26) #[] #[.pointer (some ⟨w.heap.size, 0, none⟩)]] 67)) := ⟨_, rfl⟩
  rw [← hw2.out] at A bO bA B2 z2 ⊢
  have H2 := Lib.hid (h.but (Below.but B2 (fun _ => False)) (fun _ _ z => z))
  rw [z2] at A
  rw [hk.out] at bO bA B2 ⊢
  have HD := Lib.hid hd'
  have HT : Hid (∀ g, O g → g < k) := fun g hg => by have := TreeIs.lt h g hg; have := hk.out; omega
  replace z2 := Lib.hid z2
  clear h hd' dd
  gi_wp2_with (refine ⟨trivial, ?_⟩; gi_at_call 21; refine (callsIn_wide.2 A).mono ?_; rintro e w4 ⟨rfl, hw4⟩; replace hw4 := Lib.hid hw4; unfold seqV; clear A)
  have K2 : (0 : Nat) < 1 := by omega
  have s4 : w4.heap[k + 2 + 1]? = some (.cells #[.int .i64 day, .int .i64 (day + 1)] 24 (0, 0)) := by
    rw [hw4.out]
    have := heap_alloc_new (w2.alloc (.cells #[.pointer (some ⟨b, 0, none⟩)] 45)) (.cells #[.int .i64 day, .int .i64 (day + 1)] 24)
    rw [World.size_alloc, z2.out] at this; exact this
  have t4 : w4.heap[k + 2]? = some (.cells #[.pointer (some ⟨b, 0, none⟩)] 45 (0, 0)) := by
    rw [hw4.out]
    refine (Below.heap_alloc _ _ _ (by simp; have := z2.out; omega)).trans ?_
    have := heap_alloc_new w2 (.cells #[.pointer (some ⟨b, 0, none⟩)] 45)
    rw [z2.out] at this; exact this
  have B4 : Below w2.heap.size w2 w4 := by rw [hw4.out]; exact bt (ba _ _) (ba _ _)
  have z4 : w4.heap.size = k + 4 := by rw [hw4.out]; simp; have := z2.out; omega
  have H4 := H2.out.but (Below.but B4 (fun _ => False)) (fun _ _ z => z)
  have bO4 : Boxed w4 k 51 (.slice none 0 0) := (B4.block k (by have := z2.out; omega)).trans bO
  have bA4 : addB w4 (k + 1) k := (B4.block (k + 1) (by have := z2.out; omega)).trans bA
  have B24 : Below k w w4 := B2.trans (B4.mono (by have := z2.out; omega))
  have OL := Nat.le_trans (over_len day (day + 1) L) (TreeIs.len H4)
  have TT : ∀ j, (O j ∨ j = k + 2 + 1 ∨ j = k + 2) → j ≠ k ∧ j ≠ k + 1 ∧ j < k + 4 := by
    rintro j (hj | hj | hj)
    · have := HT.out j hj; omega
    · omega
    · omega
  clear hw4 bO bA B2 B4 H2
  refine rangeAt (T := fun g => O g ∨ g = k + 2 + 1 ∨ g = k + 2) z4 (gf := 27) (lb := #[.pointer (some ⟨k + 2 + 1, 0, none⟩), .pointer (some ⟨k + 2, 0, none⟩)]) rfl enters_all1 (fun j hj => (TT j hj).2.2) (all1_at H4 s4 t4 (fun g hg => hg)) (fun x => rfl)
    (fun pre W => ((∃ v, Boxed W k 51 v ∧ RowT W (k + 4 + 2 + 1) v pre) ∧ addB W (k + 1) k) ∧ Below k w W) (fun _ _ _ => False)
    (((steady_boxrow (k + 4) 1 k (by omega)).and (steady_addB (k + 4) 1 (k + 1) k (by omega))).and (steady_below (by rw [hk.out]; exact Nat.le_refl _) (fun r hr => by have := hr.1; omega))) (fun _ _ _ _ _ h _ _ => h) ⟨⟨⟨_, bO4, World.ownsRow_nil _ _ _ _⟩, bA4⟩, B24⟩
    (fun x a' W => ∃ q, Hid (k + 4 + 2 + 1 ≤ q) ∧ Hid (W.heap[q]? = some (.cells #[.int .i64 x.f, .int .i64 x.t, .int .i64 x.i] 54 (0, 0))) ∧ a' = { tmps := #[.pointer (some ⟨b, 0, none⟩), .int .i64 day, undef, undef, .pointer (some ⟨k, 0, none⟩), .pointer (some ⟨k + 1, 0, none⟩), .pointer (some ⟨q, 0, none⟩), .int .i64 day, .bool false, .func (.func 26) #[] #[.pointer (some ⟨k, 0, none⟩)], .pointer (some ⟨b, 0, none⟩), .int .i64 day, .int .i64 day, .int .i64 (day + 1), .agg #[.int .i64 day, .int .i64 (day + 1)], .func (.func 27) #[] #[.pointer (some ⟨k + 2 + 1, 0, none⟩), .pointer (some ⟨k + 2, 0, none⟩)], itV x, undef, undef, undef, undef], defers := [] })
    ?ax ?assign ?body ?done ?stop
  case ax =>
    rintro x a' s A C row ⟨q, h1, h2, h3⟩ hg hr
    refine ⟨q, h1, (hg.block q (Array.getElem?_eq_some_iff.1 h2.out).1 (fun e => ?_)).trans h2.out, h3⟩
    have := (hr q e.symm).2
    have := h1.out
    omega
  case assign =>
    intro l pre x W K hsz hI hK
    obtain ⟨q, hq⟩ : ∃ i, Hid (W.heap.size = i) := ⟨_, rfl⟩
    have hK2 := hK _ (W.alloc (.cells #[.int .i64 x.f, .int .i64 x.t, .int .i64 x.i] 54)) ((Keep.refl _ W).alloc _) ((((steady_boxrow (k + 4) 1 k (by omega)).and (steady_addB (k + 4) 1 (k + 1) k (by omega))).and (steady_below (by rw [hk.out]; exact Nat.le_refl _) (fun r hr => by have := hr.1; omega))).alloc _ hI) ⟨q, by rw [← hq.out]; exact hsz, by rw [← hq.out]; exact heap_alloc_new W _, rfl⟩
    rw [hq.out] at hsz
    clear hK
    unfold itV at hK2 ⊢
    gi_wp2
    rw [hq.out]
    exact hK2
  case body =>
    rintro l pre x a' W hsz ⟨⟨⟨v, hv, hrow⟩, ha⟩, hB⟩ ⟨q, hq, hx, rfl⟩ hlt
    have x0 : W.cell? ⟨q, 0, none⟩ = some (.int .i64 x.f) := by rw [cell_of_row W _ _ _ _ (0, 0) hx.out]; rfl
    have x1 : W.cell? ⟨q, 1, none⟩ = some (.int .i64 x.t) := by rw [cell_of_row W _ _ _ _ (0, 0) hx.out]; rfl
    have x2 : W.cell? ⟨q, 2, none⟩ = some (.int .i64 x.i) := by rw [cell_of_row W _ _ _ _ (0, 0) hx.out]; rfl
    have ca : W.cell? ⟨k + 1, 0, none⟩ = some (.func (.func 26) #[] #[.pointer (some ⟨k, 0, none⟩)]) := by rw [cell_of_row W _ _ _ _ (0, 0) ha]; rfl
    have HA := Lib.hid (add_is (pre := pre) x hv hrow (by omega) (by omega))
    unfold itV at HA
    have HV := Lib.hid hv
    have HROW := Lib.hid hrow
    have HAD := Lib.hid ha
    have HB := Lib.hid hB
    clear hv hrow ha hB
    gi_wp2_with (refine ⟨trivial, ?_⟩; gi_at_call 26; go_loud (show CallsIn Fence.wide _ _ _ _ _ _; refine (callsIn_wide.2 HA.out).mono ?_; rintro e w5 ⟨⟨u, rfl⟩, v', hv', hr', hkeep, hbel⟩))
    have nk : ¬ ((O k ∨ k = k + 2 + 1 ∨ k = k + 2) ∨ Own (k + 4) 1 k) := by
      rintro (h | h)
      · exact (TT k h).1 rfl
      · have := h.1; omega
    have nv : ∀ g, v.ownBlock = some g → ¬ ((O g ∨ g = k + 2 + 1 ∨ g = k + 2) ∨ Own (k + 4) 1 g) := by
      intro g hg
      have h1 := (World.ownsRow.lt HROW.out g hg).1
      rintro (h | h)
      · have := TT g h; omega
      · have := h.2; omega
    have klt := HV.out.lt
    refine ⟨hkeep _ nv nk, ⟨⟨v', hv', hr'⟩, ?_⟩, ?_⟩
    · have hk5 := hkeep (· = k + 1) (fun g hg e => by have h1 := (World.ownsRow.lt HROW.out g hg).1; omega) (by omega)
      exact (hk5.same (k + 1) rfl (Array.getElem?_eq_some_iff.1 HAD.out).1).trans HAD.out
    · exact HB.out.trans (hbel k (fun g hg => by have h1 := (World.ownsRow.lt HROW.out g hg).1; omega) (Nat.le_refl _) (by omega))
  case done =>
    rintro xs W rfl ⟨⟨⟨v, hv, hrow⟩, ha⟩, hB⟩ hK
    have hc := hv.cell
    have hf := hv.frozen
    obtain ⟨a0, c0, rfl, _⟩ := row_form hrow
    gi_wp2
    refine ⟨by simp, .inl ⟨_, _, rfl, run_takeDeferred ((Below.heap_setCell _ _ _ _ (by show k + 4 ≠ k; omega)).trans hK), ?_⟩⟩
    have hv6 := hv.set (.slice a0 (overS day (day + 1) L).length c0)
    have hr6 := World.ownsRow.kept hrow (grownBy_setCell' W k (.slice a0 (overS day (day + 1) L).length c0)) (.inr (hv.not_row (by decide) hrow).symm)
    have hK6 : (W.setCell ⟨k, 0, none⟩ (.slice a0 (overS day (day + 1) L).length c0)).heap[k + 4]? = _ := (Below.heap_setCell _ _ _ _ (by show k + 4 ≠ k; omega)).trans hK
    have hv7 : Boxed ((W.setCell ⟨k, 0, none⟩ (.slice a0 (overS day (day + 1) L).length c0)).putObj (k + 4) (.deferred none)) k 51 (.slice a0 (overS day (day + 1) L).length c0) := (World.putObj_heap_other (by omega)).trans hv6
    have hc7 := hv7.cell
    refine ⟨.slice a0 (overS day (day + 1) L).length c0, ?_, .slice a0 (overS day (day + 1) L).length c0, rfl, ownsRow_le (ownsRow_putObj hr6 _ hK6 rfl) (by rw [hk.out]; omega), ?_⟩
    · simp [results, Try.results19, go_sem, hc7]
    · rw [hk.out]
      have B6 : Below k w (W.setCell ⟨k, 0, none⟩ (.slice a0 (overS day (day + 1) L).length c0)) := hB.setCell (Nat.le_refl _) _
      exact B6.grown (grownBy_putObj' _ (k + 4) _) (by have := B6.size; have := hk.out; omega) (fun j e => by cases e; omega)
  case stop =>
    intro c pre W _ h _
    exact h.elim
end Go.Proofs.Ytmgljgmfipodeaa.Itr
