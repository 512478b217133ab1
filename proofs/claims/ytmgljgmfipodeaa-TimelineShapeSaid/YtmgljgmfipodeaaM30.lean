/-
  itree: All; slices.AppendSeq, slices.Collect; Overlap.
-/
import Derived.Test.YtmgljgmfipodeaaM29
/-
  itree: All; slices.AppendSeq, slices.Collect; Overlap.
-/
namespace Go.Proofs.Ytmgljgmfipodeaa.Itr
open Go Go.RowKit Go.Shelf Av
set_option linter.unusedSimpArgs false
set_option linter.unusedVariables false
attribute [local go_sem] Oper.semAt_some

/-- the function value that All hands back -/
def seqV (sb tb : Nat) : Value := .func (.func 27) #[] #[.pointer (some ⟨sb, 0, none⟩), .pointer (some ⟨tb, 0, none⟩)]
set_option maxRecDepth 100000 in
theorem all_is {w : World} (b : Nat) (a z : Int) :
    Calls Try.prog 21 #[.pointer (some ⟨b, 0, none⟩), .agg #[.int .i64 a, .int .i64 z]] w fun e w' => e = .returned (seqV (w.heap.size + 1) w.heap.size) ∧
      w' = (w.alloc (.cells #[.pointer (some ⟨b, 0, none⟩)] 45)).alloc (.cells #[.int .i64 a, .int .i64 z] 24) := by
  unfold seqV
  go_enter Try.func21, Try.ntmps21
  go_wp2
  go_ret
  exact ⟨rfl, rfl⟩

/-- append of one item, in a fence -/
theorem app_itemIn {F : Fence} {n : Nat} {w : World} {ops : Array Oper} {rest : List Oper} {o : Oper} {a : Act} {Q : Exit → Act → World → Prop} (hgd : o.guard = none) (s x : Operand)
    (ho : o.op = .call { callee := .builtin .append, args := #[s, x], argTypes := #[51, 51] }) (B : Nat) (v : Value) (xs : List It) (y : It) (hs : a.eval s = v) (hown : RowT w B v xs)
    (g : Nat) (hx : a.eval x = .slice (some ⟨g, 0, none⟩) 1 1) (hc : ∀ j u, y.cells[j]? = some u → w.cell? ⟨g, j, none⟩ = some u) (hl : xs.length < 1000001) (hB : B ≤ w.heap.size)
    (h : ∀ (g' : Nat) (cap' : Nat) w', RowT w' B (.slice (some ⟨g', 0, none⟩) (xs.length + 1) cap') (xs ++ [y]) → w.grownBy w' v.ownBlock → wpListIn F n Try.prog ops Q rest (a.put o.dst (.slice (some ⟨g', 0, none⟩) (xs.length + 1) cap')) w') : wpListIn F n Try.prog ops Q (o :: rest) a w := by
  obtain ⟨i0, hi, hz0, hz1, hz2⟩ := info_parts info_item
  refine wpListIn_append_own w hgd s x _ ho B 54 i0 (.agg #[.int .i64 0, .int .i64 0, .int .i64 0]) 3 24 Try.underlying51 hi hz0 hz1 hz2 rfl (by decide) v xs.length _ hs hown ⟨g, 0, none⟩ 1 1 y.cells hx rfl ?_ ?_ ?_ ?_ hB ?_
  · intro j u hu
    have := hc j u hu
    rw [show (⟨g, 0, none⟩ : Addr).add j = ⟨g, j, none⟩ by unfold Addr.add; split <;> simp_all]; exact this
  · intro u hu
    simp only [It.cells, List.mem_cons, List.not_mem_nil, or_false] at hu
    rcases hu with rfl | rfl | rfl <;> rfl
  · simp only [maxLen]; omega
  · omega
  · intro v' w' h1 h2 h3
    obtain ⟨g', cap', rfl⟩ := ownsRow_succ h1
    refine h g' cap' w' ?_ h2
    unfold RowT
    rw [List.length_append, List.length_singleton, List.flatMap_append, List.flatMap_singleton]; exact h1

theorem ownsRow_le {w : World} {base base' size n : Nat} {e : TypeId} {v : Value} {xs : List Value} (h : w.ownsRow base e size v n xs) (hb : base' ≤ base) : w.ownsRow base' e size v n xs := by
  obtain ⟨h1, h2⟩ := h
  refine ⟨h1, ?_⟩
  rcases h2 with h2 | ⟨g, cap, cur, h3, h4, h5⟩
  · exact .inl h2
  · exact .inr ⟨g, cap, cur, h3, by omega, h5⟩
theorem keep_app {T : Nat → Prop} {W w5 : World} {o : Obj} {v u : Value} {k : Nat} (hg : (W.alloc o).grownBy w5 v.ownBlock) (hv : ∀ g, v.ownBlock = some g → ¬ T g) (hk : ¬ T k) : Keep T W (w5.setCell ⟨k, 0, none⟩ u) := by
  refine Keep.set ⟨?_, fun j hj hl => ?_⟩ (.inr hk) u
  · have := hg.size; rw [World.size_alloc] at this; omega
  · exact (hg.block j (by rw [World.size_alloc]; omega) (fun e => hv j e.symm hj)).trans (Below.heap_alloc _ _ _ hl)
theorem steady_row (B d k : Nat) (w : World) (hk : k < B) (hw : w.heap.size = k) : Steady (Own B d) (fun (pre : List It) W => (∃ v, Boxed W k 51 v ∧ RowT W (B + 2 + d) v pre) ∧ Below k w W) := by
  rintro s A C row ⟨⟨v, h1, h2⟩, h3⟩ hg hr
  refine ⟨⟨v, h1.kept hg (fun e => ?_), World.ownsRow.kept h2 hg ?_⟩, h3.grown hg (by rw [← hw]; exact h3.size) (fun j e => by have := (hr j e).1; omega)⟩
  · have := (hr k e.symm).1; omega
  · by_cases e : v.ownBlock = none
    · exact .inl e
    · refine .inr fun e' => ?_
      obtain ⟨j, hj⟩ := Option.ne_none_iff_exists'.1 e
      have h4 := World.ownsRow.lt h2 j hj
      have h5 := (hr j (e'.symm.trans hj)).2
      omega

set_option maxRecDepth 100000 in
set_option maxHeartbeats 2000000 in
theorem appendSeq_is {w : World} {gf d : Nat} {lb : Array Value} {T : Nat → Prop} {L : List It} (eg : ∀ args w, (callFunc gf args).run Try.prog w = .ok (.enter gf args) w)
    (hT : ∀ k, T k → k < w.heap.size) (hL : L.length ≤ 1000000) (hseq : ∀ n, SeqAt n Try.prog gf lb (fun x : It => #[itV x]) d T (fun xs => xs = L) (fun pre => pre <+: L) L.length (w.alloc (.cells #[.slice none 0 0] 51))) :
    Calls Try.prog 32 #[.slice none 0 0, .func (.func gf) #[] lb] w fun e w' => ∃ v, e = .returned v ∧ RowT w' w.heap.size v L ∧ Below w.heap.size w w' := by
  obtain ⟨i0, hi, hz0, hz1, hz2⟩ := info_parts info_item
  refine (callsIn_wide (n := 10)).1 (callsIn_of_wp_marks Try.func32 rfl trivial ?_ rfl)
  simp only [Try.ntmps32, List.size_toArray, List.length_cons, List.length_nil, Nat.reduceAdd, Nat.reduceSub, Array.replicate_succ, Array.replicate_zero, List.push_toArray, List.append_toArray, List.nil_append, List.cons_append]
  have bO := Boxed.new w 51 (.slice none 0 0)
  obtain ⟨k, hk⟩ : ∃ i, Hid (w.heap.size = i) := ⟨_, rfl⟩
  have hT' : ∀ j, T j → j < k + 1 := fun j h => by have := hT j h; have := hk.out; omega
  obtain ⟨w1, hw1⟩ : ∃ v, Hid (v = w.alloc (.cells #[.slice none 0 0] 51)) := ⟨_, rfl⟩
  have z1 : Hid (w1.heap.size = k + 1) := by show _ = _; rw [hw1.out, World.size_alloc, hk.out]
  have b1 : Below k w w1 := by rw [hw1.out, ← hk.out]; exact ba _ _
  rw [← hw1.out, hk.out] at bO
  rw [← hw1.out] at hseq
  rw [hk.out]
  gi_wp2
  rw [hk.out, ← hw1.out]
  refine rangeAt z1.out (gf := gf) (lb := lb) rfl eg hT' (hseq _) (fun x => rfl) 
    (fun pre W => (∃ v, Boxed W k 51 v ∧ RowT W (k + 1 + 2 + d) v pre) ∧ Below k w W) (fun _ _ _ => False)
    (steady_row _ _ _ _ (by omega) hk.out) (fun _ _ _ _ _ h _ _ => h) ⟨⟨_, bO, World.ownsRow_nil _ _ _ _⟩, b1⟩
    (fun x a' W => ∃ q, Hid (k + 1 + 2 + d ≤ q) ∧ Hid (W.heap[q]? = some (.cells #[.int .i64 x.f, .int .i64 x.t, .int .i64 x.i] 54 (0, 0))) ∧ a' = { tmps := #[.slice none 0 0, .func (.func gf) #[] lb, .pointer (some ⟨k, 0, none⟩), undef, .slice none 0 0, .pointer (some ⟨q, 0, none⟩), .func (.func gf) #[] lb, itV x, undef, undef, undef, undef, undef], defers := [] })
    ?ax ?assign ?body ?done ?stop
  case ax =>
    rintro x a' s A C row ⟨q, h1, h2, h3⟩ hg hr
    refine ⟨q, h1, (hg.block q (Array.getElem?_eq_some_iff.1 h2.out).1 (fun e => ?_)).trans h2.out, h3⟩
    have := (hr q e.symm).2
    have := h1.out
    omega
  case assign =>
    intro l pre x W K hsz hI hK
    dsimp only [itV] at hK ⊢
    obtain ⟨q, hq⟩ : ∃ i, Hid (W.heap.size = i) := ⟨_, rfl⟩
    have hK2 := hK _ (W.alloc (.cells #[.int .i64 x.f, .int .i64 x.t, .int .i64 x.i] 54)) ((Keep.refl _ W).alloc _) ((steady_row _ _ _ _ (by omega) hk.out).alloc _ hI) ⟨q, by rw [← hq.out]; exact hsz, by rw [← hq.out]; exact heap_alloc_new W _, rfl⟩
    rw [hq.out] at hsz
    clear hK
    gi_wp2
    rw [hq.out]
    exact hK2
  case body =>
    rintro l pre x a' W hsz ⟨⟨v, hv, hrow⟩, hB⟩ ⟨q, hq, hx, rfl⟩ hlt
    have hc := hv.cell
    have hpl : pre.length < 1000000 := by omega
    have hbs := hB.size
    have x0 : W.cell? ⟨q, 0, none⟩ = some (.int .i64 x.f) := by rw [cell_of_row W _ _ _ _ (0, 0) hx.out]; rfl
    have x1 : W.cell? ⟨q, 1, none⟩ = some (.int .i64 x.t) := by rw [cell_of_row W _ _ _ _ (0, 0) hx.out]; rfl
    have x2 : W.cell? ⟨q, 2, none⟩ = some (.int .i64 x.i) := by rw [cell_of_row W _ _ _ _ (0, 0) hx.out]; rfl
    obtain ⟨a0, c0, rfl, _⟩ := row_form hrow
    have HR := Lib.hid (World.ownsRow.alloc hrow (.cells #[.int .i64 x.f, .int .i64 x.t, .int .i64 x.i] 54))
    have HV := Lib.hid hv
    have HROW := Lib.hid hrow
    have HZ : Hid (k + 1 + 2 + d ≤ (W.alloc (.cells #[.int .i64 x.f, .int .i64 x.t, .int .i64 x.i] 54)).heap.size) := by show _ ≤ _; rw [World.size_alloc]; omega
    have HL1 : Hid (pre.length < 1000001) := by show _ < _; omega
    clear hv hrow hpl
    have HC := Lib.hid (item_cells W x)
    gi_wp2_with (gi_at_builtin; go_loud (refine app_itemIn rfl _ _ rfl (k + 1 + 2 + d) (.slice a0 pre.length c0) pre x rfl HR.out W.heap.size rfl HC.out HL1.out HZ.out ?_; intro g' cap' w5 r5 b5; have B5 := Lib.hid b5; have R5 := Lib.hid r5; have hv5 := (HV.out.alloc _).kept b5 (HV.out.not_row (by decide) HROW.out); have c5 := hv5.cell; have f5 := hv5.frozen; have HV5 := Lib.hid hv5; clear b5 r5 hv5))
    have HT' : ∀ j, (T j ∨ Own (k + 1) d j) → j ≠ k ∧ j < k + 1 + 2 + d := by
      rintro j (h | h)
      · have := hT j h; have := hk.out; omega
      · have h1 := h.1; have h2 := h.2; omega
    refine ⟨keep_app B5.out (fun g hg h => ?_) (fun h => (HT' k h).1 rfl), ⟨⟨_, HV5.out.set _, ?_⟩, ?_⟩⟩
    · have h1 := (World.ownsRow.lt HROW.out g hg).1
      have h2 := (HT' g h).2
      omega
    · exact World.ownsRow.kept R5.out (grownBy_setCell' w5 k _) (.inr (HV5.out.not_row (by decide) R5.out).symm)
    · exact Below.setCell (hB.trans (Below.grown ((Below.refl k W).alloc (by omega) _) B5.out (by simp; omega) (fun j ej => by have := (World.ownsRow.lt HROW.out j ej).1; omega))) (Nat.le_refl _) _
  case done =>
    rintro xs W rfl ⟨⟨v, hv, hrow⟩, hB⟩ hK
    have hc := hv.cell
    gi_wp2
    refine ⟨by simp, .inl ⟨_, _, rfl, run_takeDeferred hK, ?_⟩⟩
    exact ⟨_, results_tmp rfl _ _ _, v, rfl, ownsRow_le (ownsRow_putObj hrow _ hK rfl) (by omega), hB.grown (grownBy_putObj' W (k + 1) _) (by have := hB.size; have := hk.out; omega) (fun j e => by cases e; omega)⟩
  case stop =>
    intro c pre W _ h _
    exact h.elim
theorem collect_is {w : World} {gf d : Nat} {lb : Array Value} {T : Nat → Prop} {L : List It} (eg : ∀ args w, (callFunc gf args).run Try.prog w = .ok (.enter gf args) w)
    (hT : ∀ k, T k → k < w.heap.size) (hL : L.length ≤ 1000000) (hseq : ∀ n, SeqAt n Try.prog gf lb (fun x : It => #[itV x]) d T (fun xs => xs = L) (fun pre => pre <+: L) L.length (w.alloc (.cells #[.slice none 0 0] 51))) :
    Calls Try.prog 23 #[.func (.func gf) #[] lb] w fun e w' => ∃ v, e = .returned v ∧ RowT w' w.heap.size v L ∧ Below w.heap.size w w' := by
  have A := appendSeq_is eg hT hL hseq
  clear hT hL hseq eg
  go_enter Try.func23, Try.ntmps23
  go_wp2_with (go_at_call 32; refine A.mono ?_; rintro e w2 ⟨v, rfl, hr, hb⟩)
  go_ret
  exact ⟨v, rfl, hr, hb⟩
theorem over_len (a b : Int) (L : List It) : (overS a b L).length ≤ L.length := by
  unfold overS over
  split
  · exact List.length_filter_le _ _
  · simp
theorem TreeIs.len {w : World} {B b : Nat} {most : Int} {O : Nat → Prop} {L : List It} (h : TreeIs w B b most O L) : L.length ≤ 1000000 := by
  obtain ⟨t, ns, free, nv, fv, H, rfl, rfl⟩ := h
  rw [Tr.size_items]; exact H.small.1
theorem enters_all1 : ∀ args w, (callFunc 27 args).run Try.prog w = .ok (.enter 27 args) w := enters_of Try.func27 (by kernel_rfl) rfl
/-- Overlap: the items that meet the span -/
theorem overlap_is {w : World} {B b : Nat} {most : Int} {O : Nat → Prop} {L : List It} (h : TreeIs w B b most O L) (a z : Int) :
    Calls Try.prog 16 #[.pointer (some ⟨b, 0, none⟩), .agg #[.int .i64 a, .int .i64 z]] w fun e w' => ∃ v, e = .returned v ∧ RowT w' w.heap.size v (overS a z L) ∧ Below w.heap.size w w' := by
  have A := all_is (w := w.alloc (.cells #[.int .i64 a, .int .i64 z] 24)) b a z
  have C : Hid (∀ w2, w2 = ((w.alloc (.cells #[.int .i64 a, .int .i64 z] 24)).alloc (.cells #[.pointer (some ⟨b, 0, none⟩)] 45)).alloc (.cells #[.int .i64 a, .int .i64 z] 24) →
      Calls Try.prog 23 #[seqV (w.heap.size + 1 + 1) (w.heap.size + 1)] w2 fun e w' => ∃ v, e = .returned v ∧ RowT w' w.heap.size v (overS a z L) ∧ Below w.heap.size w w') := by
    rintro w2 rfl
    have B2 : Below w.heap.size w (((w.alloc (.cells #[.int .i64 a, .int .i64 z] 24)).alloc (.cells #[.pointer (some ⟨b, 0, none⟩)] 45)).alloc (.cells #[.int .i64 a, .int .i64 z] 24)) := bt (bt (ba _ _) (ba _ _)) (ba _ _)
    unfold seqV
    refine (collect_is (d := 1) (T := fun g => O g ∨ g = w.heap.size + 1 + 1 ∨ g = w.heap.size + 1) enters_all1 ?_ (Nat.le_trans (over_len a z L) (TreeIs.len h)) fun n => ?_).mono ?_
    · intro k hk
      simp only [World.size_alloc]
      rcases hk with hk | hk | hk
      · have := TreeIs.lt h k hk; omega
      · omega
      · omega
    · refine all1_at (O := O) (h.but (Below.but (bt B2 (ba _ _)) (fun _ => False)) (fun _ _ k => k)) ?_ ?_ (fun g hg => hg)
      · refine (Below.heap_alloc _ _ _ (by simp)).trans ?_
        have := heap_alloc_new ((w.alloc (.cells #[.int .i64 a, .int .i64 z] 24)).alloc (.cells #[.pointer (some ⟨b, 0, none⟩)] 45)) (.cells #[.int .i64 a, .int .i64 z] 24)
        rw [World.size_alloc, World.size_alloc] at this; exact this
      · refine (Below.heap_alloc _ _ _ (by simp)).trans ((Below.heap_alloc _ _ _ (by simp)).trans ?_)
        have := heap_alloc_new (w.alloc (.cells #[.int .i64 a, .int .i64 z] 24)) (.cells #[.pointer (some ⟨b, 0, none⟩)] 45)
        rw [World.size_alloc] at this; exact this
    · rintro e w' ⟨v, rfl, hr, hb⟩
      exact ⟨v, rfl, ownsRow_le hr B2.size, B2.trans (hb.mono B2.size)⟩
  clear h
  go_enter Try.func16, Try.ntmps16
  go_wp2_with (first
    | (go_at_call 21; (with_reducible refine A.mono ?_); rintro e w2 ⟨rfl, hw2⟩; have D := C.out w2 hw2; clear hw2 A)
    | (go_at_call 23; go_loud (refine D.mono ?_; rintro e w3 ⟨v, rfl, hr, hb⟩)))
  go_ret
  exact ⟨v, rfl, hr, hb⟩
end Go.Proofs.Ytmgljgmfipodeaa.Itr
