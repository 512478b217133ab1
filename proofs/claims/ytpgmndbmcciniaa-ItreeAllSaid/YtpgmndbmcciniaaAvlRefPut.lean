/-
  THE DOCUMENT's row, walked: Has, Insert.
-/
import Derived.Test.YtpgmndbmcciniaaAvlRef
namespace Go.Proofs.Ytpgmndbmcciniaa.Av
open Go Go.RowKit
set_option linter.unusedSimpArgs false
set_option linter.unusedVariables false
attribute [local go_sem ↓] Go.wp_at_zero Go.wp_at_succ

/-- what is appended -/
def SrcT (w : World) (vs : Value) (rs : List It) : Prop := (vs = .slice none 0 0 ∧ rs = []) ∨ ∃ g o cap, vs = .slice (some ⟨g, o, none⟩) rs.length cap ∧ g < w.heap.size ∧ ∀ j u, (rs.flatMap It.cells)[j]? = some u → w.cell? ⟨g, o + j, none⟩ = some u
theorem SrcT.below {w w' : World} {vs : Value} {rs : List It} (h : SrcT w vs rs) {S : Nat → Prop} (k : But S w w') (hs : ∀ z, vs.ownBlock = some z → ¬ S z) : SrcT w' vs rs := by
  rcases h with h | ⟨g, o, cap, rfl, hg, h⟩
  · exact .inl h
  · have := k.size
    exact .inr ⟨g, o, cap, rfl, by omega, fun j u hu => (k.cell (p := ⟨g, _, none⟩) hg (hs g rfl)).trans (h j u hu)⟩
theorem src_take {w : World} {B g cap : Nat} {L : List It} (h : RowT w B (.slice (some ⟨g, 0, none⟩) L.length cap) L) (u c : Nat) (hu : u ≤ L.length) : SrcT w (.slice (some ⟨g, 0, none⟩) u c) (L.take u) := by
  refine .inr ⟨g, 0, c, by rw [List.length_take, Nat.min_eq_left hu], (World.ownsRow.lt h g rfl).2, fun j v hv => ?_⟩
  have hk := World.ownsRow.cells h (g := g) rfl j v (by
    have e : L.flatMap It.cells = (L.take u).flatMap It.cells ++ (L.drop u).flatMap It.cells := by rw [← List.flatMap_append, List.take_append_drop]
    rw [e, List.getElem?_append_left (List.getElem?_eq_some_iff.1 hv).1]; exact hv)
  rw [show (⟨g, 0, none⟩ : Addr).add j = ⟨g, 0 + j, none⟩ by unfold Addr.add; split <;> simp_all] at hk
  exact hk
theorem flat3 (L : List It) : (L.flatMap It.cells).length = L.length * 3 := by
  induction L with
  | nil => rfl
  | cons x L ih => rw [List.flatMap_cons, List.length_append, ih]; simp [It.cells]; omega
theorem src_drop {w : World} {B g cap : Nat} {L : List It} (h : RowT w B (.slice (some ⟨g, 0, none⟩) L.length cap) L) (u c n : Nat) (hu : u ≤ L.length) (hn : n = L.length - u) : SrcT w (.slice (some ⟨g, u * 3, none⟩) n c) (L.drop u) := by
  refine .inr ⟨g, u * 3, c, by rw [List.length_drop, hn], (World.ownsRow.lt h g rfl).2, fun j v hv => ?_⟩
  have hk := World.ownsRow.cells h (g := g) rfl (u * 3 + j) v (by
    have e : L.flatMap It.cells = (L.take u).flatMap It.cells ++ (L.drop u).flatMap It.cells := by rw [← List.flatMap_append, List.take_append_drop]
    have hl : ((L.take u).flatMap It.cells).length = u * 3 := by rw [flat3, List.length_take, Nat.min_eq_left hu]
    rw [e, List.getElem?_append_right (by omega), hl, Nat.add_sub_cancel_left]; exact hv)
  rw [show (⟨g, 0, none⟩ : Addr).add (u * 3 + j) = ⟨g, u * 3 + j, none⟩ by unfold Addr.add; split <;> simp_all] at hk
  exact hk
theorem cells_one (rs : List It) : ∀ u ∈ rs.flatMap It.cells, u.oneCell' = true := by
  intro u hu
  obtain ⟨y, _, hy⟩ := List.mem_flatMap.1 hu
  simp only [It.cells, List.mem_cons, List.not_mem_nil, or_false] at hy
  rcases hy with rfl | rfl | rfl <;> rfl
/-- append of a row to a row of the call's own: the run -/
theorem run_items {w : World} (B : Nat) (ao : Option Addr) (cap : Nat) (xs : List It) (vs : Value) (rs : List It) (ty : TypeId) (hown : RowT w B (.slice ao xs.length cap) xs) (hsrc : SrcT w vs rs) (h1 : xs.length + rs.length ≤ 1000001) (hB : B ≤ w.heap.size) :
    ∃ (ao' : Option Addr) (cap' : Nat) (w' : World), (Builtin.append_ #[29, 29] ty #[.slice ao xs.length cap, vs]).run Try.prog w = .ok (.slice ao' (xs.length + rs.length) cap') w' ∧
      RowT w' B (.slice ao' (xs.length + rs.length) cap') (xs ++ rs) ∧ But (fun k => (Value.slice ao xs.length cap).ownBlock = some k) w w' ∧ ((Value.slice ao' (xs.length + rs.length) cap').ownBlock = (Value.slice ao xs.length cap).ownBlock ∨ (Value.slice ao' (xs.length + rs.length) cap').ownBlock = some w.heap.size) := by
  obtain ⟨i0, hi, hz0, hz1, hz2⟩ := info_parts info_item
  rcases hsrc with ⟨rfl, rfl⟩ | ⟨g, o, c, rfl, _, hc⟩
  · have hrun := run_append_owned_none (P := Try.prog) (w := w) B 29 ty 33 i0 3 Try.underlying29 hi (.slice ao xs.length cap) xs.length _ hown
    refine ⟨ao, cap, w, ?_, ?_, But.refl _ _, .inl ?_⟩
    · simpa using hrun
    · simpa using hown
    · rfl
  · obtain ⟨v', w', k1, k2, k3, k4, k5⟩ := run_append_own_at (P := Try.prog) w B 29 ty 33 i0 (.agg #[.int .i64 0, .int .i64 0, .int .i64 0]) 3 24 Try.underlying29 hi hz0 hz1 hz2 rfl (by decide) (.slice ao xs.length cap) xs.length _ hown ⟨g, o, none⟩ rs.length c (rs.flatMap It.cells) (flat3 rs) (fun j u hu => by
      have := hc j u hu
      rw [show (⟨g, o, none⟩ : Addr).add j = ⟨g, o + j, none⟩ by unfold Addr.add; split <;> simp_all]; exact this) (cells_one rs) (by simp only [maxLen]; omega) (by omega) hB
    obtain ⟨ao', cap', rfl, _, _⟩ := row_form k2
    refine ⟨ao', cap', w', k1, ?_, ⟨k3.os, k3.tape, k3.output, k3.size, fun k hk hs => k3.block k hk (fun e => hs e.symm)⟩, k5⟩
    unfold RowT
    rw [List.length_append, List.flatMap_append]; exact k2
theorem app_items {w : World} {ops : Array Oper} {rest : List Oper} {o : Oper} {a : Act} {Q : Exit → Act → World → Prop} (hgd : o.guard = none) (s x : Operand)
    (ho : o.op = .call { callee := .builtin .append, args := #[s, x], argTypes := #[29, 29] }) (B : Nat) (ao : Option Addr) (cap : Nat) (xs : List It) (vs : Value) (rs : List It) (hs : a.eval s = .slice ao xs.length cap) (hx : a.eval x = vs)
    (hown : RowT w B (.slice ao xs.length cap) xs) (hsrc : SrcT w vs rs) (h1 : xs.length + rs.length ≤ 1000001) (hB : B ≤ w.heap.size)
    (h : ∀ (ao' : Option Addr) (cap' : Nat) w', RowT w' B (.slice ao' (xs.length + rs.length) cap') (xs ++ rs) → But (fun k => (Value.slice ao xs.length cap).ownBlock = some k) w w' → ((Value.slice ao' (xs.length + rs.length) cap').ownBlock = (Value.slice ao xs.length cap).ownBlock ∨ (Value.slice ao' (xs.length + rs.length) cap').ownBlock = some w.heap.size) → wpList Try.prog ops Q rest (a.put o.dst (.slice ao' (xs.length + rs.length) cap')) w') : wpList Try.prog ops Q (o :: rest) a w := by
  refine wpList_plain hgd fun K hK => ?_
  obtain ⟨ao', cap', w', hr, h2, h3, h4⟩ := run_items B ao cap xs vs rs o.type hown hsrc h1 hB
  unfold Oper.wp execOp
  simp only [ho, resolve, invoke, builtin, Sem.run_bind, Sem.run_pure, Result.andThen_ok, List.map_toArray, List.map_cons, List.map_nil, hs, hx, hr]
  exact hK _ _ (h ao' cap' w' h2 h3 h4)
/-- at a step of a region that draws its order -/
theorem step_items {w : World} {ops : Array Oper} {o : Oper} {a : Act} {K : Act → World → Prop} {Q : Exit → Act → World → Prop} {E : Prop} (hgd : o.guard = none) (s x : Operand)
    (ho : o.op = .call { callee := .builtin .append, args := #[s, x], argTypes := #[29, 29] }) (B : Nat) (ao : Option Addr) (cap : Nat) (xs : List It) (vs : Value) (rs : List It) (hs : a.eval s = .slice ao xs.length cap) (hx : a.eval x = vs)
    (hown : RowT w B (.slice ao xs.length cap) xs) (hsrc : SrcT w vs rs) (h1 : xs.length + rs.length ≤ 1000001) (hB : B ≤ w.heap.size)
    (h : ∀ (ao' : Option Addr) (cap' : Nat) w', RowT w' B (.slice ao' (xs.length + rs.length) cap') (xs ++ rs) → But (fun k => (Value.slice ao xs.length cap).ownBlock = some k) w w' → ((Value.slice ao' (xs.length + rs.length) cap').ownBlock = (Value.slice ao xs.length cap).ownBlock ∨ (Value.slice ao' (xs.length + rs.length) cap').ownBlock = some w.heap.size) → K (a.put o.dst (.slice ao' (xs.length + rs.length) cap')) w') :
    if Region.wanted o (yielded ops a.tmps) = true then Oper.wp Try.prog o a w K Q else E := by
  have hw : Region.wanted o (yielded ops a.tmps) = true := by simp [Region.wanted, hgd]
  rw [if_pos hw]
  obtain ⟨ao', cap', w', hr, h2, h3, h4⟩ := run_items B ao cap xs vs rs o.type hown hsrc h1 hB
  unfold Oper.wp execOp
  simp only [ho, resolve, invoke, builtin, Sem.run_bind, Sem.run_pure, Result.andThen_ok, List.map_toArray, List.map_cons, List.map_nil, hs, hx, hr]
  exact h ao' cap' w' h2 h3 h4
set_option maxRecDepth 100000 in
theorem rhas_any {w : World} {r : Nat} {most : Int} {v : Value} {L : List It} {x : It} (h : RefIs w r most v L) (hs : Tr.Sorted L) (hl : L.length ≤ 1000000) :
    Calls Try.prog 14 #[.pointer (some ⟨r, 0, none⟩), .agg #[.int .i64 x.f, .int .i64 x.t, .int .i64 x.i]] w fun e w' => e = .returned (.bool (decide (x ∈ L))) ∧ Below w.heap.size w w' := by
  have B0 := ba w (.cells #[.int .i64 x.f, .int .i64 x.t, .int .i64 x.i] 33)
  have A := place_any (x := x) (h.below B0) hs hl
  generalize decide (x ∈ L) = q at A ⊢
  generalize ((Tr.under x L).length : Int) = z at A
  replace B0 := Lib.hid B0
  clear h hs hl
  go_enter Try.func14, Try.ntmps14
  go_wp2_with (go_at_call 29; (with_reducible refine A.mono ?_); rintro e w7 ⟨rfl, b7⟩; have B7 := Lib.hid b7; clear b7 A)
  go_ret
  exact ⟨rfl, bt B0.out B7.out⟩
set_option maxRecDepth 100000 in
set_option maxHeartbeats 1000000 in
theorem rinsert_any {w : World} {r : Nat} {most : Int} {v : Value} {L : List It} {x : It} (h : RefIs w r most v L) (hs : Tr.Sorted L) (hl : L.length ≤ 100000) :
    Calls Try.prog 10 #[.pointer (some ⟨r, 0, none⟩), .agg #[.int .i64 x.f, .int .i64 x.t, .int .i64 x.i]] w fun e w' => ∃ v', e = .returned (.int .i64 (putA most x L).1) ∧ RefIs w' r most v' (putA most x L).2 ∧ But (· = r) w w' ∧ (v' = v ∨ ∀ k, v'.ownBlock = some k → w.heap.size ≤ k) := by
  have B0 := ba w (.cells #[.int .i64 x.f, .int .i64 x.t, .int .i64 x.i] 33)
  have X0 := Lib.hid (itAt_new w x)
  have A := place_any (x := x) (h.below B0) hs (by omega)
  have R0 := Lib.hid (h.below B0)
  have H := Lib.hid h
  replace B0 := Lib.hid B0
  by_cases hg : x.t ≤ x.f
  · have e : putA most x L = (2, L) := by unfold putA; rw [if_pos hg]
    rw [e]
    clear h hs hl A e
    go_enter Try.func10, Try.ntmps10
    go_wp2_with fail
    go_ret
    exact ⟨v, rfl, R0.out, Below.but B0.out _, .inl rfl⟩
  · have hg' : x.f < x.t := by omega
    by_cases hm : x ∈ L
    · have e : putA most x L = (6, L) := by unfold putA; rw [if_neg hg, if_pos hm]
      rw [e]
      rw [decide_eq_true hm] at A
      generalize ((Tr.under x L).length : Int) = z at A
      clear h hs hl e hm
      go_enter Try.func10, Try.ntmps10
      go_wp2_with (go_at_call 29; (with_reducible refine A.mono ?_); rintro e w7 ⟨rfl, b7⟩; have B7 := Lib.hid b7; clear b7 A)
      go_ret
      exact ⟨v, rfl, R0.out.below B7.out, Below.but (bt B0.out B7.out) _, .inl rfl⟩
    · rw [decide_eq_false hm] at A
      obtain ⟨ao, cap, rfl, hc, hgz⟩ := row_form h.row
      have UL : Hid ((Tr.under x L).length ≤ L.length) := under_le x L
      have TU : Hid (L.take (Tr.under x L).length = Tr.under x L ∧ L.drop (Tr.under x L).length = Tr.beyond x L) := take_under x L
      obtain ⟨u, hu⟩ : ∃ u, Hid ((Tr.under x L).length = u) := ⟨_, rfl⟩
      rw [hu.out] at A UL TU
      have HL := Lib.hid hl
      have HC := Lib.hid hc
      by_cases hf : (L.length : Int) = most
      · have e : putA most x L = (7, L) := by unfold putA; rw [if_neg hg, if_neg hm, if_pos hf]
        rw [e]
        have HF := Lib.hid hf
        clear h hs hl e hm hc hgz hf
        go_enter Try.func10, Try.ntmps10
        go_upto_region 6 with (go_at_call 29; (with_reducible refine A.mono ?_); rintro e w7 ⟨rfl, b7⟩; have B7 := Lib.hid b7; clear b7 A)
        have R7 := Lib.hid (R0.out.below B7.out)
        have c0 := R7.out.c0
        have c1 := R7.out.c1
        have hf := HF.out
        go_quiet (fail)
        go_wp2_with fail
        go_ret
        exact ⟨_, rfl, R7.out.below (bdN (Below.refl _ _) nq), Below.but (bdN (bt B0.out B7.out) nq) _, .inl rfl⟩
      · have e : putA most x L = (0, Tr.under x L ++ x :: Tr.beyond x L) := by unfold putA; rw [if_neg hg, if_neg hm, if_neg hf]
        rw [e]
        have HF := Lib.hid hf
        have HM := Lib.hid hm
        clear h hs hl e hm hc hf
        go_enter Try.func10, Try.ntmps10
        go_upto_region 6 with (go_at_call 29; (with_reducible refine A.mono ?_); rintro e w7 ⟨rfl, b7⟩; have B7 := Lib.hid b7; clear b7 A)
        have R7 := R0.out.below B7.out
        have X7 := X0.out.below B7.out
        have c0 := R7.c0
        have c1 := R7.c1
        have hf := HF.out
        go_quiet (fail)
        have R8 : RefIs (w7.drewN nq) r most (.slice ao L.length cap) L := R7.below (bdN (Below.refl _ _) nq)
        have X8 : ItAt (w7.drewN nq) w.heap.size x := X7
        have B8 := Lib.hid (bdN (bt B0.out B7.out) nq)
        clear c0 c1 R7 X7 B7 B0 X0 R0
        obtain ⟨we, hwe⟩ : ∃ z, Hid (z = w7.drewN nq) := ⟨_, rfl⟩
        rw [← hwe.out] at R8 X8 B8 ⊢
        obtain ⟨i3, hi3⟩ : ∃ i, Hid (w.heap.size = i) := ⟨_, rfl⟩
        rw [hi3.out] at X8 ⊢
        clear hwe
        replace R8 := Lib.hid R8
        replace X8 := Lib.hid X8
        have c1 := R8.out.c1
        have u0 : (0 : Int) ≤ (u : Int) := by omega
        have u1 : (u : Int) ≤ (cap : Int) := by have := UL.out; have := HC.out; omega
        have u2 : (u : Int) ≤ ((L.length : Nat) : Int) := by have := UL.out; omega
        go_upto_region 8 with fail
        clear hf
        cases ao with
        | none =>
          obtain ⟨hL0, hc0⟩ : L.length = 0 ∧ cap = 0 := by
            rcases R8.out.row.2 with ⟨q, e⟩ | ⟨g, cap', cur, q, _⟩
            · simp only [Value.slice.injEq, true_and] at q; exact q
            · simp at q
          have hLn : L = [] := List.eq_nil_of_length_eq_zero hL0
          have hu0 : u = 0 := by have := UL.out; omega
          have RZ := Lib.hid R8.out.lt
          have NR : Hid (¬ we.heap.size ≤ r) := by have := RZ.out; show ¬ _ ≤ _; omega
          have R8' : Hid (RefIs we r most (.slice none 0 0) []) := by have := R8.out; rw [hL0, hLn, hc0] at this; exact this
          clear c1 u0 u1 u2 R8 HL HC HF HM UL TU hu hgz H hL0
          subst hLn
          subst hu0
          subst hc0
          have K9 : But (fun _ => False) we (we.alloc (Obj.cells #[] 33)) := (But.refl _ _).alloc _
          have R9 := R8'.out.but K9 (fun z => z) (fun _ _ z => z)
          have c1 := R9.c1
          have RT0 : Hid (RowT (we.alloc (Obj.cells #[] 33)) we.heap.size (.slice (some ⟨we.heap.size, 0, none⟩) ([] : List It).length 0) []) := ⟨rfl, .inr ⟨we.heap.size, 0, #[], rfl, Nat.le_refl _, heap_alloc_new we _, Nat.le_refl _, by simp [maxLen], rfl, rfl⟩⟩
          have HB1 : Hid (we.heap.size ≤ (we.alloc (Obj.cells #[] 33)).heap.size) := by show _ ≤ _; rw [World.size_alloc]; omega
          have i3z : Hid (i3 < we.heap.size) := X8.out.lt
          have L0 : Hid ((([] : List It).length : Int) = 0) := rfl
          go_upto_region 9 with (at_builtin; go_loud (refine app_items rfl _ _ rfl we.heap.size (some ⟨we.heap.size, 0, none⟩) 0 [] (.slice none 0 0) [] rfl rfl RT0.out (.inl ⟨rfl, rfl⟩) (by simp) HB1.out ?_; intro a1 p1 w9 r9 k9 l9; have RT1 := Lib.hid r9; have KK1 : Hid (But (fun k => we.heap.size ≤ k) we w9) := But.trans ((But.refl _ we).alloc _) (k9.mono (fun k hk => by simp only [Value.ownBlock, Option.some.injEq] at hk; omega)); clear r9 k9 l9 c1))
          have X10 := X8.out.but KK1.out (by have := i3z.out; omega)
          have x0 := X10.c0
          have x1 := X10.c1
          have x2 := X10.c2
          have W9 : Hid (we.heap.size ≤ w9.heap.size) := KK1.out.size
          have RA := Lib.hid (owns_but RT1.out ((But.refl (fun _ => False) w9).alloc (Obj.cells #[Value.int .i64 x.f, .int .i64 x.t, .int .i64 x.i] 33)) (fun _ _ z => z))
          have HB2 : Hid (we.heap.size ≤ (w9.alloc (Obj.cells #[Value.int .i64 x.f, .int .i64 x.t, .int .i64 x.i] 33)).heap.size) := by have := W9.out; show _ ≤ _; rw [World.size_alloc]; omega
          go_upto_region 10 with (at_builtin; go_loud (refine app_item rfl _ _ rfl we.heap.size (.slice a1 0 p1) [] x rfl RA.out w9.heap.size rfl (item_cells w9 x) (by simp) HB2.out ?_; intro a2 p2 w10 r10 k10 l10; have RT2 := Lib.hid r10; have KK2 : Hid (But (fun k => we.heap.size ≤ k) we w10) := But.trans KK1.out (But.into ((But.refl (fun k => we.heap.size ≤ k) w9).alloc _) k10 (fun k _ hk => (World.ownsRow.lt RT1.out k hk).1)); clear r10 k10 l10 x0 x1 x2))
          have R11 := R8'.out.but KK2.out (by have := RZ.out; omega) (fun z hz => by simp [Value.ownBlock] at hz)
          have c1 := R11.c1
          have HB3 : Hid (we.heap.size ≤ w10.heap.size) := KK2.out.size
          clear R11
          go_upto_region 11 with (at_builtin; go_loud (refine app_items rfl _ _ rfl we.heap.size a2 p2 [x] (.slice none 0 0) [] rfl rfl RT2.out (.inl ⟨rfl, rfl⟩) (by simp) HB3.out ?_; intro a3 p3 w11 r11 k11 l11; have RT3 := Lib.hid r11; have KK3 : Hid (But (fun k => we.heap.size ≤ k) we w11) := But.into KK2.out k11 (fun k _ hk => (World.ownsRow.lt RT2.out k hk).1); clear r11 k11 l11; replace c1 := (KK3.out.cell (p := ⟨r, 1, none⟩) RZ.out NR.out).trans R8'.out.c1; have f1 := (KK3.out.frozen (p := ⟨r, 1, none⟩) RZ.out NR.out).trans (R8'.out.f 1)))
          have RT3 : Hid (RowT w11 we.heap.size (.slice a3 1 p3) [x]) := RT3.out
          have NE : (Value.slice a3 1 p3).ownBlock ≠ some r := fun z => by have := (World.ownsRow.lt RT3.out r z).1; have := RZ.out; omega
          have R12 : RefIs w11 r most (.slice none 0 0) [] := R8'.out.but KK3.out (by have := RZ.out; omega) (fun z hz => by simp [Value.ownBlock] at hz)
          have RT4 : RowT w11 0 (.slice a3 1 p3) [x] := by
            obtain ⟨h1, h2⟩ := RT3.out
            refine ⟨h1, ?_⟩
            rcases h2 with h2 | ⟨g', cap', cur, h2, _, h3⟩
            · exact .inl h2
            · exact .inr ⟨g', cap', cur, h2, Nat.zero_le _, h3⟩
          have RF := Lib.hid (R12.set RT4 NE)
          have KF := Lib.hid ((But.into (S := fun k => we.heap.size ≤ k) (O := (· = r)) (Below.but B8.out _) KK3.out (fun k hk hs => by have := B8.out.size; omega)).set (p := ⟨r, 1, none⟩) (show _ = r from rfl) (.slice a3 1 p3))
          have OF : Hid (∀ k, (Value.slice a3 1 p3).ownBlock = some k → w.heap.size ≤ k) := fun k hk => by have := (World.ownsRow.lt RT3.out k hk).1; have := B8.out.size; omega
          clear NE R12 RT4
          go_wp2_with fail
          go_ret
          exact ⟨_, rfl, RF.out, KF.out, .inr OF.out⟩
        | some ad =>
          obtain ⟨g, hgg⟩ : ∃ g, ad = ⟨g, 0, none⟩ := by
            rcases R8.out.row.2 with ⟨q, _⟩ | ⟨g, cap', cur, q, _⟩
            · simp at q
            · simp only [Value.slice.injEq, Option.some.injEq] at q; exact ⟨g, q.1⟩
          subst hgg
          clear c1
          obtain ⟨P, hP⟩ : ∃ P, Hid (L.take u = P) := ⟨_, rfl⟩
          have PL : Hid (P.length = u) := by show _ = _; rw [← hP.out, List.length_take]; have := UL.out; omega
          obtain ⟨N, hN⟩ : ∃ N, Hid (L.drop u = N) := ⟨_, rfl⟩
          have NL : Hid (N.length = L.length - u) := by show _ = _; rw [← hN.out, List.length_drop]
          have RZ := Lib.hid R8.out.lt
          have NR : Hid (¬ we.heap.size ≤ r) := by have := RZ.out; show ¬ _ ≤ _; omega
          have GZ := Lib.hid (World.ownsRow.lt R8.out.row g rfl).2
          have K9 : But (fun _ => False) we (we.alloc (Obj.cells #[] 33)) := (But.refl _ _).alloc _
          have R9 := R8.out.but K9 (fun z => z) (fun _ _ z => z)
          have X9 := X8.out.but K9 (fun z => z)
          have c1 := R9.c1
          have RT0 : RowT (we.alloc (Obj.cells #[] 33)) we.heap.size (.slice (some ⟨we.heap.size, 0, none⟩) ([] : List It).length 0) [] := ⟨rfl, .inr ⟨we.heap.size, 0, #[], rfl, Nat.le_refl _, heap_alloc_new we _, Nat.le_refl _, by simp [maxLen], rfl, rfl⟩⟩
          have SC : SrcT (we.alloc (Obj.cells #[] 33)) (.slice (some ⟨g, 0, none⟩) u cap) P := by rw [← hP.out]; exact src_take R9.row u cap UL.out
          replace R9 := Lib.hid R9
          replace X9 := Lib.hid X9
          replace RT0 := Lib.hid RT0
          replace SC := Lib.hid SC
          have HB1 : Hid (we.heap.size ≤ (we.alloc (Obj.cells #[] 33)).heap.size) := by show _ ≤ _; rw [World.size_alloc]; omega
          have Q1 : Hid (([] : List It).length + P.length ≤ 1000001) := by have := PL.out; have := UL.out; have := HL.out; show _ ≤ _; simp; omega
          have i3z : Hid (i3 < we.heap.size) := X8.out.lt
          go_upto_region 9 with (at_builtin; go_loud (refine app_items rfl _ _ rfl we.heap.size (some ⟨we.heap.size, 0, none⟩) 0 [] (.slice (some ⟨g, 0, none⟩) u cap) P rfl rfl RT0.out SC.out Q1.out HB1.out ?_; intro a1 p1 w9 r9 k9 l9; simp only [List.nil_append, List.length_nil, Nat.zero_add] at r9 l9 ⊢; have RT1 := Lib.hid r9; have KK1 : Hid (But (fun k => we.heap.size ≤ k) we w9) := But.trans ((But.refl _ we).alloc _) (k9.mono (fun k hk => by simp only [Value.ownBlock, Option.some.injEq] at hk; omega)); clear r9 k9 l9 c1))
          have R10 := R8.out.but KK1.out (by have := RZ.out; omega) (fun z hz => by simp only [Value.ownBlock, Option.some.injEq] at hz; have := GZ.out; omega)
          have X10 := X8.out.but KK1.out (by have := i3z.out; omega)
          have x0 := X10.c0
          have x1 := X10.c1
          have x2 := X10.c2
          have W9 : Hid (we.heap.size ≤ w9.heap.size) := KK1.out.size
          have RA := Lib.hid (owns_but RT1.out ((But.refl (fun _ => False) w9).alloc (Obj.cells #[Value.int .i64 x.f, .int .i64 x.t, .int .i64 x.i] 33)) (fun _ _ z => z))
          have HB2 : Hid (we.heap.size ≤ (w9.alloc (Obj.cells #[Value.int .i64 x.f, .int .i64 x.t, .int .i64 x.i] 33)).heap.size) := by have := W9.out; show _ ≤ _; rw [World.size_alloc]; omega
          have Q2 : Hid (P.length < 1000001) := by have := PL.out; have := UL.out; have := HL.out; show _ < _; omega
          obtain ⟨P2, hP2⟩ : ∃ P2, Hid (P ++ [x] = P2) := ⟨_, rfl⟩
          have PL2 : Hid (P2.length = P.length + 1) := by show _ = _; rw [← hP2.out]; simp
          go_upto_region 10 with (at_builtin; go_loud (refine app_item rfl _ _ rfl we.heap.size (.slice a1 P.length p1) P x rfl RA.out w9.heap.size rfl (item_cells w9 x) Q2.out HB2.out ?_; intro a2 p2 w10 r10 k10 l10; rw [hP2.out, ← PL2.out] at r10; rw [← PL2.out] at ⊢; have RT2 := Lib.hid r10; have KK2 : Hid (But (fun k => we.heap.size ≤ k) we w10) := But.trans KK1.out (But.into ((But.refl (fun k => we.heap.size ≤ k) w9).alloc _) k10 (fun k _ hk => (World.ownsRow.lt RT1.out k hk).1)); clear r10 k10 l10 x0 x1 x2))
          have R11 := R8.out.but KK2.out (by have := RZ.out; omega) (fun z hz => by simp only [Value.ownBlock, Option.some.injEq] at hz; have := GZ.out; omega)
          have c1 := R11.c1
          have f1 := R11.f 1
          by_cases hcu : cap = u
          · have hLu : L.length = u := by have := UL.out; have := HC.out; omega
            have hNn : N = [] := by have := NL.out; exact List.eq_nil_of_length_eq_zero (by omega)
            have HLu := Lib.hid hLu
            have HN0 := Lib.hid hNn
            clear R11 hLu hNn
            subst hcu
            have SD : SrcT w10 (.slice (some ⟨g, 0, none⟩) (L.length - cap) 0) N := by rw [HN0.out, HLu.out, Nat.sub_self]; exact .inr ⟨g, 0, 0, rfl, by have := GZ.out; have := KK2.out.size; omega, fun j u hu => by simp at hu⟩
            replace SD := Lib.hid SD
            have HB3 : Hid (we.heap.size ≤ w10.heap.size) := KK2.out.size
            have Q3 : Hid (P2.length + N.length ≤ 1000001) := by have := PL.out; have := PL2.out; have := NL.out; have := UL.out; have := HL.out; show _ ≤ _; omega
            go_upto_region 11 with (at_builtin; go_loud (refine app_items rfl _ _ rfl we.heap.size a2 p2 P2 (.slice (some ⟨g, 0, none⟩) (L.length - cap) 0) N rfl rfl RT2.out SD.out Q3.out HB3.out ?_; intro a3 p3 w11 r11 k11 l11; have RT3 := Lib.hid r11; have KK3 : Hid (But (fun k => we.heap.size ≤ k) we w11) := But.into KK2.out k11 (fun k _ hk => (World.ownsRow.lt RT2.out k hk).1); clear r11 k11 l11; replace c1 := (KK3.out.cell (p := ⟨r, 1, none⟩) RZ.out NR.out).trans R8.out.c1; replace f1 := (KK3.out.frozen (p := ⟨r, 1, none⟩) RZ.out NR.out).trans (R8.out.f 1)))
            obtain ⟨n3, hn3⟩ : ∃ n, Hid (P2.length + N.length = n) := ⟨_, rfl⟩
            rw [hn3.out] at RT3 ⊢
            have NE : (Value.slice a3 n3 p3).ownBlock ≠ some r := fun z => by have := (World.ownsRow.lt RT3.out r z).1; have := RZ.out; omega
            have R12 : RefIs w11 r most (.slice (some ⟨g, 0, none⟩) L.length cap) L := R8.out.but KK3.out (by have := RZ.out; omega) (fun z hz => by simp only [Value.ownBlock, Option.some.injEq] at hz; have := GZ.out; omega)
            have E3 : P2 ++ N = Tr.under x L ++ x :: Tr.beyond x L := by rw [← hP2.out, ← hP.out, ← hN.out, TU.out.1, TU.out.2]; simp
            have RT4 : RowT w11 0 (.slice a3 n3 p3) (P2 ++ N) := by
              obtain ⟨h1, h2⟩ := RT3.out
              have hlen : (P2 ++ N).length = n3 := by rw [List.length_append]; exact hn3.out
              refine ⟨h1, ?_⟩
              rcases h2 with h2 | ⟨g', cap', cur, h2, _, h3⟩
              · exact .inl h2
              · exact .inr ⟨g', cap', cur, h2, Nat.zero_le _, h3⟩
            have RF := Lib.hid (R12.set RT4 NE)
            have KF := Lib.hid ((But.into (S := fun k => we.heap.size ≤ k) (O := (· = r)) (Below.but B8.out _) KK3.out (fun k hk hs => by have := B8.out.size; omega)).set (p := ⟨r, 1, none⟩) (show _ = r from rfl) (.slice a3 n3 p3))
            have OF : Hid (∀ k, (Value.slice a3 n3 p3).ownBlock = some k → w.heap.size ≤ k) := fun k hk => by have := (World.ownsRow.lt RT3.out k hk).1; have := B8.out.size; omega
            clear NE R12 RT4
            go_wp2_with fail
            go_ret
            rw [← E3]
            exact ⟨_, rfl, RF.out, KF.out, .inr OF.out⟩
          · have SDr := src_drop R11.row u (cap - u) (L.length - u) UL.out rfl
            have hcu2 : u < cap := by have := UL.out; have := HC.out; omega
            clear R11
            have SD : SrcT w10 (.slice (some ⟨g, u * 3, none⟩) (L.length - u) (cap - u)) N := by rw [← hN.out]; exact SDr
            replace SD := Lib.hid SD
            have HB3 : Hid (we.heap.size ≤ w10.heap.size) := KK2.out.size
            have Q3 : Hid (P2.length + N.length ≤ 1000001) := by have := PL.out; have := PL2.out; have := NL.out; have := UL.out; have := HL.out; show _ ≤ _; omega
            go_upto_region 11 with (at_builtin; go_loud (refine app_items rfl _ _ rfl we.heap.size a2 p2 P2 (.slice (some ⟨g, u * 3, none⟩) (L.length - u) (cap - u)) N rfl rfl RT2.out SD.out Q3.out HB3.out ?_; intro a3 p3 w11 r11 k11 l11; have RT3 := Lib.hid r11; have KK3 : Hid (But (fun k => we.heap.size ≤ k) we w11) := But.into KK2.out k11 (fun k _ hk => (World.ownsRow.lt RT2.out k hk).1); clear r11 k11 l11; replace c1 := (KK3.out.cell (p := ⟨r, 1, none⟩) RZ.out NR.out).trans R8.out.c1; replace f1 := (KK3.out.frozen (p := ⟨r, 1, none⟩) RZ.out NR.out).trans (R8.out.f 1)))
            obtain ⟨n3, hn3⟩ : ∃ n, Hid (P2.length + N.length = n) := ⟨_, rfl⟩
            rw [hn3.out] at RT3 ⊢
            have NE : (Value.slice a3 n3 p3).ownBlock ≠ some r := fun z => by have := (World.ownsRow.lt RT3.out r z).1; have := RZ.out; omega
            have R12 : RefIs w11 r most (.slice (some ⟨g, 0, none⟩) L.length cap) L := R8.out.but KK3.out (by have := RZ.out; omega) (fun z hz => by simp only [Value.ownBlock, Option.some.injEq] at hz; have := GZ.out; omega)
            have E3 : P2 ++ N = Tr.under x L ++ x :: Tr.beyond x L := by rw [← hP2.out, ← hP.out, ← hN.out, TU.out.1, TU.out.2]; simp
            have RT4 : RowT w11 0 (.slice a3 n3 p3) (P2 ++ N) := by
              obtain ⟨h1, h2⟩ := RT3.out
              have hlen : (P2 ++ N).length = n3 := by rw [List.length_append]; exact hn3.out
              refine ⟨h1, ?_⟩
              rcases h2 with h2 | ⟨g', cap', cur, h2, _, h3⟩
              · exact .inl h2
              · exact .inr ⟨g', cap', cur, h2, Nat.zero_le _, h3⟩
            have RF := Lib.hid (R12.set RT4 NE)
            have KF := Lib.hid ((But.into (S := fun k => we.heap.size ≤ k) (O := (· = r)) (Below.but B8.out _) KK3.out (fun k hk hs => by have := B8.out.size; omega)).set (p := ⟨r, 1, none⟩) (show _ = r from rfl) (.slice a3 n3 p3))
            have OF : Hid (∀ k, (Value.slice a3 n3 p3).ownBlock = some k → w.heap.size ≤ k) := fun k hk => by have := (World.ownsRow.lt RT3.out k hk).1; have := B8.out.size; omega
            clear NE R12 RT4
            go_wp2_with fail
            go_ret
            rw [← E3]
            exact ⟨_, rfl, RF.out, KF.out, .inr OF.out⟩
end Go.Proofs.Ytpgmndbmcciniaa.Av
