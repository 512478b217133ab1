/-
  avl: Items, walked.
-/
import Derived.Test.YtpgmndbmcciniaaAvlDelTwo
import Derived.Test.YtpgmndbmcciniaaAvlSeq
namespace Go.Proofs.Ytpgmndbmcciniaa.Av
open Go Go.RowKit
set_option linter.unusedSimpArgs false
set_option linter.unusedVariables false
attribute [local go_sem ↓] Go.wp_at_zero Go.wp_at_succ

def It.cells (x : It) : List Value := [.int .i64 x.f, .int .i64 x.t, .int .i64 x.i]
/-- a row of items -/
def RowT (w : World) (B : Nat) (v : Value) (xs : List It) : Prop := w.ownsRow B 33 3 v xs.length (xs.flatMap It.cells)
def lenV : Value → Nat
  | .slice _ n _ => n
  | _ => 0
/-- the places that wait, in a path's cells -/
structure PathS (cs : Array Value) (ps : List Nat) : Prop where
  size : cs.size = 81
  n : cs[80]? = some (.int .i64 (ps.length : Int))
  at' : ∀ (i p : Nat), ps[i]? = some p → cs[i]? = some (.int .i64 (p : Int))
theorem pathZ_s : PathS pathZ [] := ⟨pathZ_ok.size, pathZ_ok.n, fun i p h => by simp at h⟩
theorem PathS.push {cs : Array Value} {ps : List Nat} (h : PathS cs ps) (hl : ps.length < 40) (p : Nat) : PathS ((cs.setIfInBounds ps.length (.int .i64 (p : Int))).setIfInBounds 80 (.int .i64 ((ps.length : Int) + 1))) (ps ++ [p]) := by
  refine ⟨by simp [h.size], ?_, fun i q hq => ?_⟩
  · rw [Array.getElem?_setIfInBounds]; simp [h.size]
  · have := (List.getElem?_eq_some_iff.1 hq).1
    rw [List.length_append, List.length_singleton] at this
    rw [Array.getElem?_setIfInBounds_ne (by omega)]
    by_cases e : i = ps.length
    · subst e
      simp only [List.getElem?_concat_length, Option.some.injEq] at hq
      subst hq
      rw [Array.getElem?_setIfInBounds]; simp [h.size]; omega
    · rw [List.getElem?_append_left (by omega)] at hq
      rw [Array.getElem?_setIfInBounds_ne (by omega)]
      exact h.at' i q hq
theorem PathS.pop {cs : Array Value} {ps : List Nat} {p : Nat} (h : PathS cs (ps ++ [p])) (hl : ps.length < 40) : PathS (cs.setIfInBounds 80 (.int .i64 (ps.length : Int))) ps ∧ cs[ps.length]? = some (.int .i64 (p : Int)) := by
  refine ⟨⟨by simp [h.size], ?_, fun i q hq => ?_⟩, h.at' _ _ (by simp)⟩
  · rw [Array.getElem?_setIfInBounds]; simp [h.size]
  · have := (List.getElem?_eq_some_iff.1 hq).1
    rw [Array.getElem?_setIfInBounds_ne (by omega)]
    exact h.at' i q (by rw [List.getElem?_append_left this]; exact hq)
theorem info_item : (Try.prog.info? 33).map (fun i => (i.zero, i.size, i.bytes)) = some (some (.agg #[.int .i64 0, .int .i64 0, .int .i64 0]), 3, 24) := by kernel_rfl
/-- append of one item -/
theorem app_item {w : World} {ops : Array Oper} {rest : List Oper} {o : Oper} {a : Act} {Q : Exit → Act → World → Prop} (hgd : o.guard = none) (s x : Operand)
    (ho : o.op = .call { callee := .builtin .append, args := #[s, x], argTypes := #[29, 29] }) (B : Nat) (v : Value) (xs : List It) (y : It) (hs : a.eval s = v) (hown : RowT w B v xs)
    (g : Nat) (hx : a.eval x = .slice (some ⟨g, 0, none⟩) 1 1) (hc : ∀ j u, y.cells[j]? = some u → w.cell? ⟨g, j, none⟩ = some u) (hl : xs.length < 1000001) (hB : B ≤ w.heap.size)
    (h : ∀ (ao : Option Addr) (cap' : Nat) w', RowT w' B (.slice ao (xs.length + 1) cap') (xs ++ [y]) → But (fun k => v.ownBlock = some k) w w' → ((Value.slice ao (xs.length + 1) cap').ownBlock = v.ownBlock ∨ (Value.slice ao (xs.length + 1) cap').ownBlock = some w.heap.size) → wpList Try.prog ops Q rest (a.put o.dst (.slice ao (xs.length + 1) cap')) w') : wpList Try.prog ops Q (o :: rest) a w := by
  obtain ⟨i0, hi, hz0, hz1, hz2⟩ := info_parts info_item
  refine wpList_append_own_at _ hgd s x _ ho B 33 i0 (.agg #[.int .i64 0, .int .i64 0, .int .i64 0]) 3 24 Try.underlying29 hi hz0 hz1 hz2 rfl (by decide) v xs.length _ hs hown ⟨g, 0, none⟩ 1 1 y.cells hx rfl ?_ ?_ ?_ ?_ hB ?_
  · intro j u hu
    have := hc j u hu
    rw [show (⟨g, 0, none⟩ : Addr).add j = ⟨g, j, none⟩ by unfold Addr.add; split <;> simp_all]; exact this
  · intro u hu
    simp only [It.cells, List.mem_cons, List.not_mem_nil, or_false] at hu
    rcases hu with rfl | rfl | rfl <;> rfl
  · simp only [maxLen]; omega
  · omega
  · intro v' w' h1 h2 h3 h4
    obtain ⟨ao, cap', rfl, _, _⟩ := row_form h1
    refine h ao cap' w' ?_ ⟨h2.os, h2.tape, h2.output, h2.size, fun k hk hs => h2.block k hk (fun e => hs e.symm)⟩ h4
    unfold RowT
    rw [List.length_append, List.length_singleton, List.flatMap_append, List.flatMap_singleton]; exact h1
theorem item_cells (w : World) (y : It) : ∀ j u, y.cells[j]? = some u → (w.alloc (Obj.cells #[.int .i64 y.f, .int .i64 y.t, .int .i64 y.i] 33)).cell? ⟨w.heap.size, j, none⟩ = some u := fun j u hu => by
  rw [cell_of_row _ _ _ _ _ (0, 0) (heap_alloc_new w _)]; show ([Value.int .i64 y.f, .int .i64 y.t, .int .i64 y.i] : List Value).toArray[j]? = _; rw [List.getElem?_toArray]; exact hu
set_option maxRecDepth 100000 in
set_option maxHeartbeats 1000000 in
theorem items_tre {w : World} {B b : Nat} {most : Int} {t : Tr} {ns : List Nd} {free : List Nat} {nv fv : Value} (h : Tre w B b most t ns free nv fv) :
    Calls Try.prog 15 #[.pointer (some ⟨b, 0, none⟩)] w fun e w' => ∃ v, e = .returned v ∧ RowT w' (w.heap.size + 1) v t.items ∧ Below w.heap.size w w' := by
  have zz := path_zero
  have B0 := ba w (.cells pathZ 64)
  have P0 : Hid (PAt (w.alloc (.cells pathZ 64)) w.heap.size pathZ) := heap_alloc_new w _
  have h1 := h.but (Below.but B0 (fun _ => False)) (fun _ _ k => k)
  have A := root_at h1.tt (by have := h.m1; omega)
  have H := Lib.hid h
  replace B0 := Lib.hid B0
  clear h h1
  go_enter Try.func15, Try.ntmps15
  go_wp2_with (go_at_call 20; (with_reducible refine A.mono ?_); rintro e w20 ⟨rfl, rfl⟩)
  clear A zz
  obtain ⟨wb, hwb⟩ : ∃ v, Hid (v = w.alloc (Obj.cells pathZ 64)) := ⟨_, rfl⟩
  rw [← hwb.out] at B0 P0 ⊢
  clear hwb
  obtain ⟨i4, hi4⟩ : ∃ i, Hid (w.heap.size = i) := ⟨_, rfl⟩
  rw [hi4.out] at B0 P0 ⊢
  go_loopw [2, 4] (fun out a wr => ∃ (c : Tr) (s : List Wt) (xs : List It) (cs : Array Value) (ao : Option Addr) (cap : Nat), out = .slice ao xs.length cap ∧ a = .int .i64 (place c) ∧ Hid (RowT wr (i4 + 1) (.slice ao xs.length cap) xs) ∧ Hid (Lies ns c ∧ WtLies ns s ∧ Deep 39 s ∧ c.ht + s.length ≤ 39) ∧ Hid (PAt wr i4 cs) ∧ Hid (PathS cs (s.map (·.p)).reverse) ∧ Hid (xs ++ (c.items ++ waiting s) = t.items) ∧ Hid (Below i4 w wr)) (fun out _ _ => t.items.length - lenV out)
  case atStart => exact ⟨t, [], [], pathZ, none, 0, rfl, rfl, World.ownsRow_nil _ _ _ _, ⟨H.out.ls, fun k hk => by simp at hk, trivial, by have := H.out.small.2; simp; omega⟩, P0.out, pathZ_s, by first | trivial | (show _ = _; simp [waiting]), B0.out⟩
  case round =>
    obtain ⟨wo, rfl⟩ : ∃ wo : World, wo = wr := ⟨_, rfl⟩
    clear P0 B0
    obtain ⟨c, s, xs, cs, ao, cap, rfl, rfl, RT, LL, P0, C0, IT, B0⟩ := hrel
    have IB : b < i4 := by have := hi4.out; have := H.out.tt.lt; omega
    have H1 := Lib.hid (H.out.but (S := fun k => ¬ k < i4) (w' := wo) ⟨B0.out.os, B0.out.tape, B0.out.output, B0.out.size, fun k _ hk => B0.out.block k (Decidable.of_not_not hk)⟩ (fun k hk hs => by
      have := hi4.out
      rcases hk with rfl | hk | hk
      · have := H.out.tt.lt; omega
      · have := (World.ownsRow.lt H.out.rn k hk).2; omega
      · have := (World.ownsRow.lt H.out.rf k hk).2; omega))
    have p80 := P0.out.cell 80 C0.out.n
    by_cases hend : c = .nil ∧ s = []
    · obtain ⟨rfl, rfl⟩ := hend
      have e : xs = t.items := by have := IT.out; simpa [Tr.items, waiting] using this
      subst e
      have d : decide ((0 : Int) ≤ place Tr.nil) = false := rfl
      go_wp2_with fail
      go_ret
      exact ⟨_, rfl, by rw [hi4.out]; exact RT.out, by rw [hi4.out]; exact B0.out⟩
    · have TN : t.isNil = false := by
        cases t with
        | nil =>
          exfalso
          have := IT.out
          simp only [Tr.items, List.append_eq_nil_iff] at this
          apply hend
          refine ⟨?_, ?_⟩
          · cases c with
            | nil => rfl
            | nd p y l r => simp [Tr.items] at this
          · cases s with
            | nil => rfl
            | cons k s => simp [waiting] at this
        | nd p y l r => rfl
      obtain ⟨g, gcap, hnv, S1⟩ := H1.out.st TN
      subst hnv
      have S1 := Lib.hid S1
      have XL : Hid (xs.length < t.items.length) := by
        have := IT.out
        show _ < _
        rw [← this, List.length_append]
        have : 0 < (c.items ++ waiting s).length := by
          rcases Classical.not_and_iff_not_or_not.1 hend with k | k
          · cases c with
            | nil => exact absurd rfl k
            | nd p y l r => simp [Tr.items]; omega
          · cases s with
            | nil => exact absurd rfl k
            | cons k' s => simp [waiting]; omega
        omega
      have TS : Hid (t.items.length ≤ 1000000) := by show _ ≤ _; rw [Tr.size_items]; exact H.out.small.1
      cases c with
      | nil =>
        cases s with
        | nil => exact absurd ⟨rfl, rfl⟩ hend
        | cons k s2 =>
          have d1 : decide ((0 : Int) ≤ place Tr.nil) = false := rfl
          have sl : (((k :: s2).map (·.p)).reverse.length : Int) = (s2.length : Int) + 1 := by simp
          rw [sl] at p80
          have d2 : decide ((0 : Int) < (s2.length : Int) + 1) = true := by simp
          have d3 : (0 : Int) < (s2.length : Int) + 1 := by omega
          go_upto_region 4 with fail
          refine wp_loop_rounds 1 ?_
          rw [rounds_succ]
          go_upto_region 8 with fail
          obtain ⟨wi, rfl⟩ : ∃ v : World, v = wo := ⟨_, rfl⟩
          have WL : Hid (WtLies ns (k :: s2)) := LL.out.2.1
          have DP : Hid (Deep 39 (k :: s2)) := LL.out.2.2.1
          have C1 := C0
          have P1 := P0
          have SW := S1
          have RT1 := RT
          have BW := B0
          have IT1 : Hid (xs ++ waiting (k :: s2) = t.items) := by show _ = _; have := IT.out; simpa [Tr.items] using this
          clear p80 sl d1 d2 d3 C0 P0 S1 RT B0 IT LL hend H1
          -- POP: stack K :: S2, world WW, cells CC
          obtain ⟨hwl, _⟩ := WL.out k (by simp)
          obtain ⟨n1, hn1, hx1, hr1⟩ := (WL.out k (by simp)).2
          obtain ⟨n, hn⟩ : ∃ n, Hid (s2.length = n) := ⟨_, rfl⟩
          have hn38 : n ≤ 38 := by have := DP.out.1; have := hn.out; omega
          have e3 : ((k :: s2).map (·.p)).reverse = (s2.map (·.p)).reverse ++ [k.p] := by simp
          rw [e3] at C1
          have pl : ((s2.map (·.p)).reverse).length = n := by rw [List.length_reverse, List.length_map]; exact hn.out
          have n80 := C1.out.n
          rw [List.length_append, pl, List.length_singleton] at n80
          have p80 := P1.out.cell 80 n80
          have f80 := P1.out.f 80
          obtain ⟨C2, hk2⟩ := C1.out.pop (by rw [pl]; omega)
          rw [pl] at C2 hk2
          have pk := P1.out.cell n hk2
          have P2 := Lib.hid (P1.out.set 80 (.int .i64 (n : Int)))
          have C2 := Lib.hid C2
          have m0 : (0 : Int) ≤ (n : Int) := by omega
          have m1 : (n : Int) < 40 := by omega
          have hw3 : wrap64 (n : Int) = (n : Int) := IntWalk.wrap64_in _ (by omega)
          have hw2 : IntKind.i64.wrap ((n : Int) + 1 - 1) = (n : Int) := by rw [Int.add_sub_cancel, IntWalk.i64_left, hw3]
          have k0 : (0 : Int) ≤ (k.p : Int) := by omega
          have k1 : (k.p : Int) < ((ns.length : Nat) : Int) := by have := (List.getElem?_eq_some_iff.1 hn1).1; omega
          have c1 := SW.out.t.c1
          have x0 : wi.cell? ⟨g, k.p * 8, none⟩ = some (.int .i64 k.x.f) := SW.out.cell k.p 0 n1 (.int .i64 k.x.f) hn1 (by omega) (by rw [← hx1]; rfl)
          have x1 := SW.out.cell k.p 1 n1 (.int .i64 k.x.t) hn1 (by omega) (by rw [← hx1]; rfl)
          have x2 := SW.out.cell k.p 2 n1 (.int .i64 k.x.i) hn1 (by omega) (by rw [← hx1]; rfl)
          have bne : b ≠ i4 := by omega
          have gne : g ≠ i4 := by have := hi4.out; have := (World.ownsRow.lt H.out.rn g rfl).2; omega
          have HK := Lib.hid (And.intro hn1 hr1)
          have HWL := Lib.hid hwl
          clear hn1 hx1 hr1 pl hn38 hwl n80
          go_upto_region 10 with fail
          clear p80 f80 pk hw2 hw3 m0 m1
          have KP : But (· = i4) wi (wi.setCell ⟨i4, 80, none⟩ (.int .i64 (n : Int))) := (But.refl (· = i4) wi).set (show _ = i4 from rfl) _
          have S5 := SW.out.but KP bne gne
          have RT5 := owns_but RT1.out KP (fun z hz hs => by have := (World.ownsRow.lt RT1.out z hz).1; omega)
          have B5 := Lib.hid (BW.out.setCell (p := ⟨i4, 80, none⟩) (show i4 ≤ i4 by omega) (.int .i64 (n : Int)))
          have y0 := (KP.cell (p := ⟨g, k.p * 8, none⟩) SW.out.r.lt.1 gne).trans x0
          have y1 := (KP.cell (p := ⟨g, k.p * 8 + 1, none⟩) SW.out.r.lt.1 gne).trans x1
          have y2 := (KP.cell (p := ⟨g, k.p * 8 + 2, none⟩) SW.out.r.lt.1 gne).trans x2
          have d1 := S5.t.c1
          obtain ⟨wj, hwj⟩ : ∃ v, Hid (v = wi.setCell ⟨i4, 80, none⟩ (.int .i64 (n : Int))) := ⟨_, rfl⟩
          rw [← hwj.out] at P2 S5 RT5 B5 y0 y1 y2 d1 ⊢
          obtain ⟨cs2, hcs2⟩ : ∃ v, Hid (cs.setIfInBounds 80 (.int .i64 (n : Int)) = v) := ⟨_, rfl⟩
          rw [hcs2.out] at P2 C2
          clear hwj hcs2 KP x0 x1 x2 c1 bne gne
          have KA := Lib.hid ((But.refl (fun _ => False) wj).alloc (Obj.cells #[Value.int .i64 k.x.f, .int .i64 k.x.t, .int .i64 k.x.i] 33))
          have RA := Lib.hid (owns_but RT5 KA.out (fun _ _ z => z))
          have HB : Hid (i4 + 1 ≤ (wj.alloc (Obj.cells #[Value.int .i64 k.x.f, .int .i64 k.x.t, .int .i64 k.x.i] 33)).heap.size) := by have := P2.out.lt; show _ ≤ _; rw [World.size_alloc]; omega
          have HL1 : Hid (xs.length < 1000001) := by have := XL.out; have := TS.out; show _ < _; omega
          have S5 := Lib.hid S5
          have e4 := HK.out.1
          clear RT5
          go_upto_region 11 with (at_builtin; go_loud (refine app_item rfl _ _ rfl (i4 + 1) (.slice ao xs.length cap) xs k.x rfl RA.out wj.heap.size rfl (item_cells wj k.x) HL1.out HB.out ?_; intro ao' cap' wk r1 b1 l1; have RK := Lib.hid r1; have BK := Lib.hid b1; have LK := Lib.hid l1; clear r1 b1 l1))
          clear y0 y1 y2 d1
          have own4 : ∀ z, (Value.slice ao xs.length cap).ownBlock = some z → i4 + 1 ≤ z := fun z hz => (World.ownsRow.lt RT1.out z hz).1
          have KJ : But (fun z => i4 < z) wj wk := (KA.out.mono (fun _ z => z.elim)).trans (BK.out.mono (fun z hz => by have := own4 z hz; omega))
          have S6 := S5.out.but KJ (by omega) (by have := hi4.out; have := (World.ownsRow.lt H.out.rn g rfl).2; omega)
          have P6 := Lib.hid (P2.out.but KJ (by omega))
          have B6 : Hid (Below i4 w wk) := B5.out.trans ⟨KJ.os, KJ.tape, KJ.output, KJ.size, fun z hz => KJ.block z (by have := P2.out.lt; omega) (by omega)⟩
          have c1 := S6.t.c1
          have r4 := S6.cell k.p 4 n1 (.int .i64 (place k.r)) e4 (by omega) (by rw [← HK.out.2]; rfl)
          have LL6 : Hid (Lies ns k.r ∧ WtLies ns s2 ∧ Deep 39 s2 ∧ k.r.ht + s2.length ≤ 39) := ⟨HWL.out, fun z hz => WL.out z (by simp [hz]), (deep_pop DP.out).1, (deep_pop DP.out).2⟩
          have IT6 : Hid ((xs ++ [k.x]) ++ (k.r.items ++ waiting s2) = t.items) := by
            show _ = _
            rw [← IT1.out]; simp [waiting]
          have C6 : Hid (PathS cs2 (s2.map (·.p)).reverse) := C2.out
          have LN : Hid ((xs ++ [k.x]).length = xs.length + 1) := by show _ = _; simp
          clear e4 own4 S6
          go_wp2_with fail
          go_roundw
          case rel => exact ⟨k.r, s2, xs ++ [k.x], cs2, ao', cap', by rw [LN.out], rfl, by show RowT _ _ _ _; rw [LN.out]; exact RK.out, LL6.out, P6.out, C6.out, IT6.out, B6.out⟩
          case measure =>
            have := XL.out
            show _ - (xs.length + 1) < _ - xs.length
            omega
      | nd p y l r =>
        have d1 : decide ((0 : Int) ≤ place (Tr.nd p y l r)) = true := by simp [place]
        go_upto_region 4 with fail
        go_loopw [4] (fun a wi => ∃ (c : Tr) (s : List Wt) (cs : Array Value), a = .int .i64 (place c) ∧ Hid (Lies ns c ∧ WtLies ns s ∧ Deep 39 s) ∧ c.ht + s.length ≤ 39 ∧ Hid (PAt wi i4 cs) ∧ Hid (PathS cs (s.map (·.p)).reverse) ∧ Hid (xs ++ (c.items ++ waiting s) = t.items) ∧ Hid (c ≠ .nil ∨ s ≠ []) ∧ Hid (Below i4 w wi) ∧ Hid (RowT wi (i4 + 1) (.slice ao xs.length cap) xs) ∧ Hid (St wi B b g gcap most (place t) (t.size : Int) fv ns)) (fun a _ => (hOf ns (intOf a)).toNat)
        case atStart => exact ⟨.nd p y l r, s, cs, rfl, ⟨LL.out.1, LL.out.2.1, LL.out.2.2.1⟩, LL.out.2.2.2, P0.out, C0.out, IT.out, by first | trivial | exact .inl (by simp), B0.out, RT.out, S1.out⟩
        case round =>
          rename_i wr
          obtain ⟨wi, rfl⟩ : ∃ v : World, v = wr := ⟨_, rfl⟩
          clear p80 d1 C0 P0 S1 RT B0 IT LL hend H1
          obtain ⟨c, s, cs, rfl, LL, hd, P0, C0, IT, NE, B0, RT, S1⟩ := hrel
          cases c with
          | nil =>
            cases s with
            | nil => exact absurd NE.out (by simp)
            | cons k s2 =>
              have d1 : decide ((0 : Int) ≤ place Tr.nil) = false := rfl
              go_upto_region 8 with fail
              have WL : Hid (WtLies ns (k :: s2)) := LL.out.2.1
              have DP : Hid (Deep 39 (k :: s2)) := LL.out.2.2
              have C1 := C0
              have P1 := P0
              have SW := S1
              have RT1 := RT
              have BW := B0
              have IT1 : Hid (xs ++ waiting (k :: s2) = t.items) := by show _ = _; have := IT.out; simpa [Tr.items] using this
              clear d1 C0 P0 S1 RT B0 IT LL hd NE
              -- POP: stack K :: S2, world WW, cells CC
              obtain ⟨hwl, _⟩ := WL.out k (by simp)
              obtain ⟨n1, hn1, hx1, hr1⟩ := (WL.out k (by simp)).2
              obtain ⟨n, hn⟩ : ∃ n, Hid (s2.length = n) := ⟨_, rfl⟩
              have hn38 : n ≤ 38 := by have := DP.out.1; have := hn.out; omega
              have e3 : ((k :: s2).map (·.p)).reverse = (s2.map (·.p)).reverse ++ [k.p] := by simp
              rw [e3] at C1
              have pl : ((s2.map (·.p)).reverse).length = n := by rw [List.length_reverse, List.length_map]; exact hn.out
              have n80 := C1.out.n
              rw [List.length_append, pl, List.length_singleton] at n80
              have p80 := P1.out.cell 80 n80
              have f80 := P1.out.f 80
              obtain ⟨C2, hk2⟩ := C1.out.pop (by rw [pl]; omega)
              rw [pl] at C2 hk2
              have pk := P1.out.cell n hk2
              have P2 := Lib.hid (P1.out.set 80 (.int .i64 (n : Int)))
              have C2 := Lib.hid C2
              have m0 : (0 : Int) ≤ (n : Int) := by omega
              have m1 : (n : Int) < 40 := by omega
              have hw3 : wrap64 (n : Int) = (n : Int) := IntWalk.wrap64_in _ (by omega)
              have hw2 : IntKind.i64.wrap ((n : Int) + 1 - 1) = (n : Int) := by rw [Int.add_sub_cancel, IntWalk.i64_left, hw3]
              have k0 : (0 : Int) ≤ (k.p : Int) := by omega
              have k1 : (k.p : Int) < ((ns.length : Nat) : Int) := by have := (List.getElem?_eq_some_iff.1 hn1).1; omega
              have c1 := SW.out.t.c1
              have x0 : wi.cell? ⟨g, k.p * 8, none⟩ = some (.int .i64 k.x.f) := SW.out.cell k.p 0 n1 (.int .i64 k.x.f) hn1 (by omega) (by rw [← hx1]; rfl)
              have x1 := SW.out.cell k.p 1 n1 (.int .i64 k.x.t) hn1 (by omega) (by rw [← hx1]; rfl)
              have x2 := SW.out.cell k.p 2 n1 (.int .i64 k.x.i) hn1 (by omega) (by rw [← hx1]; rfl)
              have bne : b ≠ i4 := by omega
              have gne : g ≠ i4 := by have := hi4.out; have := (World.ownsRow.lt H.out.rn g rfl).2; omega
              have HK := Lib.hid (And.intro hn1 hr1)
              have HWL := Lib.hid hwl
              clear hn1 hx1 hr1 pl hn38 hwl n80
              go_upto_region 10 with fail
              clear p80 f80 pk hw2 hw3 m0 m1
              have KP : But (· = i4) wi (wi.setCell ⟨i4, 80, none⟩ (.int .i64 (n : Int))) := (But.refl (· = i4) wi).set (show _ = i4 from rfl) _
              have S5 := SW.out.but KP bne gne
              have RT5 := owns_but RT1.out KP (fun z hz hs => by have := (World.ownsRow.lt RT1.out z hz).1; omega)
              have B5 := Lib.hid (BW.out.setCell (p := ⟨i4, 80, none⟩) (show i4 ≤ i4 by omega) (.int .i64 (n : Int)))
              have y0 := (KP.cell (p := ⟨g, k.p * 8, none⟩) SW.out.r.lt.1 gne).trans x0
              have y1 := (KP.cell (p := ⟨g, k.p * 8 + 1, none⟩) SW.out.r.lt.1 gne).trans x1
              have y2 := (KP.cell (p := ⟨g, k.p * 8 + 2, none⟩) SW.out.r.lt.1 gne).trans x2
              have d1 := S5.t.c1
              obtain ⟨wj, hwj⟩ : ∃ v, Hid (v = wi.setCell ⟨i4, 80, none⟩ (.int .i64 (n : Int))) := ⟨_, rfl⟩
              rw [← hwj.out] at P2 S5 RT5 B5 y0 y1 y2 d1 ⊢
              obtain ⟨cs2, hcs2⟩ : ∃ v, Hid (cs.setIfInBounds 80 (.int .i64 (n : Int)) = v) := ⟨_, rfl⟩
              rw [hcs2.out] at P2 C2
              clear hwj hcs2 KP x0 x1 x2 c1 bne gne
              have KA := Lib.hid ((But.refl (fun _ => False) wj).alloc (Obj.cells #[Value.int .i64 k.x.f, .int .i64 k.x.t, .int .i64 k.x.i] 33))
              have RA := Lib.hid (owns_but RT5 KA.out (fun _ _ z => z))
              have HB : Hid (i4 + 1 ≤ (wj.alloc (Obj.cells #[Value.int .i64 k.x.f, .int .i64 k.x.t, .int .i64 k.x.i] 33)).heap.size) := by have := P2.out.lt; show _ ≤ _; rw [World.size_alloc]; omega
              have HL1 : Hid (xs.length < 1000001) := by have := XL.out; have := TS.out; show _ < _; omega
              have S5 := Lib.hid S5
              have e4 := HK.out.1
              clear RT5
              go_upto_region 11 with (at_builtin; go_loud (refine app_item rfl _ _ rfl (i4 + 1) (.slice ao xs.length cap) xs k.x rfl RA.out wj.heap.size rfl (item_cells wj k.x) HL1.out HB.out ?_; intro ao' cap' wk r1 b1 l1; have RK := Lib.hid r1; have BK := Lib.hid b1; have LK := Lib.hid l1; clear r1 b1 l1))
              clear y0 y1 y2 d1
              have own4 : ∀ z, (Value.slice ao xs.length cap).ownBlock = some z → i4 + 1 ≤ z := fun z hz => (World.ownsRow.lt RT1.out z hz).1
              have KJ : But (fun z => i4 < z) wj wk := (KA.out.mono (fun _ z => z.elim)).trans (BK.out.mono (fun z hz => by have := own4 z hz; omega))
              have S6 := S5.out.but KJ (by omega) (by have := hi4.out; have := (World.ownsRow.lt H.out.rn g rfl).2; omega)
              have P6 := Lib.hid (P2.out.but KJ (by omega))
              have B6 : Hid (Below i4 w wk) := B5.out.trans ⟨KJ.os, KJ.tape, KJ.output, KJ.size, fun z hz => KJ.block z (by have := P2.out.lt; omega) (by omega)⟩
              have c1 := S6.t.c1
              have r4 := S6.cell k.p 4 n1 (.int .i64 (place k.r)) e4 (by omega) (by rw [← HK.out.2]; rfl)
              have LL6 : Hid (Lies ns k.r ∧ WtLies ns s2 ∧ Deep 39 s2 ∧ k.r.ht + s2.length ≤ 39) := ⟨HWL.out, fun z hz => WL.out z (by simp [hz]), (deep_pop DP.out).1, (deep_pop DP.out).2⟩
              have IT6 : Hid ((xs ++ [k.x]) ++ (k.r.items ++ waiting s2) = t.items) := by
                show _ = _
                rw [← IT1.out]; simp [waiting]
              have C6 : Hid (PathS cs2 (s2.map (·.p)).reverse) := C2.out
              have LN : Hid ((xs ++ [k.x]).length = xs.length + 1) := by show _ = _; simp
              clear e4 own4 S6
              go_wp2_with fail
              go_roundw
              case rel => exact ⟨k.r, s2, xs ++ [k.x], cs2, ao', cap', by rw [LN.out], rfl, by show RowT _ _ _ _; rw [LN.out]; exact RK.out, LL6.out, P6.out, C6.out, IT6.out, B6.out⟩
              case measure =>
                have := XL.out
                show _ - (xs.length + 1) < _ - xs.length
                omega
          | nd a ya sl sr =>
            have HD := Lib.hid hd
            obtain ⟨n, hn⟩ : ∃ n, Hid (s.length = n) := ⟨_, rfl⟩
            have hnl : n ≤ 38 := by have := hn.out; simp only [Tr.ht] at hd; omega
            have hal : a < ns.length := lies_lt ns _ LL.out.1 a (by simp [Tr.places])
            obtain ⟨e1, L1, _⟩ := LL.out.1
            replace L1 := Lib.hid L1
            rw [show place (Tr.nd a ya sl sr) = (a : Int) from rfl]
            have c1 := S1.out.t.c1
            have q3 := S1.out.cell a 3 _ (.int .i64 (place sl)) e1 (by omega) rfl
            have a0 : (0 : Int) ≤ (a : Int) := by omega
            have a1 : (a : Int) < ((ns.length : Nat) : Int) := by omega
            have n0 : (0 : Int) ≤ (n : Int) := by omega
            have n2 : (n : Int) < 40 := by omega
            have hw : IntKind.i64.wrap ((n : Int) + 1) = (n : Int) + 1 := by rw [IntKind.wrap_i64]; omega
            have pl : ((s.map (·.p)).reverse).length = n := by rw [List.length_reverse, List.length_map]; exact hn.out
            have n80 := C0.out.n
            rw [pl] at n80
            have p80 := P0.out.cell 80 n80
            have f80 := P0.out.f 80
            have fn := P0.out.f n
            obtain ⟨vn, hvn⟩ : ∃ v, cs[n]? = some v := ⟨_, Array.getElem?_eq_getElem (by rw [C0.out.size]; omega)⟩
            have pn := P0.out.cell n hvn
            have P5 := Lib.hid ((P0.out.set n (.int .i64 (a : Int))).set 80 (.int .i64 ((n : Int) + 1)))
            have C5 : Hid (PathS ((cs.setIfInBounds n (.int .i64 (a : Int))).setIfInBounds 80 (.int .i64 ((n : Int) + 1))) ((⟨a, ya, sr⟩ :: s : List Wt).map (·.p)).reverse) := by
              have k1 := C0.out.push (by rw [pl]; omega) a
              rw [pl] at k1
              show PathS _ _
              rw [List.map_cons, List.reverse_cons]; exact k1
            have K5 : But (· = i4) wi ((wi.setCell ⟨i4, n, none⟩ (.int .i64 (a : Int))).setCell ⟨i4, 80, none⟩ (.int .i64 ((n : Int) + 1))) := ((But.refl (· = i4) wi).set (show _ = i4 from rfl) _).set (show _ = i4 from rfl) _
            have gne : g ≠ i4 := by have := hi4.out; have := (World.ownsRow.lt H.out.rn g rfl).2; omega
            have bne : b ≠ i4 := by omega
            have S5 := Lib.hid (S1.out.but K5 bne gne)
            have RT5 := Lib.hid (owns_but RT.out K5 (fun z hz hs => by have := (World.ownsRow.lt RT.out z hz).1; omega))
            have B5 := Lib.hid ((B0.out.setCell (p := ⟨i4, n, none⟩) (show i4 ≤ i4 by omega) (.int .i64 (a : Int))).setCell (p := ⟨i4, 80, none⟩) (show i4 ≤ i4 by omega) (.int .i64 ((n : Int) + 1)))
            have MS : Hid ((hOf ns (place sl)).toNat < (hOf ns (place (Tr.nd a ya sl sr))).toNat) := by
              show _ < _
              rw [hOf_lies L1.out, hOf_lies LL.out.1]; simp only [Tr.ht]; omega
            have PU := Lib.hid (deep_push LL.out.2.2 HD.out)
            have WP := Lib.hid (wt_push LL.out.2.1 LL.out.1)
            have IT5 : Hid (xs ++ (sl.items ++ waiting (⟨a, ya, sr⟩ :: s)) = t.items) := by show _ = _; rw [← IT.out, rem_push s a ya sl sr]
            clear hvn pl n80 e1 hal hd hnl K5
            go_wp2_with fail
            go_roundw
            case rel => exact ⟨sl, ⟨a, ya, sr⟩ :: s, _, rfl, ⟨L1.out, WP.out, PU.out.1⟩, by have := PU.out.2.1; simp only [List.length_cons]; omega, P5.out, C5.out, IT5.out, by first | trivial | exact .inr (by simp), B5.out, RT5.out, S5.out⟩
            case measure => exact MS.out
end Go.Proofs.Ytpgmndbmcciniaa.Av
