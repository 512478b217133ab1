/-
  avl: Insert where no place is free, walked.
-/
import Derived.Test.YtmgljgmfipodeaaM18
/-
  avl: Insert where no place is free, walked.
-/
namespace Go.Proofs.Ytmgljgmfipodeaa.Av
open Go Go.RowKit
set_option linter.unusedSimpArgs false
set_option linter.unusedVariables false
attribute [local go_sem ↓] Go.wp_at_zero Go.wp_at_succ

set_option maxRecDepth 100000 in
set_option maxHeartbeats 2000000 in
theorem insert_new {w : World} {B b : Nat} {most : Int} {t : Tr} {ns : List Nd} {nv fv : Value} {x : It} (h : Tre w B b most t ns [] nv fv) (hx : x.f < x.t) (hm : x ∉ t.items) (hs : (t.size : Int) < most) :
    Calls Try.prog 25 #[.pointer (some ⟨b, 0, none⟩), .agg #[.int .i64 x.f, .int .i64 x.t, .int .i64 x.i]] w fun e w' => e = .returned (.int .i64 0) ∧ Turned w w' B b most (own b nv fv) (Tr.under x t.items ++ x :: Tr.beyond x t.items) := by
  have B0 := ba w (.cells #[.int .i64 x.f, .int .i64 x.t, .int .i64 x.i] 54)
  have X0 := itAt_new w x
  have h1 := h.but (Below.but B0 (fun _ => False)) (fun _ _ k => k)
  have A := none_at h1.tt
  rw [show decide (most = 0) = false by have := h.m1; simp; omega] at A
  have D := down_tre (x := x) h1
  rw [mem_way h.ok, decide_eq_false hm] at D
  have zz := path_zero
  have H := Lib.hid h
  have H1 := Lib.hid h1
  have B1 := Lib.hid B0
  replace X0 := Lib.hid X0
  have hg : ¬ x.t ≤ x.f := by omega
  have HW : Hid ((Tr.way x t []).2 = .nil) := by
    have := mem_way (x := x) h.ok
    rw [decide_eq_false hm] at this
    show _ = _
    generalize (Tr.way x t []).2 = s at this
    cases s with
    | nil => rfl
    | nd p y l r => simp [Tr.isNil] at this
  have HS := Lib.hid hs
  clear h h1 B0 hm hs
  go_enter Try.func25, Try.ntmps25
  go_upto_region 8 with (first
    | (go_at_call 31; (with_reducible refine A.mono ?_); rintro e w20 ⟨rfl, rfl⟩)
    | (go_at_call 33; (with_reducible refine D.mono ?_); rintro e w21 ⟨cs, rfl, pc, b1⟩; have B2 := Lib.hid b1; have PC := Lib.hid pc; clear b1 pc)
    | (refine wpList_plain rfl fun _ hK => wp_store_row 82 _ _ rfl w21.heap.size cs rfl rfl 82 pathZ (heap_alloc_new w21 _) (by rw [PC.out.pc.size]; exact path_size) (by rw [PC.out.pc.size]; exact pathZ_ok.size) PC.out.pc.one (hK _ _ ?_); rw [World.setRow_alloc_new]))
  have h2 := H1.out.but (Below.but (bt B2.out (ba _ (.cells cs 82))) (fun _ => False)) (fun _ _ k => k)
  have P2 : PAt (w21.alloc (Obj.cells cs 82)) w21.heap.size cs := heap_alloc_new w21 _
  have X2 := (X0.out.below B2.out).below (ba _ (.cells cs 82))
  have B3 := Lib.hid (bt B1.out (bt B2.out (ba _ (.cells cs 82))))
  have s5 : Hid (w.heap.size < w21.heap.size) := by have := B2.out.size; rw [World.size_alloc] at this; show _ < _; omega
  clear H1 A D X0 zz
  obtain ⟨wd, hwd⟩ : ∃ v, Hid (v = w21.alloc (Obj.cells cs 82)) := ⟨_, rfl⟩
  rw [← hwd.out] at h2 P2 X2 B3 ⊢
  obtain ⟨i5, hi5⟩ : ∃ i, Hid (w21.heap.size = i) := ⟨_, rfl⟩
  rw [hi5.out] at P2 s5 ⊢
  obtain ⟨i3, hi3⟩ : ∃ i, Hid (w.heap.size = i) := ⟨_, rfl⟩
  rw [hi3.out] at X2 s5 ⊢
  have H2 := Lib.hid h2
  have c0 := h2.tt.c0
  have c4 := h2.tt.c4
  have hne : ¬ ((t.size : Int) = most) := by have := HS.out; omega
  replace P2 := Lib.hid P2
  replace X2 := Lib.hid X2
  clear hwd hi5 B1 B2 h2
  go_quiet (fail)
  clear c0 c4 hg
  have H3 := Lib.hid (H2.out.but (w' := wd.drewN nq) (Below.but (bdN (Below.refl _ _) nq) (fun _ => False)) (fun _ _ k => k))
  have P3 : Hid (PAt (wd.drewN nq) i5 cs) := P2.out
  have X3 : Hid (ItAt (wd.drewN nq) i3 x) := X2.out
  have B4 := Lib.hid (bdN B3.out nq)
  obtain ⟨we, hwe⟩ : ∃ v, Hid (v = wd.drewN nq) := ⟨_, rfl⟩
  rw [← hwe.out] at H3 P3 X3 B4 ⊢
  clear hwe H2 P2 X2 B3
  obtain ⟨an, cap, rfl, _, hgn⟩ := row_form H3.out.rn
  obtain ⟨af, capf, rfl, hcf, hgf⟩ := row_form H3.out.rf
  have c1 := H3.out.tt.c1
  have c2 := H3.out.tt.c2
  have hsm := H3.out.sz
  have hsl := H3.out.le
  have hsk := H3.out.m2
  have HNL : Hid (ns.length < 1000000) := by have := HS.out; simp at hsm; show _ < _; omega
  clear hsm hsl hsk
  go_upto_region 14 with fail
  clear hne c2
  obtain ⟨ms, hms⟩ : ∃ ms, Hid (ns ++ [zeroNd] = ms) := ⟨_, rfl⟩
  have KA := Lib.hid ((But.refl (fun _ => False) we).alloc (Obj.cells zeroNd.cells.toArray 86))
  have R0 := Lib.hid (owns_but H3.out.rn KA.out (fun _ _ k => k))
  have T0 := (TAt.lt H3.out.tt)
  have hB : B ≤ (we.alloc (Obj.cells zeroNd.cells.toArray 86)).heap.size := by rw [World.size_alloc]; have := H3.out.bB; omega
  replace hB := Lib.hid hB
  have T1 : Hid (b < (we.alloc (Obj.cells zeroNd.cells.toArray 86)).heap.size) := by show _ < _; rw [World.size_alloc]; omega
  replace T0 := Lib.hid T0
  go_upto_region 15 with (at_builtin; go_loud (refine app_node rfl _ _ rfl B (.slice an ns.length cap) ns rfl R0.out we.heap.size rfl (zero_cells we) HNL.out hB.out ?_; intro g cap' w1 r1 k1 l1; rw [hms.out] at r1 ⊢; have R1 := Lib.hid r1; have K1 := Lib.hid k1; have L1 := Lib.hid l1; clear r1 k1 l1; replace c1 := ((KA.out.cell (p := ⟨b, 1, none⟩) T0.out (fun h => h)).trans c1); replace c1 := (K1.out.cell (p := ⟨b, 1, none⟩) T1.out H3.out.bn).trans c1; have f1 := ((K1.out.frozen (p := ⟨b, 1, none⟩) T1.out H3.out.bn).trans ((KA.out.frozen (p := ⟨b, 1, none⟩) T0.out (fun h => h)).trans (H3.out.tt.f 1)))))
  clear c1 hcf hgf hgn
  have h := H3.out
  have gb : g ≠ b := by
    rcases L1.out with z | z
    · exact fun e => h.bn (by rw [z, e])
    · have := T0.out; rw [World.size_alloc] at z; omega
  have gf : (Value.slice af 0 capf).ownBlock ≠ some g := by
    rcases L1.out with z | z
    · exact h.nf g z
    · intro e
      have := (World.ownsRow.lt h.rf g e).2
      rw [World.size_alloc] at z; omega
  have K2 : But (fun k => k = b ∨ (Value.slice an ns.length cap).ownBlock = some k) we (w1.setCell ⟨b, 1, none⟩ (.slice (some ⟨g, 0, none⟩) ms.length cap')) :=
    ((KA.out.mono (fun _ z => z.elim)).trans (K1.out.mono (fun _ z => .inr z))).set (p := ⟨b, 1, none⟩) (.inl rfl) _
  have KS : But (· = b) w1 (w1.setCell ⟨b, 1, none⟩ (.slice (some ⟨g, 0, none⟩) ms.length cap')) := (But.refl (· = b) w1).set (show _ = b from rfl) _
  have ml : ms.length = ns.length + 1 := by rw [← hms.out]; simp
  have M : Mid w (w1.setCell ⟨b, 1, none⟩ (.slice (some ⟨g, 0, none⟩) ms.length cap')) B b most t (own b (.slice an ns.length cap) (.slice af 0 capf)) i3 i5 x cs ns.length g cap' (.slice af 0 capf) ms [] := by
    have e3 := hi3.out
    have s5' := s5.out
    have n3 : (Value.slice an ns.length cap).ownBlock ≠ some i3 := fun e => by have := (World.ownsRow.lt H.out.rn i3 e).2; omega
    have n5 : (Value.slice an ns.length cap).ownBlock ≠ some i5 := fun e => by have := (World.ownsRow.lt H.out.rn i5 e).2; omega
    have hb0 := H.out.tt.lt
    have g3 : i3 ≠ g := by
      rcases L1.out with z | z
      · exact fun e => n3 (by rw [z, e])
      · have := X3.out.lt; rw [World.size_alloc] at z; omega
    have g5 : i5 ≠ g := by
      rcases L1.out with z | z
      · exact fun e => n5 (by rw [z, e])
      · have := P3.out.lt; rw [World.size_alloc] at z; omega
    have t1 : TAt w1 b most (.slice an ns.length cap) (.slice af 0 capf) (place t) (t.size : Int) := by
      have := h.tt
      unfold TAt at this ⊢
      exact (K1.out.block b T1.out h.bn).trans ((KA.out.block b T0.out (fun z => z)).trans this)
    refine { st := ⟨(TAt_set t1).1 _, owns_but R1.out KS (fun k hk => by simp only [Value.ownBlock, Option.some.injEq] at hk; omega), fun z => gb z.symm⟩, rf := owns_but h.rf K2 (fun k hk hs => ?_), bf := h.bf, gf := gf, pa := P3.out.but K2 ?_, xa := X3.out.but K2 ?_, bt := ?_, pl := by omega, pt := fun z => ?_, ls := by rw [← hms.out]; exact lies_append _ _ _ h.ls, ft := by rw [← hms.out]; exact h.ft.app, sz := ?_, le := ?_, ap := ?_, fl := fun q hq => by simp at hq, og := ?_, n5 := by omega }
    · rcases hs with rfl | hs
      · exact h.bf hk
      · exact h.nf k hs hk
    · rintro (z | z)
      · omega
      · exact n5 z
    · rintro (z | z)
      · omega
      · exact n3 z
    · refine But.into (Below.but B4.out _) K2 (fun k hk hs => ?_)
      rcases hs with rfl | hs
      · exact .inl rfl
      · exact .inr (.inl hs)
    · have := lies_lt ns _ h.ls _ z; omega
    · have := h.sz; simp only [List.length_nil] at this ⊢; omega
    · have := h.sz; have := HS.out; simp only [List.length_nil] at *; omega
    · simp only [List.cons_append, List.nil_append, List.nodup_cons]
      exact ⟨fun z => by have := lies_lt ns _ h.ls _ z; omega, h.ok.apart⟩
    · rintro k (rfl | hk)
      · rcases L1.out with z | z
        · exact .inl (.inr (.inl z))
        · right; rw [World.size_alloc] at z; have := B4.out.size; omega
      · exact .inl (.inr (.inr hk))
  obtain ⟨wf, hwf⟩ : ∃ v, Hid (v = w1.setCell ⟨b, 1, none⟩ (.slice (some ⟨g, 0, none⟩) ms.length cap')) := ⟨_, rfl⟩
  rw [← hwf.out] at M ⊢
  obtain ⟨O, hO⟩ : ∃ O, Hid (own b (.slice an ns.length cap) (.slice af 0 capf) = O) := ⟨_, rfl⟩
  rw [hO.out] at M
  obtain ⟨p, hp⟩ : ∃ p, Hid (ns.length = p) := ⟨_, rfl⟩
  rw [hp.out] at M ⊢
  obtain ⟨cap, hcap⟩ : ∃ c, Hid (cap' = c) := ⟨_, rfl⟩
  rw [hcap.out] at M
  clear hwf K2 KS gb gf ml h H3 P3 X3 B4 s5 hp hcap
--REST
  have HM := Lib.hid M
  obtain ⟨nd, hn⟩ : ∃ nd, ms[p]? = some nd := ⟨_, List.getElem?_eq_getElem M.pl⟩
  have c1 := M.st.t.c1
  have p0 : (0 : Int) ≤ (p : Int) := by omega
  have p1 : (p : Int) < ((ms.length : Nat) : Int) := by have := M.pl; omega
  have x0 := M.xa.c0
  have x1 := M.xa.c1
  have x2 := M.xa.c2
  have q0 : wf.cell? ⟨g, p * 8, none⟩ = some (.int .i64 nd.x.f) := M.st.cell p 0 nd (.int .i64 nd.x.f) hn (by omega) rfl
  have q1 := M.st.cell p 1 nd (.int .i64 nd.x.t) hn (by omega) rfl
  have q2 := M.st.cell p 2 nd (.int .i64 nd.x.i) hn (by omega) rfl
  have q3 := M.st.cell p 3 nd (.int .i64 nd.l) hn (by omega) rfl
  have q4 := M.st.cell p 4 nd (.int .i64 nd.r) hn (by omega) rfl
  have q5 := M.st.cell p 5 nd (.int .i64 nd.h) hn (by omega) rfl
  have q6 := M.st.cell p 6 nd (.int .i64 nd.top) hn (by omega) rfl
  have q7 := M.st.cell p 7 nd (.bool nd.used) hn (by omega) rfl
  have f0 := M.st.r.frozen (p * 8)
  have f1 := M.st.r.frozen (p * 8 + 1)
  have f2 := M.st.r.frozen (p * 8 + 2)
  have f3 := M.st.r.frozen (p * 8 + 3)
  have f4 := M.st.r.frozen (p * 8 + 4)
  have f5 := M.st.r.frozen (p * 8 + 5)
  have f6 := M.st.r.frozen (p * 8 + 6)
  have f7 := M.st.r.frozen (p * 8 + 7)
  have HN := Lib.hid hn
  clear M hn
  go_region
  clear c1 p0 p1 x0 x1 x2 q0 q1 q2 q3 q4 q5 q6 q7 f0 f1 f2 f3 f4 f5 f6 f7
  have S5 := Lib.hid ((HM.out.st.put8 (n' := putNd x) HN.out).drew)
  have K5 := Lib.hid (put8_but (wf := wf) (g := g) (p := p) (x := x))
  obtain ⟨wg, hwg⟩ : ∃ v, Hid (v = ((((((((wf.setCell ⟨g, p * 8, none⟩ (.int .i64 x.f)).setCell ⟨g, p * 8 + 1, none⟩ (.int .i64 x.t)).setCell ⟨g, p * 8 + 2, none⟩ (.int .i64 x.i)).setCell ⟨g, p * 8 + 3, none⟩ (.int .i64 (-1))).setCell ⟨g, p * 8 + 4, none⟩ (.int .i64 (-1))).setCell ⟨g, p * 8 + 5, none⟩ (.int .i64 1)).setCell ⟨g, p * 8 + 6, none⟩ (.int .i64 x.t)).setCell ⟨g, p * 8 + 7, none⟩ (.bool true)).drew) := ⟨_, rfl⟩
  replace S5 : Hid (St wg B b g cap most (place t) (t.size : Int) (.slice af 0 capf) (ms.set p (putNd x))) := by show St _ _ _ _ _ _ _ _ _ _; rw [hwg.out]; exact S5.out
  rw [← hwg.out] at K5 ⊢
  have c4 := S5.out.t.c4
  have f4 := S5.out.t.f 4
  have hsz : (t.size : Int) < 1000000 := by have := HS.out; have := H.out.m2; omega
  have hw4 : wrap64 ((t.size : Int) + 1) = (t.size : Int) + 1 := IntWalk.wrap64_in _ (by omega)
  have hw5 : IntKind.i64.wrap ((t.size : Int) + 1) = (t.size : Int) + 1 := by rw [IntWalk.i64_left, hw4]
  clear hwg hsz
  go_upto_region 17 with fail
  clear c4 f4 hw4 hw5
  have S6 := Lib.hid (S5.out.count ((t.size : Int) + 1))
  have K6 : But (fun k => k = b ∨ k = g) wf (wg.setCell ⟨b, 4, none⟩ (.int .i64 ((t.size : Int) + 1))) := (K5.out.mono (fun _ z => .inr z)).set (p := ⟨b, 4, none⟩) (.inl rfl) _
  have P6 := HM.out.pa.but K6 (by have := HM.out.n5; omega)
  replace K6 := Lib.hid K6
  obtain ⟨wh, hwh⟩ : ∃ v, Hid (v = wg.setCell ⟨b, 4, none⟩ (.int .i64 ((t.size : Int) + 1))) := ⟨_, rfl⟩
  rw [← hwh.out] at S6 K6 P6 ⊢
  clear hwh S5 K5
  obtain ⟨c, hc⟩ : ∃ c, Hid ((Tr.way x t []).1 = c) := ⟨_, rfl⟩
  have WL := way_lt x HM.out.ls
  have HH := way_len x t []
  have PC' := PC.out.pc
  rw [HW.out, hc.out] at PC'
  rw [hc.out] at WL HH
  simp only [Tr.isNil, if_true, Nat.add_zero] at PC'
  have HCL : Hid (c.length ≤ 39) := by
    have := H.out.small.2
    rw [HW.out] at HH
    simp only [List.length_nil, Tr.ht] at HH
    show _ ≤ _; omega
  have p80 := P6.cell 80 PC'.n
  have PI := Lib.hid (P6.pathIn PC')
  have P6 := Lib.hid P6
  have WL' : Hid (∀ f ∈ c.reverse, f.p < (ms.set p (putNd x)).length) := fun f hf => by rw [List.length_set]; exact WL f (List.mem_reverse.1 hf)
  have n5 := Lib.hid HM.out.n5
  have A3 := above_st (d := (p : Int)) (cr := c.reverse) (q := i5) (j := c.length) S6.out (by rw [List.length_reverse]; exact Nat.le_refl _) (by rw [List.length_reverse]; have := HCL.out; omega) WL'.out P6.out.lt n5.out.1 PI.out
  rw [show (c.reverse.take c.length).reverse = c by rw [List.take_of_length_le (by rw [List.length_reverse]; exact Nat.le_refl _), List.reverse_reverse]] at A3
  have HPC := Lib.hid PC'
  clear WL HH PC'
  go_wp2_with (first
    | (go_at_call 34; (with_reducible refine A3.mono ?_); rintro e w3 ⟨rfl, s3, b3⟩; have S7 := Lib.hid s3; have B7 := Lib.hid b3; clear s3 b3 A3;
       have A4 := mend_st (cr := c.reverse) (q := i5) S7.out (by rw [List.length_reverse]; have := HCL.out; omega) (by rw [hangTop_len]; exact WL'.out) (P6.out.but B7.out (by have := n5.out; omega)).lt n5.out.1 n5.out.2.1 (PI.out.but B7.out P6.out.lt (by have := n5.out; omega)) (by rw [List.length_reverse]; exact (P6.out.but B7.out (by have := n5.out; omega)).cell 80 HPC.out.n) ((put_fit HM.out.ft).top _ _ (by rw [List.length_set]; have := HM.out.pl; omega)) (by omega) (p : Int) (fun z => by rw [if_pos (by simpa using z)]);
       (rw [List.reverse_reverse] at A4))
    | (go_at_call 35; (with_reducible refine A4.mono ?_); rintro e w4 ⟨rfl, s4, b4⟩; have S8 := Lib.hid s4; have B8 := Lib.hid (B7.out.trans b4); clear s4 b4 A4))
  go_ret
  have HM1 := HM.out
  rw [← hO.out] at HM1
  have T := mid_done H.out HM1 HW.out (by rw [hc.out]; exact S8.out) (K6.out.trans B8.out)
  exact ⟨rfl, T⟩
/-- Insert, whatever the tree -/
theorem insert_is {w : World} {B b : Nat} {most : Int} {O : Nat → Prop} {L : List It} {x : It} (h : TreeIs w B b most O L) :
    Calls Try.prog 25 #[.pointer (some ⟨b, 0, none⟩), .agg #[.int .i64 x.f, .int .i64 x.t, .int .i64 x.i]] w fun e w' => e = .returned (.int .i64 (putA most x L).1) ∧ Turned w w' B b most O (putA most x L).2 := by
  obtain ⟨t, ns, free, nv, fv, h, rfl, rfl⟩ := h
  have sz := Tr.size_items t
  have hsz : (t.size : Int) ≤ most := by have := h.sz; have := h.le; omega
  by_cases hx : x.t ≤ x.f ∨ x ∈ t.items ∨ (t.size : Int) = most
  · have e : (putA most x t.items).2 = t.items := by
      unfold putA
      by_cases h1 : x.t ≤ x.f
      · rw [if_pos h1]
      · rw [if_neg h1]
        by_cases h2 : x ∈ t.items
        · rw [if_pos h2]
        · rw [if_neg h2, if_pos (by rw [sz]; rcases hx with k | k | k; exact absurd k h1; exact absurd k h2; exact k)]
    rw [e]
    refine (insert_no h hx).mono ?_
    rintro e' w' ⟨rfl, b1⟩
    exact ⟨rfl, Turned.same ⟨t, ns, free, nv, fv, h, rfl, rfl⟩ b1⟩
  · simp only [not_or] at hx
    have e : putA most x t.items = (0, Tr.under x t.items ++ x :: Tr.beyond x t.items) := by
      unfold putA
      rw [if_neg hx.1, if_neg hx.2.1, if_neg (by rw [sz]; exact hx.2.2)]
    rw [e]
    have hs : (t.size : Int) < most := by have := hx.2.2; omega
    rcases List.eq_nil_or_concat free with rfl | ⟨fr, p, rfl⟩
    · exact insert_new h (by have := hx.1; omega) hx.2.1 hs
    · rw [List.concat_eq_append] at h
      exact insert_pop h (by have := hx.1; omega) hx.2.1 hs
end Go.Proofs.Ytmgljgmfipodeaa.Av
