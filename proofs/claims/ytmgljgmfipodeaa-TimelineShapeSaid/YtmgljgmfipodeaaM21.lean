/-
  avl: Delete, walked.
-/
import Derived.Test.YtmgljgmfipodeaaM20
/-
  avl: Delete, walked.
-/
namespace Go.Proofs.Ytmgljgmfipodeaa.Av
open Go Go.RowKit
set_option linter.unusedSimpArgs false
set_option linter.unusedVariables false
attribute [local go_sem ↓] Go.wp_at_zero Go.wp_at_succ

/-- the document's answer to a taking away -/
def delA (x : It) (L : List It) : Int × List It := if x ∈ L then (0, Tr.under x L ++ (Tr.beyond x L).tail) else (5, L)
/-- what stands ahead of the node's going -/
structure Ready (w wx : World) (B b : Nat) (most : Int) (t : Tr) (O : Nat → Prop) (i5 : Nat) (cs : Array Value) (c : List Tr.Fr) (q g cap : Nat) (fv : Value) (free : List Nat) (ns1 : List Nd) : Prop where
  st : St wx B b g cap most (place t) (t.size : Int) fv ns1
  rf : RowI wx B fv free
  bf : fv.ownBlock ≠ some b
  gf : fv.ownBlock ≠ some g
  f5 : fv.ownBlock ≠ some i5
  pa : PAt wx i5 cs
  pc : PathC cs c.reverse (c.length + 1)
  bt : But O w wx
  sz : w.heap.size ≤ wx.heap.size
  n5 : i5 ≠ g ∧ i5 ≠ b
theorem gone_done {w wx w6 : World} {B b : Nat} {most : Int} {t : Tr} {ns : List Nd} {free : List Nat} {fv fv' : Value} {i5 : Nat} {x : It} {cs : Array Value} {c : List Tr.Fr} {q g cap : Nat} {ns1 : List Nd} {kept : Tr}
    (H : Tre w B b most t ns free (.slice (some ⟨g, 0, none⟩) ns.length cap) fv) (R : Ready w wx B b most t (own b (.slice (some ⟨g, 0, none⟩) ns.length cap) fv) i5 cs c q g cap fv free ns1) (G : Gone t ns1 x c q kept) (hl : ns1.length = ns.length)
    (S6 : St w6 B b g cap most (mendAll ((hangTop ns1 c (place kept)).set q zeroNd) c (place kept)).1 ((t.size : Int) - 1) fv' (mendAll ((hangTop ns1 c (place kept)).set q zeroNd) c (place kept)).2)
    (RF : RowI w6 B fv' (free ++ [q])) (bf : fv'.ownBlock ≠ some b) (gf : fv'.ownBlock ≠ some g) (of : ∀ k, fv'.ownBlock = some k → fv.ownBlock = some k ∨ w.heap.size ≤ k)
    (K : But (fun k => k = b ∨ k = g ∨ fv.ownBlock = some k ∨ k = i5) wx w6) (h5 : w.heap.size ≤ i5) :
    Turned w w6 B b most (own b (.slice (some ⟨g, 0, none⟩) ns.length cap) fv) (Tr.under x t.items ++ (Tr.beyond x t.items).tail) := by
  have hsm := H.small.1
  obtain ⟨m, t', e, h1, h2, h3, h4, h5', h6, h7, h8⟩ := cut_all G hsm
  rw [← e] at S6
  have gb : g ≠ b := fun z => R.st.ne z.symm
  refine ⟨own b (.slice (some ⟨g, 0, none⟩) m.2.length cap) fv', ⟨t', m.2, free ++ [q], _, fv', ?_, h8, rfl⟩, R.bt.into K (fun k hk hs => ?_), fun k hk => ?_⟩
  · refine { tt := ?_, rn := S6.r, rf := RF, bn := ?_, bf := bf, nf := fun k hk => ?_, bB := H.bB, m1 := H.m1, m2 := H.m2, ok := h3, ls := h2, ft := h5', sz := ?_, le := ?_, ap := ?_, fl := fun z hz => ?_ }
    · have := S6.t
      rw [h1, h7] at this
      have e2 : (((t'.size + 1 : Nat) : Int)) - 1 = (t'.size : Int) := by omega
      rw [e2] at this; exact this
    · simp [Value.ownBlock, gb]
    · simp only [Value.ownBlock, Option.some.injEq] at hk; subst hk; exact gf
    · have := H.sz; rw [h6, hl, List.length_append, List.length_singleton]; omega
    · rw [h6, hl]; exact H.le
    · have := H.ap
      refine (List.Perm.nodup_iff ?_).1 this
      rw [List.append_assoc]
      exact (List.Perm.append_left free h4).symm
    · rw [h6, hl]
      rcases List.mem_append.1 hz with z' | z'
      · exact H.fl z z'
      · simp only [List.mem_singleton] at z'; subst z'
        obtain ⟨n, hn, _⟩ := G.hq
        have := (List.getElem?_eq_some_iff.1 hn).1; omega
  · rcases hs with rfl | rfl | hs | rfl
    · exact .inl rfl
    · exact .inr (.inl rfl)
    · exact .inr (.inr hs)
    · omega
  · rcases hk with rfl | hk | hk
    · exact .inl (.inl rfl)
    · simp only [Value.ownBlock, Option.some.injEq] at hk
      exact .inl (.inr (.inl (by rw [← hk]; rfl)))
    · rcases of k hk with z | z
      · exact .inl (.inr (.inr z))
      · exact .inr z
theorem zero_fit {ns : List Nd} {p : Nat} (h : Fit ns 40) (hp : p < ns.length) : Fit (ns.set p zeroNd) 40 := by
  refine ⟨h.1, fun n hn => ?_⟩
  rw [List.length_set]
  rcases List.mem_or_eq_of_mem_set hn with k | rfl
  · exact h.2 n k
  · simp only [zeroNd]; omega
theorem info_int : (Try.prog.info? 3).map (fun i => (i.zero, i.size, i.bytes)) = some (some (.int .i64 0), 1, 8) := by kernel_rfl
/-- append of one place -/
theorem app_int {w : World} {ops : Array Oper} {rest : List Oper} {o : Oper} {a : Act} {Q : Exit → Act → World → Prop} (hgd : o.guard = none) (s x : Operand)
    (ho : o.op = .call { callee := .builtin .append, args := #[s, x], argTypes := #[36, 36] }) (B : Nat) (v : Value) (xs : List Nat) (q : Nat) (hs : a.eval s = v) (hown : RowI w B v xs)
    (g : Nat) (hx : a.eval x = .slice (some ⟨g, 0, none⟩) 1 1) (hc : w.cell? ⟨g, 0, none⟩ = some (.int .i64 (q : Int))) (hl : xs.length < 1000001) (hB : B ≤ w.heap.size)
    (h : ∀ (ao : Option Addr) (cap' : Nat) w', RowI w' B (.slice ao (xs.length + 1) cap') (xs ++ [q]) → But (fun k => v.ownBlock = some k) w w' → ((Value.slice ao (xs.length + 1) cap').ownBlock = v.ownBlock ∨ (Value.slice ao (xs.length + 1) cap').ownBlock = some w.heap.size) → wpList Try.prog ops Q rest (a.put o.dst (.slice ao (xs.length + 1) cap')) w') : wpList Try.prog ops Q (o :: rest) a w := by
  obtain ⟨i0, hi, hz0, hz1, hz2⟩ := info_parts info_int
  refine wpList_append_own_at _ hgd s x _ ho B 3 i0 (.int .i64 0) 1 8 Try.underlying36 hi hz0 hz1 hz2 rfl (by decide) v xs.length _ hs hown ⟨g, 0, none⟩ 1 1 [.int .i64 (q : Int)] hx rfl ?_ ?_ ?_ ?_ hB ?_
  · intro j u hu
    rcases j with _ | j
    · simp at hu; subst hu; simpa [Addr.add] using hc
    · simp at hu
  · intro u hu; simp at hu; subst hu; rfl
  · simp only [maxLen]; omega
  · omega
  · intro v' w' h1 h2 h3 h4
    obtain ⟨ao, cap', rfl, _, _⟩ := row_form h1
    refine h ao cap' w' ?_ ⟨h2.os, h2.tape, h2.output, h2.size, fun k hk hs => h2.block k hk (fun e => hs e.symm)⟩ h4
    unfold RowI
    rw [List.length_append, List.length_singleton, List.map_append]; exact h1
set_option maxRecDepth 100000 in
theorem delete_no {w : World} {B b : Nat} {most : Int} {t : Tr} {ns : List Nd} {free : List Nat} {nv fv : Value} {x : It} (h : Tre w B b most t ns free nv fv) (hm : x ∉ t.items) :
    Calls Try.prog 24 #[.pointer (some ⟨b, 0, none⟩), .agg #[.int .i64 x.f, .int .i64 x.t, .int .i64 x.i]] w fun e w' => e = .returned (.int .i64 5) ∧ Below w.heap.size w w' := by
  have B0 := ba w (.cells #[.int .i64 x.f, .int .i64 x.t, .int .i64 x.i] 54)
  have h1 := h.but (Below.but B0 (fun _ => False)) (fun _ _ k => k)
  have A := none_at h1.tt
  rw [show decide (most = 0) = false by have := h.m1; simp; omega] at A
  have D := down_tre (x := x) h1
  rw [mem_way h.ok, decide_eq_false hm] at D
  have zz := path_zero
  have B1 := Lib.hid B0
  clear h h1 B0 hm
  go_enter Try.func24, Try.ntmps24
  go_wp2_with (first
    | (go_at_call 31; (with_reducible refine A.mono ?_); rintro e w20 ⟨rfl, rfl⟩)
    | (go_at_call 33; (with_reducible refine D.mono ?_); rintro e w21 ⟨cs, rfl, pc, b1⟩; have B2 := Lib.hid b1; have PC := Lib.hid pc; clear b1 pc)
    | (refine wpList_plain rfl fun _ hK => wp_store_row 82 _ _ rfl w21.heap.size cs rfl rfl 82 pathZ (heap_alloc_new w21 _) (by rw [PC.out.pc.size]; exact path_size) (by rw [PC.out.pc.size]; exact pathZ_ok.size) PC.out.pc.one (hK _ _ ?_); rw [World.setRow_alloc_new]))
  go_ret
  exact ⟨rfl, bt B1.out (bt B2.out (ba _ _))⟩
set_option maxRecDepth 100000 in
set_option maxHeartbeats 2000000 in
theorem delete_left {w : World} {B b : Nat} {most : Int} {t : Tr} {ns : List Nd} {free : List Nat} {nv fv : Value} {x : It} {p : Nat} {l r : Tr} (h : Tre w B b most t ns free nv fv) (hm : x ∈ t.items) (hw : (Tr.way x t []).2 = .nd p x l r) (hs : l = .nil) :
    Calls Try.prog 24 #[.pointer (some ⟨b, 0, none⟩), .agg #[.int .i64 x.f, .int .i64 x.t, .int .i64 x.i]] w fun e w' => e = .returned (.int .i64 0) ∧ Turned w w' B b most (own b nv fv) (Tr.under x t.items ++ (Tr.beyond x t.items).tail) := by
  have B0 := ba w (.cells #[.int .i64 x.f, .int .i64 x.t, .int .i64 x.i] 54)
  have h1 := h.but (Below.but B0 (fun _ => False)) (fun _ _ k => k)
  have A := none_at h1.tt
  rw [show decide (most = 0) = false by have := h.m1; simp; omega] at A
  have D := down_tre (x := x) h1
  rw [mem_way h.ok, decide_eq_true hm] at D
  have zz := path_zero
  have H := Lib.hid h
  have H1 := Lib.hid h1
  have B1 := Lib.hid B0
  have HW := Lib.hid hw
  have HS := Lib.hid hs
  clear h h1 B0 hm hw hs
  go_enter Try.func24, Try.ntmps24
  go_upto_region 6 with (first
    | (go_at_call 31; (with_reducible refine A.mono ?_); rintro e w20 ⟨rfl, rfl⟩)
    | (go_at_call 33; (with_reducible refine D.mono ?_); rintro e w21 ⟨cs, rfl, pc, b1⟩; have B2 := Lib.hid b1; have PC := Lib.hid pc; clear b1 pc)
    | (refine wpList_plain rfl fun _ hK => wp_store_row 82 _ _ rfl w21.heap.size cs rfl rfl 82 pathZ (heap_alloc_new w21 _) (by rw [PC.out.pc.size]; exact path_size) (by rw [PC.out.pc.size]; exact pathZ_ok.size) PC.out.pc.one (hK _ _ ?_); rw [World.setRow_alloc_new]))
  have h2 := H1.out.but (Below.but (bt B2.out (ba _ (.cells cs 82))) (fun _ => False)) (fun _ _ k => k)
  have P2 : PAt (w21.alloc (Obj.cells cs 82)) w21.heap.size cs := heap_alloc_new w21 _
  have B3 := Lib.hid (bt B1.out (bt B2.out (ba _ (.cells cs 82))))
  have s5 : Hid (w.heap.size < w21.heap.size) := by have := B2.out.size; rw [World.size_alloc] at this; show _ < _; omega
  clear H1 A D zz
  obtain ⟨wd, hwd⟩ : ∃ v, Hid (v = w21.alloc (Obj.cells cs 82)) := ⟨_, rfl⟩
  rw [← hwd.out] at h2 P2 B3 ⊢
  obtain ⟨i5, hi5⟩ : ∃ i, Hid (w21.heap.size = i) := ⟨_, rfl⟩
  rw [hi5.out] at P2 s5 ⊢
  have H2 := Lib.hid h2
  clear hwd hi5 B1 B2
  obtain ⟨c, hc⟩ : ∃ c, Hid ((Tr.way x t []).1 = c) := ⟨_, rfl⟩
  have PC1 := PC.out.pc
  have PE1 := PC.out.pe p x l r HW.out
  rw [HW.out, hc.out] at PC1
  rw [hc.out] at PE1
  simp only [Tr.isNil, Bool.false_eq_true, if_false] at PC1
  have lies := (liesUp_way x t [] h2.ls trivial).2
  rw [HW.out] at lies
  obtain ⟨e1, _, _⟩ := lies
  obtain ⟨n1, hn1⟩ : ∃ n, Hid (n = (⟨x, place l, place r, (((Tr.nd p x l r).ht : Nat) : Int), (Tr.nd p x l r).top, true⟩ : Nd)) := ⟨_, rfl⟩
  rw [← hn1.out] at e1
  have hcl : c.length ≤ 38 := by
    have := plug_ht (Tr.way x t []).1 (Tr.way x t []).2
    have e2 : Tr.plug (Tr.way x t []).1 (Tr.way x t []).2 = t := Tr.way_plug x t []
    rw [e2, HW.out, hc.out] at this
    have h3 := h2.small.2
    simp only [Tr.ht] at this; omega
  obtain ⟨g, cap, hnv, S2⟩ := h2.st (by cases t with | nil => exact absurd HW.out (by simp [Tr.way]) | nd a b1 c1 d1 => rfl)
  subst hnv
  have c1 := S2.t.c1
  have p0 : (0 : Int) ≤ (p : Int) := by omega
  have p1 : (p : Int) < ((ns.length : Nat) : Int) := by have := (List.getElem?_eq_some_iff.1 e1).1; omega
  have q0 : wd.cell? ⟨g, p * 8, none⟩ = some (.int .i64 n1.x.f) := S2.cell p 0 n1 (.int .i64 n1.x.f) e1 (by omega) rfl
  have q1 := S2.cell p 1 n1 (.int .i64 n1.x.t) e1 (by omega) rfl
  have q2 := S2.cell p 2 n1 (.int .i64 n1.x.i) e1 (by omega) rfl
  have q3 := S2.cell p 3 n1 (.int .i64 n1.l) e1 (by omega) rfl
  have q4 := S2.cell p 4 n1 (.int .i64 n1.r) e1 (by omega) rfl
  have q5 := S2.cell p 5 n1 (.int .i64 n1.h) e1 (by omega) rfl
  have q6 := S2.cell p 6 n1 (.int .i64 n1.top) e1 (by omega) rfl
  have q7 := S2.cell p 7 n1 (.bool n1.used) e1 (by omega) rfl
  have p80 := P2.cell 80 PC1.n
  have pe := P2.cell c.length PE1
  have m0 : (0 : Int) ≤ (c.length : Int) := by omega
  have m1 : (c.length : Int) < 40 := by omega
  have hw3 : wrap64 (c.length : Int) = (c.length : Int) := IntWalk.wrap64_in _ (by omega)
  have hw2 : IntKind.i64.wrap ((c.length : Int) + 1 - 1) = (c.length : Int) := by rw [Int.add_sub_cancel, IntWalk.i64_left, hw3]
  have S2 := Lib.hid S2
  have P2 := Lib.hid P2
  have E1 := Lib.hid e1
  have PC1 := Lib.hid PC1
  have PE1 := Lib.hid PE1
  have HCL := Lib.hid hcl
  clear h2 e1 hcl
  go_upto_region 8 with fail
  have hL : decide (0 ≤ n1.l) = false := by rw [hn1.out, HS.out]; rfl
  go_upto_region 18 with fail
  obtain ⟨wx, hwx⟩ : ∃ v, Hid (v = wd.alloc (Obj.cells #[Value.int .i64 n1.x.f, .int .i64 n1.x.t, .int .i64 n1.x.i, .int .i64 n1.l, .int .i64 n1.r, .int .i64 n1.h, .int .i64 n1.top, .bool n1.used] 86)) := ⟨_, rfl⟩
  have KX : But (fun _ => False) wd wx := by rw [hwx.out]; exact (But.refl _ _).alloc _
  rw [← hwx.out]
  have R : Ready w wx B b most t (own b (.slice (some ⟨g, 0, none⟩) ns.length cap) fv) i5 cs c p g cap fv free ns := by
    have h := H2.out
    have s5' := s5.out
    have n5 : fv.ownBlock ≠ some i5 := fun e => by have := (World.ownsRow.lt H.out.rf i5 e).2; omega
    have hb0 := H.out.tt.lt
    have hg0 := (RowN.lt H.out.rn).1
    exact { st := S2.out.but KX (fun z => z) (fun z => z), rf := owns_but h.rf KX (fun _ _ z => z), bf := h.bf, gf := h.nf g rfl, f5 := n5, pa := P2.out.but KX (fun z => z), pc := PC1.out, bt := But.into (Below.but B3.out _) KX (fun _ _ z => z.elim), sz := by have := B3.out.size; have := KX.size; omega, n5 := by omega }
  have G : Hid (Gone t ns x c p (if l.isNil = true then r else l)) := by
    have := gone_one H2.out.ok H2.out.ls H2.out.ft H2.out.small.2 HW.out (.inl HS.out)
    rw [hc.out] at this; exact this
  obtain ⟨kept, hk⟩ : ∃ k, Hid ((if l.isNil = true then r else l) = k) := ⟨_, rfl⟩
  rw [hk.out] at G
  obtain ⟨q, hq⟩ : ∃ q, Hid (p = q) := ⟨_, rfl⟩
  rw [hq.out] at R G ⊢
  have HR := Lib.hid R
  obtain ⟨nd, hn, hkp⟩ := G.out.hq
  have ND := Lib.hid hn
  have KP := Lib.hid hkp
  have CL := Lib.hid G.out.cl
  clear hn hkp c1 p0 p1 q0 q1 q2 q3 q4 q5 q6 q7 p80 pe hw2 hw3 m0 m1
  -- one step less
  have r80 := R.pa.cell 80 R.pc.n
  have f80 := R.pa.f 80
  have m0 : (0 : Int) ≤ (c.length : Int) := by omega
  have hw3 : wrap64 (c.length : Int) = (c.length : Int) := IntWalk.wrap64_in _ (by have := CL.out; omega)
  have hw2 : IntKind.i64.wrap ((c.length : Int) + 1 - 1) = (c.length : Int) := by rw [Int.add_sub_cancel, IntWalk.i64_left, hw3]
  have K1 : But (· = i5) wx (wx.setCell ⟨i5, 80, none⟩ (.int .i64 (c.length : Int))) := (But.refl (· = i5) wx).set (show _ = i5 from rfl) _
  have P4 := R.pa.set 80 (.int .i64 (c.length : Int))
  have C4 := Lib.hid (R.pc.count (by rw [List.length_reverse]; have := CL.out; omega) c.length)
  have S4 := R.st.but K1 (by have := R.n5; omega) (by have := R.n5; omega)
  go_upto_region 19 with fail
  clear r80 f80 hw2 hw3 m0
  obtain ⟨wy, hwy⟩ : ∃ v, Hid (v = wx.setCell ⟨i5, 80, none⟩ (.int .i64 (c.length : Int))) := ⟨_, rfl⟩
  rw [← hwy.out] at K1 P4 S4 ⊢
  obtain ⟨cs4, hcs4⟩ : ∃ v, Hid (cs.setIfInBounds 80 (.int .i64 (c.length : Int)) = v) := ⟨_, rfl⟩
  rw [hcs4.out] at P4 C4
  clear hwy hcs4
  have p80 := P4.cell 80 C4.out.n
  have c1 := S4.t.c1
  have p0 : (0 : Int) ≤ (q : Int) := by omega
  have p1 : (q : Int) < ((ns.length : Nat) : Int) := by have := (List.getElem?_eq_some_iff.1 ND.out).1; omega
  have q3 := S4.cell q 3 nd (.int .i64 nd.l) ND.out (by omega) rfl
  have q4 := S4.cell q 4 nd (.int .i64 nd.r) ND.out (by omega) rfl
  have WL := Lib.hid (liesUp_lt G.out.lu)
  have WLR : Hid (∀ f ∈ c.reverse, f.p < ns.length) := fun f hf => WL.out f (List.mem_reverse.1 hf)
  have PI := Lib.hid (P4.pathIn C4.out)
  have PL := Lib.hid P4.lt
  have P4 := Lib.hid P4
  have S4 := Lib.hid S4
  have N5 := Lib.hid R.n5
  have FTK : Hid (place kept < (ns.length : Int)) := place_lt G.out.lk
  have hmx : (if nd.l < nd.r then nd.r else nd.l) = place kept := KP.out
  have A3 := above_st (d := place kept) (cr := c.reverse) (q := i5) (j := c.length) S4.out.drew (by rw [List.length_reverse]; exact Nat.le_refl _) (by rw [List.length_reverse]; have := CL.out; omega) WLR.out PL.out N5.out.1 PI.out
  rw [show (c.reverse.take c.length).reverse = c by rw [List.take_of_length_le (by rw [List.length_reverse]; exact Nat.le_refl _), List.reverse_reverse]] at A3
  have mkS : ∀ w', But (fun k => k = b ∨ k = g) wy w' → w'.cell? ⟨i5, 80, none⟩ = some (.int .i64 (c.length : Int)) := fun w' hb => (hb.cell (p := ⟨i5, 80, none⟩) PL.out (show ¬ (i5 = b ∨ i5 = g) by have := N5.out; omega)).trans p80
  have HS0 : (fun w' : World => w'.cell? ⟨i5, 80, none⟩ = some (.int .i64 (c.length : Int)) ∧ w'.cell? ⟨b, 1, none⟩ = some (.slice (some ⟨g, 0, none⟩) ns.length cap) ∧ w'.cell? ⟨g, q * 8 + 3, none⟩ = some (.int .i64 nd.l) ∧ w'.cell? ⟨g, q * 8 + 4, none⟩ = some (.int .i64 nd.r)) wy.drew := ⟨p80, c1, q3, q4⟩
  clear R
  have QC : Hid (q ∉ upPlaces c) := by
    obtain ⟨y, hnd, _⟩ := G.out.nd
    have nd1 := (nodup_plug c _).1 hnd
    simp only [Tr.places] at nd1
    rw [List.nodup_append] at nd1
    exact fun k => nd1.2.2 q (by simp) q k rfl
  go_region_held3 (fun w' => w'.cell? ⟨i5, 80, none⟩ = some (.int .i64 (c.length : Int)) ∧ w'.cell? ⟨b, 1, none⟩ = some (.slice (some ⟨g, 0, none⟩) ns.length cap) ∧ w'.cell? ⟨g, q * 8 + 3, none⟩ = some (.int .i64 nd.l) ∧ w'.cell? ⟨g, q * 8 + 4, none⟩ = some (.int .i64 nd.r))
    (first | with_reducible exact HS0 | with_reducible assumption)
    (first
      | (go_at_call 34; (with_reducible refine A3.mono ?_); rintro e w3 ⟨rfl, s3, b3⟩; have S7 := Lib.hid s3; have B7 := Lib.hid b3; have HS1 := And.intro (mkS w3 (((But.refl _ wy).drew).trans b3)) (And.intro (by have := s3.t.c1; rw [hangTop_len] at this; exact this) (And.intro (s3.cell q 3 nd (.int .i64 nd.l) (((hangTop_only _ _ _).2 q QC.out).trans ND.out) (by omega) rfl) (s3.cell q 4 nd (.int .i64 nd.r) (((hangTop_only _ _ _).2 q QC.out).trans ND.out) (by omega) rfl))); clear s3 b3 A3))
  clear HS0 HS1 mkS p80 c1 q3 q4 hmx
  -- the node is emptied
  have e2 : (hangTop ns c (place kept))[q]? = some nd := ((hangTop_only _ _ _).2 q QC.out).trans ND.out
  have HL2 : Hid ((hangTop ns c (place kept)).length = ns.length) := hangTop_len _ _ _
  obtain ⟨ns2, hns2⟩ : ∃ m, Hid (hangTop ns c (place kept) = m) := ⟨_, rfl⟩
  have FT2 : Hid (Fit ns2 40) := by show Fit _ _; rw [← hns2.out]; exact G.out.ft.top _ _ FTK.out
  rw [hns2.out] at e2 HL2 S7
  have c1 := S7.out.t.c1
  rw [HL2.out] at c1
  have z0 : w3.cell? ⟨g, q * 8, none⟩ = some (.int .i64 nd.x.f) := S7.out.cell q 0 nd (.int .i64 nd.x.f) e2 (by omega) rfl
  have z1 := S7.out.cell q 1 nd (.int .i64 nd.x.t) e2 (by omega) rfl
  have z2 := S7.out.cell q 2 nd (.int .i64 nd.x.i) e2 (by omega) rfl
  have z3 := S7.out.cell q 3 nd (.int .i64 nd.l) e2 (by omega) rfl
  have z4 := S7.out.cell q 4 nd (.int .i64 nd.r) e2 (by omega) rfl
  have z5 := S7.out.cell q 5 nd (.int .i64 nd.h) e2 (by omega) rfl
  have z6 := S7.out.cell q 6 nd (.int .i64 nd.top) e2 (by omega) rfl
  have z7 := S7.out.cell q 7 nd (.bool nd.used) e2 (by omega) rfl
  have f0 := S7.out.r.frozen (q * 8)
  have f1 := S7.out.r.frozen (q * 8 + 1)
  have f2 := S7.out.r.frozen (q * 8 + 2)
  have f3 := S7.out.r.frozen (q * 8 + 3)
  have f4 := S7.out.r.frozen (q * 8 + 4)
  have f5 := S7.out.r.frozen (q * 8 + 5)
  have f6 := S7.out.r.frozen (q * 8 + 6)
  have f7 := S7.out.r.frozen (q * 8 + 7)
  have S8 := Lib.hid (S7.out.put8 (n' := zeroNd) e2)
  have K8 : But (· = g) w3 ((((((((w3.setCell ⟨g, q * 8, none⟩ (.int .i64 0)).setCell ⟨g, q * 8 + 1, none⟩ (.int .i64 0)).setCell ⟨g, q * 8 + 2, none⟩ (.int .i64 0)).setCell ⟨g, q * 8 + 3, none⟩ (.int .i64 0)).setCell ⟨g, q * 8 + 4, none⟩ (.int .i64 0)).setCell ⟨g, q * 8 + 5, none⟩ (.int .i64 0)).setCell ⟨g, q * 8 + 6, none⟩ (.int .i64 0)).setCell ⟨g, q * 8 + 7, none⟩ (.bool false)) := (((((((But.refl (· = g) w3).set (show _ = g from rfl) _).set (show _ = g from rfl) _).set (show _ = g from rfl) _).set (show _ = g from rfl) _).set (show _ = g from rfl) _).set (show _ = g from rfl) _).set (show _ = g from rfl) _ |>.set (show _ = g from rfl) _
  replace K8 := Lib.hid K8
  clear e2
  go_upto_region 21 with fail
  clear c1 z0 z1 z2 z3 z4 z5 z6 z7 f0 f1 f2 f3 f4 f5 f6 f7
  obtain ⟨w4, hw4⟩ : ∃ v, Hid (v = ((((((((w3.setCell ⟨g, q * 8, none⟩ (.int .i64 0)).setCell ⟨g, q * 8 + 1, none⟩ (.int .i64 0)).setCell ⟨g, q * 8 + 2, none⟩ (.int .i64 0)).setCell ⟨g, q * 8 + 3, none⟩ (.int .i64 0)).setCell ⟨g, q * 8 + 4, none⟩ (.int .i64 0)).setCell ⟨g, q * 8 + 5, none⟩ (.int .i64 0)).setCell ⟨g, q * 8 + 6, none⟩ (.int .i64 0)).setCell ⟨g, q * 8 + 7, none⟩ (.bool false))) := ⟨_, rfl⟩
  replace S8 : Hid (St w4 B b g cap most (if c.length = 0 then place kept else place t) (t.size : Int) fv (ns2.set q zeroNd)) := by show St _ _ _ _ _ _ _ _ _ _; rw [hw4.out]; exact S8.out
  rw [← hw4.out] at K8 ⊢
  clear hw4 S7
  -- its place is free
  have K84 : Hid (But (fun k => k = b ∨ k = g ∨ k = i5) wx w4) := by
    refine But.trans (But.trans (K1.mono (fun _ z => .inr (.inr z))) (B7.out.mono (fun k z => ?_) |> fun h => But.trans ((But.refl _ wy).drew) h)) (K8.out.mono (fun _ z => .inr (.inl z)))
    rcases z with z | z
    · exact .inl z
    · exact .inr (.inl z)
  have RF := HR.out.rf
  have hfl : free.length < 1000001 := by have := H.out.sz; have := H.out.le; have := H.out.m2; omega
  have RF4 := owns_but RF K84.out (fun k hk hs => by rcases hs with rfl | rfl | rfl; exact HR.out.bf hk; exact HR.out.gf hk; exact HR.out.f5 hk)
  have KA := Lib.hid ((But.refl (fun _ => False) w4).alloc (Obj.cells #[Value.int .i64 (q : Int)] 3))
  have RFA := Lib.hid (owns_but RF4 KA.out (fun _ _ z => z))
  have T0 := Lib.hid S8.out.t.lt
  have T1 : Hid (b < (w4.alloc (Obj.cells #[Value.int .i64 (q : Int)] 3)).heap.size) := by have := T0.out; show _ < _; rw [World.size_alloc]; omega
  have hB : Hid (B ≤ (w4.alloc (Obj.cells #[Value.int .i64 (q : Int)] 3)).heap.size) := by have := T1.out; have := H.out.bB; show _ ≤ _; omega
  have HFL := Lib.hid hfl
  have NC : Hid ((w4.alloc (Obj.cells #[Value.int .i64 (q : Int)] 3)).cell? ⟨w4.heap.size, 0, none⟩ = some (.int .i64 (q : Int))) := by show _ = _; simp
  have c2 := S8.out.t.c2
  have F2 := Lib.hid (S8.out.t.f 2)
  clear RF hfl RF4
  go_upto_region 22 with (at_builtin; go_loud (refine app_int rfl _ _ rfl B fv free q rfl RFA.out w4.heap.size rfl NC.out HFL.out hB.out ?_; intro af capf w5 r1 k1 l1; have R5 := Lib.hid r1; have K5 := Lib.hid k1; have L5 := Lib.hid l1; clear r1 k1 l1; replace c2 := (KA.out.cell (p := ⟨b, 2, none⟩) T0.out (fun h => h)).trans c2; replace c2 := (K5.out.cell (p := ⟨b, 2, none⟩) T1.out HR.out.bf).trans c2; have f2 := ((K5.out.frozen (p := ⟨b, 2, none⟩) T1.out HR.out.bf).trans ((KA.out.frozen (p := ⟨b, 2, none⟩) T0.out (fun h => h)).trans F2.out))))
  obtain ⟨fv', hfv⟩ : ∃ v, Hid (Value.slice af (free.length + 1) capf = v) := ⟨_, rfl⟩
  rw [hfv.out] at R5 L5 ⊢
  clear c2 f2 hfv
  have bf5 : fv'.ownBlock ≠ some b := by
    rcases L5.out with z | z
    · rw [z]; exact HR.out.bf
    · rw [z]; intro e; have := T1.out; simp only [Option.some.injEq] at e; omega
  have gf5 : fv'.ownBlock ≠ some g := by
    rcases L5.out with z | z
    · rw [z]; exact HR.out.gf
    · rw [z]; intro e; have := S8.out.r.lt.1; rw [World.size_alloc] at e; simp only [Option.some.injEq] at e; omega
  have of5 : ∀ k, fv'.ownBlock = some k → fv.ownBlock = some k ∨ w.heap.size ≤ k := by
    intro k hk
    rcases L5.out with z | z
    · left; rw [← z]; exact hk
    · right; rw [z, World.size_alloc] at hk; have := HR.out.sz; have := K84.out.size; simp only [Option.some.injEq] at hk; omega
  have KS : But (· = b) w5 (w5.setCell ⟨b, 2, none⟩ fv') := (But.refl (· = b) w5).set (show _ = b from rfl) _
  have t5 : TAt w5 b most (.slice (some ⟨g, 0, none⟩) (ns2.set q zeroNd).length cap) fv (if c.length = 0 then place kept else place t) (t.size : Int) := by
    have := S8.out.t
    unfold TAt at this ⊢
    exact (K5.out.block b T1.out HR.out.bf).trans ((KA.out.block b T0.out (fun z => z)).trans this)
  have g5 : w5.heap[g]? = w4.heap[g]? := (K5.out.block g (by have := S8.out.r.lt.1; rw [World.size_alloc]; omega) HR.out.gf).trans (KA.out.block g S8.out.r.lt.1 (fun z => z))
  have gb : g ≠ b := fun z => S8.out.ne z.symm
  have S9 : Hid (St (w5.setCell ⟨b, 2, none⟩ fv') B b g cap most (if c.length = 0 then place kept else place t) (t.size : Int) fv' (ns2.set q zeroNd)) :=
    St.tree (cs := cs) S8.out ((KS.block g (by have := K5.out.size; have := S8.out.r.lt.1; rw [World.size_alloc] at *; omega) gb).trans g5) ((TAt_set t5).2.1 _)
  have K49 : But (fun k => k = b ∨ k = g ∨ fv.ownBlock = some k ∨ k = i5) w4 (w5.setCell ⟨b, 2, none⟩ fv') :=
    ((KA.out.mono (fun _ z => z.elim)).trans (K5.out.mono (fun _ z => .inr (.inr (.inl z))))).trans (KS.mono (fun _ z => .inl z))
  have K9 := Lib.hid (But.trans (K84.out.mono (fun k z => (by rcases z with z | z | z; exact .inl z; exact .inr (.inl z); exact .inr (.inr (.inr z)) : k = b ∨ k = g ∨ fv.ownBlock = some k ∨ k = i5))) K49)
  have RF9 := Lib.hid (owns_but R5.out KS (fun k hk hs => bf5 (by rw [hk, hs])))
  have P9 : Hid (PAt (w5.setCell ⟨b, 2, none⟩ fv') i5 cs4) := by
    have a1 := P4.out.but ((But.refl (fun k => k = b ∨ k = g) wy).drew.trans B7.out) (by have := N5.out; omega)
    have a2 := a1.but K8.out (by have := N5.out; omega)
    have a3 := (a2.but KA.out (fun z => z)).but K5.out HR.out.f5
    exact a3.but KS (by have := N5.out; omega)
  have B5 := Lib.hid (And.intro bf5 (And.intro gf5 of5))
  obtain ⟨w6, hw6⟩ : ∃ v, Hid (v = w5.setCell ⟨b, 2, none⟩ fv') := ⟨_, rfl⟩
  rw [← hw6.out] at S9 K9 RF9 P9 ⊢
  clear hw6 KS t5 g5 K49 bf5 gf5 of5 S8 K8 KA K5 R5 L5 T0 T1
  -- one item less
  have c4 := S9.out.t.c4
  have f4 := S9.out.t.f 4
  have hsz : 1 ≤ t.size ∧ t.size ≤ 1000000 := by have := H.out.small.1; have := perm_size (t := Tr.mendZ c kept) (t' := t) G.out.pm.symm; omega
  have hw4 : wrap64 ((t.size : Int) - 1) = (t.size : Int) - 1 := IntWalk.wrap64_in _ (by omega)
  have hw5 : IntKind.i64.wrap ((t.size : Int) - 1) = (t.size : Int) - 1 := by rw [IntWalk.i64_left, hw4]
  clear hsz
  go_upto_region 23 with fail
  clear c4 f4 hw4 hw5
  have S10 := Lib.hid (S9.out.count ((t.size : Int) - 1))
  have K10 : But (· = b) w6 (w6.setCell ⟨b, 4, none⟩ (.int .i64 ((t.size : Int) - 1))) := (But.refl (· = b) w6).set (show _ = b from rfl) _
  have P10 := Lib.hid (P9.out.but K10 (by have := N5.out; omega))
  replace K10 := Lib.hid K10
  obtain ⟨w7, hw7⟩ : ∃ v, Hid (v = w6.setCell ⟨b, 4, none⟩ (.int .i64 ((t.size : Int) - 1))) := ⟨_, rfl⟩
  rw [← hw7.out] at S10 K10 P10 ⊢
  clear hw7 S9 P9
  have A4 := mend_st (cr := c.reverse) (q := i5) S10.out (by rw [List.length_reverse]; have := CL.out; omega) (by rw [List.length_set, HL2.out]; exact WLR.out) P10.out.lt N5.out.1 N5.out.2 (P10.out.pathIn C4.out) (by rw [List.length_reverse]; exact P10.out.cell 80 C4.out.n) (zero_fit FT2.out (by rw [HL2.out]; have := (List.getElem?_eq_some_iff.1 ND.out).1; omega)) (by omega) (place kept) (fun z => by rw [if_pos (by simpa using z)])
  rw [List.reverse_reverse] at A4
  go_wp2_with (go_at_call 35; (with_reducible refine A4.mono ?_); rintro e w8 ⟨rfl, s8, b8⟩; have S11 := Lib.hid s8; have K11 := Lib.hid b8; clear s8 b8 A4)
  go_ret
  have K12 : But (fun k => k = b ∨ k = g ∨ fv.ownBlock = some k ∨ k = i5) wx w8 := (K9.out.trans (K10.out.mono (fun _ z => .inl z))).trans (K11.out.mono (fun k z => (by rcases z with z | z; exact .inl z; exact .inr (.inl z) : k = b ∨ k = g ∨ fv.ownBlock = some k ∨ k = i5)))
  have RF12 := owns_but (owns_but RF9.out K10.out (fun k hk hs => B5.out.1 (by rw [hk, hs]))) K11.out (fun k hk hs => by rcases hs with hs | hs; exact B5.out.1 (by rw [hk, hs]); exact B5.out.2.1 (by rw [hk, hs]))
  have T := gone_done H.out HR.out G.out (by first | rfl | exact List.length_set) (by rw [hns2.out]; exact S11.out) RF12 B5.out.1 B5.out.2.1 B5.out.2.2 K12 (by have := s5.out; omega)
  exact ⟨rfl, T⟩
set_option maxRecDepth 100000 in
set_option maxHeartbeats 2000000 in
theorem delete_right {w : World} {B b : Nat} {most : Int} {t : Tr} {ns : List Nd} {free : List Nat} {nv fv : Value} {x : It} {p : Nat} {l r : Tr} (h : Tre w B b most t ns free nv fv) (hm : x ∈ t.items) (hw : (Tr.way x t []).2 = .nd p x l r) (hs : l.isNil = false ∧ r = .nil) :
    Calls Try.prog 24 #[.pointer (some ⟨b, 0, none⟩), .agg #[.int .i64 x.f, .int .i64 x.t, .int .i64 x.i]] w fun e w' => e = .returned (.int .i64 0) ∧ Turned w w' B b most (own b nv fv) (Tr.under x t.items ++ (Tr.beyond x t.items).tail) := by
  have B0 := ba w (.cells #[.int .i64 x.f, .int .i64 x.t, .int .i64 x.i] 54)
  have h1 := h.but (Below.but B0 (fun _ => False)) (fun _ _ k => k)
  have A := none_at h1.tt
  rw [show decide (most = 0) = false by have := h.m1; simp; omega] at A
  have D := down_tre (x := x) h1
  rw [mem_way h.ok, decide_eq_true hm] at D
  have zz := path_zero
  have H := Lib.hid h
  have H1 := Lib.hid h1
  have B1 := Lib.hid B0
  have HW := Lib.hid hw
  have HS := Lib.hid hs
  clear h h1 B0 hm hw hs
  go_enter Try.func24, Try.ntmps24
  go_upto_region 6 with (first
    | (go_at_call 31; (with_reducible refine A.mono ?_); rintro e w20 ⟨rfl, rfl⟩)
    | (go_at_call 33; (with_reducible refine D.mono ?_); rintro e w21 ⟨cs, rfl, pc, b1⟩; have B2 := Lib.hid b1; have PC := Lib.hid pc; clear b1 pc)
    | (refine wpList_plain rfl fun _ hK => wp_store_row 82 _ _ rfl w21.heap.size cs rfl rfl 82 pathZ (heap_alloc_new w21 _) (by rw [PC.out.pc.size]; exact path_size) (by rw [PC.out.pc.size]; exact pathZ_ok.size) PC.out.pc.one (hK _ _ ?_); rw [World.setRow_alloc_new]))
  have h2 := H1.out.but (Below.but (bt B2.out (ba _ (.cells cs 82))) (fun _ => False)) (fun _ _ k => k)
  have P2 : PAt (w21.alloc (Obj.cells cs 82)) w21.heap.size cs := heap_alloc_new w21 _
  have B3 := Lib.hid (bt B1.out (bt B2.out (ba _ (.cells cs 82))))
  have s5 : Hid (w.heap.size < w21.heap.size) := by have := B2.out.size; rw [World.size_alloc] at this; show _ < _; omega
  clear H1 A D zz
  obtain ⟨wd, hwd⟩ : ∃ v, Hid (v = w21.alloc (Obj.cells cs 82)) := ⟨_, rfl⟩
  rw [← hwd.out] at h2 P2 B3 ⊢
  obtain ⟨i5, hi5⟩ : ∃ i, Hid (w21.heap.size = i) := ⟨_, rfl⟩
  rw [hi5.out] at P2 s5 ⊢
  have H2 := Lib.hid h2
  clear hwd hi5 B1 B2
  obtain ⟨c, hc⟩ : ∃ c, Hid ((Tr.way x t []).1 = c) := ⟨_, rfl⟩
  have PC1 := PC.out.pc
  have PE1 := PC.out.pe p x l r HW.out
  rw [HW.out, hc.out] at PC1
  rw [hc.out] at PE1
  simp only [Tr.isNil, Bool.false_eq_true, if_false] at PC1
  have lies := (liesUp_way x t [] h2.ls trivial).2
  rw [HW.out] at lies
  obtain ⟨e1, _, _⟩ := lies
  obtain ⟨n1, hn1⟩ : ∃ n, Hid (n = (⟨x, place l, place r, (((Tr.nd p x l r).ht : Nat) : Int), (Tr.nd p x l r).top, true⟩ : Nd)) := ⟨_, rfl⟩
  rw [← hn1.out] at e1
  have hcl : c.length ≤ 38 := by
    have := plug_ht (Tr.way x t []).1 (Tr.way x t []).2
    have e2 : Tr.plug (Tr.way x t []).1 (Tr.way x t []).2 = t := Tr.way_plug x t []
    rw [e2, HW.out, hc.out] at this
    have h3 := h2.small.2
    simp only [Tr.ht] at this; omega
  obtain ⟨g, cap, hnv, S2⟩ := h2.st (by cases t with | nil => exact absurd HW.out (by simp [Tr.way]) | nd a b1 c1 d1 => rfl)
  subst hnv
  have c1 := S2.t.c1
  have p0 : (0 : Int) ≤ (p : Int) := by omega
  have p1 : (p : Int) < ((ns.length : Nat) : Int) := by have := (List.getElem?_eq_some_iff.1 e1).1; omega
  have q0 : wd.cell? ⟨g, p * 8, none⟩ = some (.int .i64 n1.x.f) := S2.cell p 0 n1 (.int .i64 n1.x.f) e1 (by omega) rfl
  have q1 := S2.cell p 1 n1 (.int .i64 n1.x.t) e1 (by omega) rfl
  have q2 := S2.cell p 2 n1 (.int .i64 n1.x.i) e1 (by omega) rfl
  have q3 := S2.cell p 3 n1 (.int .i64 n1.l) e1 (by omega) rfl
  have q4 := S2.cell p 4 n1 (.int .i64 n1.r) e1 (by omega) rfl
  have q5 := S2.cell p 5 n1 (.int .i64 n1.h) e1 (by omega) rfl
  have q6 := S2.cell p 6 n1 (.int .i64 n1.top) e1 (by omega) rfl
  have q7 := S2.cell p 7 n1 (.bool n1.used) e1 (by omega) rfl
  have p80 := P2.cell 80 PC1.n
  have pe := P2.cell c.length PE1
  have m0 : (0 : Int) ≤ (c.length : Int) := by omega
  have m1 : (c.length : Int) < 40 := by omega
  have hw3 : wrap64 (c.length : Int) = (c.length : Int) := IntWalk.wrap64_in _ (by omega)
  have hw2 : IntKind.i64.wrap ((c.length : Int) + 1 - 1) = (c.length : Int) := by rw [Int.add_sub_cancel, IntWalk.i64_left, hw3]
  have S2 := Lib.hid S2
  have P2 := Lib.hid P2
  have E1 := Lib.hid e1
  have PC1 := Lib.hid PC1
  have PE1 := Lib.hid PE1
  have HCL := Lib.hid hcl
  clear h2 e1 hcl
  go_upto_region 8 with fail
  have hL0 : (0 : Int) ≤ n1.l := by rw [hn1.out]; show 0 ≤ place l; have := HS.out.1; cases l with | nil => simp [Tr.isNil] at this | nd a1 b1 c1 d1 => simp [place]
  have hL : decide (0 ≤ n1.l) = true := by simpa using hL0
  have hR : decide (0 ≤ n1.r) = false := by rw [hn1.out, HS.out.2]; rfl
  go_upto_region 18 with fail
  obtain ⟨wx, hwx⟩ : ∃ v, Hid (v = wd.alloc (Obj.cells #[Value.int .i64 n1.x.f, .int .i64 n1.x.t, .int .i64 n1.x.i, .int .i64 n1.l, .int .i64 n1.r, .int .i64 n1.h, .int .i64 n1.top, .bool n1.used] 86)) := ⟨_, rfl⟩
  have KX : But (fun _ => False) wd wx := by rw [hwx.out]; exact (But.refl _ _).alloc _
  rw [← hwx.out]
  have R : Ready w wx B b most t (own b (.slice (some ⟨g, 0, none⟩) ns.length cap) fv) i5 cs c p g cap fv free ns := by
    have h := H2.out
    have s5' := s5.out
    have n5 : fv.ownBlock ≠ some i5 := fun e => by have := (World.ownsRow.lt H.out.rf i5 e).2; omega
    have hb0 := H.out.tt.lt
    have hg0 := (RowN.lt H.out.rn).1
    exact { st := S2.out.but KX (fun z => z) (fun z => z), rf := owns_but h.rf KX (fun _ _ z => z), bf := h.bf, gf := h.nf g rfl, f5 := n5, pa := P2.out.but KX (fun z => z), pc := PC1.out, bt := But.into (Below.but B3.out _) KX (fun _ _ z => z.elim), sz := by have := B3.out.size; have := KX.size; omega, n5 := by omega }
  have G : Hid (Gone t ns x c p (if l.isNil = true then r else l)) := by
    have := gone_one H2.out.ok H2.out.ls H2.out.ft H2.out.small.2 HW.out (.inr HS.out.2)
    rw [hc.out] at this; exact this
  obtain ⟨kept, hk⟩ : ∃ k, Hid ((if l.isNil = true then r else l) = k) := ⟨_, rfl⟩
  rw [hk.out] at G
  obtain ⟨q, hq⟩ : ∃ q, Hid (p = q) := ⟨_, rfl⟩
  rw [hq.out] at R G ⊢
  have HR := Lib.hid R
  obtain ⟨nd, hn, hkp⟩ := G.out.hq
  have ND := Lib.hid hn
  have KP := Lib.hid hkp
  have CL := Lib.hid G.out.cl
  clear hn hkp c1 p0 p1 q0 q1 q2 q3 q4 q5 q6 q7 p80 pe hw2 hw3 m0 m1
  -- one step less
  have r80 := R.pa.cell 80 R.pc.n
  have f80 := R.pa.f 80
  have m0 : (0 : Int) ≤ (c.length : Int) := by omega
  have hw3 : wrap64 (c.length : Int) = (c.length : Int) := IntWalk.wrap64_in _ (by have := CL.out; omega)
  have hw2 : IntKind.i64.wrap ((c.length : Int) + 1 - 1) = (c.length : Int) := by rw [Int.add_sub_cancel, IntWalk.i64_left, hw3]
  have K1 : But (· = i5) wx (wx.setCell ⟨i5, 80, none⟩ (.int .i64 (c.length : Int))) := (But.refl (· = i5) wx).set (show _ = i5 from rfl) _
  have P4 := R.pa.set 80 (.int .i64 (c.length : Int))
  have C4 := Lib.hid (R.pc.count (by rw [List.length_reverse]; have := CL.out; omega) c.length)
  have S4 := R.st.but K1 (by have := R.n5; omega) (by have := R.n5; omega)
  go_upto_region 19 with fail
  clear r80 f80 hw2 hw3 m0
  obtain ⟨wy, hwy⟩ : ∃ v, Hid (v = wx.setCell ⟨i5, 80, none⟩ (.int .i64 (c.length : Int))) := ⟨_, rfl⟩
  rw [← hwy.out] at K1 P4 S4 ⊢
  obtain ⟨cs4, hcs4⟩ : ∃ v, Hid (cs.setIfInBounds 80 (.int .i64 (c.length : Int)) = v) := ⟨_, rfl⟩
  rw [hcs4.out] at P4 C4
  clear hwy hcs4
  have p80 := P4.cell 80 C4.out.n
  have c1 := S4.t.c1
  have p0 : (0 : Int) ≤ (q : Int) := by omega
  have p1 : (q : Int) < ((ns.length : Nat) : Int) := by have := (List.getElem?_eq_some_iff.1 ND.out).1; omega
  have q3 := S4.cell q 3 nd (.int .i64 nd.l) ND.out (by omega) rfl
  have q4 := S4.cell q 4 nd (.int .i64 nd.r) ND.out (by omega) rfl
  have WL := Lib.hid (liesUp_lt G.out.lu)
  have WLR : Hid (∀ f ∈ c.reverse, f.p < ns.length) := fun f hf => WL.out f (List.mem_reverse.1 hf)
  have PI := Lib.hid (P4.pathIn C4.out)
  have PL := Lib.hid P4.lt
  have P4 := Lib.hid P4
  have S4 := Lib.hid S4
  have N5 := Lib.hid R.n5
  have FTK : Hid (place kept < (ns.length : Int)) := place_lt G.out.lk
  have hmx : (if nd.l < nd.r then nd.r else nd.l) = place kept := KP.out
  have A3 := above_st (d := place kept) (cr := c.reverse) (q := i5) (j := c.length) S4.out.drew (by rw [List.length_reverse]; exact Nat.le_refl _) (by rw [List.length_reverse]; have := CL.out; omega) WLR.out PL.out N5.out.1 PI.out
  rw [show (c.reverse.take c.length).reverse = c by rw [List.take_of_length_le (by rw [List.length_reverse]; exact Nat.le_refl _), List.reverse_reverse]] at A3
  have mkS : ∀ w', But (fun k => k = b ∨ k = g) wy w' → w'.cell? ⟨i5, 80, none⟩ = some (.int .i64 (c.length : Int)) := fun w' hb => (hb.cell (p := ⟨i5, 80, none⟩) PL.out (show ¬ (i5 = b ∨ i5 = g) by have := N5.out; omega)).trans p80
  have HS0 : (fun w' : World => w'.cell? ⟨i5, 80, none⟩ = some (.int .i64 (c.length : Int)) ∧ w'.cell? ⟨b, 1, none⟩ = some (.slice (some ⟨g, 0, none⟩) ns.length cap) ∧ w'.cell? ⟨g, q * 8 + 3, none⟩ = some (.int .i64 nd.l) ∧ w'.cell? ⟨g, q * 8 + 4, none⟩ = some (.int .i64 nd.r)) wy.drew := ⟨p80, c1, q3, q4⟩
  clear R
  have QC : Hid (q ∉ upPlaces c) := by
    obtain ⟨y, hnd, _⟩ := G.out.nd
    have nd1 := (nodup_plug c _).1 hnd
    simp only [Tr.places] at nd1
    rw [List.nodup_append] at nd1
    exact fun k => nd1.2.2 q (by simp) q k rfl
  go_region_held3 (fun w' => w'.cell? ⟨i5, 80, none⟩ = some (.int .i64 (c.length : Int)) ∧ w'.cell? ⟨b, 1, none⟩ = some (.slice (some ⟨g, 0, none⟩) ns.length cap) ∧ w'.cell? ⟨g, q * 8 + 3, none⟩ = some (.int .i64 nd.l) ∧ w'.cell? ⟨g, q * 8 + 4, none⟩ = some (.int .i64 nd.r))
    (first | with_reducible exact HS0 | with_reducible assumption)
    (first
      | (go_at_call 34; (with_reducible refine A3.mono ?_); rintro e w3 ⟨rfl, s3, b3⟩; have S7 := Lib.hid s3; have B7 := Lib.hid b3; have HS1 := And.intro (mkS w3 (((But.refl _ wy).drew).trans b3)) (And.intro (by have := s3.t.c1; rw [hangTop_len] at this; exact this) (And.intro (s3.cell q 3 nd (.int .i64 nd.l) (((hangTop_only _ _ _).2 q QC.out).trans ND.out) (by omega) rfl) (s3.cell q 4 nd (.int .i64 nd.r) (((hangTop_only _ _ _).2 q QC.out).trans ND.out) (by omega) rfl))); clear s3 b3 A3))
  clear HS0 HS1 mkS p80 c1 q3 q4 hmx
  -- the node is emptied
  have e2 : (hangTop ns c (place kept))[q]? = some nd := ((hangTop_only _ _ _).2 q QC.out).trans ND.out
  have HL2 : Hid ((hangTop ns c (place kept)).length = ns.length) := hangTop_len _ _ _
  obtain ⟨ns2, hns2⟩ : ∃ m, Hid (hangTop ns c (place kept) = m) := ⟨_, rfl⟩
  have FT2 : Hid (Fit ns2 40) := by show Fit _ _; rw [← hns2.out]; exact G.out.ft.top _ _ FTK.out
  rw [hns2.out] at e2 HL2 S7
  have c1 := S7.out.t.c1
  rw [HL2.out] at c1
  have z0 : w3.cell? ⟨g, q * 8, none⟩ = some (.int .i64 nd.x.f) := S7.out.cell q 0 nd (.int .i64 nd.x.f) e2 (by omega) rfl
  have z1 := S7.out.cell q 1 nd (.int .i64 nd.x.t) e2 (by omega) rfl
  have z2 := S7.out.cell q 2 nd (.int .i64 nd.x.i) e2 (by omega) rfl
  have z3 := S7.out.cell q 3 nd (.int .i64 nd.l) e2 (by omega) rfl
  have z4 := S7.out.cell q 4 nd (.int .i64 nd.r) e2 (by omega) rfl
  have z5 := S7.out.cell q 5 nd (.int .i64 nd.h) e2 (by omega) rfl
  have z6 := S7.out.cell q 6 nd (.int .i64 nd.top) e2 (by omega) rfl
  have z7 := S7.out.cell q 7 nd (.bool nd.used) e2 (by omega) rfl
  have f0 := S7.out.r.frozen (q * 8)
  have f1 := S7.out.r.frozen (q * 8 + 1)
  have f2 := S7.out.r.frozen (q * 8 + 2)
  have f3 := S7.out.r.frozen (q * 8 + 3)
  have f4 := S7.out.r.frozen (q * 8 + 4)
  have f5 := S7.out.r.frozen (q * 8 + 5)
  have f6 := S7.out.r.frozen (q * 8 + 6)
  have f7 := S7.out.r.frozen (q * 8 + 7)
  have S8 := Lib.hid (S7.out.put8 (n' := zeroNd) e2)
  have K8 : But (· = g) w3 ((((((((w3.setCell ⟨g, q * 8, none⟩ (.int .i64 0)).setCell ⟨g, q * 8 + 1, none⟩ (.int .i64 0)).setCell ⟨g, q * 8 + 2, none⟩ (.int .i64 0)).setCell ⟨g, q * 8 + 3, none⟩ (.int .i64 0)).setCell ⟨g, q * 8 + 4, none⟩ (.int .i64 0)).setCell ⟨g, q * 8 + 5, none⟩ (.int .i64 0)).setCell ⟨g, q * 8 + 6, none⟩ (.int .i64 0)).setCell ⟨g, q * 8 + 7, none⟩ (.bool false)) := (((((((But.refl (· = g) w3).set (show _ = g from rfl) _).set (show _ = g from rfl) _).set (show _ = g from rfl) _).set (show _ = g from rfl) _).set (show _ = g from rfl) _).set (show _ = g from rfl) _).set (show _ = g from rfl) _ |>.set (show _ = g from rfl) _
  replace K8 := Lib.hid K8
  clear e2
  go_upto_region 21 with fail
  clear c1 z0 z1 z2 z3 z4 z5 z6 z7 f0 f1 f2 f3 f4 f5 f6 f7
  obtain ⟨w4, hw4⟩ : ∃ v, Hid (v = ((((((((w3.setCell ⟨g, q * 8, none⟩ (.int .i64 0)).setCell ⟨g, q * 8 + 1, none⟩ (.int .i64 0)).setCell ⟨g, q * 8 + 2, none⟩ (.int .i64 0)).setCell ⟨g, q * 8 + 3, none⟩ (.int .i64 0)).setCell ⟨g, q * 8 + 4, none⟩ (.int .i64 0)).setCell ⟨g, q * 8 + 5, none⟩ (.int .i64 0)).setCell ⟨g, q * 8 + 6, none⟩ (.int .i64 0)).setCell ⟨g, q * 8 + 7, none⟩ (.bool false))) := ⟨_, rfl⟩
  replace S8 : Hid (St w4 B b g cap most (if c.length = 0 then place kept else place t) (t.size : Int) fv (ns2.set q zeroNd)) := by show St _ _ _ _ _ _ _ _ _ _; rw [hw4.out]; exact S8.out
  rw [← hw4.out] at K8 ⊢
  clear hw4 S7
  -- its place is free
  have K84 : Hid (But (fun k => k = b ∨ k = g ∨ k = i5) wx w4) := by
    refine But.trans (But.trans (K1.mono (fun _ z => .inr (.inr z))) (B7.out.mono (fun k z => ?_) |> fun h => But.trans ((But.refl _ wy).drew) h)) (K8.out.mono (fun _ z => .inr (.inl z)))
    rcases z with z | z
    · exact .inl z
    · exact .inr (.inl z)
  have RF := HR.out.rf
  have hfl : free.length < 1000001 := by have := H.out.sz; have := H.out.le; have := H.out.m2; omega
  have RF4 := owns_but RF K84.out (fun k hk hs => by rcases hs with rfl | rfl | rfl; exact HR.out.bf hk; exact HR.out.gf hk; exact HR.out.f5 hk)
  have KA := Lib.hid ((But.refl (fun _ => False) w4).alloc (Obj.cells #[Value.int .i64 (q : Int)] 3))
  have RFA := Lib.hid (owns_but RF4 KA.out (fun _ _ z => z))
  have T0 := Lib.hid S8.out.t.lt
  have T1 : Hid (b < (w4.alloc (Obj.cells #[Value.int .i64 (q : Int)] 3)).heap.size) := by have := T0.out; show _ < _; rw [World.size_alloc]; omega
  have hB : Hid (B ≤ (w4.alloc (Obj.cells #[Value.int .i64 (q : Int)] 3)).heap.size) := by have := T1.out; have := H.out.bB; show _ ≤ _; omega
  have HFL := Lib.hid hfl
  have NC : Hid ((w4.alloc (Obj.cells #[Value.int .i64 (q : Int)] 3)).cell? ⟨w4.heap.size, 0, none⟩ = some (.int .i64 (q : Int))) := by show _ = _; simp
  have c2 := S8.out.t.c2
  have F2 := Lib.hid (S8.out.t.f 2)
  clear RF hfl RF4
  go_upto_region 22 with (at_builtin; go_loud (refine app_int rfl _ _ rfl B fv free q rfl RFA.out w4.heap.size rfl NC.out HFL.out hB.out ?_; intro af capf w5 r1 k1 l1; have R5 := Lib.hid r1; have K5 := Lib.hid k1; have L5 := Lib.hid l1; clear r1 k1 l1; replace c2 := (KA.out.cell (p := ⟨b, 2, none⟩) T0.out (fun h => h)).trans c2; replace c2 := (K5.out.cell (p := ⟨b, 2, none⟩) T1.out HR.out.bf).trans c2; have f2 := ((K5.out.frozen (p := ⟨b, 2, none⟩) T1.out HR.out.bf).trans ((KA.out.frozen (p := ⟨b, 2, none⟩) T0.out (fun h => h)).trans F2.out))))
  obtain ⟨fv', hfv⟩ : ∃ v, Hid (Value.slice af (free.length + 1) capf = v) := ⟨_, rfl⟩
  rw [hfv.out] at R5 L5 ⊢
  clear c2 f2 hfv
  have bf5 : fv'.ownBlock ≠ some b := by
    rcases L5.out with z | z
    · rw [z]; exact HR.out.bf
    · rw [z]; intro e; have := T1.out; simp only [Option.some.injEq] at e; omega
  have gf5 : fv'.ownBlock ≠ some g := by
    rcases L5.out with z | z
    · rw [z]; exact HR.out.gf
    · rw [z]; intro e; have := S8.out.r.lt.1; rw [World.size_alloc] at e; simp only [Option.some.injEq] at e; omega
  have of5 : ∀ k, fv'.ownBlock = some k → fv.ownBlock = some k ∨ w.heap.size ≤ k := by
    intro k hk
    rcases L5.out with z | z
    · left; rw [← z]; exact hk
    · right; rw [z, World.size_alloc] at hk; have := HR.out.sz; have := K84.out.size; simp only [Option.some.injEq] at hk; omega
  have KS : But (· = b) w5 (w5.setCell ⟨b, 2, none⟩ fv') := (But.refl (· = b) w5).set (show _ = b from rfl) _
  have t5 : TAt w5 b most (.slice (some ⟨g, 0, none⟩) (ns2.set q zeroNd).length cap) fv (if c.length = 0 then place kept else place t) (t.size : Int) := by
    have := S8.out.t
    unfold TAt at this ⊢
    exact (K5.out.block b T1.out HR.out.bf).trans ((KA.out.block b T0.out (fun z => z)).trans this)
  have g5 : w5.heap[g]? = w4.heap[g]? := (K5.out.block g (by have := S8.out.r.lt.1; rw [World.size_alloc]; omega) HR.out.gf).trans (KA.out.block g S8.out.r.lt.1 (fun z => z))
  have gb : g ≠ b := fun z => S8.out.ne z.symm
  have S9 : Hid (St (w5.setCell ⟨b, 2, none⟩ fv') B b g cap most (if c.length = 0 then place kept else place t) (t.size : Int) fv' (ns2.set q zeroNd)) :=
    St.tree (cs := cs) S8.out ((KS.block g (by have := K5.out.size; have := S8.out.r.lt.1; rw [World.size_alloc] at *; omega) gb).trans g5) ((TAt_set t5).2.1 _)
  have K49 : But (fun k => k = b ∨ k = g ∨ fv.ownBlock = some k ∨ k = i5) w4 (w5.setCell ⟨b, 2, none⟩ fv') :=
    ((KA.out.mono (fun _ z => z.elim)).trans (K5.out.mono (fun _ z => .inr (.inr (.inl z))))).trans (KS.mono (fun _ z => .inl z))
  have K9 := Lib.hid (But.trans (K84.out.mono (fun k z => (by rcases z with z | z | z; exact .inl z; exact .inr (.inl z); exact .inr (.inr (.inr z)) : k = b ∨ k = g ∨ fv.ownBlock = some k ∨ k = i5))) K49)
  have RF9 := Lib.hid (owns_but R5.out KS (fun k hk hs => bf5 (by rw [hk, hs])))
  have P9 : Hid (PAt (w5.setCell ⟨b, 2, none⟩ fv') i5 cs4) := by
    have a1 := P4.out.but ((But.refl (fun k => k = b ∨ k = g) wy).drew.trans B7.out) (by have := N5.out; omega)
    have a2 := a1.but K8.out (by have := N5.out; omega)
    have a3 := (a2.but KA.out (fun z => z)).but K5.out HR.out.f5
    exact a3.but KS (by have := N5.out; omega)
  have B5 := Lib.hid (And.intro bf5 (And.intro gf5 of5))
  obtain ⟨w6, hw6⟩ : ∃ v, Hid (v = w5.setCell ⟨b, 2, none⟩ fv') := ⟨_, rfl⟩
  rw [← hw6.out] at S9 K9 RF9 P9 ⊢
  clear hw6 KS t5 g5 K49 bf5 gf5 of5 S8 K8 KA K5 R5 L5 T0 T1
  -- one item less
  have c4 := S9.out.t.c4
  have f4 := S9.out.t.f 4
  have hsz : 1 ≤ t.size ∧ t.size ≤ 1000000 := by have := H.out.small.1; have := perm_size (t := Tr.mendZ c kept) (t' := t) G.out.pm.symm; omega
  have hw4 : wrap64 ((t.size : Int) - 1) = (t.size : Int) - 1 := IntWalk.wrap64_in _ (by omega)
  have hw5 : IntKind.i64.wrap ((t.size : Int) - 1) = (t.size : Int) - 1 := by rw [IntWalk.i64_left, hw4]
  clear hsz
  go_upto_region 23 with fail
  clear c4 f4 hw4 hw5
  have S10 := Lib.hid (S9.out.count ((t.size : Int) - 1))
  have K10 : But (· = b) w6 (w6.setCell ⟨b, 4, none⟩ (.int .i64 ((t.size : Int) - 1))) := (But.refl (· = b) w6).set (show _ = b from rfl) _
  have P10 := Lib.hid (P9.out.but K10 (by have := N5.out; omega))
  replace K10 := Lib.hid K10
  obtain ⟨w7, hw7⟩ : ∃ v, Hid (v = w6.setCell ⟨b, 4, none⟩ (.int .i64 ((t.size : Int) - 1))) := ⟨_, rfl⟩
  rw [← hw7.out] at S10 K10 P10 ⊢
  clear hw7 S9 P9
  have A4 := mend_st (cr := c.reverse) (q := i5) S10.out (by rw [List.length_reverse]; have := CL.out; omega) (by rw [List.length_set, HL2.out]; exact WLR.out) P10.out.lt N5.out.1 N5.out.2 (P10.out.pathIn C4.out) (by rw [List.length_reverse]; exact P10.out.cell 80 C4.out.n) (zero_fit FT2.out (by rw [HL2.out]; have := (List.getElem?_eq_some_iff.1 ND.out).1; omega)) (by omega) (place kept) (fun z => by rw [if_pos (by simpa using z)])
  rw [List.reverse_reverse] at A4
  go_wp2_with (go_at_call 35; (with_reducible refine A4.mono ?_); rintro e w8 ⟨rfl, s8, b8⟩; have S11 := Lib.hid s8; have K11 := Lib.hid b8; clear s8 b8 A4)
  go_ret
  have K12 : But (fun k => k = b ∨ k = g ∨ fv.ownBlock = some k ∨ k = i5) wx w8 := (K9.out.trans (K10.out.mono (fun _ z => .inl z))).trans (K11.out.mono (fun k z => (by rcases z with z | z; exact .inl z; exact .inr (.inl z) : k = b ∨ k = g ∨ fv.ownBlock = some k ∨ k = i5)))
  have RF12 := owns_but (owns_but RF9.out K10.out (fun k hk hs => B5.out.1 (by rw [hk, hs]))) K11.out (fun k hk hs => by rcases hs with hs | hs; exact B5.out.1 (by rw [hk, hs]); exact B5.out.2.1 (by rw [hk, hs]))
  have T := gone_done H.out HR.out G.out (by first | rfl | exact List.length_set) (by rw [hns2.out]; exact S11.out) RF12 B5.out.1 B5.out.2.1 B5.out.2.2 K12 (by have := s5.out; omega)
  exact ⟨rfl, T⟩
end Go.Proofs.Ytmgljgmfipodeaa.Av
