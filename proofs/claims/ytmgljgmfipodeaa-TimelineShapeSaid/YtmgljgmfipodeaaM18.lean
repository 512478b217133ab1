/-
  avl: Insert, walked.
-/
import Derived.Test.YtmgljgmfipodeaaM17
/-
  avl: Insert, walked.
-/
namespace Go.Proofs.Ytmgljgmfipodeaa.Av
open Go Go.RowKit
set_option linter.unusedSimpArgs false
set_option linter.unusedVariables false
attribute [local go_sem ↓] Go.wp_at_zero Go.wp_at_succ

/-- the document's answer to a put, in words of the row -/
def putA (most : Int) (x : It) (L : List It) : Int × List It :=
  if x.t ≤ x.f then (2, L) else if x ∈ L then (6, L) else if (L.length : Int) = most then (7, L) else (0, Tr.under x L ++ x :: Tr.beyond x L)
/-- a tree that holds a row of items; O: its blocks -/
def TreeIs (w : World) (B b : Nat) (most : Int) (O : Nat → Prop) (L : List It) : Prop := ∃ t ns free nv fv, Tre w B b most t ns free nv fv ∧ t.items = L ∧ O = own b nv fv
theorem TreeIs.but {S : Nat → Prop} {w w' : World} {B b : Nat} {most : Int} {O : Nat → Prop} {L : List It} (h : TreeIs w B b most O L) (k : But S w w') (hs : ∀ g, O g → ¬ S g) : TreeIs w' B b most O L := by
  obtain ⟨t, ns, free, nv, fv, h, e, rfl⟩ := h
  exact ⟨t, ns, free, nv, fv, h.but k hs, e, rfl⟩
/-- what a call that changes the tree leaves -/
def Turned (w w' : World) (B b : Nat) (most : Int) (O : Nat → Prop) (L' : List It) : Prop := ∃ O', TreeIs w' B b most O' L' ∧ But O w w' ∧ ∀ k, O' k → O k ∨ w.heap.size ≤ k
theorem Turned.same {w w' : World} {B b : Nat} {most : Int} {O : Nat → Prop} {L : List It} (h : TreeIs w B b most O L) (k : Below w.heap.size w w') : Turned w w' B b most O L := by
  refine ⟨O, h.but (Below.but k (fun _ => False)) (fun _ _ z => z), Below.but k _, fun k h => .inl h⟩

set_option maxRecDepth 100000 in
theorem insert_no {w : World} {B b : Nat} {most : Int} {t : Tr} {ns : List Nd} {free : List Nat} {nv fv : Value} {x : It} (h : Tre w B b most t ns free nv fv) (hx : x.t ≤ x.f ∨ x ∈ t.items ∨ (t.size : Int) = most) :
    Calls Try.prog 25 #[.pointer (some ⟨b, 0, none⟩), .agg #[.int .i64 x.f, .int .i64 x.t, .int .i64 x.i]] w fun e w' => e = .returned (.int .i64 (putA most x t.items).1) ∧ Below w.heap.size w w' := by
  have B0 := ba w (.cells #[.int .i64 x.f, .int .i64 x.t, .int .i64 x.i] 54)
  have h1 := h.but (Below.but B0 (fun _ => False)) (fun _ _ k => k)
  have A := none_at h1.tt
  rw [show decide (most = 0) = false by have := h.m1; simp; omega] at A
  have D := down_tre (x := x) h1
  rw [mem_way h.ok] at D
  have zz := path_zero
  have H1 := Lib.hid h1
  have B1 := Lib.hid B0
  have SZ : Hid (t.items.length = t.size) := Tr.size_items t
  by_cases hg : x.t ≤ x.f
  · have e : (putA most x t.items).1 = 2 := by unfold putA; rw [if_pos hg]
    rw [e]
    clear h h1 hx D B0 zz e
    go_enter Try.func25, Try.ntmps25
    go_wp2_with (go_at_call 31; (with_reducible refine A.mono ?_); rintro e w20 ⟨rfl, rfl⟩)
    go_ret
    exact ⟨rfl, B1.out⟩
  · have hg' : ¬ x.t ≤ x.f := hg
    by_cases hm : x ∈ t.items
    · have e : (putA most x t.items).1 = 6 := by unfold putA; rw [if_neg hg, if_pos hm]
      rw [e]
      rw [decide_eq_true hm] at D
      clear h h1 hx B0 e hm
      go_enter Try.func25, Try.ntmps25
      go_wp2_with (first
        | (go_at_call 31; (with_reducible refine A.mono ?_); rintro e w20 ⟨rfl, rfl⟩)
        | (go_at_call 33; (with_reducible refine D.mono ?_); rintro e w21 ⟨cs, rfl, pc, b1⟩; have B2 := Lib.hid b1; have PC := Lib.hid pc; clear b1 pc)
        | (refine wpList_plain rfl fun _ hK => wp_store_row 82 _ _ rfl w21.heap.size cs rfl rfl 82 pathZ (heap_alloc_new w21 _) (by rw [PC.out.pc.size]; exact path_size) (by rw [PC.out.pc.size]; exact pathZ_ok.size) PC.out.pc.one (hK _ _ ?_); rw [World.setRow_alloc_new]))
      go_ret
      exact ⟨rfl, bt B1.out (bt B2.out (ba _ _))⟩
    · have hs : (t.size : Int) = most := by rcases hx with k | k | k; exact absurd k hg; exact absurd k hm; exact k
      have e : (putA most x t.items).1 = 7 := by unfold putA; rw [if_neg hg, if_neg hm, if_pos (by rw [SZ.out]; exact hs)]
      rw [e]
      rw [decide_eq_false hm] at D
      clear h h1 hx B0 e hm
      go_enter Try.func25, Try.ntmps25
      go_upto_region 8 with (first
        | (go_at_call 31; (with_reducible refine A.mono ?_); rintro e w20 ⟨rfl, rfl⟩)
        | (go_at_call 33; (with_reducible refine D.mono ?_); rintro e w21 ⟨cs, rfl, pc, b1⟩; have B2 := Lib.hid b1; have PC := Lib.hid pc; clear b1 pc)
        | (refine wpList_plain rfl fun _ hK => wp_store_row 82 _ _ rfl w21.heap.size cs rfl rfl 82 pathZ (heap_alloc_new w21 _) (by rw [PC.out.pc.size]; exact path_size) (by rw [PC.out.pc.size]; exact pathZ_ok.size) PC.out.pc.one (hK _ _ ?_); rw [World.setRow_alloc_new]))
      have h2 := H1.out.but (Below.but (bt B2.out (ba _ (.cells cs 82))) (fun _ => False)) (fun _ _ k => k)
      have c0 := h2.tt.c0
      have c4 := h2.tt.c4
      have B3 := Lib.hid (bt B1.out (bt B2.out (ba _ (.cells cs 82))))
      clear h2
      obtain ⟨wd, hwd⟩ : ∃ v, Hid (v = w21.alloc (Obj.cells cs 82)) := ⟨_, rfl⟩
      rw [← hwd.out] at c0 c4 B3 ⊢
      clear hwd
      go_quiet (fail)
      go_wp2_with fail
      go_ret
      exact ⟨rfl, bdN B3.out _⟩
/-- what stands ahead of the node's store -/
structure Mid (w wx : World) (B b : Nat) (most : Int) (t : Tr) (O : Nat → Prop) (i3 i5 : Nat) (x : It) (cs : Array Value) (p g cap : Nat) (fv' : Value) (ns' : List Nd) (free' : List Nat) : Prop where
  st : St wx B b g cap most (place t) (t.size : Int) fv' ns'
  rf : RowI wx B fv' free'
  bf : fv'.ownBlock ≠ some b
  gf : fv'.ownBlock ≠ some g
  pa : PAt wx i5 cs
  xa : ItAt wx i3 x
  bt : But O w wx
  pl : p < ns'.length
  pt : p ∉ t.places
  ls : Lies ns' t
  ft : Fit ns' 40
  sz : ns'.length = t.size + 1 + free'.length
  le : (ns'.length : Int) ≤ most
  ap : (p :: free' ++ t.places).Nodup
  fl : ∀ q ∈ free', q < ns'.length
  og : ∀ k, (k = g ∨ fv'.ownBlock = some k) → O k ∨ w.heap.size ≤ k
  n5 : i5 ≠ g ∧ i5 ≠ b ∧ i3 ≠ g ∧ i3 ≠ b
theorem But.into {S O : Nat → Prop} {a w w' : World} (h : But O a w) (k : But S w w') (hs : ∀ i, i < a.heap.size → S i → O i) : But O a w' :=
  ⟨k.os.trans h.os, k.tape.trans h.tape, k.output.trans h.output, Nat.le_trans h.size k.size, fun i hi ho => (k.block i (Nat.lt_of_lt_of_le hi h.size) (fun z => ho (hs i hi z))).trans (h.block i hi ho)⟩
theorem liesUp_lt {ns : List Nd} {c : List Tr.Fr} {d : Int} (h : LiesUp ns c d) : ∀ f ∈ c, f.p < ns.length := by
  induction c generalizing d with
  | nil => intro f hf; simp at hf
  | cons f c ih =>
    obtain ⟨⟨hh, tt, h1⟩, _, h3⟩ := h
    intro f' hf
    rcases List.mem_cons.1 hf with rfl | hf
    · exact (List.getElem?_eq_some_iff.1 h1).1
    · exact ih h3 f' hf
theorem way_lt {ns : List Nd} {t : Tr} (x : It) (h : Lies ns t) : ∀ f ∈ (Tr.way x t []).1, f.p < ns.length := liesUp_lt (liesUp_way x t [] h trivial).1
theorem mid_done {w wf w4 : World} {B b : Nat} {most : Int} {t : Tr} {ns : List Nd} {free : List Nat} {nv fv : Value} {i3 i5 : Nat} {x : It} {cs : Array Value} {p g cap : Nat} {fv' : Value} {ns' : List Nd} {free' : List Nat}
    (H : Tre w B b most t ns free nv fv) (M : Mid w wf B b most t (own b nv fv) i3 i5 x cs p g cap fv' ns' free') (hw : (Tr.way x t []).2 = .nil)
    (S4 : St w4 B b g cap most (mendAll (hangTop (ns'.set p (putNd x)) (Tr.way x t []).1 (p : Int)) (Tr.way x t []).1 (p : Int)).1 ((t.size : Int) + 1) fv' (mendAll (hangTop (ns'.set p (putNd x)) (Tr.way x t []).1 (p : Int)) (Tr.way x t []).1 (p : Int)).2)
    (K : But (fun k => k = b ∨ k = g) wf w4) : Turned w w4 B b most (own b nv fv) (Tr.under x t.items ++ x :: Tr.beyond x t.items) := by
  have hsm : t.size < 1000000 := by have := M.sz; have := M.le; have := H.m2; omega
  obtain ⟨m, t', e, h1, h2, h3, h4, h5, h6, h7, h8⟩ := put_all H.ok M.ls x hw p M.pt M.pl M.ft hsm
  rw [← e] at S4
  have gb : g ≠ b := fun z => M.st.ne z.symm
  refine ⟨own b (.slice (some ⟨g, 0, none⟩) m.2.length cap) fv', ⟨t', m.2, free', _, fv', ?_, h8, rfl⟩, M.bt.into K (fun k hk hs => ?_), fun k hk => ?_⟩
  · refine { tt := ?_, rn := S4.r, rf := owns_but M.rf K (fun k hk hs => ?_), bn := ?_, bf := M.bf, nf := fun k hk => ?_, bB := H.bB, m1 := H.m1, m2 := H.m2, ok := h3, ls := h2, ft := h5, sz := ?_, le := ?_, ap := ?_, fl := fun q hq => ?_ }
    · have := S4.t
      rw [h1] at this
      rw [h7]; exact this
    · rcases hs with rfl | rfl
      · exact M.bf hk
      · exact M.gf hk
    · simp [Value.ownBlock, gb]
    · simp only [Value.ownBlock, Option.some.injEq] at hk; subst hk; exact M.gf
    · rw [h6, M.sz, h7]
    · rw [h6]; exact M.le
    · have := M.ap
      rw [List.Perm.nodup_iff (List.Perm.append_left free' h4)]
      refine (List.Perm.nodup_iff ?_).1 this
      simp only [List.cons_append]
      exact List.perm_middle.symm
    · rw [h6]; exact M.fl q hq
  · rcases hs with rfl | rfl
    · exact .inl rfl
    · rcases M.og _ (.inl rfl) with z | z
      · exact z
      · omega
  · rcases hk with rfl | hk | hk
    · exact .inl (.inl rfl)
    · simp only [Value.ownBlock, Option.some.injEq] at hk
      exact M.og k (.inl hk.symm)
    · exact M.og k (.inr hk)
theorem put8_but {wf : World} {g p : Nat} {x : It} : But (· = g) wf ((((((((wf.setCell ⟨g, p * 8, none⟩ (.int .i64 x.f)).setCell ⟨g, p * 8 + 1, none⟩ (.int .i64 x.t)).setCell ⟨g, p * 8 + 2, none⟩ (.int .i64 x.i)).setCell ⟨g, p * 8 + 3, none⟩ (.int .i64 (-1))).setCell ⟨g, p * 8 + 4, none⟩ (.int .i64 (-1))).setCell ⟨g, p * 8 + 5, none⟩ (.int .i64 1)).setCell ⟨g, p * 8 + 6, none⟩ (.int .i64 x.t)).setCell ⟨g, p * 8 + 7, none⟩ (.bool true)).drew :=
  (((((((((But.refl (· = g) wf).set (show _ = g from rfl) _).set (show _ = g from rfl) _).set (show _ = g from rfl) _).set (show _ = g from rfl) _).set (show _ = g from rfl) _).set (show _ = g from rfl) _).set (show _ = g from rfl) _).set (show _ = g from rfl) _).drew
theorem put_fit {ns : List Nd} {p : Nat} {x : It} (h : Fit ns 40) : Fit (ns.set p (putNd x)) 40 := by
  refine ⟨h.1, fun n hn => ?_⟩
  rw [List.length_set]
  rcases List.mem_or_eq_of_mem_set hn with k | rfl
  · exact h.2 n k
  · simp only [putNd]; omega
set_option maxRecDepth 100000 in
set_option maxHeartbeats 2000000 in
theorem insert_pop {w : World} {B b : Nat} {most : Int} {t : Tr} {ns : List Nd} {fr : List Nat} {p : Nat} {nv fv : Value} {x : It} (h : Tre w B b most t ns (fr ++ [p]) nv fv) (hx : x.f < x.t) (hm : x ∉ t.items) (hs : (t.size : Int) < most) :
    Calls Try.prog 25 #[.pointer (some ⟨b, 0, none⟩), .agg #[.int .i64 x.f, .int .i64 x.t, .int .i64 x.i]] w fun e w' => e = .returned (.int .i64 0) ∧ Turned w w' B b most (own b nv fv) (Tr.under x t.items ++ x :: Tr.beyond x t.items) := by
  have B0 := ba w (.cells #[.int .i64 x.f, .int .i64 x.t, .int .i64 x.i] 54)
  have X0 := itAt_new w x
  have h1 := h.but (Below.but B0 (fun _ => False)) (fun _ _ k => k)
  have A := none_at h1.tt
  rw [show decide (most = 0) = false by have := h.m1; simp; omega] at A
  have D := down_tre (x := x) h1
  rw [mem_way h.ok, decide_eq_false hm] at D
  have zz := path_zero
  have H := Lib.hid h
  have H1 := Lib.hid h1
  have B1 := Lib.hid B0
  replace X0 := Lib.hid X0
  have hg : ¬ x.t ≤ x.f := by omega
  have HW : Hid ((Tr.way x t []).2 = .nil) := by
    have := mem_way (x := x) h.ok
    rw [decide_eq_false hm] at this
    show _ = _
    generalize (Tr.way x t []).2 = s at this
    cases s with
    | nil => rfl
    | nd p y l r => simp [Tr.isNil] at this
  have HS := Lib.hid hs
  clear h h1 B0 hm hs
  go_enter Try.func25, Try.ntmps25
  go_upto_region 8 with (first
    | (go_at_call 31; (with_reducible refine A.mono ?_); rintro e w20 ⟨rfl, rfl⟩)
    | (go_at_call 33; (with_reducible refine D.mono ?_); rintro e w21 ⟨cs, rfl, pc, b1⟩; have B2 := Lib.hid b1; have PC := Lib.hid pc; clear b1 pc)
    | (refine wpList_plain rfl fun _ hK => wp_store_row 82 _ _ rfl w21.heap.size cs rfl rfl 82 pathZ (heap_alloc_new w21 _) (by rw [PC.out.pc.size]; exact path_size) (by rw [PC.out.pc.size]; exact pathZ_ok.size) PC.out.pc.one (hK _ _ ?_); rw [World.setRow_alloc_new]))
  have h2 := H1.out.but (Below.but (bt B2.out (ba _ (.cells cs 82))) (fun _ => False)) (fun _ _ k => k)
  have P2 : PAt (w21.alloc (Obj.cells cs 82)) w21.heap.size cs := heap_alloc_new w21 _
  have X2 := (X0.out.below B2.out).below (ba _ (.cells cs 82))
  have B3 := Lib.hid (bt B1.out (bt B2.out (ba _ (.cells cs 82))))
  have s5 : Hid (w.heap.size < w21.heap.size) := by have := B2.out.size; rw [World.size_alloc] at this; show _ < _; omega
  clear H1 A D X0 zz
  obtain ⟨wd, hwd⟩ : ∃ v, Hid (v = w21.alloc (Obj.cells cs 82)) := ⟨_, rfl⟩
  rw [← hwd.out] at h2 P2 X2 B3 ⊢
  obtain ⟨i5, hi5⟩ : ∃ i, Hid (w21.heap.size = i) := ⟨_, rfl⟩
  rw [hi5.out] at P2 s5 ⊢
  obtain ⟨i3, hi3⟩ : ∃ i, Hid (w.heap.size = i) := ⟨_, rfl⟩
  rw [hi3.out] at X2 s5 ⊢
  have H2 := Lib.hid h2
  have c0 := h2.tt.c0
  have c4 := h2.tt.c4
  have hne : ¬ ((t.size : Int) = most) := by have := HS.out; omega
  replace P2 := Lib.hid P2
  replace X2 := Lib.hid X2
  clear hwd hi5 B1 B2 h2
  go_quiet (fail)
  clear c0 c4 hg
  have H3 := Lib.hid (H2.out.but (w' := wd.drewN nq) (Below.but (bdN (Below.refl _ _) nq) (fun _ => False)) (fun _ _ k => k))
  have P3 : Hid (PAt (wd.drewN nq) i5 cs) := P2.out
  have X3 : Hid (ItAt (wd.drewN nq) i3 x) := X2.out
  have B4 := Lib.hid (bdN B3.out nq)
  obtain ⟨we, hwe⟩ : ∃ v, Hid (v = wd.drewN nq) := ⟨_, rfl⟩
  rw [← hwe.out] at H3 P3 X3 B4 ⊢
  clear hwe H2 P2 X2 B3
  obtain ⟨an, cap, rfl, _, hgn⟩ := row_form H3.out.rn
  obtain ⟨af, capf, rfl, hcf, hgf⟩ := row_form H3.out.rf
  have hpl := H3.out.fl p (by simp)
  obtain ⟨g, rfl⟩ := hgn (by omega)
  obtain ⟨gf, rfl⟩ := hgf (by simp)
  rw [List.length_append, List.length_singleton] at H3 H hcf
  have c1 := H3.out.tt.c1
  have c2 := H3.out.tt.c2
  have f2 := H3.out.tt.f 2
  have hp := rowI_cell (xs := fr ++ [p]) (by rw [List.length_append, List.length_singleton]; exact H3.out.rf) fr.length p (by simp)
  have n0 : (0 : Int) ≤ (fr.length : Int) := by omega
  have n1 : (fr.length : Int) < (((fr.length + 1 : Nat)) : Int) := by omega
  have n2 : (fr.length : Int) ≤ (capf : Int) := by omega
  have hsm := H3.out.sz
  have hsl := H3.out.le
  have hsk := H3.out.m2
  rw [List.length_append, List.length_singleton] at hsm
  have hfl : (fr.length : Int) ≤ 1000000 := by omega
  clear hsm hsl hsk
  have hw3 : wrap64 (fr.length : Int) = (fr.length : Int) := IntWalk.wrap64_in _ (by omega)
  have hw2 : IntKind.i64.wrap ((fr.length : Int) + 1 - 1) = (fr.length : Int) := by rw [Int.add_sub_cancel, IntWalk.i64_left, hw3]
  have HPL := Lib.hid hpl
  have gt : (0 : Int) < (fr.length : Int) + 1 := by omega
  clear hpl
  go_upto_region 13 with fail
  clear hne
  go_region
  go_upto_region 15 with fail
  clear c1 c2 f2 hp n0 n1 n2 hw3 hw2 gt hfl hcf hgn hgf
  have gfb : gf ≠ b := fun z => H3.out.bf (by rw [z]; rfl)
  have ggf : g ≠ gf := fun z => H3.out.nf g rfl (by rw [z]; rfl)
  have gb : g ≠ b := fun z => H3.out.bn (by rw [z]; rfl)
  have K2 : But (· = b) we ((we.setCell ⟨b, 2, none⟩ (.slice (some ⟨gf, 0, none⟩) fr.length capf)).drew) := ((But.refl (· = b) we).set (show _ = b from rfl) _).drew
  have M : Mid w ((we.setCell ⟨b, 2, none⟩ (.slice (some ⟨gf, 0, none⟩) fr.length capf)).drew) B b most t (own b (.slice (some ⟨g, 0, none⟩) ns.length cap) (.slice (some ⟨gf, 0, none⟩) (fr.length + 1) capf)) i3 i5 x cs p g cap (.slice (some ⟨gf, 0, none⟩) fr.length capf) ns fr := by
    have h := H3.out
    have hb := h.tt.lt
    have hgl := RowN.lt (h.rn)
    have s5' := s5.out
    have hb0 := H.out.tt.lt
    have hgl0 := RowN.lt (H.out.rn)
    have e3 := hi3.out
    refine { st := ?_, rf := ?_, bf := by simp [Value.ownBlock, gfb], gf := by simp only [Value.ownBlock, ne_eq, Option.some.injEq]; exact fun z => ggf z.symm, pa := P3.out.but K2 (by omega), xa := X3.out.but K2 (by omega), bt := ?_, pl := HPL.out, pt := ?_, ls := h.ls, ft := h.ft, sz := ?_, le := h.le, ap := ?_, fl := fun q hq => h.fl q (by simp [hq]), og := ?_, n5 := by omega }
    · exact (St.tree (cs := cs) (w := we) ⟨h.tt, h.rn, fun z => gb z.symm⟩ (K2.block g hgl.1 gb) ((TAt_set h.tt).2.1 _))
    · have r : RowI we B (.slice (some ⟨gf, 0, none⟩) (fr.length + 1) capf) (fr ++ [p]) := h.rf
      exact owns_but (rowI_pop r) K2 (fun k hk hs => by simp only [Value.ownBlock, Option.some.injEq] at hk; omega)
    · refine But.into (S := (· = b)) (Below.but B4.out _) K2 (fun k hk hs => .inl hs)
    · have := h.ap
      rw [List.nodup_append] at this
      exact fun z => this.2.2 p (by simp) p z rfl
    · have := h.sz; rw [List.length_append, List.length_singleton] at this; omega
    · have := h.ap
      refine (List.Perm.nodup_iff (List.Perm.append_right _ ?_)).1 this
      exact List.perm_append_singleton p fr
    · rintro k (rfl | hk)
      · exact .inl (.inr (.inl rfl))
      · exact .inl (.inr (.inr hk))
  obtain ⟨wf, hwf⟩ : ∃ v, Hid (v = (we.setCell ⟨b, 2, none⟩ (.slice (some ⟨gf, 0, none⟩) fr.length capf)).drew) := ⟨_, rfl⟩
  rw [← hwf.out] at M ⊢
  clear hwf K2 gfb ggf gb H3 P3 X3 B4 HPL s5
  have HM := Lib.hid M
  obtain ⟨nd, hn⟩ : ∃ nd, ns[p]? = some nd := ⟨_, List.getElem?_eq_getElem M.pl⟩
  have c1 := M.st.t.c1
  have p0 : (0 : Int) ≤ (p : Int) := by omega
  have p1 : (p : Int) < ((ns.length : Nat) : Int) := by have := M.pl; omega
  have x0 := M.xa.c0
  have x1 := M.xa.c1
  have x2 := M.xa.c2
  have q0 : wf.cell? ⟨g, p * 8, none⟩ = some (.int .i64 nd.x.f) := M.st.cell p 0 nd (.int .i64 nd.x.f) hn (by omega) rfl
  have q1 := M.st.cell p 1 nd (.int .i64 nd.x.t) hn (by omega) rfl
  have q2 := M.st.cell p 2 nd (.int .i64 nd.x.i) hn (by omega) rfl
  have q3 := M.st.cell p 3 nd (.int .i64 nd.l) hn (by omega) rfl
  have q4 := M.st.cell p 4 nd (.int .i64 nd.r) hn (by omega) rfl
  have q5 := M.st.cell p 5 nd (.int .i64 nd.h) hn (by omega) rfl
  have q6 := M.st.cell p 6 nd (.int .i64 nd.top) hn (by omega) rfl
  have q7 := M.st.cell p 7 nd (.bool nd.used) hn (by omega) rfl
  have f0 := M.st.r.frozen (p * 8)
  have f1 := M.st.r.frozen (p * 8 + 1)
  have f2 := M.st.r.frozen (p * 8 + 2)
  have f3 := M.st.r.frozen (p * 8 + 3)
  have f4 := M.st.r.frozen (p * 8 + 4)
  have f5 := M.st.r.frozen (p * 8 + 5)
  have f6 := M.st.r.frozen (p * 8 + 6)
  have f7 := M.st.r.frozen (p * 8 + 7)
  have HN := Lib.hid hn
  clear M hn
  go_region
  clear c1 p0 p1 x0 x1 x2 q0 q1 q2 q3 q4 q5 q6 q7 f0 f1 f2 f3 f4 f5 f6 f7
  have S5 := Lib.hid ((HM.out.st.put8 (n' := putNd x) HN.out).drew)
  have K5 := Lib.hid (put8_but (wf := wf) (g := g) (p := p) (x := x))
  obtain ⟨wg, hwg⟩ : ∃ v, Hid (v = ((((((((wf.setCell ⟨g, p * 8, none⟩ (.int .i64 x.f)).setCell ⟨g, p * 8 + 1, none⟩ (.int .i64 x.t)).setCell ⟨g, p * 8 + 2, none⟩ (.int .i64 x.i)).setCell ⟨g, p * 8 + 3, none⟩ (.int .i64 (-1))).setCell ⟨g, p * 8 + 4, none⟩ (.int .i64 (-1))).setCell ⟨g, p * 8 + 5, none⟩ (.int .i64 1)).setCell ⟨g, p * 8 + 6, none⟩ (.int .i64 x.t)).setCell ⟨g, p * 8 + 7, none⟩ (.bool true)).drew) := ⟨_, rfl⟩
  replace S5 : Hid (St wg B b g cap most (place t) (t.size : Int) (.slice (some ⟨gf, 0, none⟩) fr.length capf) (ns.set p (putNd x))) := by show St _ _ _ _ _ _ _ _ _ _; rw [hwg.out]; exact S5.out
  rw [← hwg.out] at K5 ⊢
  have c4 := S5.out.t.c4
  have f4 := S5.out.t.f 4
  have hsz : (t.size : Int) < 1000000 := by have := HS.out; have := H.out.m2; omega
  have hw4 : wrap64 ((t.size : Int) + 1) = (t.size : Int) + 1 := IntWalk.wrap64_in _ (by omega)
  have hw5 : IntKind.i64.wrap ((t.size : Int) + 1) = (t.size : Int) + 1 := by rw [IntWalk.i64_left, hw4]
  clear hwg hsz
  go_upto_region 17 with fail
  clear c4 f4 hw4 hw5
  have S6 := Lib.hid (S5.out.count ((t.size : Int) + 1))
  have K6 : But (fun k => k = b ∨ k = g) wf (wg.setCell ⟨b, 4, none⟩ (.int .i64 ((t.size : Int) + 1))) := (K5.out.mono (fun _ z => .inr z)).set (p := ⟨b, 4, none⟩) (.inl rfl) _
  have P6 := HM.out.pa.but K6 (by have := HM.out.n5; omega)
  replace K6 := Lib.hid K6
  obtain ⟨wh, hwh⟩ : ∃ v, Hid (v = wg.setCell ⟨b, 4, none⟩ (.int .i64 ((t.size : Int) + 1))) := ⟨_, rfl⟩
  rw [← hwh.out] at S6 K6 P6 ⊢
  clear hwh S5 K5
  obtain ⟨c, hc⟩ : ∃ c, Hid ((Tr.way x t []).1 = c) := ⟨_, rfl⟩
  have WL := way_lt x HM.out.ls
  have HH := way_len x t []
  have PC' := PC.out.pc
  rw [HW.out, hc.out] at PC'
  rw [hc.out] at WL HH
  simp only [Tr.isNil, if_true, Nat.add_zero] at PC'
  have HCL : Hid (c.length ≤ 39) := by
    have := H.out.small.2
    rw [HW.out] at HH
    simp only [List.length_nil, Tr.ht] at HH
    show _ ≤ _; omega
  have p80 := P6.cell 80 PC'.n
  have PI := Lib.hid (P6.pathIn PC')
  have P6 := Lib.hid P6
  have WL' : Hid (∀ f ∈ c.reverse, f.p < (ns.set p (putNd x)).length) := fun f hf => by rw [List.length_set]; exact WL f (List.mem_reverse.1 hf)
  have n5 := Lib.hid HM.out.n5
  have A3 := above_st (d := (p : Int)) (cr := c.reverse) (q := i5) (j := c.length) S6.out (by rw [List.length_reverse]; exact Nat.le_refl _) (by rw [List.length_reverse]; have := HCL.out; omega) WL'.out P6.out.lt n5.out.1 PI.out
  rw [show (c.reverse.take c.length).reverse = c by rw [List.take_of_length_le (by rw [List.length_reverse]; exact Nat.le_refl _), List.reverse_reverse]] at A3
  have HPC := Lib.hid PC'
  clear WL HH PC'
  go_wp2_with (first
    | (go_at_call 34; (with_reducible refine A3.mono ?_); rintro e w3 ⟨rfl, s3, b3⟩; have S7 := Lib.hid s3; have B7 := Lib.hid b3; clear s3 b3 A3;
       have A4 := mend_st (cr := c.reverse) (q := i5) S7.out (by rw [List.length_reverse]; have := HCL.out; omega) (by rw [hangTop_len]; exact WL'.out) (P6.out.but B7.out (by have := n5.out; omega)).lt n5.out.1 n5.out.2.1 (PI.out.but B7.out P6.out.lt (by have := n5.out; omega)) (by rw [List.length_reverse]; exact (P6.out.but B7.out (by have := n5.out; omega)).cell 80 HPC.out.n) ((put_fit HM.out.ft).top _ _ (by rw [List.length_set]; have := HM.out.pl; omega)) (by omega) (p : Int) (fun z => by rw [if_pos (by simpa using z)]);
       (rw [List.reverse_reverse] at A4))
    | (go_at_call 35; (with_reducible refine A4.mono ?_); rintro e w4 ⟨rfl, s4, b4⟩; have S8 := Lib.hid s4; have B8 := Lib.hid (B7.out.trans b4); clear s4 b4 A4))
  go_ret
  have T := mid_done H.out HM.out HW.out (by rw [hc.out]; exact S8.out) (K6.out.trans B8.out)
  exact ⟨rfl, T⟩
end Go.Proofs.Ytmgljgmfipodeaa.Av
