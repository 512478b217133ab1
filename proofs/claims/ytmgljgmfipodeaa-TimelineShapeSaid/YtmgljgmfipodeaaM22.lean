/-
  avl: Delete of a node with two sides, walked.
-/
import Derived.Test.YtmgljgmfipodeaaM21
/-
  avl: Delete of a node with two sides, walked.
-/
namespace Go.Proofs.Ytmgljgmfipodeaa.Av
open Go Go.RowKit
set_option linter.unusedSimpArgs false
set_option linter.unusedVariables false
attribute [local go_sem ↓] Go.wp_at_zero Go.wp_at_succ

/-- how far the way down to the least one has come -/
def MinAt (r : Tr) : Tr → List Tr.Fr → Prop
  | .nil, dd => ∃ q y rr d, dd = ⟨q, y, false, rr⟩ :: d ∧ Tr.wayMin r [] = (d, Tr.nd q y .nil rr)
  | s, dd => Tr.wayMin r [] = Tr.wayMin s dd
theorem minAt_start (r : Tr) (h : r.isNil = false) : MinAt r r [] := by
  cases r with
  | nil => simp [Tr.isNil] at h
  | nd a b c d => rfl
theorem minAt_step {r : Tr} {a : Nat} {y : It} {sl sr : Tr} {dd : List Tr.Fr} (h : MinAt r (.nd a y sl sr) dd) : MinAt r sl (⟨a, y, false, sr⟩ :: dd) := by
  cases sl with
  | nil => exact ⟨a, y, sr, dd, rfl, h⟩
  | nd b z u v => exact h
theorem PathC.down {cs : Array Value} {cr : List Tr.Fr} {n : Nat} (h : PathC cs cr n) (hl : cr.length < 40) (f : Tr.Fr) (hp : cs[cr.length]? = some (.int .i64 (f.p : Int))) (hr : f.right = false) : PathC cs (cr ++ [f]) n := by
  refine ⟨h.size, h.one, h.n, fun i g hg => ?_, fun i h1 h2 => h.fl i (by rw [List.length_append] at h1; omega) h2⟩
  have := (List.getElem?_eq_some_iff.1 hg).1
  rw [List.length_append, List.length_singleton] at this
  by_cases e : i = cr.length
  · subst e
    simp only [List.getElem?_concat_length, Option.some.injEq] at hg
    subst hg
    exact ⟨hp, by rw [hr]; exact h.fl _ (Nat.le_refl _) hl⟩
  · rw [List.getElem?_append_left (by omega)] at hg
    exact h.at' i g hg
theorem PathC.like {cs : Array Value} {cr cr' : List Tr.Fr} {n : Nat} (h : PathC cs cr n) (e : cr'.map (fun f => (f.p, f.right)) = cr.map (fun f => (f.p, f.right))) : PathC cs cr' n := by
  have hl : cr'.length = cr.length := by have := congrArg List.length e; simpa using this
  refine ⟨h.size, h.one, h.n, fun i f hf => ?_, fun i h1 h2 => h.fl i (by omega) h2⟩
  have e2 := congrArg (fun l => l[i]?) e
  simp only [List.getElem?_map, hf, Option.map_some] at e2
  cases hg : cr[i]? with
  | none => rw [hg] at e2; simp at e2
  | some g =>
    rw [hg] at e2
    simp only [Option.map_some, Option.some.injEq, Prod.mk.injEq] at e2
    rw [e2.1, e2.2]
    exact h.at' i g hg
theorem PathC.drop {cs : Array Value} {cr : List Tr.Fr} {f : Tr.Fr} {n : Nat} (h : PathC cs (cr ++ [f]) n) (hr : f.right = false) : PathC cs cr n ∧ cs[cr.length]? = some (.int .i64 (f.p : Int)) := by
  have hf := h.at' cr.length f (by simp)
  refine ⟨⟨h.size, h.one, h.n, fun i g hg => h.at' i g ?_, fun i h1 h2 => ?_⟩, hf.1⟩
  · rw [List.getElem?_append_left (List.getElem?_eq_some_iff.1 hg).1]; exact hg
  · by_cases e : i = cr.length
    · subst e; rw [hf.2, hr]
    · exact h.fl i (by rw [List.length_append, List.length_singleton]; omega) h2
/-- an item stored -/
theorem St.put3 {w : World} {B b g cap : Nat} {most root many : Int} {fv : Value} {ns : List Nd} {p : Nat} {nd : Nd} {y : It} (h : St w B b g cap most root many fv ns) (hp : ns[p]? = some nd) :
    St (((w.setCell ⟨g, p * 8, none⟩ (.int .i64 y.f)).setCell ⟨g, p * 8 + 1, none⟩ (.int .i64 y.t)).setCell ⟨g, p * 8 + 2, none⟩ (.int .i64 y.i)) B b g cap most root many fv (ns.set p { nd with x := y }) := by
  have hl := (List.getElem?_eq_some_iff.1 hp).1
  have s0 := h.set (k := 0) (nd' := { nd with x := ⟨y.f, nd.x.t, nd.x.i⟩ }) (v := .int .i64 y.f) hp (by omega) rfl
  have s1 := s0.set (k := 1) (nd' := { nd with x := ⟨y.f, y.t, nd.x.i⟩ }) (v := .int .i64 y.t) (List.getElem?_set_self hl) (by omega) rfl
  rw [List.set_set] at s1
  have s2 := s1.set (k := 2) (nd' := { nd with x := y }) (v := .int .i64 y.i) (List.getElem?_set_self hl) (by omega) rfl
  rw [List.set_set] at s2
  exact s2
set_option maxRecDepth 100000 in
set_option maxHeartbeats 2000000 in
theorem delete_both {w : World} {B b : Nat} {most : Int} {t : Tr} {ns : List Nd} {free : List Nat} {nv fv : Value} {x : It} {p : Nat} {l r : Tr} (h : Tre w B b most t ns free nv fv) (hm : x ∈ t.items) (hw : (Tr.way x t []).2 = .nd p x l r) (hs : l.isNil = false ∧ r.isNil = false) :
    Calls Try.prog 24 #[.pointer (some ⟨b, 0, none⟩), .agg #[.int .i64 x.f, .int .i64 x.t, .int .i64 x.i]] w fun e w' => e = .returned (.int .i64 0) ∧ Turned w w' B b most (own b nv fv) (Tr.under x t.items ++ (Tr.beyond x t.items).tail) := by
  have B0 := ba w (.cells #[.int .i64 x.f, .int .i64 x.t, .int .i64 x.i] 54)
  have h1 := h.but (Below.but B0 (fun _ => False)) (fun _ _ k => k)
  have A := none_at h1.tt
  rw [show decide (most = 0) = false by have := h.m1; simp; omega] at A
  have D := down_tre (x := x) h1
  rw [mem_way h.ok, decide_eq_true hm] at D
  have zz := path_zero
  have H := Lib.hid h
  have H1 := Lib.hid h1
  have B1 := Lib.hid B0
  have HW := Lib.hid hw
  have HS := Lib.hid hs
  clear h h1 B0 hm hw hs
  go_enter Try.func24, Try.ntmps24
  go_upto_region 6 with (first
    | (go_at_call 31; (with_reducible refine A.mono ?_); rintro e w20 ⟨rfl, rfl⟩)
    | (go_at_call 33; (with_reducible refine D.mono ?_); rintro e w21 ⟨cs, rfl, pc, b1⟩; have B2 := Lib.hid b1; have PC := Lib.hid pc; clear b1 pc)
    | (refine wpList_plain rfl fun _ hK => wp_store_row 82 _ _ rfl w21.heap.size cs rfl rfl 82 pathZ (heap_alloc_new w21 _) (by rw [PC.out.pc.size]; exact path_size) (by rw [PC.out.pc.size]; exact pathZ_ok.size) PC.out.pc.one (hK _ _ ?_); rw [World.setRow_alloc_new]))
  have h2 := H1.out.but (Below.but (bt B2.out (ba _ (.cells cs 82))) (fun _ => False)) (fun _ _ k => k)
  have P2 : PAt (w21.alloc (Obj.cells cs 82)) w21.heap.size cs := heap_alloc_new w21 _
  have B3 := Lib.hid (bt B1.out (bt B2.out (ba _ (.cells cs 82))))
  have s5 : Hid (w.heap.size < w21.heap.size) := by have := B2.out.size; rw [World.size_alloc] at this; show _ < _; omega
  clear H1 A D zz
  obtain ⟨wd, hwd⟩ : ∃ v, Hid (v = w21.alloc (Obj.cells cs 82)) := ⟨_, rfl⟩
  rw [← hwd.out] at h2 P2 B3 ⊢
  obtain ⟨i5, hi5⟩ : ∃ i, Hid (w21.heap.size = i) := ⟨_, rfl⟩
  rw [hi5.out] at P2 s5 ⊢
  have H2 := Lib.hid h2
  clear hwd hi5 B1 B2
  obtain ⟨c, hc⟩ : ∃ c, Hid ((Tr.way x t []).1 = c) := ⟨_, rfl⟩
  have PC1 := PC.out.pc
  have PE1 := PC.out.pe p x l r HW.out
  rw [HW.out, hc.out] at PC1
  rw [hc.out] at PE1
  simp only [Tr.isNil, Bool.false_eq_true, if_false] at PC1
  have lies := (liesUp_way x t [] h2.ls trivial).2
  rw [HW.out] at lies
  obtain ⟨e1, _, _⟩ := lies
  obtain ⟨n1, hn1⟩ : ∃ n, Hid (n = (⟨x, place l, place r, (((Tr.nd p x l r).ht : Nat) : Int), (Tr.nd p x l r).top, true⟩ : Nd)) := ⟨_, rfl⟩
  rw [← hn1.out] at e1
  have hcl : c.length ≤ 38 := by
    have := plug_ht (Tr.way x t []).1 (Tr.way x t []).2
    have e2 : Tr.plug (Tr.way x t []).1 (Tr.way x t []).2 = t := Tr.way_plug x t []
    rw [e2, HW.out, hc.out] at this
    have h3 := h2.small.2
    simp only [Tr.ht] at this; omega
  obtain ⟨g, cap, hnv, S2⟩ := h2.st (by cases t with | nil => exact absurd HW.out (by simp [Tr.way]) | nd a b1 c1 d1 => rfl)
  subst hnv
  have c1 := S2.t.c1
  have p0 : (0 : Int) ≤ (p : Int) := by omega
  have p1 : (p : Int) < ((ns.length : Nat) : Int) := by have := (List.getElem?_eq_some_iff.1 e1).1; omega
  have q0 : wd.cell? ⟨g, p * 8, none⟩ = some (.int .i64 n1.x.f) := S2.cell p 0 n1 (.int .i64 n1.x.f) e1 (by omega) rfl
  have q1 := S2.cell p 1 n1 (.int .i64 n1.x.t) e1 (by omega) rfl
  have q2 := S2.cell p 2 n1 (.int .i64 n1.x.i) e1 (by omega) rfl
  have q3 := S2.cell p 3 n1 (.int .i64 n1.l) e1 (by omega) rfl
  have q4 := S2.cell p 4 n1 (.int .i64 n1.r) e1 (by omega) rfl
  have q5 := S2.cell p 5 n1 (.int .i64 n1.h) e1 (by omega) rfl
  have q6 := S2.cell p 6 n1 (.int .i64 n1.top) e1 (by omega) rfl
  have q7 := S2.cell p 7 n1 (.bool n1.used) e1 (by omega) rfl
  have p80 := P2.cell 80 PC1.n
  have pe := P2.cell c.length PE1
  have m0 : (0 : Int) ≤ (c.length : Int) := by omega
  have m1 : (c.length : Int) < 40 := by omega
  have hw3 : wrap64 (c.length : Int) = (c.length : Int) := IntWalk.wrap64_in _ (by omega)
  have hw2 : IntKind.i64.wrap ((c.length : Int) + 1 - 1) = (c.length : Int) := by rw [Int.add_sub_cancel, IntWalk.i64_left, hw3]
  have S2 := Lib.hid S2
  have P2 := Lib.hid P2
  have E1 := Lib.hid e1
  have PC1 := Lib.hid PC1
  have PE1 := Lib.hid PE1
  have HCL := Lib.hid hcl
  clear h2 e1 hcl
  go_upto_region 8 with fail
  have hL0 : (0 : Int) ≤ n1.l := by rw [hn1.out]; show 0 ≤ place l; have := HS.out.1; cases l with | nil => simp [Tr.isNil] at this | nd a1 b1 c1 d1 => simp [place]
  have hL : decide (0 ≤ n1.l) = true := by simpa using hL0
  have hR0 : (0 : Int) ≤ n1.r := by rw [hn1.out]; show 0 ≤ place r; have := HS.out.2; cases r with | nil => simp [Tr.isNil] at this | nd a1 b1 c1 d1 => simp [place]
  have hR : decide (0 ≤ n1.r) = true := by simpa using hR0
  go_upto_region 9 with fail
  obtain ⟨wx, hwx⟩ : ∃ v, Hid (v = wd.alloc (Obj.cells #[Value.int .i64 n1.x.f, .int .i64 n1.x.t, .int .i64 n1.x.i, .int .i64 n1.l, .int .i64 n1.r, .int .i64 n1.h, .int .i64 n1.top, .bool n1.used] 86)) := ⟨_, rfl⟩
  have KX : But (fun _ => False) wd wx := by rw [hwx.out]; exact (But.refl _ _).alloc _
  have r4 : wx.cell? ⟨wd.heap.size, 4, none⟩ = some (.int .i64 n1.r) := by rw [hwx.out, cell_of_row _ _ _ _ _ (0, 0) (heap_alloc_new wd _)]; rfl
  rw [← hwx.out]
  obtain ⟨i8, hi8⟩ : ∃ i, Hid (wd.heap.size = i) := ⟨_, rfl⟩
  have ne8 : i8 ≠ i5 := by have := P2.out.lt; have := hi8.out; omega
  rw [hi8.out] at r4 ⊢
  have S3 := Lib.hid (S2.out.but KX (fun z => z) (fun z => z))
  have P3 := Lib.hid (P2.out.but KX (fun z => z))
  clear hwx hL hR hL0 hR0 c1 p0 p1 q0 q1 q2 q3 q4 q5 q6 q7 p80 pe
  have p80 := P3.out.cell 80 PC1.out.n
  obtain ⟨vm, hvm⟩ : ∃ v, cs[40 + c.length]? = some v := ⟨_, Array.getElem?_eq_getElem (by rw [PC1.out.size]; have := HCL.out; omega)⟩
  have pm := P3.out.cell (40 + c.length) hvm
  have fm := P3.out.f (40 + c.length)
  have NE := Lib.hid (show i5 ≠ g ∧ i5 ≠ b by have := s5.out; have := H.out.tt.lt; have := (RowN.lt H.out.rn).1; omega)
  clear hvm
  have P4 := Lib.hid (P3.out.set (40 + c.length) (.bool true))
  have C4 := Lib.hid (PC1.out.turn (f := ⟨p, x, true, l⟩) (by rw [List.length_reverse]; have := HCL.out; omega) (by rw [List.length_reverse]; exact PE1.out))
  rw [List.length_reverse] at C4
  have K4 : But (· = i5) wx (wx.setCell ⟨i5, 40 + c.length, none⟩ (.bool true)) := (But.refl (· = i5) wx).set (show _ = i5 from rfl) _
  have r5 := (K4.cell (p := ⟨i8, 4, none⟩) (World.block_lt_of_cell? wx _ r4) ne8).trans r4
  have K4 := Lib.hid K4
  go_upto_region 10 with fail
  obtain ⟨wl, hwl⟩ : ∃ v, Hid (v = wx.setCell ⟨i5, 40 + c.length, none⟩ (.bool true)) := ⟨_, rfl⟩
  rw [← hwl.out] at P4 K4 r5 ⊢
  obtain ⟨cs4, hcs4⟩ : ∃ v, Hid (cs.setIfInBounds (40 + c.length) (.bool true) = v) := ⟨_, rfl⟩
  rw [hcs4.out] at P4 C4
  clear hwl hcs4 r4 p80 pm fm hw2 hw3 m0 m1
  go_wp2_with fail
  clear r5
  have hr : n1.r = place r := by rw [hn1.out]
  rw [hr]
  obtain ⟨cr0, hcr⟩ : ∃ v, Hid (c.reverse ++ [(⟨p, x, true, l⟩ : Tr.Fr)] = v) := ⟨_, rfl⟩
  have CR0 : Hid (cr0.length = c.length + 1) := by show _ = _; rw [← hcr.out]; simp
  rw [hcr.out] at C4
  have HT : Hid (c.length + 1 + r.ht ≤ 39) := by
    have := plug_ht (Tr.way x t []).1 (Tr.way x t []).2
    have e2 : Tr.plug (Tr.way x t []).1 (Tr.way x t []).2 = t := Tr.way_plug x t []
    rw [e2, HW.out, hc.out] at this
    have h3 := H2.out.small.2
    simp only [Tr.ht] at this; show _ ≤ _; omega
  have LR : Hid (Lies ns r) := by
    have := (liesUp_way x t [] H2.out.ls trivial).2
    rw [HW.out] at this; exact this.2.2
  go_loopw [9] (fun a wr => ∃ (s : Tr) (dd : List Tr.Fr) (cs' : Array Value), a = .int .i64 (place s) ∧ Hid (MinAt r s dd) ∧ Hid (Lies ns s) ∧ c.length + 1 + dd.length + s.ht ≤ 39 ∧ Hid (PAt wr i5 cs') ∧ Hid (PathC cs' (cr0 ++ dd.reverse) (c.length + 1 + dd.length)) ∧ Hid (But (· = i5) wx wr)) (fun a _ => (hOf ns (intOf a)).toNat)
  case atStart => exact ⟨r, [], cs4, rfl, minAt_start r HS.out.2, LR.out, by have := HT.out; simp; omega, P4.out, by show PathC _ _ _; simpa using C4.out, K4.out⟩
  case round =>
    rename_i wr
    obtain ⟨wo, rfl⟩ : ∃ wo : World, wo = wr := ⟨_, rfl⟩
    clear P4 C4 K4
    obtain ⟨s, dd, cs', rfl, MI, LS, hd, P4, C4, K4⟩ := hrel
    cases s with
    | nd a ya sl sr =>
      have HD := Lib.hid hd
      obtain ⟨n, hn⟩ : ∃ n, Hid (c.length + 1 + dd.length = n) := ⟨_, rfl⟩
      have hnl : n ≤ 38 := by have := hn.out; simp only [Tr.ht] at hd; omega
      have hal : a < ns.length := lies_lt ns _ LS.out a (by simp [Tr.places])
      obtain ⟨e1, LL, _⟩ := LS.out
      replace LL := Lib.hid LL
      rw [show place (Tr.nd a ya sl sr) = (a : Int) from rfl]
      rw [hn.out] at C4
      have S4 := S3.out.but K4.out (by have := NE.out; omega) (by have := NE.out; omega)
      have c1 := S4.t.c1
      have q3 := S4.cell a 3 _ (.int .i64 (place sl)) e1 (by omega) rfl
      have a0 : (0 : Int) ≤ (a : Int) := by omega
      have a1 : (a : Int) < ((ns.length : Nat) : Int) := by omega
      have n0 : (0 : Int) ≤ (n : Int) := by omega
      have n2 : (n : Int) < 40 := by omega
      have hw : IntKind.i64.wrap ((n : Int) + 1) = (n : Int) + 1 := by rw [IntKind.wrap_i64]; omega
      have p80 := P4.out.cell 80 C4.out.n
      have f80 := P4.out.f 80
      have fn := P4.out.f n
      obtain ⟨vn, hvn⟩ : ∃ v, cs'[n]? = some v := ⟨_, Array.getElem?_eq_getElem (by rw [C4.out.size]; omega)⟩
      have pn := P4.out.cell n hvn
      have crl : (cr0 ++ dd.reverse).length = n := by rw [List.length_append, List.length_reverse, CR0.out]; exact hn.out
      have P5 := Lib.hid ((P4.out.set n (.int .i64 (a : Int))).set 80 (.int .i64 ((n : Int) + 1)))
      have C5 : Hid (PathC ((cs'.setIfInBounds n (.int .i64 (a : Int))).setIfInBounds 80 (.int .i64 ((n : Int) + 1))) (cr0 ++ (⟨a, ya, false, sr⟩ :: dd : List Tr.Fr).reverse) (c.length + 1 + (⟨a, ya, false, sr⟩ :: dd : List Tr.Fr).length)) := by
        have k1 := C4.out.step (by rw [crl]; omega) a
        rw [crl] at k1
        have k2 := k1.1.down (by rw [crl]; omega) ⟨a, ya, false, sr⟩ (by rw [crl]; exact k1.2) rfl
        have k3 := k2.count (by rw [List.length_append, crl]; simp; omega) (n + 1)
        rw [List.reverse_cons, ← List.append_assoc, List.length_cons, show c.length + 1 + (dd.length + 1) = n + 1 by have := hn.out; omega]
        exact k3
      have K5 := Lib.hid ((K4.out.set (p := ⟨i5, n, none⟩) (show _ = i5 from rfl) (.int .i64 (a : Int))).set (p := ⟨i5, 80, none⟩) (show _ = i5 from rfl) (.int .i64 ((n : Int) + 1)))
      have gne : g ≠ i5 := fun z => NE.out.1 z.symm
      have bne : b ≠ i5 := fun z => NE.out.2 z.symm
      have MS : Hid ((hOf ns (place sl)).toNat < (hOf ns (place (Tr.nd a ya sl sr))).toNat) := by
        show _ < _
        rw [hOf_lies LL.out, hOf_lies LS.out]; simp only [Tr.ht]; omega
      clear hvn crl S4 e1 hal hd hnl hr
      go_wp2_with fail
      go_roundw
      case rel => exact ⟨sl, _ :: dd, _, rfl, minAt_step MI.out, LL.out, by have := HD.out; simp only [Tr.ht, List.length_cons] at this ⊢; omega, P5.out, C5.out, K5.out⟩
      case measure => exact MS.out
    | nil =>
      obtain ⟨q, y, rr, d, rfl, hmin⟩ := MI.out
      have HMIN := Lib.hid hmin
      obtain ⟨n, hn⟩ : ∃ n, Hid (c.length + 1 + d.length = n) := ⟨_, rfl⟩
      have hnl : n ≤ 38 := by have := hn.out; simp only [Tr.ht, List.length_cons] at hd; omega
      have hrn : r ≠ .nil := fun z => by have := HS.out.2; rw [z] at this; simp [Tr.isNil] at this
      have e1 := E1.out
      obtain ⟨G, ⟨mq, hmq, hmx⟩, hqp⟩ := gone_two H2.out.ok H2.out.ls H2.out.ft H2.out.small.2 HW.out hrn d q y rr hmin n1 e1
      rw [hc.out] at G
      replace G := Lib.hid G
      have crl : (cr0 ++ d.reverse).length = n := by rw [List.length_append, List.length_reverse, CR0.out]; exact hn.out
      rw [List.reverse_cons, ← List.append_assoc, List.length_cons, show c.length + 1 + (d.length + 1) = n + 1 by have := hn.out; omega] at C4
      obtain ⟨C5, hpq⟩ := C4.out.drop rfl
      rw [crl] at hpq
      have S4 := S3.out.but K4.out (by have := NE.out; omega) (by have := NE.out; omega)
      have c1 := S4.t.c1
      have p80 := P4.out.cell 80 C4.out.n
      have pn := P4.out.cell n hpq
      have n0 : (0 : Int) ≤ (n : Int) := by omega
      have n2 : (n : Int) < 40 := by omega
      have hw3 : wrap64 (n : Int) = (n : Int) := IntWalk.wrap64_in _ (by omega)
      have hw2 : IntKind.i64.wrap ((n : Int) + 1 - 1) = (n : Int) := by rw [Int.add_sub_cancel, IntWalk.i64_left, hw3]
      have p0 : (0 : Int) ≤ (p : Int) := by omega
      have p1 : (p : Int) < ((ns.length : Nat) : Int) := by have := (List.getElem?_eq_some_iff.1 e1).1; omega
      have q0 : (0 : Int) ≤ (q : Int) := by omega
      have q1 : (q : Int) < ((ns.length : Nat) : Int) := by have := (List.getElem?_eq_some_iff.1 hmq).1; omega
      have y0 : wo.cell? ⟨g, q * 8, none⟩ = some (.int .i64 y.f) := S4.cell q 0 mq (.int .i64 y.f) hmq (by omega) (by rw [← hmx]; rfl)
      have y1 := S4.cell q 1 mq (.int .i64 y.t) hmq (by omega) (by rw [← hmx]; rfl)
      have y2 := S4.cell q 2 mq (.int .i64 y.i) hmq (by omega) (by rw [← hmx]; rfl)
      have x0 : wo.cell? ⟨g, p * 8, none⟩ = some (.int .i64 n1.x.f) := S4.cell p 0 n1 (.int .i64 n1.x.f) e1 (by omega) rfl
      have x1 := S4.cell p 1 n1 (.int .i64 n1.x.t) e1 (by omega) rfl
      have x2 := S4.cell p 2 n1 (.int .i64 n1.x.i) e1 (by omega) rfl
      have f0 := S4.r.frozen (p * 8)
      have f1 := S4.r.frozen (p * 8 + 1)
      have f2 := S4.r.frozen (p * 8 + 2)
      have S5 := Lib.hid ((S4.put3 (y := y) e1).drew)
      have K5 : But (· = g) wo ((((wo.setCell ⟨g, p * 8, none⟩ (.int .i64 y.f)).setCell ⟨g, p * 8 + 1, none⟩ (.int .i64 y.t)).setCell ⟨g, p * 8 + 2, none⟩ (.int .i64 y.i)).drew) := ((((But.refl (· = g) wo).set (show _ = g from rfl) _).set (show _ = g from rfl) _).set (show _ = g from rfl) _).drew
      replace K5 := Lib.hid K5
      replace C5 := Lib.hid C5
      have CRL := Lib.hid crl
      clear hmin hmq hmx e1 crl S4 hpq hd hnl hrn hr
      go_upto_region 16 with fail
      clear p80 pn n0 n2 hw2 hw3
      go_region
      clear c1 p0 p1 q0 q1 y0 y1 y2 x0 x1 x2 f0 f1 f2
      go_upto_region 18 with fail
      obtain ⟨wz, hwz⟩ : ∃ v, Hid (v = ((((wo.setCell ⟨g, p * 8, none⟩ (.int .i64 y.f)).setCell ⟨g, p * 8 + 1, none⟩ (.int .i64 y.t)).setCell ⟨g, p * 8 + 2, none⟩ (.int .i64 y.i)).drew)) := ⟨_, rfl⟩
      rw [← hwz.out] at S5 K5 ⊢
      clear hwz
      obtain ⟨ms, hms⟩ : ∃ v, Hid (ns.set p { n1 with x := y } = v) := ⟨_, rfl⟩
      have HNL : Hid (ms.length = ns.length) := by show _ = _; rw [← hms.out]; exact List.length_set
      rw [hms.out] at S5 G
      obtain ⟨c2, hc2⟩ : ∃ v, Hid (d ++ (⟨p, y, true, l⟩ : Tr.Fr) :: c = v) := ⟨_, rfl⟩
      rw [hc2.out] at G
      have R : Ready w wz B b most t (own b (.slice (some ⟨g, 0, none⟩) ns.length cap) fv) i5 cs' c2 q g cap fv free ms := by
        have h := H2.out
        have s5' := s5.out
        have n5 : fv.ownBlock ≠ some i5 := fun e => by have := (World.ownsRow.lt H.out.rf i5 e).2; omega
        have hn2 := hn.out
        refine { st := S5.out, rf := owns_but (owns_but (owns_but h.rf KX (fun _ _ z => z)) K4.out (fun k hk hs => n5 (by rw [hk, hs]))) K5.out (fun k hk hs => h.nf g rfl (by rw [hk, hs])), bf := h.bf, gf := h.nf g rfl, f5 := n5, pa := P4.out.but K5.out NE.out.1, pc := ?_, bt := ?_, sz := by have := B3.out.size; have := KX.size; have := K4.out.size; have := K5.out.size; omega, n5 := NE.out }
        · have e2 : c2.length + 1 = n + 1 := by rw [← hc2.out]; simp; omega
          rw [e2]
          refine C5.out.like ?_
          rw [← hc2.out, ← hcr.out]; simp
        · refine But.into (But.into (But.into (Below.but B3.out _) KX (fun _ _ z => z.elim)) K4.out (fun k hk hs => ?_)) K5.out (fun k hk hs => .inr (.inl (by rw [hs]; rfl)))
          omega
      clear S5 K5 P4 C5 C4 K4 S3 P3 KX MI LS
      have HR := Lib.hid R
      obtain ⟨nd, hn, hkp⟩ := G.out.hq
      have ND := Lib.hid hn
      have KP := Lib.hid hkp
      have CL := Lib.hid G.out.cl
      clear hn hkp
      -- one step less
      have r80 := R.pa.cell 80 R.pc.n
      have f80 := R.pa.f 80
      have m0 : (0 : Int) ≤ (c2.length : Int) := by omega
      have hw3 : wrap64 (c2.length : Int) = (c2.length : Int) := IntWalk.wrap64_in _ (by have := CL.out; omega)
      have hw2 : IntKind.i64.wrap ((c2.length : Int) + 1 - 1) = (c2.length : Int) := by rw [Int.add_sub_cancel, IntWalk.i64_left, hw3]
      have K1 : But (· = i5) wz (wz.setCell ⟨i5, 80, none⟩ (.int .i64 (c2.length : Int))) := (But.refl (· = i5) wz).set (show _ = i5 from rfl) _
      have P4 := R.pa.set 80 (.int .i64 (c2.length : Int))
      have C4 := Lib.hid (R.pc.count (by rw [List.length_reverse]; have := CL.out; omega) c2.length)
      have S4 := R.st.but K1 (by have := R.n5; omega) (by have := R.n5; omega)
      go_upto_region 19 with fail
      clear r80 f80 hw2 hw3 m0
      obtain ⟨wy, hwy⟩ : ∃ v, Hid (v = wz.setCell ⟨i5, 80, none⟩ (.int .i64 (c2.length : Int))) := ⟨_, rfl⟩
      rw [← hwy.out] at K1 P4 S4 ⊢
      obtain ⟨cs4, hcs4⟩ : ∃ v, Hid (cs'.setIfInBounds 80 (.int .i64 (c2.length : Int)) = v) := ⟨_, rfl⟩
      rw [hcs4.out] at P4 C4
      clear hwy hcs4
      have p80 := P4.cell 80 C4.out.n
      have c1 := S4.t.c1
      have p0 : (0 : Int) ≤ (q : Int) := by omega
      have p1 : (q : Int) < ((ms.length : Nat) : Int) := by have := (List.getElem?_eq_some_iff.1 ND.out).1; omega
      have q3 := S4.cell q 3 nd (.int .i64 nd.l) ND.out (by omega) rfl
      have q4 := S4.cell q 4 nd (.int .i64 nd.r) ND.out (by omega) rfl
      have WL := Lib.hid (liesUp_lt G.out.lu)
      have WLR : Hid (∀ f ∈ c2.reverse, f.p < ms.length) := fun f hf => WL.out f (List.mem_reverse.1 hf)
      have PI := Lib.hid (P4.pathIn C4.out)
      have PL := Lib.hid P4.lt
      have P4 := Lib.hid P4
      have S4 := Lib.hid S4
      have N5 := Lib.hid R.n5
      have FTK : Hid (place rr < (ms.length : Int)) := place_lt G.out.lk
      have hmx : (if nd.l < nd.r then nd.r else nd.l) = place rr := KP.out
      have A3 := above_st (d := place rr) (cr := c2.reverse) (q := i5) (j := c2.length) S4.out.drew (by rw [List.length_reverse]; exact Nat.le_refl _) (by rw [List.length_reverse]; have := CL.out; omega) WLR.out PL.out N5.out.1 PI.out
      rw [show (c2.reverse.take c2.length).reverse = c2 by rw [List.take_of_length_le (by rw [List.length_reverse]; exact Nat.le_refl _), List.reverse_reverse]] at A3
      have mkS : ∀ w', But (fun k => k = b ∨ k = g) wy w' → w'.cell? ⟨i5, 80, none⟩ = some (.int .i64 (c2.length : Int)) := fun w' hb => (hb.cell (p := ⟨i5, 80, none⟩) PL.out (show ¬ (i5 = b ∨ i5 = g) by have := N5.out; omega)).trans p80
      have HS0 : (fun w' : World => w'.cell? ⟨i5, 80, none⟩ = some (.int .i64 (c2.length : Int)) ∧ w'.cell? ⟨b, 1, none⟩ = some (.slice (some ⟨g, 0, none⟩) ms.length cap) ∧ w'.cell? ⟨g, q * 8 + 3, none⟩ = some (.int .i64 nd.l) ∧ w'.cell? ⟨g, q * 8 + 4, none⟩ = some (.int .i64 nd.r)) wy.drew := ⟨p80, c1, q3, q4⟩
      clear R
      have QC : Hid (q ∉ upPlaces c2) := by
        obtain ⟨y, hnd, _⟩ := G.out.nd
        have nd1 := (nodup_plug c2 _).1 hnd
        simp only [Tr.places] at nd1
        rw [List.nodup_append] at nd1
        exact fun k => nd1.2.2 q (by simp) q k rfl
      go_region_held3 (fun w' => w'.cell? ⟨i5, 80, none⟩ = some (.int .i64 (c2.length : Int)) ∧ w'.cell? ⟨b, 1, none⟩ = some (.slice (some ⟨g, 0, none⟩) ms.length cap) ∧ w'.cell? ⟨g, q * 8 + 3, none⟩ = some (.int .i64 nd.l) ∧ w'.cell? ⟨g, q * 8 + 4, none⟩ = some (.int .i64 nd.r))
        (first | with_reducible exact HS0 | with_reducible assumption)
        (first
          | (go_at_call 34; (with_reducible refine A3.mono ?_); rintro e w3 ⟨rfl, s3, b3⟩; have S7 := Lib.hid s3; have B7 := Lib.hid b3; have HS1 := And.intro (mkS w3 (((But.refl _ wy).drew).trans b3)) (And.intro (by have := s3.t.c1; rw [hangTop_len] at this; exact this) (And.intro (s3.cell q 3 nd (.int .i64 nd.l) (((hangTop_only _ _ _).2 q QC.out).trans ND.out) (by omega) rfl) (s3.cell q 4 nd (.int .i64 nd.r) (((hangTop_only _ _ _).2 q QC.out).trans ND.out) (by omega) rfl))); clear s3 b3 A3))
      clear HS0 HS1 mkS p80 c1 q3 q4 hmx
      -- the node is emptied
      have e2 : (hangTop ms c2 (place rr))[q]? = some nd := ((hangTop_only _ _ _).2 q QC.out).trans ND.out
      have HL2 : Hid ((hangTop ms c2 (place rr)).length = ms.length) := hangTop_len _ _ _
      obtain ⟨ns2, hns2⟩ : ∃ m, Hid (hangTop ms c2 (place rr) = m) := ⟨_, rfl⟩
      have FT2 : Hid (Fit ns2 40) := by show Fit _ _; rw [← hns2.out]; exact G.out.ft.top _ _ FTK.out
      rw [hns2.out] at e2 HL2 S7
      have c1 := S7.out.t.c1
      rw [HL2.out] at c1
      have z0 : w3.cell? ⟨g, q * 8, none⟩ = some (.int .i64 nd.x.f) := S7.out.cell q 0 nd (.int .i64 nd.x.f) e2 (by omega) rfl
      have z1 := S7.out.cell q 1 nd (.int .i64 nd.x.t) e2 (by omega) rfl
      have z2 := S7.out.cell q 2 nd (.int .i64 nd.x.i) e2 (by omega) rfl
      have z3 := S7.out.cell q 3 nd (.int .i64 nd.l) e2 (by omega) rfl
      have z4 := S7.out.cell q 4 nd (.int .i64 nd.r) e2 (by omega) rfl
      have z5 := S7.out.cell q 5 nd (.int .i64 nd.h) e2 (by omega) rfl
      have z6 := S7.out.cell q 6 nd (.int .i64 nd.top) e2 (by omega) rfl
      have z7 := S7.out.cell q 7 nd (.bool nd.used) e2 (by omega) rfl
      have f0 := S7.out.r.frozen (q * 8)
      have f1 := S7.out.r.frozen (q * 8 + 1)
      have f2 := S7.out.r.frozen (q * 8 + 2)
      have f3 := S7.out.r.frozen (q * 8 + 3)
      have f4 := S7.out.r.frozen (q * 8 + 4)
      have f5 := S7.out.r.frozen (q * 8 + 5)
      have f6 := S7.out.r.frozen (q * 8 + 6)
      have f7 := S7.out.r.frozen (q * 8 + 7)
      have S8 := Lib.hid (S7.out.put8 (n' := zeroNd) e2)
      have K8 : But (· = g) w3 ((((((((w3.setCell ⟨g, q * 8, none⟩ (.int .i64 0)).setCell ⟨g, q * 8 + 1, none⟩ (.int .i64 0)).setCell ⟨g, q * 8 + 2, none⟩ (.int .i64 0)).setCell ⟨g, q * 8 + 3, none⟩ (.int .i64 0)).setCell ⟨g, q * 8 + 4, none⟩ (.int .i64 0)).setCell ⟨g, q * 8 + 5, none⟩ (.int .i64 0)).setCell ⟨g, q * 8 + 6, none⟩ (.int .i64 0)).setCell ⟨g, q * 8 + 7, none⟩ (.bool false)) := (((((((But.refl (· = g) w3).set (show _ = g from rfl) _).set (show _ = g from rfl) _).set (show _ = g from rfl) _).set (show _ = g from rfl) _).set (show _ = g from rfl) _).set (show _ = g from rfl) _).set (show _ = g from rfl) _ |>.set (show _ = g from rfl) _
      replace K8 := Lib.hid K8
      clear e2
      go_upto_region 21 with fail
      clear c1 z0 z1 z2 z3 z4 z5 z6 z7 f0 f1 f2 f3 f4 f5 f6 f7
      obtain ⟨w4, hw4⟩ : ∃ v, Hid (v = ((((((((w3.setCell ⟨g, q * 8, none⟩ (.int .i64 0)).setCell ⟨g, q * 8 + 1, none⟩ (.int .i64 0)).setCell ⟨g, q * 8 + 2, none⟩ (.int .i64 0)).setCell ⟨g, q * 8 + 3, none⟩ (.int .i64 0)).setCell ⟨g, q * 8 + 4, none⟩ (.int .i64 0)).setCell ⟨g, q * 8 + 5, none⟩ (.int .i64 0)).setCell ⟨g, q * 8 + 6, none⟩ (.int .i64 0)).setCell ⟨g, q * 8 + 7, none⟩ (.bool false))) := ⟨_, rfl⟩
      replace S8 : Hid (St w4 B b g cap most (if c2.length = 0 then place rr else place t) (t.size : Int) fv (ns2.set q zeroNd)) := by show St _ _ _ _ _ _ _ _ _ _; rw [hw4.out]; exact S8.out
      rw [← hw4.out] at K8 ⊢
      clear hw4 S7
      -- its place is free
      have K84 : Hid (But (fun k => k = b ∨ k = g ∨ k = i5) wz w4) := by
        refine But.trans (But.trans (K1.mono (fun _ z => .inr (.inr z))) (B7.out.mono (fun k z => ?_) |> fun h => But.trans ((But.refl _ wy).drew) h)) (K8.out.mono (fun _ z => .inr (.inl z)))
        rcases z with z | z
        · exact .inl z
        · exact .inr (.inl z)
      have RF := HR.out.rf
      have hfl : free.length < 1000001 := by have := H.out.sz; have := H.out.le; have := H.out.m2; omega
      have RF4 := owns_but RF K84.out (fun k hk hs => by rcases hs with rfl | rfl | rfl; exact HR.out.bf hk; exact HR.out.gf hk; exact HR.out.f5 hk)
      have KA := Lib.hid ((But.refl (fun _ => False) w4).alloc (Obj.cells #[Value.int .i64 (q : Int)] 3))
      have RFA := Lib.hid (owns_but RF4 KA.out (fun _ _ z => z))
      have T0 := Lib.hid S8.out.t.lt
      have T1 : Hid (b < (w4.alloc (Obj.cells #[Value.int .i64 (q : Int)] 3)).heap.size) := by have := T0.out; show _ < _; rw [World.size_alloc]; omega
      have hB : Hid (B ≤ (w4.alloc (Obj.cells #[Value.int .i64 (q : Int)] 3)).heap.size) := by have := T1.out; have := H.out.bB; show _ ≤ _; omega
      have HFL := Lib.hid hfl
      have NC : Hid ((w4.alloc (Obj.cells #[Value.int .i64 (q : Int)] 3)).cell? ⟨w4.heap.size, 0, none⟩ = some (.int .i64 (q : Int))) := by show _ = _; simp
      have c2 := S8.out.t.c2
      have F2 := Lib.hid (S8.out.t.f 2)
      clear RF hfl RF4
      go_upto_region 22 with (at_builtin; go_loud (refine app_int rfl _ _ rfl B fv free q rfl RFA.out w4.heap.size rfl NC.out HFL.out hB.out ?_; intro af capf w5 r1 k1 l1; have R5 := Lib.hid r1; have K5 := Lib.hid k1; have L5 := Lib.hid l1; clear r1 k1 l1; replace c2 := (KA.out.cell (p := ⟨b, 2, none⟩) T0.out (fun h => h)).trans c2; replace c2 := (K5.out.cell (p := ⟨b, 2, none⟩) T1.out HR.out.bf).trans c2; have f2 := ((K5.out.frozen (p := ⟨b, 2, none⟩) T1.out HR.out.bf).trans ((KA.out.frozen (p := ⟨b, 2, none⟩) T0.out (fun h => h)).trans F2.out))))
      obtain ⟨fv', hfv⟩ : ∃ v, Hid (Value.slice af (free.length + 1) capf = v) := ⟨_, rfl⟩
      rw [hfv.out] at R5 L5 ⊢
      clear c2 f2 hfv
      have bf5 : fv'.ownBlock ≠ some b := by
        rcases L5.out with z | z
        · rw [z]; exact HR.out.bf
        · rw [z]; intro e; have := T1.out; simp only [Option.some.injEq] at e; omega
      have gf5 : fv'.ownBlock ≠ some g := by
        rcases L5.out with z | z
        · rw [z]; exact HR.out.gf
        · rw [z]; intro e; have := S8.out.r.lt.1; rw [World.size_alloc] at e; simp only [Option.some.injEq] at e; omega
      have of5 : ∀ k, fv'.ownBlock = some k → fv.ownBlock = some k ∨ w.heap.size ≤ k := by
        intro k hk
        rcases L5.out with z | z
        · left; rw [← z]; exact hk
        · right; rw [z, World.size_alloc] at hk; have := HR.out.sz; have := K84.out.size; simp only [Option.some.injEq] at hk; omega
      have KS : But (· = b) w5 (w5.setCell ⟨b, 2, none⟩ fv') := (But.refl (· = b) w5).set (show _ = b from rfl) _
      have t5 : TAt w5 b most (.slice (some ⟨g, 0, none⟩) (ns2.set q zeroNd).length cap) fv (if c2.length = 0 then place rr else place t) (t.size : Int) := by
        have := S8.out.t
        unfold TAt at this ⊢
        exact (K5.out.block b T1.out HR.out.bf).trans ((KA.out.block b T0.out (fun z => z)).trans this)
      have g5 : w5.heap[g]? = w4.heap[g]? := (K5.out.block g (by have := S8.out.r.lt.1; rw [World.size_alloc]; omega) HR.out.gf).trans (KA.out.block g S8.out.r.lt.1 (fun z => z))
      have gb : g ≠ b := fun z => S8.out.ne z.symm
      have S9 : Hid (St (w5.setCell ⟨b, 2, none⟩ fv') B b g cap most (if c2.length = 0 then place rr else place t) (t.size : Int) fv' (ns2.set q zeroNd)) :=
        St.tree (cs := cs) S8.out ((KS.block g (by have := K5.out.size; have := S8.out.r.lt.1; rw [World.size_alloc] at *; omega) gb).trans g5) ((TAt_set t5).2.1 _)
      have K49 : But (fun k => k = b ∨ k = g ∨ fv.ownBlock = some k ∨ k = i5) w4 (w5.setCell ⟨b, 2, none⟩ fv') :=
        ((KA.out.mono (fun _ z => z.elim)).trans (K5.out.mono (fun _ z => .inr (.inr (.inl z))))).trans (KS.mono (fun _ z => .inl z))
      have K9 := Lib.hid (But.trans (K84.out.mono (fun k z => (by rcases z with z | z | z; exact .inl z; exact .inr (.inl z); exact .inr (.inr (.inr z)) : k = b ∨ k = g ∨ fv.ownBlock = some k ∨ k = i5))) K49)
      have RF9 := Lib.hid (owns_but R5.out KS (fun k hk hs => bf5 (by rw [hk, hs])))
      have P9 : Hid (PAt (w5.setCell ⟨b, 2, none⟩ fv') i5 cs4) := by
        have a1 := P4.out.but ((But.refl (fun k => k = b ∨ k = g) wy).drew.trans B7.out) (by have := N5.out; omega)
        have a2 := a1.but K8.out (by have := N5.out; omega)
        have a3 := (a2.but KA.out (fun z => z)).but K5.out HR.out.f5
        exact a3.but KS (by have := N5.out; omega)
      have B5 := Lib.hid (And.intro bf5 (And.intro gf5 of5))
      obtain ⟨w6, hw6⟩ : ∃ v, Hid (v = w5.setCell ⟨b, 2, none⟩ fv') := ⟨_, rfl⟩
      rw [← hw6.out] at S9 K9 RF9 P9 ⊢
      clear hw6 KS t5 g5 K49 bf5 gf5 of5 S8 K8 KA K5 R5 L5 T0 T1
      -- one item less
      have c4 := S9.out.t.c4
      have f4 := S9.out.t.f 4
      have hsz : 1 ≤ t.size ∧ t.size ≤ 1000000 := by have := H.out.small.1; have := perm_size (t := Tr.mendZ c2 rr) (t' := t) G.out.pm.symm; omega
      have hw4 : wrap64 ((t.size : Int) - 1) = (t.size : Int) - 1 := IntWalk.wrap64_in _ (by omega)
      have hw5 : IntKind.i64.wrap ((t.size : Int) - 1) = (t.size : Int) - 1 := by rw [IntWalk.i64_left, hw4]
      clear hsz
      go_upto_region 23 with fail
      clear c4 f4 hw4 hw5
      have S10 := Lib.hid (S9.out.count ((t.size : Int) - 1))
      have K10 : But (· = b) w6 (w6.setCell ⟨b, 4, none⟩ (.int .i64 ((t.size : Int) - 1))) := (But.refl (· = b) w6).set (show _ = b from rfl) _
      have P10 := Lib.hid (P9.out.but K10 (by have := N5.out; omega))
      replace K10 := Lib.hid K10
      obtain ⟨w7, hw7⟩ : ∃ v, Hid (v = w6.setCell ⟨b, 4, none⟩ (.int .i64 ((t.size : Int) - 1))) := ⟨_, rfl⟩
      rw [← hw7.out] at S10 K10 P10 ⊢
      clear hw7 S9 P9
      have A4 := mend_st (cr := c2.reverse) (q := i5) S10.out (by rw [List.length_reverse]; have := CL.out; omega) (by rw [List.length_set, HL2.out]; exact WLR.out) P10.out.lt N5.out.1 N5.out.2 (P10.out.pathIn C4.out) (by rw [List.length_reverse]; exact P10.out.cell 80 C4.out.n) (zero_fit FT2.out (by rw [HL2.out]; have := (List.getElem?_eq_some_iff.1 ND.out).1; omega)) (by omega) (place rr) (fun z => by rw [if_pos (by simpa using z)])
      rw [List.reverse_reverse] at A4
      go_wp2_with (go_at_call 35; (with_reducible refine A4.mono ?_); rintro e w8 ⟨rfl, s8, b8⟩; have S11 := Lib.hid s8; have K11 := Lib.hid b8; clear s8 b8 A4)
      go_ret
      have K12 : But (fun k => k = b ∨ k = g ∨ fv.ownBlock = some k ∨ k = i5) wz w8 := (K9.out.trans (K10.out.mono (fun _ z => .inl z))).trans (K11.out.mono (fun k z => (by rcases z with z | z; exact .inl z; exact .inr (.inl z) : k = b ∨ k = g ∨ fv.ownBlock = some k ∨ k = i5)))
      have RF12 := owns_but (owns_but RF9.out K10.out (fun k hk hs => B5.out.1 (by rw [hk, hs]))) K11.out (fun k hk hs => by rcases hs with hs | hs; exact B5.out.1 (by rw [hk, hs]); exact B5.out.2.1 (by rw [hk, hs]))
      have T := gone_done H.out HR.out G.out HNL.out (by rw [hns2.out]; exact S11.out) RF12 B5.out.1 B5.out.2.1 B5.out.2.2 K12 (by have := s5.out; omega)
      exact ⟨rfl, T⟩
/-- Delete, whatever the tree -/
theorem delete_is {w : World} {B b : Nat} {most : Int} {O : Nat → Prop} {L : List It} {x : It} (h : TreeIs w B b most O L) :
    Calls Try.prog 24 #[.pointer (some ⟨b, 0, none⟩), .agg #[.int .i64 x.f, .int .i64 x.t, .int .i64 x.i]] w fun e w' => e = .returned (.int .i64 (delA x L).1) ∧ Turned w w' B b most O (delA x L).2 := by
  obtain ⟨t, ns, free, nv, fv, h, rfl, rfl⟩ := h
  unfold delA
  by_cases hm : x ∈ t.items
  · rw [if_pos hm]
    obtain ⟨p, l, r, hw⟩ := way_nd h.ok hm
    cases hl : l.isNil with
    | true => exact delete_left h hm hw (by cases l with | nil => rfl | nd a b c d => simp [Tr.isNil] at hl)
    | false =>
      cases hr : r.isNil with
      | true => exact delete_right h hm hw ⟨hl, by cases r with | nil => rfl | nd a b c d => simp [Tr.isNil] at hr⟩
      | false => exact delete_both h hm hw ⟨hl, hr⟩
  · rw [if_neg hm]
    refine (delete_no h hm).mono ?_
    rintro e' w' ⟨rfl, b1⟩
    exact ⟨rfl, Turned.same ⟨t, ns, free, nv, fv, h, rfl, rfl⟩ b1⟩
end Go.Proofs.Ytmgljgmfipodeaa.Av
