/-
  itree: All: the function that tells item by item, walked.
-/
import Derived.Test.YtmgljgmfipodeaaM27
import Derived.Test.YtmgljgmfipodeaaM28
import Derived.Shelf.Abstract
import Derived.Shelf.RegionOpen
import Derived.OwnWalkIn
import Derived.TacticsInMore
import Derived.LoopNIn
import Derived.LoopIn
import Derived.Sort.LoopGhostIn
import Derived.Sort.CutIn
/-
  itree: All: the function that tells item by item, walked.
-/
namespace Go.Proofs.Ytmgljgmfipodeaa.Itr
open Go Go.RowKit Go.Shelf Av
set_option linter.unusedSimpArgs false
set_option linter.unusedVariables false
attribute [local go_sem] Oper.semAt_some

theorem owns_keep {T : Nat → Prop} {w w' : World} {B e m n : Nat} {v : Value} {xs : List Value} (h : w.ownsRow B e m v n xs) (k : Keep T w w') (hs : ∀ g, v.ownBlock = some g → T g) : w'.ownsRow B e m v n xs := by
  obtain ⟨h1, h2⟩ := h
  refine ⟨h1, ?_⟩
  rcases h2 with h2 | ⟨g', cap', cur, rfl, hg, hh, r⟩
  · exact .inl h2
  · exact .inr ⟨g', cap', cur, rfl, hg, by rw [k.same g' (hs g' rfl) (Array.getElem?_eq_some_iff.1 hh).1]; exact hh, r⟩
theorem tre_keep {T : Nat → Prop} {w w' : World} {B b : Nat} {most : Int} {t : Tr} {ns : List Nd} {free : List Nat} {nv fv : Value} (h : Tre w B b most t ns free nv fv) (k : Keep T w w') (hs : ∀ g, Av.own b nv fv g → T g) : Tre w' B b most t ns free nv fv :=
  { h with
    tt := by have := h.tt; unfold TAt at this ⊢; rw [k.same b (hs b (.inl rfl)) h.tt.lt]; exact this
    rn := owns_keep h.rn k (fun g hg => hs g (.inr (.inl hg)))
    rf := owns_keep h.rf k (fun g hg => hs g (.inr (.inr hg))) }
theorem but_grown {q : Nat} {A C : World} (h : But (· = q) A C) : A.grownBy C (some q) :=
  ⟨h.os, h.tape, h.output, h.size, fun k hk hr => h.block k hk (fun e => hr (by rw [e]))⟩
/-- a new walker's cells -/
def wkZ : Array Value := ((Value.pointer none) :: List.replicate 283 (Value.int .i64 0)).toArray
theorem wk_info : (Try.prog.info? 74).map (fun i => (i.zero, i.size)) = some (some (.agg wkZ), 284) := by kernel_rfl
theorem wk_zero (w : World) : (zeroValue 74).run Try.prog w = .ok (.agg wkZ) w := (zero_of_info wk_info).1 w
theorem wkZ_size : wkZ.size = 284 := by unfold wkZ; rw [List.size_toArray, List.length_cons, List.length_replicate]
def wkNew (v : Value) (a b : Int) : Array Value := ((wkZ.setIfInBounds 0 v).setIfInBounds 1 (.int .i64 a)).setIfInBounds 2 (.int .i64 b)
theorem wkNew_c (v : Value) (a b : Int) : WkC (wkNew v a b) v a b [] := by
  have hz := wkZ_size
  unfold wkNew
  refine ⟨by simp [hz], ?_, ?_, ?_, ?_, fun i k h => by simp at h⟩
  · rw [Array.getElem?_setIfInBounds_ne (by omega), Array.getElem?_setIfInBounds_ne (by omega), Array.getElem?_setIfInBounds]; simp [hz]
  · rw [Array.getElem?_setIfInBounds_ne (by omega), Array.getElem?_setIfInBounds]; simp [hz]
  · rw [Array.getElem?_setIfInBounds]; simp [hz]
  · rw [Array.getElem?_setIfInBounds_ne (by omega), Array.getElem?_setIfInBounds_ne (by omega), Array.getElem?_setIfInBounds_ne (by omega)]
    unfold wkZ
    rw [List.getElem?_toArray, List.getElem?_cons_succ, List.getElem?_replicate]; rfl
def itV (x : It) : Value := .agg #[.int .i64 x.f, .int .i64 x.t, .int .i64 x.i]
def overS (a b : Int) (L : List It) : List It := if a < b then over a b L else []
set_option maxRecDepth 100000 in
set_option maxHeartbeats 2000000 in
theorem all1_at {w : World} {B b sb tb n : Nat} {most a z : Int} {O : Nat → Prop} {L : List It} {T : Nat → Prop} (h : TreeIs w B b most O L) (hs : w.heap[sb]? = some (.cells #[.int .i64 a, .int .i64 z] 24 (0, 0)))
    (ht : w.heap[tb]? = some (.cells #[.pointer (some ⟨b, 0, none⟩)] 45 (0, 0))) (hT : ∀ g, O g ∨ g = sb ∨ g = tb → T g) :
    SeqAt n Try.prog 27 #[.pointer (some ⟨sb, 0, none⟩), .pointer (some ⟨tb, 0, none⟩)] (fun x : It => #[itV x]) 1 T (fun xs => xs = overS a z L) (fun pre => pre <+: overS a z L) (overS a z L).length w := by
  intro l J Jx W hsz hbw hJ hJx hY h0
  obtain ⟨t, ns, free, nv, fv, H0, rfl, rfl⟩ := h.but (Below.but hbw (fun _ => False)) (fun _ _ k => k)
  have hs1 := (hbw.block sb (Array.getElem?_eq_some_iff.1 hs).1).trans hs
  have ht1 := (hbw.block tb (Array.getElem?_eq_some_iff.1 ht).1).trans ht
  have s0 : W.cell? ⟨sb, 0, none⟩ = some (.int .i64 a) := by rw [cell_of_row W _ _ _ _ (0, 0) hs1]; rfl
  have s1 : W.cell? ⟨sb, 1, none⟩ = some (.int .i64 z) := by rw [cell_of_row W _ _ _ _ (0, 0) hs1]; rfl
  have t0 : W.cell? ⟨tb, 0, none⟩ = some (.pointer (some ⟨b, 0, none⟩)) := by rw [cell_of_row W _ _ _ _ (0, 0) ht1]; rfl
  obtain ⟨X, hX⟩ : ∃ X, Hid (overS a z t.items = X) := ⟨_, rfl⟩
  rw [hX.out] at hY ⊢
  refine callsIn_of_wp Try.func27 rfl trivial ?_ rfl
  simp only [Try.ntmps27, List.size_toArray, List.length_cons, List.length_nil, Nat.reduceAdd, Nat.reduceSub, Array.replicate_succ, Array.replicate_zero, List.push_toArray, List.append_toArray, List.nil_append, List.cons_append]
  by_cases haz : a < z
  · have d0 : decide (z ≤ a) = false := by simp; omega
    have d1 : ¬ z ≤ a := by omega
    have zz := wk_zero
    have e0 : ¬ wkZ = #[] := fun e => by have := wkZ_size; rw [e] at this; simp at this
    have e1 : ¬ wkZ.size < 2 := by rw [wkZ_size]; omega
    have e2 : ¬ wkZ.size < 3 := by rw [wkZ_size]; omega
    have B1 := ba W (Obj.cells (wkNew (.pointer (some ⟨b, 0, none⟩)) a z) 74)
    have W1 : Hid (WkAt (W.alloc (Obj.cells (wkNew (.pointer (some ⟨b, 0, none⟩)) a z) 74)) W.heap.size (wkNew (.pointer (some ⟨b, 0, none⟩)) a z)) := heap_alloc_new W _
    have C1 := wkNew_c (.pointer (some ⟨b, 0, none⟩)) a z
    have tlt := (Array.getElem?_eq_some_iff.1 ht1).1
    have slt := (Array.getElem?_eq_some_iff.1 hs1).1
    have HZ := Lib.hid hsz
    obtain ⟨q, hq⟩ : ∃ i, Hid (W.heap.size = i) := ⟨_, rfl⟩
    clear hsz
    gi_upto_region 2 with fail
    clear zz e0 e1 e2 d0 d1 s0 s1 t0
    obtain ⟨CN, hCN⟩ : ∃ c, Hid (wkNew (.pointer (some ⟨b, 0, none⟩)) a z = c) := ⟨_, rfl⟩
    have hCN' := hCN.out
    unfold wkNew at hCN'
    rw [hCN'] 
    rw [hCN.out] at B1 W1 C1
    clear hCN hCN'
    have J1 : J [] (W.alloc (Obj.cells CN 74)) := hJ.alloc _ h0
    obtain ⟨w2, hw2⟩ : ∃ v, Hid (v = W.alloc (Obj.cells CN 74)) := ⟨_, rfl⟩
    rw [← hw2.out] at B1 W1 J1 ⊢
    have H1 := Lib.hid (H0.but (Below.but B1 (fun _ => False)) (fun _ _ k => k))
    have hs2 := (B1.block sb slt).trans hs1
    have ht2 := (B1.block tb tlt).trans ht1
    have qs : Hid (q ≠ sb) := by show q ≠ sb; have := hq.out; omega
    have qt : Hid (q ≠ tb) := by show q ≠ tb; have := hq.out; omega
    have HQ : Hid (¬ Av.own b nv fv q) := fun o => by
      have := TreeIs.lt ⟨t, ns, free, nv, fv, H0, rfl, rfl⟩ q o
      have := hq.out; omega
    rw [hq.out] at W1 hJ hJx hY ⊢
    have JS : Hid (∀ xs A C, J xs A → But (· = q) A C → J xs C) := fun xs A C hj hb => hJ xs A C _ hj (but_grown hb) (fun r e => by cases e; exact ⟨Nat.le_refl _, by omega⟩)
    have JXS : Hid (∀ xs A C, Jx xs A → But (· = q) A C → Jx xs C) := fun xs A C hj hb => hJx xs A C _ hj (but_grown hb) (fun r e => by cases e; exact ⟨Nat.le_refl _, by omega⟩)
    have HY := Lib.hid hY
    have root := root_at H1.out.tt (by have := H0.m1; omega)
    have push := push_is (c := t) H1.out HQ.out W1.out C1 H1.out.ls (by have := H1.out.small.2; simp; omega)
    have LT : Hid (Lies ns t) := H1.out.ls
    have HT : Hid (t.ht ≤ 39) := H1.out.small.2
    have t0 : w2.cell? ⟨tb, 0, none⟩ = some (.pointer (some ⟨b, 0, none⟩)) := by rw [cell_of_row w2 _ _ _ _ (0, 0) ht2]; rfl
    replace hs2 := Lib.hid hs2
    replace ht2 := Lib.hid ht2
    replace J1 := Lib.hid J1
    have q2 := W1.out.lt
    have HQ2 : Hid (q + 1 ≤ w2.heap.size) := by show _ ≤ _; omega
    clear hJ hJx hY H0 hs1 ht1 B1 tlt slt hw2 h0 q2
    gi_wp2_with (first
      | (refine ⟨trivial, (fun hd => by cases hd), ?_⟩; gi_at_call 29; go_loud (refine (callsIn_wide.2 root).mono ?_; rintro e w20 ⟨rfl, hq⟩; obtain rfl := hq.symm; clear root))
      | (refine ⟨trivial, (fun hd => by cases hd), ?_⟩; gi_at_call 28; refine (callsIn_wide.2 push).mono ?_; rintro e w3 ⟨rfl, b3, cs3, a3, c3⟩; have B3 := Lib.hid b3; have W3 := Lib.hid a3; have C3 := Lib.hid c3; clear b3 a3 c3 push))
    have K3 := Lib.hid (JS.out _ _ _ J1.out B3.out)
    have H3 := Lib.hid (own_but H1.out B3.out HQ.out)
    have hs3 : Hid (w3.heap[sb]? = _) := (B3.out.block sb (Array.getElem?_eq_some_iff.1 hs2.out).1 (fun e => qs.out e.symm)).trans hs2.out
    have ht3 : Hid (w3.heap[tb]? = _) := (B3.out.block tb (Array.getElem?_eq_some_iff.1 ht2.out).1 (fun e => qt.out e.symm)).trans ht2.out
    have S3 : Hid (q + 1 ≤ w3.heap.size) := by have := B3.out.size; have := HQ2.out; show _ ≤ _; omega
    have TX : Hid ([] ++ rest a z (spine a t []) = X) := by show _ = _; rw [← hX.out, List.nil_append, rest_over H1.out.ok]; unfold overS; rw [if_pos haz]
    have HH3 : Hid (KnLies ns (spine a t []) ∧ High 39 (spine a t [])) := ⟨lies_spine t (fun k hk => by simp at hk) LT.out, high_spine t trivial (by have := HT.out; simp; omega)⟩
    have HTT := Lib.hid hT
    clear B3 J1 hs2 ht2 H1 W1 C1 t0 HQ2 hT haz
    gi_loopg [5] ((come a (spine a t [])).length + 1) (fun m _ wr => ∃ (s : List Kn) (cs : Array Value) (told : List It), m = (come a s).length + 1 ∧ Hid (told ++ rest a z s = X) ∧ Hid (KnLies ns s ∧ High 39 s) ∧ Hid (WkAt wr q cs) ∧ Hid (WkC cs (.pointer (some ⟨b, 0, none⟩)) a z s) ∧ Hid (Tre wr B b most t ns free nv fv) ∧
      Hid (wr.heap[sb]? = some (.cells #[.int .i64 a, .int .i64 z] 24 (0, 0))) ∧ Hid (wr.heap[tb]? = some (.cells #[.pointer (some ⟨b, 0, none⟩)] 45 (0, 0))) ∧ Hid (J told wr) ∧ Hid (q + 1 ≤ wr.heap.size))
    case atStart => exact ⟨spine a t [], cs3, [], rfl, TX.out, HH3.out, W3.out, C3.out, H3.out, hs3.out, ht3.out, K3.out, S3.out⟩
    case round =>
      obtain ⟨wo, rfl⟩ : ∃ wo : World, wo = wr := ⟨_, rfl⟩
      clear W3 C3 H3 hs3 ht3 K3 S3 TX HH3
      obtain ⟨s, cs, told, rfl, TX, HH, W1, C1, H1, hs1, ht1, J1, S1⟩ := hrel
      cases s with
      | nil =>
        have next := next_nil W1.out C1.out
        unfold knotV at next
        gi_upto_region 4 with (refine ⟨trivial, (fun hd => by cases hd), ?_⟩; gi_at_call 30; refine (callsIn_wide.2 next).mono ?_; rintro e w4 ⟨rfl, b4⟩; have B4 := Lib.hid b4; clear b4 next)
        gi_wp2
        refine bodyPost_ret (results_none rfl _ _ _) rfl ?_
        refine ⟨⟨_, rfl⟩, .inl ⟨told, ?_, ?_⟩⟩
        · have := TX.out; rw [rest_nil, List.append_nil] at this; exact this
        · exact JS.out _ _ _ J1.out (B4.out.alloc _)
      | cons k s =>
        have next := next_cons H1.out HQ.out W1.out C1.out HH.out.1 HH.out.2
        obtain ⟨ht, hht⟩ : ∃ i, Hid ((k.tr.ht : Int) = i) := ⟨_, rfl⟩
        obtain ⟨tp, htp⟩ : ∃ i, Hid (k.tr.top = i) := ⟨_, rfl⟩
        obtain ⟨pl, hpl⟩ : ∃ i, Hid (place k.l = i) := ⟨_, rfl⟩
        obtain ⟨pr, hpr⟩ : ∃ i, Hid (place k.r = i) := ⟨_, rfl⟩
        rw [hht.out, htp.out, hpl.out, hpr.out] at next
        by_cases hz : k.x.f < z
        · rw [show decide (k.x.f < z) = true by simpa using hz] at next
          have HZ := Lib.hid hz
          have RG := rest_go (a := a) (s := s) hz
          have CG : come a (k :: s) = k.x :: come a (spine a k.r s) := by rw [come_spine]; simp [come]
          replace CG := Lib.hid CG
          replace RG := Lib.hid RG
          have HH2 : Hid (KnLies ns (spine a k.r s) ∧ High 39 (spine a k.r s)) := ⟨lies_spine _ (fun k' hk => HH.out.1 k' (by simp [hk])) (HH.out.1 k (by simp)).2.2, high_spine _ HH.out.2.2 (by have h1 := HH.out.2.1; simp only [Kn.tr, Tr.ht] at h1; omega)⟩
          clear hz
          gi_upto_region 4 with (refine ⟨trivial, (fun hd => by cases hd), ?_⟩; gi_at_call 30; refine (callsIn_wide.2 next).mono ?_; rintro e w4 ⟨rfl, b4, c4⟩; have B4 := Lib.hid b4; obtain ⟨cs4, a4, c4⟩ := c4 HZ.out; have W4 := Lib.hid a4; have C4 := Lib.hid c4; clear b4 a4 c4 next)
          have E5 := ba w4 (Obj.cells #[Value.int .i64 k.x.f, .int .i64 k.x.t, .int .i64 k.x.i, .int .i64 pl, .int .i64 pr, .int .i64 ht, .int .i64 tp] 71)
          have hk5 := heap_alloc_new w4 (Obj.cells #[Value.int .i64 k.x.f, .int .i64 k.x.t, .int .i64 k.x.i, .int .i64 pl, .int .i64 pr, .int .i64 ht, .int .i64 tp] 71)
          have NS : Hid (sb < w4.heap.size ∧ tb < w4.heap.size ∧ q + 1 ≤ w4.heap.size) := by
            have h1 := (Array.getElem?_eq_some_iff.1 hs1.out).1
            have h2 := (Array.getElem?_eq_some_iff.1 ht1.out).1
            have h3 := S1.out
            have h4 := B4.out.size
            exact ⟨by omega, by omega, by omega⟩
          have J5 : Hid (J told (w4.alloc (Obj.cells #[Value.int .i64 k.x.f, .int .i64 k.x.t, .int .i64 k.x.i, .int .i64 pl, .int .i64 pr, .int .i64 ht, .int .i64 tp] 71))) := JS.out _ _ _ J1.out (B4.out.alloc _)
          have hs4 := (B4.out.block sb (Array.getElem?_eq_some_iff.1 hs1.out).1 (fun e => qs.out e.symm)).trans hs1.out
          have ht4 := (B4.out.block tb (Array.getElem?_eq_some_iff.1 ht1.out).1 (fun e => qt.out e.symm)).trans ht1.out
          have H4 := own_but H1.out B4.out HQ.out
          have W5 := Lib.hid (W4.out.below E5)
          have H5 := Lib.hid (H4.but (Below.but E5 (fun _ => False)) (fun _ _ k => k))
          have hs5 := (E5.block sb NS.out.1).trans hs4
          have ht5 := (E5.block tb NS.out.2.1).trans ht4
          obtain ⟨w5, hw5⟩ : ∃ v, Hid (v = w4.alloc (Obj.cells #[Value.int .i64 k.x.f, .int .i64 k.x.t, .int .i64 k.x.i, .int .i64 pl, .int .i64 pr, .int .i64 ht, .int .i64 tp] 71)) := ⟨_, rfl⟩
          have S5 : Hid (q + 1 ≤ w5.heap.size) := by have := NS.out.2.2; show _ ≤ _; rw [hw5.out, World.size_alloc]; omega
          rw [← hw5.out] at hk5 E5 W5 H5 hs5 ht5 J5 ⊢
          obtain ⟨i5, hi5⟩ : ∃ i, Hid (w4.heap.size = i) := ⟨_, rfl⟩
          rw [hi5.out] at hk5 ⊢
          clear hw5 hi5 E5 hs4 ht4 H4 W4 NS B4 W1 C1 H1 hs1 ht1 J1 S1
          obtain ⟨k0, k1, k2, k3, k4, k5, k6, g0, g1, g2, g3, g4, g5, g6⟩ := k7 hk5
          have s0 : w5.cell? ⟨sb, 0, none⟩ = some (.int .i64 a) := by rw [cell_of_row w5 _ _ _ _ (0, 0) hs5]; rfl
          replace hs5 := Lib.hid hs5
          replace ht5 := Lib.hid ht5
          clear hk5
          by_cases hat : a < k.x.t
          · have d1 : decide (a < k.x.t) = true := by simpa using hat
            have TX2 : Hid ((told ++ [k.x]) ++ rest a z (spine a k.r s) = X) := by
              show _ = _
              rw [← TX.out, RG.out, if_pos hat, List.append_assoc]
            obtain ⟨fn, tmps, assign, body, hy, hR⟩ := HY.out told k.x w5 J5.out (by rw [← TX2.out]; simp) S5.out
            dsimp only [itV] at hy
            gi_wp2
            refine ⟨(fun hd => by cases hd), hR.mono ?_⟩
            clear hR hy k0 k1 k2 k3 k4 k5 k6 g0 g1 g2 g3 g4 g5 g6 s0 d1
            rintro e w6 (⟨rfl, hJ6, hk6⟩ | ⟨rfl, hJ6⟩)
            · have J6 := Lib.hid hJ6
              have W6 : Hid (WkAt w6 q cs4) := (hk6.same q (.inr ⟨Nat.le_refl _, by omega⟩) W5.out.lt).trans W5.out
              have H6 := Lib.hid (tre_keep H5.out hk6 (fun g hg => .inl (HTT.out g (.inl hg))))
              have hs6 : Hid (w6.heap[sb]? = _) := (hk6.same sb (.inl (HTT.out sb (.inr (.inl rfl)))) (Array.getElem?_eq_some_iff.1 hs5.out).1).trans hs5.out
              have ht6 : Hid (w6.heap[tb]? = _) := (hk6.same tb (.inl (HTT.out tb (.inr (.inr rfl)))) (Array.getElem?_eq_some_iff.1 ht5.out).1).trans ht5.out
              have S6 : Hid (q + 1 ≤ w6.heap.size) := by have := S5.out; have := hk6.size; show _ ≤ _; omega
              clear hJ6 hk6 W5 H5 hs5 ht5 S5 J5
              gi_wp2
              gi_roundg ((come a (spine a k.r s)).length + 1)
              case rel => exact ⟨spine a k.r s, cs4, told ++ [k.x], rfl, TX2.out, HH2.out, W6.out, C4.out, H6.out, hs6.out, ht6.out, J6.out, S6.out⟩
              case measure => rw [CG.out, List.length_cons]; omega
            · have J6 := Lib.hid hJ6
              clear hJ6
              gi_wp2
              refine bodyPost_ret (results_none rfl _ _ _) rfl ?_
              exact ⟨⟨_, rfl⟩, .inr ⟨told ++ [k.x], ⟨_, TX2.out⟩, J6.out⟩⟩
          · have d1 : decide (a < k.x.t) = false := by simpa using hat
            have TX2 : Hid (told ++ rest a z (spine a k.r s) = X) := by
              show _ = _
              rw [← TX.out, RG.out, if_neg hat, List.nil_append]
            gi_wp2
            refine ⟨(fun _ h => by cases h), ?_⟩
            gi_wp2
            gi_roundg ((come a (spine a k.r s)).length + 1)
            case rel => exact ⟨spine a k.r s, cs4, told, rfl, TX2.out, HH2.out, W5.out, C4.out, H5.out, hs5.out, ht5.out, J5.out, S5.out⟩
            case measure => rw [CG.out, List.length_cons]; omega
        · rw [show decide (k.x.f < z) = false by simpa using hz] at next
          have HZ := Lib.hid hz
          clear hz
          gi_upto_region 4 with (refine ⟨trivial, (fun hd => by cases hd), ?_⟩; gi_at_call 30; refine (callsIn_wide.2 next).mono ?_; rintro e w4 ⟨rfl, b4, c4⟩; have B4 := Lib.hid b4; clear b4 c4 next)
          gi_wp2
          refine bodyPost_ret (results_none rfl _ _ _) rfl ?_
          refine ⟨⟨_, rfl⟩, .inl ⟨told, ?_, ?_⟩⟩
          · have := TX.out; rw [rest_stop (by have := HZ.out; omega), List.append_nil] at this; exact this
          · exact JS.out _ _ _ J1.out (B4.out.alloc _)
  · have d0 : decide (z ≤ a) = true := by simp; omega
    have d1 : z ≤ a := by omega
    have e : Hid ([] = X) := by show _ = _; rw [← hX.out]; unfold overS; rw [if_neg haz]
    gi_wp2
    refine bodyPost_ret (results_none rfl _ _ _) rfl ?_
    exact ⟨⟨_, rfl⟩, .inl (by rw [← e.out]; exact h0)⟩
end Go.Proofs.Ytmgljgmfipodeaa.Itr
