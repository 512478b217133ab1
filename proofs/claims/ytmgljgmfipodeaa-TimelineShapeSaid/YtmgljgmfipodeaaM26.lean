/-
  itree: a walker, in a world: push, walked.
-/
import Derived.Test.YtmgljgmfipodeaaM25
/-
  itree: a walker, in a world: push, walked.
-/
namespace Go.Proofs.Ytmgljgmfipodeaa.Itr
open Go Go.RowKit Av
set_option linter.unusedSimpArgs false
set_option linter.unusedVariables false
attribute [local go_sem ↓] Go.wp_at_zero Go.wp_at_succ

def WkAt (w : World) (q : Nat) (cs : Array Value) : Prop := w.heap[q]? = some (.cells cs 74 (0, 0))
section
variable {w : World} {q : Nat} {cs : Array Value}
theorem WkAt.lt (h : WkAt w q cs) : q < w.heap.size := (Array.getElem?_eq_some_iff.1 h).1
theorem WkAt.but {S : Nat → Prop} {w' : World} (h : WkAt w q cs) (hb : But S w w') (hs : ¬ S q) : WkAt w' q cs := by unfold WkAt; rw [hb.block q h.lt hs]; exact h
theorem WkAt.below {w' : World} (h : WkAt w q cs) (hb : Below w.heap.size w w') : WkAt w' q cs := by unfold WkAt; rw [hb.block q h.lt]; exact h
theorem WkAt.cell (h : WkAt w q cs) (i : Nat) {v : Value} (hv : cs[i]? = some v) : w.cell? ⟨q, i, none⟩ = some v := by rw [cell_of_row w _ _ _ _ (0, 0) h]; exact hv
theorem WkAt.f (h : WkAt w q cs) (i : Nat) : w.frozen? ⟨q, i, none⟩ = false := frozen_of_row w _ _ _ _ h
theorem WkAt.set (h : WkAt w q cs) (i : Nat) (v : Value) : WkAt (w.setCell ⟨q, i, none⟩ v) q (cs.setIfInBounds i v) := heap_setCell_same w q i cs _ v h
theorem WkAt.drew (h : WkAt w q cs) : WkAt w.drew q cs := h
theorem WkAt.drewN (h : WkAt w q cs) (n : Nat) : WkAt (w.drewN n) q cs := h
end
/-- a node's copy -/
def KAt (w : World) (q : Nat) (k : Kn) : Prop := w.heap[q]? = some (.cells k.cells.toArray 71 (0, 0))
set_option maxRecDepth 100000 in
/-- Node, where there is none -/
theorem node_off {w : World} {B b : Nat} {most : Int} {t : Tr} {ns : List Nd} {free : List Nat} {nv fv : Value} (h : Tre w B b most t ns free nv fv) :
    Calls Try.prog 36 #[.pointer (some ⟨b, 0, none⟩), .int .i64 (-1)] w fun e w' => e = .returned (.tuple #[knotV 0 0 0 0 0 0 0, .bool false]) ∧ Below w.heap.size w w' := by
  have B0 := ba w (.cells #[.int .i64 0, .int .i64 0, .int .i64 0, .int .i64 0, .int .i64 0, .int .i64 0, .int .i64 0] 71)
  have h1 := h.but (Below.but B0 (fun _ => False)) (fun _ _ k => k)
  have A := none_at h1.tt
  rw [show decide (most = 0) = false by have := h.m1; simp; omega] at A
  replace B0 := Lib.hid B0
  clear h h1
  go_enter Try.func36, Try.ntmps36
  go_wp2_with (go_at_call 31; (with_reducible refine A.mono ?_); rintro e w20 ⟨rfl, rfl⟩)
  refine bodyPost_ret (v := .tuple #[knotV 0 0 0 0 0 0 0, .bool false]) (results_row2 (fn := Try.f36) (p := 4) (u := 5) rfl _ _ w.heap.size _ _ (0, 0) _ rfl (heap_alloc_new w _) Try.underlying71 rfl (by kernel_rfl)) rfl ?_
  exact ⟨rfl, B0.out⟩
theorem node_of {w : World} {B b : Nat} {most : Int} {t : Tr} {ns : List Nd} {free : List Nat} {nv fv : Value} {p : Nat} {x : It} {l r : Tr} (h : Tre w B b most t ns free nv fv) (hl : Lies ns (.nd p x l r)) :
    Calls Try.prog 36 #[.pointer (some ⟨b, 0, none⟩), .int .i64 (p : Int)] w fun e w' => e = .returned (.tuple #[.agg #[.int .i64 x.f, .int .i64 x.t, .int .i64 x.i, .int .i64 (place l), .int .i64 (place r), .int .i64 ((Tr.nd p x l r).ht : Int), .int .i64 (Tr.nd p x l r).top], .bool true]) ∧ Below w.heap.size w w' := by
  refine (node_at h hl.1 rfl).mono ?_
  rintro e w' ⟨rfl, hb⟩
  exact ⟨rfl, hb⟩
theorem own_but {w w' : World} {B b q : Nat} {most : Int} {t : Tr} {ns : List Nd} {free : List Nat} {nv fv : Value} (h : Tre w B b most t ns free nv fv) (k : But (· = q) w w') (hq : ¬ Av.own b nv fv q) : Tre w' B b most t ns free nv fv :=
  h.but k (fun g hg e => hq (by rw [← e]; exact hg))
set_option maxRecDepth 100000 in
set_option maxHeartbeats 1000000 in
theorem push_is {w : World} {B b q : Nat} {most : Int} {t : Tr} {ns : List Nd} {free : List Nat} {nv fv : Value} {cs : Array Value} {a z : Int} {s : List Kn} {c : Tr}
    (h : Tre w B b most t ns free nv fv) (hq : ¬ Av.own b nv fv q) (hw : WkAt w q cs) (hc : WkC cs (.pointer (some ⟨b, 0, none⟩)) a z s) (hl : Lies ns c) (hh : c.ht + s.length ≤ 39) :
    Calls Try.prog 28 #[.pointer (some ⟨q, 0, none⟩), .int .i64 (place c)] w fun e w' => e = .returned (.tuple #[]) ∧ But (· = q) w w' ∧ ∃ cs', WkAt w' q cs' ∧ WkC cs' (.pointer (some ⟨b, 0, none⟩)) a z (spine a c s) := by
  obtain ⟨S, hS⟩ : ∃ S, Hid (spine a c s = S) := ⟨_, rfl⟩
  rw [hS.out]
  have H := Lib.hid h
  have HQ := Lib.hid hq
  have W0 := Lib.hid hw
  have C0 := Lib.hid hc
  have L0 := Lib.hid hl
  clear h hq hw hc hl
  go_enter Try.func28, Try.ntmps28
  go_wp2_with fail
  go_loopw [1] (fun v wr => ∃ (c : Tr) (s : List Kn) (cs : Array Value), v = .int .i64 (place c) ∧ Hid (spine a c s = S) ∧ Hid (Lies ns c) ∧ c.ht + s.length ≤ 39 ∧ Hid (WkAt wr q cs) ∧ Hid (WkC cs (.pointer (some ⟨b, 0, none⟩)) a z s) ∧ Hid (But (· = q) w wr)) (fun v _ => (hOf ns (intOf v)).toNat)
  case atStart => exact ⟨c, s, cs, rfl, hS.out, L0.out, hh, W0.out, C0.out, But.refl _ _⟩
  case round =>
    obtain ⟨wo, rfl⟩ : ∃ wo : World, wo = wr := ⟨_, rfl⟩
    clear W0 C0 L0 hS hh
    obtain ⟨c, s, cs, rfl, hS, L0, hh, W0, C0, B0⟩ := hrel
    have H1 := Lib.hid (own_but H.out B0.out HQ.out)
    have c0 := W0.out.cell 0 C0.out.c0
    have c1 := W0.out.cell 1 C0.out.c1
    cases c with
    | nil =>
      have A := node_off H1.out
      unfold knotV at A
      rw [show place Tr.nil = (-1 : Int) from rfl]
      go_upto_region 4 with (go_at_call 36; (with_reducible refine A.mono ?_); rintro e w7 ⟨rfl, b7⟩; have B7 := Lib.hid b7; clear b7 A)
      go_quiet (fail)
      go_wp2_with fail
      refine bodyPost_ret (results_none rfl _ _ _) rfl ?_
      refine ⟨rfl, B0.out.trans (Below.but (bdN (bt B7.out (ba _ _)) nq) _), cs, ?_, ?_⟩
      · exact (W0.out.below (bt B7.out (ba _ _))).drewN nq
      · have := C0.out
        rw [← hS.out]; exact this
    | nd p x l r =>
      have A := node_of H1.out L0.out
      obtain ⟨hc, hhc⟩ : ∃ i, Hid (((Tr.nd p x l r).ht : Int) = i) := ⟨_, rfl⟩
      obtain ⟨tp, htp⟩ : ∃ i, Hid ((Tr.nd p x l r).top = i) := ⟨_, rfl⟩
      obtain ⟨pl, hpl⟩ : ∃ i, Hid (place l = i) := ⟨_, rfl⟩
      obtain ⟨pr, hpr⟩ : ∃ i, Hid (place r = i) := ⟨_, rfl⟩
      rw [hhc.out, htp.out, hpl.out, hpr.out] at A
      rw [show place (Tr.nd p x l r) = (p : Int) from rfl]
      go_upto_region 4 with (go_at_call 36; (with_reducible refine A.mono ?_); rintro e w7 ⟨rfl, b7⟩; have B7 := Lib.hid b7; clear b7 A)
      have K8 := bt B7.out (ba w7 (Obj.cells #[.int .i64 x.f, .int .i64 x.t, .int .i64 x.i, .int .i64 pl, .int .i64 pr, .int .i64 hc, .int .i64 tp] 71))
      have hb8 := heap_alloc_new w7 (Obj.cells #[Value.int .i64 x.f, .int .i64 x.t, .int .i64 x.i, .int .i64 pl, .int .i64 pr, .int .i64 hc, .int .i64 tp] 71)
      have S7 := B7.out.size
      have qlt := W0.out.lt
      obtain ⟨w8, hw8⟩ : ∃ v, Hid (v = w7.alloc (Obj.cells #[Value.int .i64 x.f, .int .i64 x.t, .int .i64 x.i, .int .i64 pl, .int .i64 pr, .int .i64 hc, .int .i64 tp] 71)) := ⟨_, rfl⟩
      rw [← hw8.out] at hb8 K8 ⊢
      obtain ⟨i8, hi8⟩ : ∃ i, Hid (w7.heap.size = i) := ⟨_, rfl⟩
      rw [hi8.out] at hb8 S7 ⊢
      have NQ : Hid (q ≠ i8) := by show q ≠ i8; omega
      clear hw8 hi8 B7 qlt S7 c0 c1
      have W8 := Lib.hid (W0.out.below K8)
      have B8 := Lib.hid (B0.out.trans (Below.but K8 _))
      have k0 : w8.cell? ⟨i8, 0, none⟩ = some (.int .i64 x.f) := by rw [cell_of_row w8 _ _ _ _ (0, 0) hb8]; rfl
      have k1 : w8.cell? ⟨i8, 1, none⟩ = some (.int .i64 x.t) := by rw [cell_of_row w8 _ _ _ _ (0, 0) hb8]; rfl
      have k2 : w8.cell? ⟨i8, 2, none⟩ = some (.int .i64 x.i) := by rw [cell_of_row w8 _ _ _ _ (0, 0) hb8]; rfl
      have k3 : w8.cell? ⟨i8, 3, none⟩ = some (.int .i64 pl) := by rw [cell_of_row w8 _ _ _ _ (0, 0) hb8]; rfl
      have k4 : w8.cell? ⟨i8, 4, none⟩ = some (.int .i64 pr) := by rw [cell_of_row w8 _ _ _ _ (0, 0) hb8]; rfl
      have k5 : w8.cell? ⟨i8, 5, none⟩ = some (.int .i64 hc) := by rw [cell_of_row w8 _ _ _ _ (0, 0) hb8]; rfl
      have k6 : w8.cell? ⟨i8, 6, none⟩ = some (.int .i64 tp) := by rw [cell_of_row w8 _ _ _ _ (0, 0) hb8]; rfl
      have c1 := W8.out.cell 1 C0.out.c1
      by_cases hle : tp ≤ a
      · have d1 : decide (tp ≤ a) = true := by simpa using hle
        have HL := Lib.hid hle
        clear hle hb8
        replace K8 := Lib.hid K8
        go_quiet (fail)
        go_wp2_with fail
        refine bodyPost_ret (results_none rfl _ _ _) rfl ?_
        refine ⟨rfl, B8.out.drewN nq, cs, W8.out.drewN nq, ?_⟩
        have := C0.out
        rw [← hS.out]
        unfold spine
        rw [if_pos (by rw [htp.out]; exact HL.out)]; exact this
      · have d1 : decide (tp ≤ a) = false := by simpa using hle
        have HL := Lib.hid hle
        clear hle
        replace K8 := Lib.hid K8
        replace hb8 := Lib.hid hb8
        go_upto_region 5 with (go_quiet (fail))
        obtain ⟨n, hn⟩ : ∃ n, Hid (s.length = n) := ⟨_, rfl⟩
        have hn40 : n < 40 := by have := hn.out; simp only [Tr.ht] at hh; omega
        have W9 : Hid (WkAt (w8.drewN nq) q cs) := W8.out.drewN nq
        have B9 := Lib.hid (B8.out.drewN nq)
        have hb9 : Hid ((w8.drewN nq).heap[i8]? = _) := hb8.out
        obtain ⟨w9, hw9⟩ : ∃ v, Hid (v = w8.drewN nq) := ⟨_, rfl⟩
        rw [← hw9.out] at W9 B9 hb9 ⊢
        clear k0 k1 k2 k3 k4 k5 k6 c1 d1 K8 hb8 W8 B8 hw9 H1 B0 W0
        have k0 : w9.cell? ⟨i8, 0, none⟩ = some (.int .i64 x.f) := by rw [cell_of_row w9 _ _ _ _ (0, 0) hb9.out]; rfl
        have k1 : w9.cell? ⟨i8, 1, none⟩ = some (.int .i64 x.t) := by rw [cell_of_row w9 _ _ _ _ (0, 0) hb9.out]; rfl
        have k2 : w9.cell? ⟨i8, 2, none⟩ = some (.int .i64 x.i) := by rw [cell_of_row w9 _ _ _ _ (0, 0) hb9.out]; rfl
        have k3 : w9.cell? ⟨i8, 3, none⟩ = some (.int .i64 pl) := by rw [cell_of_row w9 _ _ _ _ (0, 0) hb9.out]; rfl
        have k4 : w9.cell? ⟨i8, 4, none⟩ = some (.int .i64 pr) := by rw [cell_of_row w9 _ _ _ _ (0, 0) hb9.out]; rfl
        have k5 : w9.cell? ⟨i8, 5, none⟩ = some (.int .i64 hc) := by rw [cell_of_row w9 _ _ _ _ (0, 0) hb9.out]; rfl
        have k6 : w9.cell? ⟨i8, 6, none⟩ = some (.int .i64 tp) := by rw [cell_of_row w9 _ _ _ _ (0, 0) hb9.out]; rfl
        have cn := W9.out.cell 283 (by have := C0.out.n; rw [hn.out] at this; exact this)
        have gv : ∀ j, j < 284 → ∃ v, w9.cell? ⟨q, j, none⟩ = some v := fun j hj => ⟨_, W9.out.cell j (Array.getElem?_eq_getElem (by rw [C0.out.size]; exact hj))⟩
        obtain ⟨v0, q0⟩ := gv (3 + n * 7) (by omega)
        obtain ⟨v1, q1⟩ := gv (3 + n * 7 + 1) (by omega)
        obtain ⟨v2, q2⟩ := gv (3 + n * 7 + 2) (by omega)
        obtain ⟨v3, q3⟩ := gv (3 + n * 7 + 3) (by omega)
        obtain ⟨v4, q4⟩ := gv (3 + n * 7 + 4) (by omega)
        obtain ⟨v5, q5⟩ := gv (3 + n * 7 + 5) (by omega)
        obtain ⟨v6, q6⟩ := gv (3 + n * 7 + 6) (by omega)
        have f0 := W9.out.f (3 + n * 7)
        have f1 := W9.out.f (3 + n * 7 + 1)
        have f2 := W9.out.f (3 + n * 7 + 2)
        have f3 := W9.out.f (3 + n * 7 + 3)
        have f4 := W9.out.f (3 + n * 7 + 4)
        have f5 := W9.out.f (3 + n * 7 + 5)
        have f6 := W9.out.f (3 + n * 7 + 6)
        clear gv
        have n0 : (0 : Int) ≤ (n : Int) := by omega
        have n1 : (n : Int) < 40 := by omega
        go_upto_region 6 with fail
        go_region
        clear k0 k1 k2 k3 k4 k5 k6 cn q0 q1 q2 q3 q4 q5 q6 f0 f1 f2 f3 f4 f5 f6 n0
        have W10 := Lib.hid ((((((((W9.out.set (3 + n * 7) (.int .i64 x.f)).set (3 + n * 7 + 1) (.int .i64 x.t)).set (3 + n * 7 + 2) (.int .i64 x.i)).set (3 + n * 7 + 3) (.int .i64 pl)).set (3 + n * 7 + 4) (.int .i64 pr)).set (3 + n * 7 + 5) (.int .i64 hc)).set (3 + n * 7 + 6) (.int .i64 tp)).drew)
        have K10 := Lib.hid (((((((((But.refl (· = q) w9).set (p := ⟨q, 3 + n * 7, none⟩) rfl (.int .i64 x.f)).set (p := ⟨q, 3 + n * 7 + 1, none⟩) rfl (.int .i64 x.t)).set (p := ⟨q, 3 + n * 7 + 2, none⟩) rfl (.int .i64 x.i)).set (p := ⟨q, 3 + n * 7 + 3, none⟩) rfl (.int .i64 pl)).set (p := ⟨q, 3 + n * 7 + 4, none⟩) rfl (.int .i64 pr)).set (p := ⟨q, 3 + n * 7 + 5, none⟩) rfl (.int .i64 hc)).set (p := ⟨q, 3 + n * 7 + 6, none⟩) rfl (.int .i64 tp)).drew)
        obtain ⟨w10, hw10⟩ : ∃ v, Hid (v = (((((((w9.setCell ⟨q, 3 + n * 7, none⟩ (.int .i64 x.f)).setCell ⟨q, 3 + n * 7 + 1, none⟩ (.int .i64 x.t)).setCell ⟨q, 3 + n * 7 + 2, none⟩ (.int .i64 x.i)).setCell ⟨q, 3 + n * 7 + 3, none⟩ (.int .i64 pl)).setCell ⟨q, 3 + n * 7 + 4, none⟩ (.int .i64 pr)).setCell ⟨q, 3 + n * 7 + 5, none⟩ (.int .i64 hc)).setCell ⟨q, 3 + n * 7 + 6, none⟩ (.int .i64 tp)).drew) := ⟨_, rfl⟩
        rw [← hw10.out] at W10 K10 ⊢
        clear hw10
        have cn : w10.cell? ⟨q, 283, none⟩ = some (.int .i64 (n : Int)) := W10.out.cell 283 (by
          rw [Array.getElem?_setIfInBounds_ne (by omega), Array.getElem?_setIfInBounds_ne (by omega), Array.getElem?_setIfInBounds_ne (by omega), Array.getElem?_setIfInBounds_ne (by omega), Array.getElem?_setIfInBounds_ne (by omega), Array.getElem?_setIfInBounds_ne (by omega), Array.getElem?_setIfInBounds_ne (by omega)]
          have := C0.out.n; rw [hn.out] at this; exact this)
        have fn := W10.out.f 283
        have hb10 : w10.heap[i8]? = some (.cells #[Value.int .i64 x.f, .int .i64 x.t, .int .i64 x.i, .int .i64 pl, .int .i64 pr, .int .i64 hc, .int .i64 tp] 71 (0, 0)) := (K10.out.block i8 (Array.getElem?_eq_some_iff.1 hb9.out).1 (fun e => NQ.out e.symm)).trans hb9.out
        have k3 : w10.cell? ⟨i8, 3, none⟩ = some (.int .i64 pl) := by rw [cell_of_row w10 _ _ _ _ (0, 0) hb10]; rfl
        have hw : IntKind.i64.wrap ((n : Int) + 1) = (n : Int) + 1 := by rw [IntKind.wrap_i64]; omega
        have nq' := NQ.out
        clear hb10
        go_wp2_with fail
        rw [← hpl.out]
        go_roundw
        case rel =>
          refine ⟨l, ⟨p, x, l, r⟩ :: s, pushC cs s.length ⟨p, x, l, r⟩, rfl, ?_, L0.out.2.1, ?_, ?_, C0.out.push (by rw [hn.out]; exact hn40) _, (B9.out.trans K10.out).set rfl _⟩
          · have := hS.out
            unfold spine at this
            rw [if_neg (by rw [htp.out]; have := HL.out; omega)] at this; exact this
          · simp only [Tr.ht] at hh; simp only [List.length_cons]; omega
          · have := W10.out.set 283 (.int .i64 ((n : Int) + 1))
            unfold pushC
            dsimp only [Kn.tr]
            rw [hn.out, hpl.out, hpr.out, hhc.out, htp.out]; exact this
        case measure =>
          have e1 := hOf_lies L0.out
          have e2 := hOf_lies L0.out.2.1
          show (hOf ns (place l)).toNat < (hOf ns (place (Tr.nd p x l r))).toNat
          rw [e1, e2]
          simp only [Tr.ht]
          omega
end Go.Proofs.Ytmgljgmfipodeaa.Itr
