/-
  avl: above, mend, walked.
-/
import Derived.Test.YtmgljgmfipodeaaM13
import Derived.Test.YtmgljgmfipodeaaM5
/-
  avl: above, mend, walked.
-/
namespace Go.Proofs.Ytmgljgmfipodeaa.Av
open Go Go.RowKit
set_option linter.unusedSimpArgs false
set_option linter.unusedVariables false
attribute [local go_sem ↓] Go.wp_at_zero Go.wp_at_succ

/-- the steps of a path lie in a block: places, then flags -/
def PathIn (w : World) (q : Nat) (cr : List Tr.Fr) : Prop := ∀ (i : Nat) (f : Tr.Fr), cr[i]? = some f → w.cell? ⟨q, i, none⟩ = some (.int .i64 (f.p : Int)) ∧ w.cell? ⟨q, 40 + i, none⟩ = some (.bool f.right)
theorem PathIn.but {S : Nat → Prop} {w w' : World} {q : Nat} {cr : List Tr.Fr} (h : PathIn w q cr) (k : But S w w') (hq : q < w.heap.size) (hs : ¬ S q) : PathIn w' q cr := fun i f hi => by
  obtain ⟨a, b⟩ := h i f hi
  exact ⟨(k.cell (p := ⟨q, i, none⟩) hq hs).trans a, (k.cell (p := ⟨q, 40 + i, none⟩) hq hs).trans b⟩
theorem TAt_root {w : World} {b : Nat} {most root many : Int} {nv fv : Value} (d : Int) (h : TAt w b most nv fv root many) : TAt (w.setCell ⟨b, 3, none⟩ (.int .i64 d)) b most nv fv d many := by
  unfold TAt at h ⊢
  rw [heap_setCell_same w b 3 _ _ _ h]; rfl
theorem St.root {w : World} {B b g cap : Nat} {most root many : Int} {fv : Value} {ns : List Nd} (d : Int) (h : St w B b g cap most root many fv ns) : St (w.setCell ⟨b, 3, none⟩ (.int .i64 d)) B b g cap most d many fv ns := by
  have k := h.heap (w' := w.drew) rfl rfl
  have e : (w.setCell ⟨b, 3, none⟩ (.int .i64 d)).heap[g]? = w.heap[g]? := Below.heap_setCell _ _ _ _ (fun e => h.ne e.symm)
  refine ⟨TAt_root d h.t, ?_, h.ne⟩
  obtain ⟨h1, h2⟩ := h.r
  refine ⟨h1, ?_⟩
  rcases h2 with h2 | ⟨g', cap', cur, hv, hg, hh, r⟩
  · exact .inl h2
  · refine .inr ⟨g', cap', cur, hv, hg, ?_, r⟩
    simp only [Value.slice.injEq, Option.some.injEq, Addr.mk.injEq, and_true] at hv
    rw [← hv.1, e, hv.1]; exact hh
theorem hangTop_some {ns : List Nd} {cr : List Tr.Fr} {k : Nat} {f : Tr.Fr} (d : Int) (h : cr[k]? = some f) : hangTop ns (cr.take (k + 1)).reverse d = hangN ns f.p f.right d := by
  rw [List.take_add_one, h]
  simp [hangTop]
set_option maxRecDepth 100000 in
theorem above_zero {w : World} {B b g q cap : Nat} {most root many d : Int} {fv : Value} {ns : List Nd} (h : St w B b g cap most root many fv ns) :
    Calls Try.prog 34 #[.pointer (some ⟨b, 0, none⟩), .pointer (some ⟨q, 0, none⟩), .int .i64 0, .int .i64 d] w fun e w' => e = .returned (.tuple #[]) ∧ St w' B b g cap most d many fv ns ∧ But (fun k => k = b ∨ k = g) w w' := by
  have H := Lib.hid h
  have c3 := h.t.c3
  have f3 := h.t.f 3
  clear h
  go_enter Try.func34, Try.ntmps34
  go_wp2
  refine bodyPost_ret (v := .tuple #[]) (results_none rfl _ _ _) rfl ?_
  exact ⟨rfl, H.out.root d, But.set (S := fun k => k = b ∨ k = g) (But.refl _ _) (p := ⟨b, 3, none⟩) (.inl rfl) _⟩
set_option maxRecDepth 100000 in
theorem above_succ {w : World} {B b g q cap k : Nat} {most root many d : Int} {fv : Value} {ns : List Nd} {f : Tr.Fr} (h : St w B b g cap most root many fv ns) (hk : k < 40) (hp : f.p < ns.length) (hq : q < w.heap.size) (hg : ¬ q = g)
    (c1 : w.cell? ⟨q, k, none⟩ = some (.int .i64 (f.p : Int))) (c2 : w.cell? ⟨q, 40 + k, none⟩ = some (.bool f.right)) :
    Calls Try.prog 34 #[.pointer (some ⟨b, 0, none⟩), .pointer (some ⟨q, 0, none⟩), .int .i64 ((k : Int) + 1), .int .i64 d] w fun e w' => e = .returned (.tuple #[]) ∧ St w' B b g cap most root many fv (hangN ns f.p f.right d) ∧ But (fun k => k = b ∨ k = g) w w' := by
  have A1 := hang_st f.p f.right d h.drew hp
  have HS0 : (fun w' : World => w'.cell? ⟨q, k, none⟩ = some (.int .i64 (f.p : Int)) ∧ w'.cell? ⟨q, 40 + k, none⟩ = some (.bool f.right)) w.drew := ⟨c1, c2⟩
  have i0 : (0 : Int) ≤ (k : Int) := by omega
  have i1 : (k : Int) < 40 := by omega
  have hw : IntKind.i64.wrap ((k : Int) + 1 - 1) = (k : Int) := by rw [IntKind.wrap_i64]; omega
  have hw2 : IntKind.i64.wrap (k : Int) = (k : Int) := by rw [IntKind.wrap_i64]; omega
  have i2 : ¬ ((k : Int) + 1 = 0) := by omega
  have HQ := Lib.hid (And.intro hq hg)
  clear h hp
  go_enter Try.func34, Try.ntmps34
  go_wp2_with fail
  go_region_held3 (fun w' : World => w'.cell? ⟨q, k, none⟩ = some (.int .i64 (f.p : Int)) ∧ w'.cell? ⟨q, 40 + k, none⟩ = some (.bool f.right))
    (first | with_reducible exact HS0 | with_reducible assumption)
    (first | (go_at_call 39; (with_reducible refine A1.mono ?_); rintro e w1 ⟨rfl, s1, b1⟩; have HS1 := (And.intro ((b1.cell (p := ⟨q, k, none⟩) HQ.out.1 HQ.out.2).trans c1) ((b1.cell (p := ⟨q, 40 + k, none⟩) HQ.out.1 HQ.out.2).trans c2)); have H1 := Lib.hid s1; have B1 := Lib.hid b1; clear s1 b1))
  go_end0
  exact ⟨rfl, H1.out, But.mono (((But.refl (· = g) w).drew).trans B1.out) (fun _ h => .inr h)⟩
/-- whatever the step -/
theorem above_st {w : World} {B b g q cap j : Nat} {most root many d : Int} {fv : Value} {ns : List Nd} {cr : List Tr.Fr} (h : St w B b g cap most root many fv ns) (hj : j ≤ cr.length) (hl : cr.length ≤ 40) (hp : ∀ f ∈ cr, f.p < ns.length) (hq : q < w.heap.size) (hg : ¬ q = g)
    (hP : PathIn w q cr) :
    Calls Try.prog 34 #[.pointer (some ⟨b, 0, none⟩), .pointer (some ⟨q, 0, none⟩), .int .i64 (j : Int), .int .i64 d] w fun e w' => e = .returned (.tuple #[]) ∧ St w' B b g cap most (if j = 0 then d else root) many fv (hangTop ns (cr.take j).reverse d) ∧ But (fun k => k = b ∨ k = g) w w' := by
  cases j with
  | zero => exact above_zero h
  | succ k =>
    have e : cr[k]? = some cr[k] := List.getElem?_eq_getElem (by omega)
    obtain ⟨c1, c2⟩ := hP k _ e
    rw [hangTop_some d e, if_neg (by omega)]
    exact above_succ (f := cr[k]) h (by omega) (hp _ (List.getElem_mem _)) hq hg c1 c2
/-- one node of the path mended, and hung up -/
theorem mendAll_step (ms : List Nd) (cr : List Tr.Fr) (j : Nat) (f : Tr.Fr) (d d' : Int) (h : cr[j]? = some f) :
    mendAll ms (cr.take (j + 1)).reverse d = mendAll (hangTop (mendedN ms f.p).2 (cr.take j).reverse ((mendedN ms f.p).1 : Int)) (cr.take j).reverse ((mendedN ms f.p).1 : Int) := by
  rw [List.take_add_one, h]
  simp only [Option.toList_some, List.reverse_append, List.reverse_cons, List.reverse_nil, List.nil_append, List.singleton_append]
  generalize (cr.take j).reverse = c
  cases c <;> rfl
theorem hangTop_len (ns : List Nd) (c : List Tr.Fr) (d : Int) : (hangTop ns c d).length = ns.length := by
  cases c with
  | nil => rfl
  | cons f c => exact hangN_len _ _ _ _
theorem Fit.top {ns : List Nd} {K : Int} (h : Fit ns K) (c : List Tr.Fr) (d : Int) (hd : d < ns.length) : Fit (hangTop ns c d) K := by
  cases c with
  | nil => exact h
  | cons f c => exact h.hang _ _ _ hd
set_option maxRecDepth 100000 in
theorem mend_st {w : World} {B b g q cap : Nat} {most root many K : Int} {fv : Value} {ns : List Nd} {cr : List Tr.Fr} (h : St w B b g cap most root many fv ns) (hl : cr.length ≤ 40) (hp : ∀ f ∈ cr, f.p < ns.length) (hq : q < w.heap.size) (hg : ¬ q = g) (hb : ¬ q = b)
    (hP : PathIn w q cr) (hn : w.cell? ⟨q, 80, none⟩ = some (.int .i64 (cr.length : Int))) (hF : Fit ns K) (hK : K ≤ 1000) (d : Int) (hr : cr = [] → root = d) :
    Calls Try.prog 35 #[.pointer (some ⟨b, 0, none⟩), .pointer (some ⟨q, 0, none⟩)] w fun e w' => e = .returned (.tuple #[]) ∧ St w' B b g cap most (mendAll ns cr.reverse d).1 many fv (mendAll ns cr.reverse d).2 ∧ But (fun k => k = b ∨ k = g) w w' := by
  have H := Lib.hid h
  have HP := Lib.hid hP
  have HL := Lib.hid hl
  have HR := Lib.hid hr
  have HF := Lib.hid hF
  have HK := Lib.hid hK
  have HPL := Lib.hid hp
  have HQ := Lib.hid (And.intro hq (And.intro hg hb))
  have hw : IntKind.i64.wrap ((cr.length : Int) - 1) = (cr.length : Int) - 1 := by rw [IntKind.wrap_i64]; omega
  clear h hP hl hr hF hK hp hq hg hb
  go_enter Try.func35, Try.ntmps35
  go_wp2_with fail
  go_loopw [4] (fun i wr => ∃ (j : Nat) (root' d' : Int) (ms : List Nd), i = .int .i64 ((j : Int) - 1) ∧ j ≤ cr.length ∧ Hid (St wr B b g cap most root' many fv ms) ∧ Hid (But (fun k => k = b ∨ k = g) w wr) ∧ Hid (Fit ms (K + 5 * ((cr.length : Int) - j)) ∧ ms.length = ns.length ∧ (j = 0 → root' = d') ∧ mendAll ns cr.reverse d = mendAll ms (cr.take j).reverse d')) (fun i _ => (intOf i + 1).toNat)
  case atStart => exact ⟨cr.length, root, d, ns, by rfl, by omega, H.out, But.refl _ _, by show Fit _ _ ∧ _; exact ⟨HF.out.mono (by omega), rfl, fun z => HR.out (List.length_eq_zero_iff.1 z), by rw [List.take_length]⟩⟩
  case round =>
    rename_i wr
    obtain ⟨wo, rfl⟩ : ∃ wo : World, wo = wr := ⟨_, rfl⟩
    clear H HF HR
    obtain ⟨j, root', d', ms, rfl, hj, H, HB, HI⟩ := hrel
    cases j with
    | zero =>
      go_wp2
      go_end0
      have e := HI.out.2.2.2
      have r := HI.out.2.2.1 (by trivial)
      simp only [List.take_zero, List.reverse_nil, mendAll] at e
      rw [e, ← r]
      exact ⟨rfl, H.out, HB.out⟩
    | succ j =>
      have e : cr[j]? = some cr[j] := List.getElem?_eq_getElem (by omega)
      obtain ⟨f, hf⟩ : ∃ f, cr[j] = f := ⟨_, rfl⟩
      rw [hf] at e
      have fm : f.p < ns.length := HPL.out f (hf ▸ List.getElem_mem _)
      have HE := Lib.hid e
      have e1 : (((j + 1 : Nat) : Int) - 1) = (j : Int) := by omega
      rw [e1]
      have i0 : (0 : Int) ≤ (j : Int) := by omega
      have i1 : (j : Int) < 40 := by have := HL.out; omega
      have hw3 : IntKind.i64.wrap ((j : Int) - 1) = (j : Int) - 1 := by rw [IntKind.wrap_i64]; omega
      have HP1 := Lib.hid (HP.out.but HB.out HQ.out.1 (show ¬ (q = b ∨ q = g) by have := HQ.out.2; omega))
      have c1 := (HP1.out j f e).1
      have A1 := mended_st (p := f.p) H.out (by rw [HI.out.2.1]; exact fm) HI.out.1 (by have := HK.out; have := HL.out; omega)
      have FM := HI.out.1.mended (p := f.p) (by rw [HI.out.2.1]; exact fm)
      have HFM := Lib.hid FM
      have HSZ : Hid (q < wo.heap.size) := by have := HB.out.size; have := HQ.out.1; show _ < _; omega
      have HJ := Lib.hid hj
      clear e hf fm e1 hj FM
      go_wp2_with (first
        | (go_at_call 40; (with_reducible refine A1.mono ?_); rintro e w1 ⟨rfl, s1, b1⟩; have H1 := Lib.hid s1; have B1 := Lib.hid b1; clear s1 b1 A1; have A2 := above_st (d := ((mendedN ms f.p).1 : Int)) (cr := cr) (q := q) (j := j) H1.out (by have := HJ.out; omega) HL.out (by rw [mendedN_len, HI.out.2.1]; exact HPL.out) (by have := B1.out.size; have := HSZ.out; omega) HQ.out.2.1 (HP1.out.but B1.out HSZ.out HQ.out.2.1))
        | (go_at_call 34; (with_reducible refine A2.mono ?_); rintro e w2 ⟨rfl, s2, b2⟩; have H2 := Lib.hid s2; have B2 := Lib.hid ((HB.out.trans (B1.out.mono (fun _ h => .inr h))).trans b2); clear s2 b2 A2))
      go_roundw
      case rel =>
        refine ⟨j, _, ((mendedN ms f.p).1 : Int), _, rfl, by have := HJ.out; omega, H2.out, B2.out, ?_, ?_, ?_, ?_⟩
        · refine ((HFM.out.1.top _ _ ?_).mono ?_)
          · rw [mendedN_len]; have := HFM.out.2; omega
          · omega
        · rw [hangTop_len, mendedN_len, HI.out.2.1]
        · intro z; rw [if_pos z]
        · rw [HI.out.2.2.2, mendAll_step ms cr j f d' ((mendedN ms f.p).1 : Int) HE.out]
      case measure => simp [intOf]
end Go.Proofs.Ytmgljgmfipodeaa.Av
