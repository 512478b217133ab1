/-
  avl: mended, walked.
-/
import Derived.Test.YtmgljgmfipodeaaM12
import Derived.Laws.EntriesVeiled
/-
  avl: mended, walked.
-/
namespace Go.Proofs.Ytmgljgmfipodeaa.Av
open Go Go.RowKit
set_option linter.unusedSimpArgs false
set_option linter.unusedVariables false
attribute [local go_sem ↓] Go.wp_at_zero Go.wp_at_succ

theorem sideN_hang {ns : List Nd} {p : Nat} (r : Bool) (d : Int) (hp : p < ns.length) : sideN (hangN ns p r d) p r = d := by
  have e : ns[p]? = some ns[p] := List.getElem?_eq_getElem hp
  unfold sideN hangN
  rw [upd_at _ e]
  cases r <;> simp
theorem hOf_pos {ns : List Nd} {a : Int} (h : 0 < hOf ns a) : 0 ≤ a := by
  unfold hOf at h
  by_cases k : a < 0
  · rw [if_pos k] at h; omega
  · omega
/-- what mended does, by cases: r is the side that is too high -/
structure Over (ns : List Nd) (p : Nat) (lean : Int) (r : Bool) (s : Nat) : Prop where
  hr : r = decide (0 < lean)
  hl : (!r) = decide (lean < 0)
  s0 : sideN ns p r = (s : Int)
  sl : s < ns.length
theorem over_of {ns : List Nd} {K : Int} {p : Nat} (hF : Fit ns K) (hp : p < ns.length) (lean : Int) (he : lean = hOf ns (sideN ns p true) - hOf ns (sideN ns p false)) (ho : ¬ (-1 ≤ lean ∧ lean ≤ 1)) :
    ∃ s, Over ns p lean (decide (0 < lean)) s := by
  have a := hF.hOf (sideN ns p true)
  have b := hF.hOf (sideN ns p false)
  by_cases k : 0 < lean
  · have z := hOf_pos (ns := ns) (a := sideN ns p true) (by omega)
    have y := hF.side p true hp
    refine ⟨(sideN ns p true).toNat, rfl, by simp only [k, decide_true, Bool.not_true]; simp; omega, ?_, by omega⟩
    simp only [k, decide_true]; omega
  · have z := hOf_pos (ns := ns) (a := sideN ns p false) (by omega)
    have y := hF.side p false hp
    refine ⟨(sideN ns p false).toNat, rfl, ?_, ?_, by omega⟩
    · simp only [k, decide_false, Bool.not_false]; simp; omega
    · simp only [k, decide_false]; omega
/-- the row after the inner turn -/
def innerN (a : List Nd) (p s : Nat) (r : Bool) : List Nd := hangN (turnN a s (!r)).2 p r ((turnN a s (!r)).1 : Int)
theorem mendedN_in (ns : List Nd) (p : Nat) (lean : Int) (he : lean = hOf (sumN ns p) (sideN (sumN ns p) p true) - hOf (sumN ns p) (sideN (sumN ns p) p false)) (h : -1 ≤ lean ∧ lean ≤ 1) : mendedN ns p = (p, sumN ns p) := by
  unfold mendedN
  simp only
  rw [← he, if_pos h]
theorem mendedN_out (ns : List Nd) (p : Nat) (lean : Int) (he : lean = hOf (sumN ns p) (sideN (sumN ns p) p true) - hOf (sumN ns p) (sideN (sumN ns p) p false)) (h : ¬ (-1 ≤ lean ∧ lean ≤ 1)) (r : Bool) (s : Nat) (o : Over (sumN ns p) p lean r s) :
    mendedN ns p = turnN (if hOf (sumN ns p) (sideN (sumN ns p) s (!r)) > hOf (sumN ns p) (sideN (sumN ns p) s r) then innerN (sumN ns p) p s r else sumN ns p) p r := by
  unfold mendedN
  simp only
  rw [← he, if_neg h, ← o.hl, ← o.hr, o.s0]
  rfl
theorem Fit.inner {a : List Nd} {K : Int} {p s : Nat} {r : Bool} (hF : Fit a K) (hp : p < a.length) (hs : s < a.length) (h0 : 0 ≤ sideN a s (!r)) :
    Fit (innerN a p s r) (K + 2) ∧ (innerN a p s r).length = a.length ∧ 0 ≤ sideN (innerN a p s r) p r := by
  obtain ⟨f, e, l⟩ := hF.turn s (!r) hs h0
  unfold innerN
  refine ⟨f.hang p r _ (by rw [turnN_len]; omega), by rw [hangN_len, turnN_len], ?_⟩
  rw [sideN_hang r _ (by rw [turnN_len]; exact hp)]
  omega
theorem Fit.mended {ns : List Nd} {K : Int} {p : Nat} (hF : Fit ns K) (hp : p < ns.length) : Fit (mendedN ns p).2 (K + 5) ∧ (mendedN ns p).1 < ns.length := by
  have hA := hF.sum p
  have pl : p < (sumN ns p).length := by rw [sumN_len]; exact hp
  by_cases h : -1 ≤ (Av.hOf (sumN ns p) (sideN (sumN ns p) p true) - Av.hOf (sumN ns p) (sideN (sumN ns p) p false)) ∧ (Av.hOf (sumN ns p) (sideN (sumN ns p) p true) - Av.hOf (sumN ns p) (sideN (sumN ns p) p false)) ≤ 1
  · rw [mendedN_in ns p _ rfl h]
    exact ⟨hA.mono (by omega), hp⟩
  · obtain ⟨s, o⟩ := over_of hA pl _ rfl h
    rw [mendedN_out ns p _ rfl h _ s o]
    generalize decide (0 < Av.hOf (sumN ns p) (sideN (sumN ns p) p true) - Av.hOf (sumN ns p) (sideN (sumN ns p) p false)) = r at o
    split
    · rename_i k
      have z := hOf_pos (ns := sumN ns p) (a := sideN (sumN ns p) s (!r)) (by have := hA.hOf (sideN (sumN ns p) s r); omega)
      obtain ⟨f, l, n⟩ := hA.inner pl o.sl z
      obtain ⟨x, y, q⟩ := f.turn p r (by rw [l]; exact pl) n
      rw [l, sumN_len] at q
      exact ⟨x.mono (by omega), q⟩
    · obtain ⟨x, y, q⟩ := hA.turn p r pl (by rw [o.s0]; omega)
      rw [sumN_len] at q
      exact ⟨x.mono (by omega), q⟩
set_option maxRecDepth 100000 in
set_option maxHeartbeats 2000000 in
theorem mended_st {w : World} {B b g cap p : Nat} {most root many K : Int} {fv : Value} {ns : List Nd} (h : St w B b g cap most root many fv ns) (hp : p < ns.length) (hF : Fit ns K) (hK : K ≤ 800000) :
    Calls Try.prog 40 #[.pointer (some ⟨b, 0, none⟩), .int .i64 (p : Int)] w fun e w' => e = .returned (.int .i64 ((mendedN ns p).1 : Int)) ∧ St w' B b g cap most root many fv (mendedN ns p).2 ∧ But (· = g) w w' := by
  have A1 := sum_st h hp hF (by omega)
  have F1 := Lib.hid (hF.sum p)
  have HPL : Hid (p < (sumN ns p).length) := by show _; rw [sumN_len]; exact hp
  have HF := Lib.hid hF
  have HP := Lib.hid hp
  have HK := Lib.hid hK
  have SL := sumN_len ns p
  obtain ⟨a, ha⟩ : ∃ a, Hid (sumN ns p = a) := ⟨_, rfl⟩
  rw [ha.out] at A1 F1 HPL SL
  obtain ⟨nd, hn⟩ : ∃ nd, a[p]? = some nd := ⟨_, List.getElem?_eq_getElem HPL.out⟩
  have el : sideN a p false = nd.l := by unfold sideN; rw [hn]; rfl
  have er : sideN a p true = nd.r := by unfold sideN; rw [hn]; rfl
  obtain ⟨x, hx⟩ : ∃ x, Hid (hOf a nd.l = x) := ⟨_, rfl⟩
  obtain ⟨y, hy⟩ : ∃ y, Hid (hOf a nd.r = y) := ⟨_, rfl⟩
  have kx := F1.out.hOf nd.l
  have ky := F1.out.hOf nd.r
  rw [hx.out] at kx
  rw [hy.out] at ky
  have ft := F1.out.at hn
  have HN := Lib.hid hn
  have FT := Lib.hid ft
  obtain ⟨lean, hl⟩ : ∃ l, Hid (y - x = l) := ⟨_, rfl⟩
  have hw : IntKind.i64.wrap (y - x) = lean := by rw [IntKind.wrap_i64]; have := hl.out; omega
  have bl : -1000000 ≤ lean ∧ lean ≤ 1000000 := by have := hl.out; omega
  have HL : Hid (lean = hOf (sumN ns p) (sideN (sumN ns p) p true) - hOf (sumN ns p) (sideN (sumN ns p) p false)) := by show _ = _; rw [ha.out, el, er, hx.out, hy.out]; exact hl.out.symm
  have BL := Lib.hid bl
  replace SL := Lib.hid SL
  clear h hF hp hK hn ft kx ky el er bl
  go_enter Try.func40, Try.ntmps40
  go_upto_region 2 with (go_at_call 43; (with_reducible refine A1.mono ?_); rintro e w1 ⟨rfl, s1, b1⟩; have H1 := Lib.hid s1; have B1 := Lib.hid b1; clear s1 b1 A1)
  have c1 := H1.out.t.c1
  have i0 : (0 : Int) ≤ (p : Int) := by omega
  have i1 : (p : Int) < ((a.length : Nat) : Int) := by have := HPL.out; omega
  have q3 := H1.out.cell p 3 nd (.int .i64 nd.l) HN.out (by omega) rfl
  have q4 := H1.out.cell p 4 nd (.int .i64 nd.r) HN.out (by omega) rfl
  have A1 : ∀ n, Calls _ _ _ (w1.drewN n) _ := fun n => height_st nd.l (H1.out.heap (w' := w1.drewN n) rfl rfl) FT.out.1
  have A2 : ∀ n, Calls _ _ _ (w1.drewN n) _ := fun n => height_st nd.r (H1.out.heap (w' := w1.drewN n) rfl rfl) FT.out.2.1
  rw [hx.out] at A1
  rw [hy.out] at A2
  go_quiet (first
    | (go_at_call 44; (with_reducible refine Calls.quiet_of_same (A1 _)))
    | (go_at_call 44; (with_reducible refine Calls.quiet_of_same (A2 _))))
  have hcs : (-1 ≤ lean ∧ lean ≤ 1) ∨ 1 < lean ∨ lean < -1 := by omega
  rcases hcs with hcs | hcs
  · obtain ⟨hc1, hc2⟩ := hcs
    have HM := Lib.hid (mendedN_in ns p lean HL.out ⟨hc1, hc2⟩)
    rw [ha.out] at HM
    go_wp2
    rw [HM.out]
    go_ret
    exact ⟨rfl, H1.out.heap rfl rfl, B1.out.drewN _⟩
  · rcases hcs with hcs | hcs
    · -- the side true is too high
      have hd1 : decide (0 < lean) = true := by simp; omega
      have hd2 : decide (lean < 0) = false := by simp; omega
      have l1 : 0 < lean := by omega
      have l2 : ¬ lean ≤ 1 := by omega
      obtain ⟨s, o⟩ := over_of F1.out HPL.out lean (by have := HL.out; rw [ha.out] at this; exact this) (by omega)
      rw [hd1] at o
      have HO := Lib.hid o
      have HM := Lib.hid (mendedN_out ns p lean HL.out (by omega) true s (by rw [ha.out]; exact o))
      rw [ha.out] at HM
      clear o
      obtain ⟨wd, hwd⟩ : ∃ x, Hid (x = w1.drewN nq) := ⟨_, rfl⟩
      have H2 := Lib.hid (H1.out.heap (w' := w1.drewN nq) rfl rfl)
      have B2 := Lib.hid (B1.out.drewN nq)
      rw [← hwd.out] at H2 B2 ⊢
      clear hwd c1 q3 q4 A1 A2 H1 B1 hw
      have H3 := Lib.hid (H2.out.but (S := fun _ => False) ((But.refl _ wd).alloc (Obj.cells #[Value.func (Fn.func 45) #[] #[], Value.func (Fn.func 46) #[] #[]] 97)) (by simp) (by simp))
      have B3 := Lib.hid (B2.out.alloc (Obj.cells #[Value.func (Fn.func 45) #[] #[], Value.func (Fn.func 46) #[] #[]] 97))
      have ct0 : (wd.alloc (Obj.cells #[Value.func (Fn.func 45) #[] #[], Value.func (Fn.func 46) #[] #[]] 97)).cell? ⟨wd.heap.size, 0, none⟩ = some (Value.func (Fn.func 45) #[] #[]) := by simp
      have ct1 : (wd.alloc (Obj.cells #[Value.func (Fn.func 45) #[] #[], Value.func (Fn.func 46) #[] #[]] 97)).cell? ⟨wd.heap.size, 1, none⟩ = some (Value.func (Fn.func 46) #[] #[]) := by simp
      have gk := H2.out.r.lt.1
      have ks : wd.heap.size < (wd.alloc (Obj.cells #[Value.func (Fn.func 45) #[] #[], Value.func (Fn.func 46) #[] #[]] 97)).heap.size := by simp
      go_upto_region 9 with fail
      obtain ⟨wa, hwa⟩ : ∃ x, Hid (x = wd.alloc (Obj.cells #[Value.func (Fn.func 45) #[] #[], Value.func (Fn.func 46) #[] #[]] 97)) := ⟨_, rfl⟩
      rw [← hwa.out] at H3 B3 ct0 ct1 ks ⊢
      clear hwa
      obtain ⟨k, hk⟩ : ∃ k, Hid (wd.heap.size = k) := ⟨_, rfl⟩
      rw [hk.out] at ct0 ct1 ks gk ⊢
      clear hk H2 B2 hcs
      have GK := Lib.hid gk
      have KS := Lib.hid ks
      clear gk ks
      have A3 := side_st p true H3.out HPL.out
      rw [HO.out.s0] at A3
      obtain ⟨e1, he1⟩ : ∃ e1, Hid (sideN a s false = e1) := ⟨_, rfl⟩
      obtain ⟨e2, he2⟩ : ∃ e2, Hid (sideN a s true = e2) := ⟨_, rfl⟩
      obtain ⟨m1, hm1⟩ : ∃ m1, Hid (hOf a e1 = m1) := ⟨_, rfl⟩
      obtain ⟨m2, hm2⟩ : ∃ m2, Hid (hOf a e2 = m2) := ⟨_, rfl⟩
      have M2 : Hid (0 ≤ m2) := by have := F1.out.hOf e2; rw [hm2.out] at this; exact this.1
      have A4 := side_st s false H3.out HO.out.sl
      have A5 := height_st e1 H3.out (by rw [← he1.out]; exact F1.out.side _ _ HO.out.sl)
      have A6 := side_st s true H3.out HO.out.sl
      have A7 := height_st e2 H3.out (by rw [← he2.out]; exact F1.out.side _ _ HO.out.sl)
      rw [he1.out] at A4
      rw [he2.out] at A6
      rw [hm1.out] at A5
      rw [hm2.out] at A7
      have IN : Hid (m2 < m1 → Fit (innerN a p s true) (K + 1 + 2) ∧ (innerN a p s true).length = a.length ∧ 0 ≤ sideN (innerN a p s true) p true) := fun z => F1.out.inner HPL.out HO.out.sl (by rw [Bool.not_true, he1.out]; exact hOf_pos (ns := a) (by have := M2.out; rw [hm1.out]; omega))
      by_cases hd : m2 < m1
      · have HMM : Hid (mendedN ns p = turnN (innerN a p s true) p true) := by show _ = _; rw [HM.out, Bool.not_true, he1.out, he2.out, hm1.out, hm2.out, if_pos hd]
        have I1 := Lib.hid (IN.out hd)
        have A8 := right_st H3.out HO.out.sl F1.out (by have := HK.out; omega) (by rw [he1.out]; exact hOf_pos (ns := a) (by have := M2.out; rw [hm1.out]; omega))
        go_wp2_with (first
          | (go_at_call 38; (with_reducible refine A3.mono ?_); rintro e w20 ⟨rfl, rfl⟩)
          | (go_at_call 38; (with_reducible refine A4.mono ?_); rintro e w20 ⟨rfl, rfl⟩)
          | (go_at_call 44; (with_reducible refine A5.mono ?_); rintro e w20 ⟨rfl, rfl⟩)
          | (go_at_call 38; (with_reducible refine A6.mono ?_); rintro e w20 ⟨rfl, rfl⟩)
          | (go_at_call 44; (with_reducible refine A7.mono ?_); rintro e w20 ⟨rfl, rfl⟩)
          | (go_at_call 45; (with_reducible refine A8.mono ?_); rintro e w2 ⟨rfl, s2, b2⟩; have H4 := Lib.hid s2; have B4 := Lib.hid b2; clear s2 b2 A3 A4 A5 A6 A7 A8; have A9 := hang_st p true ((turnN a s false).1 : Int) H4.out (by rw [turnN_len]; exact HPL.out))
          | (go_at_call 39; (with_reducible refine A9.mono ?_); rintro e w3 ⟨rfl, s3, b3⟩; have H5 : Hid (St w3 B b g cap most root many fv (innerN a p s true)) := s3; have B5 := Lib.hid (B4.out.trans b3); clear s3 b3 A9 H4; replace ct0 := (B5.out.cell (p := ⟨k, 0, none⟩) KS.out (show ¬ k = g by have := GK.out; omega)).trans ct0; replace ct1 := (B5.out.cell (p := ⟨k, 1, none⟩) KS.out (show ¬ k = g by have := GK.out; omega)).trans ct1; have A10 := left_st H5.out (p := p) (by rw [I1.out.2.1]; exact HPL.out) I1.out.1 (by have := HK.out; omega) I1.out.2.2)
          | (go_at_call 46; (with_reducible refine A10.mono ?_); rintro e w4 ⟨rfl, s4, b4⟩; have H6 := Lib.hid s4; have B6 := Lib.hid (B3.out.trans (B5.out.trans b4)); clear s4 b4 A10 H5))
        rw [HMM.out]
        go_ret
        exact ⟨rfl, H6.out, B6.out⟩
      · have HMM : Hid (mendedN ns p = turnN a p true) := by show _ = _; rw [HM.out, Bool.not_true, he1.out, he2.out, hm1.out, hm2.out, if_neg hd]
        have A8 := left_st H3.out HPL.out F1.out (by have := HK.out; omega) (by rw [HO.out.s0]; omega)
        go_wp2_with (first
          | (go_at_call 38; (with_reducible refine A3.mono ?_); rintro e w20 ⟨rfl, rfl⟩)
          | (go_at_call 38; (with_reducible refine A4.mono ?_); rintro e w20 ⟨rfl, rfl⟩)
          | (go_at_call 44; (with_reducible refine A5.mono ?_); rintro e w20 ⟨rfl, rfl⟩)
          | (go_at_call 38; (with_reducible refine A6.mono ?_); rintro e w20 ⟨rfl, rfl⟩)
          | (go_at_call 44; (with_reducible refine A7.mono ?_); rintro e w20 ⟨rfl, rfl⟩)
          | (go_at_call 46; (with_reducible refine A8.mono ?_); rintro e w4 ⟨rfl, s4, b4⟩; have H6 := Lib.hid s4; have B6 := Lib.hid (B3.out.trans b4); clear s4 b4 A8))
        rw [HMM.out]
        go_ret
        exact ⟨rfl, H6.out, B6.out⟩
    · -- the side false is too high
      have hd1 : decide (0 < lean) = false := by simp; omega
      have hd2 : decide (lean < 0) = true := by simp; omega
      have l1 : ¬ 0 < lean := by omega
      have l2 : ¬ -1 ≤ lean := by omega
      obtain ⟨s, o⟩ := over_of F1.out HPL.out lean (by have := HL.out; rw [ha.out] at this; exact this) (by omega)
      rw [hd1] at o
      have HO := Lib.hid o
      have HM := Lib.hid (mendedN_out ns p lean HL.out (by omega) false s (by rw [ha.out]; exact o))
      rw [ha.out] at HM
      clear o
      obtain ⟨wd, hwd⟩ : ∃ x, Hid (x = w1.drewN nq) := ⟨_, rfl⟩
      have H2 := Lib.hid (H1.out.heap (w' := w1.drewN nq) rfl rfl)
      have B2 := Lib.hid (B1.out.drewN nq)
      rw [← hwd.out] at H2 B2 ⊢
      clear hwd c1 q3 q4 A1 A2 H1 B1 hw
      have H3 := Lib.hid (H2.out.but (S := fun _ => False) ((But.refl _ wd).alloc (Obj.cells #[Value.func (Fn.func 45) #[] #[], Value.func (Fn.func 46) #[] #[]] 97)) (by simp) (by simp))
      have B3 := Lib.hid (B2.out.alloc (Obj.cells #[Value.func (Fn.func 45) #[] #[], Value.func (Fn.func 46) #[] #[]] 97))
      have ct0 : (wd.alloc (Obj.cells #[Value.func (Fn.func 45) #[] #[], Value.func (Fn.func 46) #[] #[]] 97)).cell? ⟨wd.heap.size, 0, none⟩ = some (Value.func (Fn.func 45) #[] #[]) := by simp
      have ct1 : (wd.alloc (Obj.cells #[Value.func (Fn.func 45) #[] #[], Value.func (Fn.func 46) #[] #[]] 97)).cell? ⟨wd.heap.size, 1, none⟩ = some (Value.func (Fn.func 46) #[] #[]) := by simp
      have gk := H2.out.r.lt.1
      have ks : wd.heap.size < (wd.alloc (Obj.cells #[Value.func (Fn.func 45) #[] #[], Value.func (Fn.func 46) #[] #[]] 97)).heap.size := by simp
      go_upto_region 9 with fail
      obtain ⟨wa, hwa⟩ : ∃ x, Hid (x = wd.alloc (Obj.cells #[Value.func (Fn.func 45) #[] #[], Value.func (Fn.func 46) #[] #[]] 97)) := ⟨_, rfl⟩
      rw [← hwa.out] at H3 B3 ct0 ct1 ks ⊢
      clear hwa
      obtain ⟨k, hk⟩ : ∃ k, Hid (wd.heap.size = k) := ⟨_, rfl⟩
      rw [hk.out] at ct0 ct1 ks gk ⊢
      clear hk H2 B2 hcs
      have GK := Lib.hid gk
      have KS := Lib.hid ks
      clear gk ks
      have A3 := side_st p false H3.out HPL.out
      rw [HO.out.s0] at A3
      obtain ⟨e1, he1⟩ : ∃ e1, Hid (sideN a s true = e1) := ⟨_, rfl⟩
      obtain ⟨e2, he2⟩ : ∃ e2, Hid (sideN a s false = e2) := ⟨_, rfl⟩
      obtain ⟨m1, hm1⟩ : ∃ m1, Hid (hOf a e1 = m1) := ⟨_, rfl⟩
      obtain ⟨m2, hm2⟩ : ∃ m2, Hid (hOf a e2 = m2) := ⟨_, rfl⟩
      have M2 : Hid (0 ≤ m2) := by have := F1.out.hOf e2; rw [hm2.out] at this; exact this.1
      have A4 := side_st s true H3.out HO.out.sl
      have A5 := height_st e1 H3.out (by rw [← he1.out]; exact F1.out.side _ _ HO.out.sl)
      have A6 := side_st s false H3.out HO.out.sl
      have A7 := height_st e2 H3.out (by rw [← he2.out]; exact F1.out.side _ _ HO.out.sl)
      rw [he1.out] at A4
      rw [he2.out] at A6
      rw [hm1.out] at A5
      rw [hm2.out] at A7
      have IN : Hid (m2 < m1 → Fit (innerN a p s false) (K + 1 + 2) ∧ (innerN a p s false).length = a.length ∧ 0 ≤ sideN (innerN a p s false) p false) := fun z => F1.out.inner HPL.out HO.out.sl (by rw [Bool.not_false, he1.out]; exact hOf_pos (ns := a) (by have := M2.out; rw [hm1.out]; omega))
      by_cases hd : m2 < m1
      · have HMM : Hid (mendedN ns p = turnN (innerN a p s false) p false) := by show _ = _; rw [HM.out, Bool.not_false, he1.out, he2.out, hm1.out, hm2.out, if_pos hd]
        have I1 := Lib.hid (IN.out hd)
        have A8 := left_st H3.out HO.out.sl F1.out (by have := HK.out; omega) (by rw [he1.out]; exact hOf_pos (ns := a) (by have := M2.out; rw [hm1.out]; omega))
        go_wp2_with (first
          | (go_at_call 38; (with_reducible refine A3.mono ?_); rintro e w20 ⟨rfl, rfl⟩)
          | (go_at_call 38; (with_reducible refine A4.mono ?_); rintro e w20 ⟨rfl, rfl⟩)
          | (go_at_call 44; (with_reducible refine A5.mono ?_); rintro e w20 ⟨rfl, rfl⟩)
          | (go_at_call 38; (with_reducible refine A6.mono ?_); rintro e w20 ⟨rfl, rfl⟩)
          | (go_at_call 44; (with_reducible refine A7.mono ?_); rintro e w20 ⟨rfl, rfl⟩)
          | (go_at_call 46; (with_reducible refine A8.mono ?_); rintro e w2 ⟨rfl, s2, b2⟩; have H4 := Lib.hid s2; have B4 := Lib.hid b2; clear s2 b2 A3 A4 A5 A6 A7 A8; have A9 := hang_st p false ((turnN a s true).1 : Int) H4.out (by rw [turnN_len]; exact HPL.out))
          | (go_at_call 39; (with_reducible refine A9.mono ?_); rintro e w3 ⟨rfl, s3, b3⟩; have H5 : Hid (St w3 B b g cap most root many fv (innerN a p s false)) := s3; have B5 := Lib.hid (B4.out.trans b3); clear s3 b3 A9 H4; replace ct0 := (B5.out.cell (p := ⟨k, 0, none⟩) KS.out (show ¬ k = g by have := GK.out; omega)).trans ct0; replace ct1 := (B5.out.cell (p := ⟨k, 1, none⟩) KS.out (show ¬ k = g by have := GK.out; omega)).trans ct1; have A10 := right_st H5.out (p := p) (by rw [I1.out.2.1]; exact HPL.out) I1.out.1 (by have := HK.out; omega) I1.out.2.2)
          | (go_at_call 45; (with_reducible refine A10.mono ?_); rintro e w4 ⟨rfl, s4, b4⟩; have H6 := Lib.hid s4; have B6 := Lib.hid (B3.out.trans (B5.out.trans b4)); clear s4 b4 A10 H5))
        rw [HMM.out]
        go_ret
        exact ⟨rfl, H6.out, B6.out⟩
      · have HMM : Hid (mendedN ns p = turnN a p false) := by show _ = _; rw [HM.out, Bool.not_false, he1.out, he2.out, hm1.out, hm2.out, if_neg hd]
        have A8 := right_st H3.out HPL.out F1.out (by have := HK.out; omega) (by rw [HO.out.s0]; omega)
        go_wp2_with (first
          | (go_at_call 38; (with_reducible refine A3.mono ?_); rintro e w20 ⟨rfl, rfl⟩)
          | (go_at_call 38; (with_reducible refine A4.mono ?_); rintro e w20 ⟨rfl, rfl⟩)
          | (go_at_call 44; (with_reducible refine A5.mono ?_); rintro e w20 ⟨rfl, rfl⟩)
          | (go_at_call 38; (with_reducible refine A6.mono ?_); rintro e w20 ⟨rfl, rfl⟩)
          | (go_at_call 44; (with_reducible refine A7.mono ?_); rintro e w20 ⟨rfl, rfl⟩)
          | (go_at_call 45; (with_reducible refine A8.mono ?_); rintro e w4 ⟨rfl, s4, b4⟩; have H6 := Lib.hid s4; have B6 := Lib.hid (B3.out.trans b4); clear s4 b4 A8))
        rw [HMM.out]
        go_ret
        exact ⟨rfl, H6.out, B6.out⟩
end Go.Proofs.Ytmgljgmfipodeaa.Av
