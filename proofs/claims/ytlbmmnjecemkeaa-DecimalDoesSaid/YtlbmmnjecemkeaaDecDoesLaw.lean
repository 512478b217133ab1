/-
  THE WALK of corrodylaw02's DecimalDoes.
-/
import Derived.Test.YtlbmmnjecemkeaaDecKnown
import Derived.Test.YtlbmmnjecemkeaaDecMulDiv
namespace Go.Proofs.Ytlbmmnjecemkeaa
open Go.RowKit
set_option linter.unusedSimpArgs false
set_option linter.unusedVariables false
attribute [local go_sem ↓] Go.wp_at_zero Go.wp_at_succ

set_option maxRecDepth 100000 in
set_option maxHeartbeats 8000000 in
theorem decDoes_bad1 (c s c' s' : Int) (w : World) (hc : fits c) (hc' : fits c') (hs : isB s = false) :
    Calls Try.prog 7 #[.agg #[.int .i64 c, .int .i64 s], .agg #[.int .i64 c', .int .i64 s']] w fun e w' => e = .returned (.bool true) ∧ Below w.heap.size w w' := by
  have HIS := Lib.hid hs
  have hb : (isB s && isB s') = false := by rw [hs]; rfl
  have ha : ∀ u, ansV c s c' s' u = .tuple #[.agg #[.int .i64 0, .int .i64 0], .int .i64 2] := fun u => by unfold ansV; rw [hb, if_neg (by simp)]; rfl
  have h1 := Lib.hid (ha (un c s.toNat + un c' s'.toNat)); have h2 := Lib.hid (ha (un c s.toNat - un c' s'.toNat))
  have h3 : Hid (mulV c s c' s' = .tuple #[.agg #[.int .i64 0, .int .i64 0], .int .i64 2]) := ha _
  have h4 : Hid (dvdV c s c' s' = .tuple #[.agg #[.int .i64 0, .int .i64 0], .int .i64 2]) := by show _ = _; unfold dvdV; rw [hb, if_neg (by simp)]; rfl
  have h5 : Hid (cmpV c s c' s' = .tuple #[.int .i64 0, .int .i64 2]) := by show _ = _; unfold cmpV; rw [hb, if_neg (by simp)]
  have HF : Hid (fits c ∧ fits c' ∧ True) := ⟨hc, hc', trivial⟩; clear hc hc' hs hb ha
  go_enter Try.func7, Try.ntmps7
  go_upto_region 1 with fail
  obtain ⟨hX, hY, hB⟩ := two_dec w c s c' s'
  have X0 := Lib.hid hX; have Y0 := Lib.hid hY; have B0 := Lib.hid hB; clear hX hY hB
  generalize World.alloc (World.alloc w _) _ = w0 at X0 Y0 B0 ⊢
  have x0 := X0.out.c0
  have x1 := X0.out.c1
  have y0 := Y0.out.c0
  have y1 := Y0.out.c1
  go_wp2_with fail
  refine (dAdd_any c s c' s' _ _ HF.out.1 HF.out.2.1 h1.out).mono ?_
  rintro e w1 ⟨rfl, b2⟩
  have X1 := Lib.hid (DAt.below X0.out b2)
  have Y1 := Lib.hid (DAt.below Y0.out b2)
  have B1 := Lib.hid (bt B0.out b2)
  clear x0 x1 y0 y1
  clear b2
  clear X0 Y0  B0
  go_upto_region 2 with fail
  generalize hW : World.alloc w1 _ = W2
  obtain ⟨ia, hiia⟩ : ∃ x, Hid (w1.heap.size = x) := ⟨_, rfl⟩
  have A2 : Hid (DAt W2 ia 0 0) := by rw [← hW, ← hiia.out]; exact dAt_new _ _ _
  have bW : Below w1.heap.size w1 W2 := by rw [← hW]; exact ba _ _
  rw [hiia.out]; clear hW
  have X2 := Lib.hid (DAt.below X1.out bW)
  have Y2 := Lib.hid (DAt.below Y1.out bW)
  have B2 := Lib.hid (bt B1.out bW)
  clear bW hiia
  clear X1 Y1  B1
  obtain ⟨w2, hw2⟩ : ∃ x, x = W2 := ⟨_, rfl⟩; subst hw2
  have x0 := X2.out.c0
  have x1 := X2.out.c1
  have y0 := Y2.out.c0
  have y1 := Y2.out.c1
  go_wp2_with fail
  refine (dSub_any c s c' s' _ _ HF.out.1 HF.out.2.1 h2.out).mono ?_
  rintro e w3 ⟨rfl, b2⟩
  have X3 := Lib.hid (DAt.below X2.out b2)
  have Y3 := Lib.hid (DAt.below Y2.out b2)
  have A3 := Lib.hid (DAt.below A2.out b2)
  have B3 := Lib.hid (bt B2.out b2)
  clear x0 x1 y0 y1
  clear b2
  clear X2 Y2 A2  B2
  go_upto_region 3 with fail
  generalize hW : World.alloc w3 _ = W4
  obtain ⟨ie, hiie⟩ : ∃ x, Hid (w3.heap.size = x) := ⟨_, rfl⟩
  have E4 : Hid (DAt W4 ie 0 0) := by rw [← hW, ← hiie.out]; exact dAt_new _ _ _
  have bW : Below w3.heap.size w3 W4 := by rw [← hW]; exact ba _ _
  rw [hiie.out]; clear hW
  have X4 := Lib.hid (DAt.below X3.out bW)
  have Y4 := Lib.hid (DAt.below Y3.out bW)
  have A4 := Lib.hid (DAt.below A3.out bW)
  have B4 := Lib.hid (bt B3.out bW)
  clear bW hiie
  clear X3 Y3 A3  B3
  obtain ⟨w4, hw2⟩ : ∃ x, x = W4 := ⟨_, rfl⟩; subst hw2
  have x0 := X4.out.c0
  have x1 := X4.out.c1
  have y0 := Y4.out.c0
  have y1 := Y4.out.c1
  go_wp2_with fail
  refine (dMul_any c s c' s' _ _ HF.out.1 HF.out.2.1 h3.out).mono ?_
  rintro e w5 ⟨rfl, b2⟩
  have X5 := Lib.hid (DAt.below X4.out b2)
  have Y5 := Lib.hid (DAt.below Y4.out b2)
  have A5 := Lib.hid (DAt.below A4.out b2)
  have E5 := Lib.hid (DAt.below E4.out b2)
  have B5 := Lib.hid (bt B4.out b2)
  clear x0 x1 y0 y1
  clear b2
  clear X4 Y4 A4 E4  B4
  go_upto_region 4 with fail
  generalize hW : World.alloc w5 _ = W6
  obtain ⟨jf, hijf⟩ : ∃ x, Hid (w5.heap.size = x) := ⟨_, rfl⟩
  have F6 : Hid (DAt W6 jf 0 0) := by rw [← hW, ← hijf.out]; exact dAt_new _ _ _
  have bW : Below w5.heap.size w5 W6 := by rw [← hW]; exact ba _ _
  rw [hijf.out]; clear hW
  have X6 := Lib.hid (DAt.below X5.out bW)
  have Y6 := Lib.hid (DAt.below Y5.out bW)
  have A6 := Lib.hid (DAt.below A5.out bW)
  have E6 := Lib.hid (DAt.below E5.out bW)
  have B6 := Lib.hid (bt B5.out bW)
  clear bW hijf
  clear X5 Y5 A5 E5  B5
  obtain ⟨w6, hw2⟩ : ∃ x, x = W6 := ⟨_, rfl⟩; subst hw2
  have x0 := X6.out.c0
  have x1 := X6.out.c1
  have y0 := Y6.out.c0
  have y1 := Y6.out.c1
  go_wp2_with fail
  refine (dDiv_any c s c' s' _ _ HF.out.1 HF.out.2.1 h4.out).mono ?_
  rintro e w7 ⟨rfl, b2⟩
  have X7 := Lib.hid (DAt.below X6.out b2)
  have Y7 := Lib.hid (DAt.below Y6.out b2)
  have A7 := Lib.hid (DAt.below A6.out b2)
  have E7 := Lib.hid (DAt.below E6.out b2)
  have F7 := Lib.hid (DAt.below F6.out b2)
  have B7 := Lib.hid (bt B6.out b2)
  clear x0 x1 y0 y1
  clear b2
  clear X6 Y6 A6 E6 F6  B6
  go_upto_region 5 with fail
  generalize hW : World.alloc w7 _ = W8
  obtain ⟨ig, hiig⟩ : ∃ x, Hid (w7.heap.size = x) := ⟨_, rfl⟩
  have G8 : Hid (DAt W8 ig 0 0) := by rw [← hW, ← hiig.out]; exact dAt_new _ _ _
  have bW : Below w7.heap.size w7 W8 := by rw [← hW]; exact ba _ _
  rw [hiig.out]; clear hW
  have X8 := Lib.hid (DAt.below X7.out bW)
  have Y8 := Lib.hid (DAt.below Y7.out bW)
  have A8 := Lib.hid (DAt.below A7.out bW)
  have E8 := Lib.hid (DAt.below E7.out bW)
  have F8 := Lib.hid (DAt.below F7.out bW)
  have B8 := Lib.hid (bt B7.out bW)
  clear bW hiig
  clear X7 Y7 A7 E7 F7  B7
  obtain ⟨w8, hw2⟩ : ∃ x, x = W8 := ⟨_, rfl⟩; subst hw2
  have x0 := X8.out.c0
  have x1 := X8.out.c1
  have y0 := Y8.out.c0
  have y1 := Y8.out.c1
  go_wp2_with fail
  refine (dCmp_any c s c' s' _ _ HF.out.1 HF.out.2.1 h5.out).mono ?_
  rintro e w9 ⟨rfl, b2⟩
  have X9 := Lib.hid (DAt.below X8.out b2)
  have Y9 := Lib.hid (DAt.below Y8.out b2)
  have A9 := Lib.hid (DAt.below A8.out b2)
  have E9 := Lib.hid (DAt.below E8.out b2)
  have F9 := Lib.hid (DAt.below F8.out b2)
  have G9 := Lib.hid (DAt.below G8.out b2)
  have B9 := Lib.hid (bt B8.out b2)
  clear x0 x1 y0 y1
  clear b2
  clear X8 Y8 A8 E8 F8 G8  B8
  have x0 := X9.out.c0
  have x1 := X9.out.c1
  go_wp2_with fail
  refine (rIs_any c s _).mono ?_
  rintro e w10 ⟨rfl, b2⟩
  have X10 := Lib.hid (DAt.below X9.out b2)
  have Y10 := Lib.hid (DAt.below Y9.out b2)
  have A10 := Lib.hid (DAt.below A9.out b2)
  have E10 := Lib.hid (DAt.below E9.out b2)
  have F10 := Lib.hid (DAt.below F9.out b2)
  have G10 := Lib.hid (DAt.below G9.out b2)
  have B10 := Lib.hid (bt B9.out b2)
  clear x0 x1
  clear b2
  clear X9 Y9 A9 E9 F9 G9  B9
  rw [HIS.out]
  go_upto_region 8 with fail
  generalize hW : World.alloc w10 _ = W12
  obtain ⟨jn, hijn⟩ : ∃ x, Hid (w10.heap.size = x) := ⟨_, rfl⟩
  have N12 : Hid (DAt W12 jn 0 0) := by rw [← hW, ← hijn.out]; exact dAt_new _ _ _
  have bW : Below w10.heap.size w10 W12 := by rw [← hW]; exact ba _ _
  rw [hijn.out]; clear hW
  have X12 := Lib.hid (DAt.below X10.out bW)
  have Y12 := Lib.hid (DAt.below Y10.out bW)
  have A12 := Lib.hid (DAt.below A10.out bW)
  have E12 := Lib.hid (DAt.below E10.out bW)
  have F12 := Lib.hid (DAt.below F10.out bW)
  have G12 := Lib.hid (DAt.below G10.out bW)
  have B12 := Lib.hid (bt B10.out bW)
  clear bW hijn
  clear X10 Y10 A10 E10 F10 G10  B10
  have a0 := A12.out.c0
  have a1 := A12.out.c1
  have e0 := E12.out.c0
  have e1 := E12.out.c1
  have f0 := F12.out.c0
  have f1 := F12.out.c1
  have g0 := G12.out.c0
  have g1 := G12.out.c1
  have n0 := N12.out.c0
  have n1 := N12.out.c1
  go_wp2_with fail
  refine (dknown_any _).mono ?_
  rintro e w13 ⟨rfl, b2⟩
  have B13 := bt B12.out b2; clear b2
  go_wp2_with fail
  go_ret
  exact ⟨rfl, B13⟩

set_option maxRecDepth 100000 in
set_option maxHeartbeats 8000000 in
theorem decDoes_bad2 (c s c' s' : Int) (w : World) (hc : fits c) (hc' : fits c') (hs : isB s = true) (hs' : isB s' = false) :
    Calls Try.prog 7 #[.agg #[.int .i64 c, .int .i64 s], .agg #[.int .i64 c', .int .i64 s']] w fun e w' => e = .returned (.bool true) ∧ Below w.heap.size w w' := by
  have HIS := Lib.hid hs
  have HIS' := Lib.hid hs'
  have hb : (isB s && isB s') = false := by rw [hs, hs']; rfl
  have ha : ∀ u, ansV c s c' s' u = .tuple #[.agg #[.int .i64 0, .int .i64 0], .int .i64 2] := fun u => by unfold ansV; rw [hb, if_neg (by simp)]; rfl
  have h1 := Lib.hid (ha (un c s.toNat + un c' s'.toNat)); have h2 := Lib.hid (ha (un c s.toNat - un c' s'.toNat))
  have h3 : Hid (mulV c s c' s' = .tuple #[.agg #[.int .i64 0, .int .i64 0], .int .i64 2]) := ha _
  have h4 : Hid (dvdV c s c' s' = .tuple #[.agg #[.int .i64 0, .int .i64 0], .int .i64 2]) := by show _ = _; unfold dvdV; rw [hb, if_neg (by simp)]; rfl
  have h5 : Hid (cmpV c s c' s' = .tuple #[.int .i64 0, .int .i64 2]) := by show _ = _; unfold cmpV; rw [hb, if_neg (by simp)]
  have HF : Hid (fits c ∧ fits c' ∧ True) := ⟨hc, hc', trivial⟩; clear hc hc' hs hb ha hs'
  go_enter Try.func7, Try.ntmps7
  go_upto_region 1 with fail
  obtain ⟨hX, hY, hB⟩ := two_dec w c s c' s'
  have X0 := Lib.hid hX; have Y0 := Lib.hid hY; have B0 := Lib.hid hB; clear hX hY hB
  generalize World.alloc (World.alloc w _) _ = w0 at X0 Y0 B0 ⊢
  have x0 := X0.out.c0
  have x1 := X0.out.c1
  have y0 := Y0.out.c0
  have y1 := Y0.out.c1
  go_wp2_with fail
  refine (dAdd_any c s c' s' _ _ HF.out.1 HF.out.2.1 h1.out).mono ?_
  rintro e w1 ⟨rfl, b2⟩
  have X1 := Lib.hid (DAt.below X0.out b2)
  have Y1 := Lib.hid (DAt.below Y0.out b2)
  have B1 := Lib.hid (bt B0.out b2)
  clear x0 x1 y0 y1
  clear b2
  clear X0 Y0  B0
  go_upto_region 2 with fail
  generalize hW : World.alloc w1 _ = W2
  obtain ⟨ia, hiia⟩ : ∃ x, Hid (w1.heap.size = x) := ⟨_, rfl⟩
  have A2 : Hid (DAt W2 ia 0 0) := by rw [← hW, ← hiia.out]; exact dAt_new _ _ _
  have bW : Below w1.heap.size w1 W2 := by rw [← hW]; exact ba _ _
  rw [hiia.out]; clear hW
  have X2 := Lib.hid (DAt.below X1.out bW)
  have Y2 := Lib.hid (DAt.below Y1.out bW)
  have B2 := Lib.hid (bt B1.out bW)
  clear bW hiia
  clear X1 Y1  B1
  obtain ⟨w2, hw2⟩ : ∃ x, x = W2 := ⟨_, rfl⟩; subst hw2
  have x0 := X2.out.c0
  have x1 := X2.out.c1
  have y0 := Y2.out.c0
  have y1 := Y2.out.c1
  go_wp2_with fail
  refine (dSub_any c s c' s' _ _ HF.out.1 HF.out.2.1 h2.out).mono ?_
  rintro e w3 ⟨rfl, b2⟩
  have X3 := Lib.hid (DAt.below X2.out b2)
  have Y3 := Lib.hid (DAt.below Y2.out b2)
  have A3 := Lib.hid (DAt.below A2.out b2)
  have B3 := Lib.hid (bt B2.out b2)
  clear x0 x1 y0 y1
  clear b2
  clear X2 Y2 A2  B2
  go_upto_region 3 with fail
  generalize hW : World.alloc w3 _ = W4
  obtain ⟨ie, hiie⟩ : ∃ x, Hid (w3.heap.size = x) := ⟨_, rfl⟩
  have E4 : Hid (DAt W4 ie 0 0) := by rw [← hW, ← hiie.out]; exact dAt_new _ _ _
  have bW : Below w3.heap.size w3 W4 := by rw [← hW]; exact ba _ _
  rw [hiie.out]; clear hW
  have X4 := Lib.hid (DAt.below X3.out bW)
  have Y4 := Lib.hid (DAt.below Y3.out bW)
  have A4 := Lib.hid (DAt.below A3.out bW)
  have B4 := Lib.hid (bt B3.out bW)
  clear bW hiie
  clear X3 Y3 A3  B3
  obtain ⟨w4, hw2⟩ : ∃ x, x = W4 := ⟨_, rfl⟩; subst hw2
  have x0 := X4.out.c0
  have x1 := X4.out.c1
  have y0 := Y4.out.c0
  have y1 := Y4.out.c1
  go_wp2_with fail
  refine (dMul_any c s c' s' _ _ HF.out.1 HF.out.2.1 h3.out).mono ?_
  rintro e w5 ⟨rfl, b2⟩
  have X5 := Lib.hid (DAt.below X4.out b2)
  have Y5 := Lib.hid (DAt.below Y4.out b2)
  have A5 := Lib.hid (DAt.below A4.out b2)
  have E5 := Lib.hid (DAt.below E4.out b2)
  have B5 := Lib.hid (bt B4.out b2)
  clear x0 x1 y0 y1
  clear b2
  clear X4 Y4 A4 E4  B4
  go_upto_region 4 with fail
  generalize hW : World.alloc w5 _ = W6
  obtain ⟨jf, hijf⟩ : ∃ x, Hid (w5.heap.size = x) := ⟨_, rfl⟩
  have F6 : Hid (DAt W6 jf 0 0) := by rw [← hW, ← hijf.out]; exact dAt_new _ _ _
  have bW : Below w5.heap.size w5 W6 := by rw [← hW]; exact ba _ _
  rw [hijf.out]; clear hW
  have X6 := Lib.hid (DAt.below X5.out bW)
  have Y6 := Lib.hid (DAt.below Y5.out bW)
  have A6 := Lib.hid (DAt.below A5.out bW)
  have E6 := Lib.hid (DAt.below E5.out bW)
  have B6 := Lib.hid (bt B5.out bW)
  clear bW hijf
  clear X5 Y5 A5 E5  B5
  obtain ⟨w6, hw2⟩ : ∃ x, x = W6 := ⟨_, rfl⟩; subst hw2
  have x0 := X6.out.c0
  have x1 := X6.out.c1
  have y0 := Y6.out.c0
  have y1 := Y6.out.c1
  go_wp2_with fail
  refine (dDiv_any c s c' s' _ _ HF.out.1 HF.out.2.1 h4.out).mono ?_
  rintro e w7 ⟨rfl, b2⟩
  have X7 := Lib.hid (DAt.below X6.out b2)
  have Y7 := Lib.hid (DAt.below Y6.out b2)
  have A7 := Lib.hid (DAt.below A6.out b2)
  have E7 := Lib.hid (DAt.below E6.out b2)
  have F7 := Lib.hid (DAt.below F6.out b2)
  have B7 := Lib.hid (bt B6.out b2)
  clear x0 x1 y0 y1
  clear b2
  clear X6 Y6 A6 E6 F6  B6
  go_upto_region 5 with fail
  generalize hW : World.alloc w7 _ = W8
  obtain ⟨ig, hiig⟩ : ∃ x, Hid (w7.heap.size = x) := ⟨_, rfl⟩
  have G8 : Hid (DAt W8 ig 0 0) := by rw [← hW, ← hiig.out]; exact dAt_new _ _ _
  have bW : Below w7.heap.size w7 W8 := by rw [← hW]; exact ba _ _
  rw [hiig.out]; clear hW
  have X8 := Lib.hid (DAt.below X7.out bW)
  have Y8 := Lib.hid (DAt.below Y7.out bW)
  have A8 := Lib.hid (DAt.below A7.out bW)
  have E8 := Lib.hid (DAt.below E7.out bW)
  have F8 := Lib.hid (DAt.below F7.out bW)
  have B8 := Lib.hid (bt B7.out bW)
  clear bW hiig
  clear X7 Y7 A7 E7 F7  B7
  obtain ⟨w8, hw2⟩ : ∃ x, x = W8 := ⟨_, rfl⟩; subst hw2
  have x0 := X8.out.c0
  have x1 := X8.out.c1
  have y0 := Y8.out.c0
  have y1 := Y8.out.c1
  go_wp2_with fail
  refine (dCmp_any c s c' s' _ _ HF.out.1 HF.out.2.1 h5.out).mono ?_
  rintro e w9 ⟨rfl, b2⟩
  have X9 := Lib.hid (DAt.below X8.out b2)
  have Y9 := Lib.hid (DAt.below Y8.out b2)
  have A9 := Lib.hid (DAt.below A8.out b2)
  have E9 := Lib.hid (DAt.below E8.out b2)
  have F9 := Lib.hid (DAt.below F8.out b2)
  have G9 := Lib.hid (DAt.below G8.out b2)
  have B9 := Lib.hid (bt B8.out b2)
  clear x0 x1 y0 y1
  clear b2
  clear X8 Y8 A8 E8 F8 G8  B8
  have x0 := X9.out.c0
  have x1 := X9.out.c1
  go_wp2_with fail
  refine (rIs_any c s _).mono ?_
  rintro e w10 ⟨rfl, b2⟩
  have X10 := Lib.hid (DAt.below X9.out b2)
  have Y10 := Lib.hid (DAt.below Y9.out b2)
  have A10 := Lib.hid (DAt.below A9.out b2)
  have E10 := Lib.hid (DAt.below E9.out b2)
  have F10 := Lib.hid (DAt.below F9.out b2)
  have G10 := Lib.hid (DAt.below G9.out b2)
  have B10 := Lib.hid (bt B9.out b2)
  clear x0 x1
  clear b2
  clear X9 Y9 A9 E9 F9 G9  B9
  rw [HIS.out]
  have y0 := Y10.out.c0
  have y1 := Y10.out.c1
  go_wp2_with fail
  refine (rIs_any c' s' _).mono ?_
  rintro e w11 ⟨rfl, b2⟩
  have X11 := Lib.hid (DAt.below X10.out b2)
  have Y11 := Lib.hid (DAt.below Y10.out b2)
  have A11 := Lib.hid (DAt.below A10.out b2)
  have E11 := Lib.hid (DAt.below E10.out b2)
  have F11 := Lib.hid (DAt.below F10.out b2)
  have G11 := Lib.hid (DAt.below G10.out b2)
  have B11 := Lib.hid (bt B10.out b2)
  clear y0 y1
  clear b2
  clear X10 Y10 A10 E10 F10 G10  B10
  rw [HIS'.out]
  go_upto_region 8 with fail
  generalize hW : World.alloc w11 _ = W12
  obtain ⟨jn, hijn⟩ : ∃ x, Hid (w11.heap.size = x) := ⟨_, rfl⟩
  have N12 : Hid (DAt W12 jn 0 0) := by rw [← hW, ← hijn.out]; exact dAt_new _ _ _
  have bW : Below w11.heap.size w11 W12 := by rw [← hW]; exact ba _ _
  rw [hijn.out]; clear hW
  have X12 := Lib.hid (DAt.below X11.out bW)
  have Y12 := Lib.hid (DAt.below Y11.out bW)
  have A12 := Lib.hid (DAt.below A11.out bW)
  have E12 := Lib.hid (DAt.below E11.out bW)
  have F12 := Lib.hid (DAt.below F11.out bW)
  have G12 := Lib.hid (DAt.below G11.out bW)
  have B12 := Lib.hid (bt B11.out bW)
  clear bW hijn
  clear X11 Y11 A11 E11 F11 G11  B11
  have a0 := A12.out.c0
  have a1 := A12.out.c1
  have e0 := E12.out.c0
  have e1 := E12.out.c1
  have f0 := F12.out.c0
  have f1 := F12.out.c1
  have g0 := G12.out.c0
  have g1 := G12.out.c1
  have n0 := N12.out.c0
  have n1 := N12.out.c1
  go_wp2_with fail
  refine (dknown_any _).mono ?_
  rintro e w13 ⟨rfl, b2⟩
  have B13 := bt B12.out b2; clear b2
  go_wp2_with fail
  go_ret
  exact ⟨rfl, B13⟩

set_option maxRecDepth 100000 in
set_option maxHeartbeats 8000000 in
theorem decDoes_zero (c c' : Int) (n n' : Nat) (w : World) (hc : fits c) (hc' : fits c') (hn : n ≤ 9) (hn' : n' ≤ 9) (hz : c' = 0) :
    Calls Try.prog 7 #[.agg #[.int .i64 c, .int .i64 (n : Int)], .agg #[.int .i64 c', .int .i64 (n' : Int)]] w fun e w' => e = .returned (.bool true) ∧ Below w.heap.size w w' := by
  have hs : isB (n : Int) = true := by unfold isB; simp; omega
  have hs' : isB (n' : Int) = true := by unfold isB; simp; omega
  have HIS := Lib.hid hs; have HIS' := Lib.hid hs'
  have hb : (isB (n : Int) && isB (n' : Int)) = true := by rw [hs, hs']; rfl
  have ha : ∀ u, ansV c (n : Int) c' (n' : Int) u = decV u 9 := fun u => by unfold ansV; rw [hb, if_pos rfl]
  have et : ((n : Nat) : Int).toNat = n := rfl; have et' : ((n' : Nat) : Int).toNat = n' := rfl
  obtain ⟨ac, as_, ae, q0⟩ := decV_form (un c n + un c' n') 9
  obtain ⟨bc, bs, be, q1⟩ := decV_form (un c n - un c' n') 9
  obtain ⟨dc, ds, de, q2⟩ := decV_form (evenZ (un c n * un c' n') (10 ^ 9)) 9
  have h1 : Hid (ansV c (n : Int) c' (n' : Int) (un c (n : Int).toNat + un c' (n' : Int).toNat) = .tuple #[.agg #[.int .i64 ac, .int .i64 as_], .int .i64 ae]) := (ha _).trans q0
  have h2 : Hid (ansV c (n : Int) c' (n' : Int) (un c (n : Int).toNat - un c' (n' : Int).toNat) = .tuple #[.agg #[.int .i64 bc, .int .i64 bs], .int .i64 be]) := (ha _).trans q1
  have h3 : Hid (mulV c (n : Int) c' (n' : Int) = .tuple #[.agg #[.int .i64 dc, .int .i64 ds], .int .i64 de]) := (ha _).trans q2
  have h4 : Hid (dvdV c (n : Int) c' (n' : Int) = .tuple #[.agg #[.int .i64 0, .int .i64 0], .int .i64 12]) := by show _ = _; unfold dvdV; rw [hb, if_pos rfl, if_pos hz]; rfl
  subst hz
  obtain ⟨z, hcz⟩ : ∃ z, Hid (cmpZ (un c n) (un 0 n') = z) := ⟨_, rfl⟩
  have h5 : Hid (cmpV c (n : Int) 0 (n' : Int) = .tuple #[.int .i64 z, .int .i64 0]) := by show _ = _; unfold cmpV; rw [hb, if_pos rfl, et, et', hcz.out]
  have H0 := Lib.hid q0; have H1 := Lib.hid q1; have H2 := Lib.hid q2; have HF : Hid (fits c ∧ fits 0 ∧ n ≤ 9 ∧ n' ≤ 9) := ⟨hc, hc', hn, hn'⟩; clear hc hc' hs hs' hb ha q0 q1 q2 et et' hn hn'
  go_enter Try.func7, Try.ntmps7
  go_upto_region 1 with fail
  obtain ⟨hX, hY, hB⟩ := two_dec w c (n : Int) 0 (n' : Int)
  have X0 := Lib.hid hX; have Y0 := Lib.hid hY; have B0 := Lib.hid hB; clear hX hY hB
  generalize World.alloc (World.alloc w _) _ = w0 at X0 Y0 B0 ⊢
  have x0 := X0.out.c0
  have x1 := X0.out.c1
  have y0 := Y0.out.c0
  have y1 := Y0.out.c1
  go_wp2_with fail
  refine (dAdd_any c (n : Int) 0 (n' : Int) _ _ HF.out.1 HF.out.2.1 h1.out).mono ?_
  rintro e w1 ⟨rfl, b2⟩
  have X1 := Lib.hid (DAt.below X0.out b2)
  have Y1 := Lib.hid (DAt.below Y0.out b2)
  have B1 := Lib.hid (bt B0.out b2)
  clear x0 x1 y0 y1
  clear b2
  clear X0 Y0  B0
  go_upto_region 2 with fail
  generalize hW : World.alloc w1 _ = W2
  obtain ⟨ia, hiia⟩ : ∃ x, Hid (w1.heap.size = x) := ⟨_, rfl⟩
  have A2 : Hid (DAt W2 ia ac as_) := by rw [← hW, ← hiia.out]; exact dAt_new _ _ _
  have bW : Below w1.heap.size w1 W2 := by rw [← hW]; exact ba _ _
  rw [hiia.out]; clear hW
  have X2 := Lib.hid (DAt.below X1.out bW)
  have Y2 := Lib.hid (DAt.below Y1.out bW)
  have B2 := Lib.hid (bt B1.out bW)
  clear bW hiia
  clear X1 Y1  B1
  obtain ⟨w2, hw2⟩ : ∃ x, x = W2 := ⟨_, rfl⟩; subst hw2
  have x0 := X2.out.c0
  have x1 := X2.out.c1
  have y0 := Y2.out.c0
  have y1 := Y2.out.c1
  go_wp2_with fail
  refine (dSub_any c (n : Int) 0 (n' : Int) _ _ HF.out.1 HF.out.2.1 h2.out).mono ?_
  rintro e w3 ⟨rfl, b2⟩
  have X3 := Lib.hid (DAt.below X2.out b2)
  have Y3 := Lib.hid (DAt.below Y2.out b2)
  have A3 := Lib.hid (DAt.below A2.out b2)
  have B3 := Lib.hid (bt B2.out b2)
  clear x0 x1 y0 y1
  clear b2
  clear X2 Y2 A2  B2
  go_upto_region 3 with fail
  generalize hW : World.alloc w3 _ = W4
  obtain ⟨ie, hiie⟩ : ∃ x, Hid (w3.heap.size = x) := ⟨_, rfl⟩
  have E4 : Hid (DAt W4 ie bc bs) := by rw [← hW, ← hiie.out]; exact dAt_new _ _ _
  have bW : Below w3.heap.size w3 W4 := by rw [← hW]; exact ba _ _
  rw [hiie.out]; clear hW
  have X4 := Lib.hid (DAt.below X3.out bW)
  have Y4 := Lib.hid (DAt.below Y3.out bW)
  have A4 := Lib.hid (DAt.below A3.out bW)
  have B4 := Lib.hid (bt B3.out bW)
  clear bW hiie
  clear X3 Y3 A3  B3
  obtain ⟨w4, hw2⟩ : ∃ x, x = W4 := ⟨_, rfl⟩; subst hw2
  have x0 := X4.out.c0
  have x1 := X4.out.c1
  have y0 := Y4.out.c0
  have y1 := Y4.out.c1
  go_wp2_with fail
  refine (dMul_any c (n : Int) 0 (n' : Int) _ _ HF.out.1 HF.out.2.1 h3.out).mono ?_
  rintro e w5 ⟨rfl, b2⟩
  have X5 := Lib.hid (DAt.below X4.out b2)
  have Y5 := Lib.hid (DAt.below Y4.out b2)
  have A5 := Lib.hid (DAt.below A4.out b2)
  have E5 := Lib.hid (DAt.below E4.out b2)
  have B5 := Lib.hid (bt B4.out b2)
  clear x0 x1 y0 y1
  clear b2
  clear X4 Y4 A4 E4  B4
  go_upto_region 4 with fail
  generalize hW : World.alloc w5 _ = W6
  obtain ⟨jf, hijf⟩ : ∃ x, Hid (w5.heap.size = x) := ⟨_, rfl⟩
  have F6 : Hid (DAt W6 jf dc ds) := by rw [← hW, ← hijf.out]; exact dAt_new _ _ _
  have bW : Below w5.heap.size w5 W6 := by rw [← hW]; exact ba _ _
  rw [hijf.out]; clear hW
  have X6 := Lib.hid (DAt.below X5.out bW)
  have Y6 := Lib.hid (DAt.below Y5.out bW)
  have A6 := Lib.hid (DAt.below A5.out bW)
  have E6 := Lib.hid (DAt.below E5.out bW)
  have B6 := Lib.hid (bt B5.out bW)
  clear bW hijf
  clear X5 Y5 A5 E5  B5
  obtain ⟨w6, hw2⟩ : ∃ x, x = W6 := ⟨_, rfl⟩; subst hw2
  have x0 := X6.out.c0
  have x1 := X6.out.c1
  have y0 := Y6.out.c0
  have y1 := Y6.out.c1
  go_wp2_with fail
  refine (dDiv_any c (n : Int) 0 (n' : Int) _ _ HF.out.1 HF.out.2.1 h4.out).mono ?_
  rintro e w7 ⟨rfl, b2⟩
  have X7 := Lib.hid (DAt.below X6.out b2)
  have Y7 := Lib.hid (DAt.below Y6.out b2)
  have A7 := Lib.hid (DAt.below A6.out b2)
  have E7 := Lib.hid (DAt.below E6.out b2)
  have F7 := Lib.hid (DAt.below F6.out b2)
  have B7 := Lib.hid (bt B6.out b2)
  clear x0 x1 y0 y1
  clear b2
  clear X6 Y6 A6 E6 F6  B6
  go_upto_region 5 with fail
  generalize hW : World.alloc w7 _ = W8
  obtain ⟨ig, hiig⟩ : ∃ x, Hid (w7.heap.size = x) := ⟨_, rfl⟩
  have G8 : Hid (DAt W8 ig 0 0) := by rw [← hW, ← hiig.out]; exact dAt_new _ _ _
  have bW : Below w7.heap.size w7 W8 := by rw [← hW]; exact ba _ _
  rw [hiig.out]; clear hW
  have X8 := Lib.hid (DAt.below X7.out bW)
  have Y8 := Lib.hid (DAt.below Y7.out bW)
  have A8 := Lib.hid (DAt.below A7.out bW)
  have E8 := Lib.hid (DAt.below E7.out bW)
  have F8 := Lib.hid (DAt.below F7.out bW)
  have B8 := Lib.hid (bt B7.out bW)
  clear bW hiig
  clear X7 Y7 A7 E7 F7  B7
  obtain ⟨w8, hw2⟩ : ∃ x, x = W8 := ⟨_, rfl⟩; subst hw2
  have x0 := X8.out.c0
  have x1 := X8.out.c1
  have y0 := Y8.out.c0
  have y1 := Y8.out.c1
  go_wp2_with fail
  refine (dCmp_any c (n : Int) 0 (n' : Int) _ _ HF.out.1 HF.out.2.1 h5.out).mono ?_
  rintro e w9 ⟨rfl, b2⟩
  have X9 := Lib.hid (DAt.below X8.out b2)
  have Y9 := Lib.hid (DAt.below Y8.out b2)
  have A9 := Lib.hid (DAt.below A8.out b2)
  have E9 := Lib.hid (DAt.below E8.out b2)
  have F9 := Lib.hid (DAt.below F8.out b2)
  have G9 := Lib.hid (DAt.below G8.out b2)
  have B9 := Lib.hid (bt B8.out b2)
  clear x0 x1 y0 y1
  clear b2
  clear X8 Y8 A8 E8 F8 G8  B8
  have x0 := X9.out.c0
  have x1 := X9.out.c1
  go_wp2_with fail
  refine (rIs_any c (n : Int) _).mono ?_
  rintro e w10 ⟨rfl, b2⟩
  have X10 := Lib.hid (DAt.below X9.out b2)
  have Y10 := Lib.hid (DAt.below Y9.out b2)
  have A10 := Lib.hid (DAt.below A9.out b2)
  have E10 := Lib.hid (DAt.below E9.out b2)
  have F10 := Lib.hid (DAt.below F9.out b2)
  have G10 := Lib.hid (DAt.below G9.out b2)
  have B10 := Lib.hid (bt B9.out b2)
  clear x0 x1
  clear b2
  clear X9 Y9 A9 E9 F9 G9  B9
  rw [HIS.out]
  have y0 := Y10.out.c0
  have y1 := Y10.out.c1
  go_wp2_with fail
  refine (rIs_any 0 (n' : Int) _).mono ?_
  rintro e w11 ⟨rfl, b2⟩
  have X11 := Lib.hid (DAt.below X10.out b2)
  have Y11 := Lib.hid (DAt.below Y10.out b2)
  have A11 := Lib.hid (DAt.below A10.out b2)
  have E11 := Lib.hid (DAt.below E10.out b2)
  have F11 := Lib.hid (DAt.below F10.out b2)
  have G11 := Lib.hid (DAt.below G10.out b2)
  have B11 := Lib.hid (bt B10.out b2)
  clear y0 y1
  clear b2
  clear X10 Y10 A10 E10 F10 G10  B10
  rw [HIS'.out]
  have x0 := X11.out.c0
  have x1 := X11.out.c1
  have y0 := Y11.out.c0
  have y1 := Y11.out.c1
  go_wp2_with fail
  refine (rAdd_any c 0 n n' _ _ HF.out.1 HF.out.2.1 HF.out.2.2.1 HF.out.2.2.2 H0.out).mono ?_
  rintro e w12 ⟨rfl, b2⟩
  have X12 := Lib.hid (DAt.below X11.out b2)
  have Y12 := Lib.hid (DAt.below Y11.out b2)
  have A12 := Lib.hid (DAt.below A11.out b2)
  have E12 := Lib.hid (DAt.below E11.out b2)
  have F12 := Lib.hid (DAt.below F11.out b2)
  have G12 := Lib.hid (DAt.below G11.out b2)
  have B12 := Lib.hid (bt B11.out b2)
  clear x0 x1 y0 y1
  clear b2
  clear X11 Y11 A11 E11 F11 G11  B11
  go_upto_region 10 with fail
  generalize hW : World.alloc w12 _ = W13
  obtain ⟨ip, hiip⟩ : ∃ x, Hid (w12.heap.size = x) := ⟨_, rfl⟩
  have P13 : Hid (DAt W13 ip ac as_) := by rw [← hW, ← hiip.out]; exact dAt_new _ _ _
  have bW : Below w12.heap.size w12 W13 := by rw [← hW]; exact ba _ _
  rw [hiip.out]; clear hW
  have X13 := Lib.hid (DAt.below X12.out bW)
  have Y13 := Lib.hid (DAt.below Y12.out bW)
  have A13 := Lib.hid (DAt.below A12.out bW)
  have E13 := Lib.hid (DAt.below E12.out bW)
  have F13 := Lib.hid (DAt.below F12.out bW)
  have G13 := Lib.hid (DAt.below G12.out bW)
  have B13 := Lib.hid (bt B12.out bW)
  clear bW hiip
  clear X12 Y12 A12 E12 F12 G12  B12
  obtain ⟨w13, hw2⟩ : ∃ x, x = W13 := ⟨_, rfl⟩; subst hw2
  have x0 := X13.out.c0
  have x1 := X13.out.c1
  have y0 := Y13.out.c0
  have y1 := Y13.out.c1
  go_wp2_with fail
  refine (rSub_any c 0 n n' _ _ HF.out.1 HF.out.2.1 HF.out.2.2.1 HF.out.2.2.2 H1.out).mono ?_
  rintro e w14 ⟨rfl, b2⟩
  have X14 := Lib.hid (DAt.below X13.out b2)
  have Y14 := Lib.hid (DAt.below Y13.out b2)
  have A14 := Lib.hid (DAt.below A13.out b2)
  have E14 := Lib.hid (DAt.below E13.out b2)
  have F14 := Lib.hid (DAt.below F13.out b2)
  have G14 := Lib.hid (DAt.below G13.out b2)
  have P14 := Lib.hid (DAt.below P13.out b2)
  have B14 := Lib.hid (bt B13.out b2)
  clear x0 x1 y0 y1
  clear b2
  clear X13 Y13 A13 E13 F13 G13 P13  B13
  go_upto_region 11 with fail
  generalize hW : World.alloc w14 _ = W15
  obtain ⟨iq, hiiq⟩ : ∃ x, Hid (w14.heap.size = x) := ⟨_, rfl⟩
  have Q15 : Hid (DAt W15 iq bc bs) := by rw [← hW, ← hiiq.out]; exact dAt_new _ _ _
  have bW : Below w14.heap.size w14 W15 := by rw [← hW]; exact ba _ _
  rw [hiiq.out]; clear hW
  have X15 := Lib.hid (DAt.below X14.out bW)
  have Y15 := Lib.hid (DAt.below Y14.out bW)
  have A15 := Lib.hid (DAt.below A14.out bW)
  have E15 := Lib.hid (DAt.below E14.out bW)
  have F15 := Lib.hid (DAt.below F14.out bW)
  have G15 := Lib.hid (DAt.below G14.out bW)
  have P15 := Lib.hid (DAt.below P14.out bW)
  have B15 := Lib.hid (bt B14.out bW)
  clear bW hiiq
  clear X14 Y14 A14 E14 F14 G14 P14  B14
  obtain ⟨w15, hw2⟩ : ∃ x, x = W15 := ⟨_, rfl⟩; subst hw2
  have x0 := X15.out.c0
  have x1 := X15.out.c1
  have y0 := Y15.out.c0
  have y1 := Y15.out.c1
  go_wp2_with fail
  refine (rMul_any c 0 n n' _ _ HF.out.1 HF.out.2.1 HF.out.2.2.1 HF.out.2.2.2 H2.out).mono ?_
  rintro e w16 ⟨rfl, b2⟩
  have X16 := Lib.hid (DAt.below X15.out b2)
  have Y16 := Lib.hid (DAt.below Y15.out b2)
  have A16 := Lib.hid (DAt.below A15.out b2)
  have E16 := Lib.hid (DAt.below E15.out b2)
  have F16 := Lib.hid (DAt.below F15.out b2)
  have G16 := Lib.hid (DAt.below G15.out b2)
  have P16 := Lib.hid (DAt.below P15.out b2)
  have Q16 := Lib.hid (DAt.below Q15.out b2)
  have B16 := Lib.hid (bt B15.out b2)
  clear x0 x1 y0 y1
  clear b2
  clear X15 Y15 A15 E15 F15 G15 P15 Q15  B15
  go_upto_region 12 with fail
  generalize hW : World.alloc w16 _ = W17
  obtain ⟨is, hiis⟩ : ∃ x, Hid (w16.heap.size = x) := ⟨_, rfl⟩
  have S17 : Hid (DAt W17 is dc ds) := by rw [← hW, ← hiis.out]; exact dAt_new _ _ _
  have bW : Below w16.heap.size w16 W17 := by rw [← hW]; exact ba _ _
  rw [hiis.out]; clear hW
  have X17 := Lib.hid (DAt.below X16.out bW)
  have Y17 := Lib.hid (DAt.below Y16.out bW)
  have A17 := Lib.hid (DAt.below A16.out bW)
  have E17 := Lib.hid (DAt.below E16.out bW)
  have F17 := Lib.hid (DAt.below F16.out bW)
  have G17 := Lib.hid (DAt.below G16.out bW)
  have P17 := Lib.hid (DAt.below P16.out bW)
  have Q17 := Lib.hid (DAt.below Q16.out bW)
  have B17 := Lib.hid (bt B16.out bW)
  clear bW hiis
  clear X16 Y16 A16 E16 F16 G16 P16 Q16  B16
  obtain ⟨w17, hw2⟩ : ∃ x, x = W17 := ⟨_, rfl⟩; subst hw2
  have a0 := A17.out.c0
  have a1 := A17.out.c1
  have e0 := E17.out.c0
  have e1 := E17.out.c1
  have f0 := F17.out.c0
  have f1 := F17.out.c1
  have p0 := P17.out.c0
  have p1 := P17.out.c1
  have q0 := Q17.out.c0
  have q1 := Q17.out.c1
  have s0 := S17.out.c0
  have s1 := S17.out.c1
  have x0 := X17.out.c0
  have x1 := X17.out.c1
  have y0 := Y17.out.c0
  have y1 := Y17.out.c1
  go_wp2_with fail
  refine (rCmp_any c 0 n n' z _ HF.out.1 HF.out.2.1 HF.out.2.2.1 HF.out.2.2.2 hcz.out).mono ?_
  rintro e w18 ⟨rfl, b2⟩
  have X18 := Lib.hid (DAt.below X17.out b2)
  have Y18 := Lib.hid (DAt.below Y17.out b2)
  have A18 := Lib.hid (DAt.below A17.out b2)
  have E18 := Lib.hid (DAt.below E17.out b2)
  have F18 := Lib.hid (DAt.below F17.out b2)
  have G18 := Lib.hid (DAt.below G17.out b2)
  have P18 := Lib.hid (DAt.below P17.out b2)
  have Q18 := Lib.hid (DAt.below Q17.out b2)
  have S18 := Lib.hid (DAt.below S17.out b2)
  have B18 := Lib.hid (bt B17.out b2)
  clear a0 a1 e0 e1 f0 f1 p0 p1 q0 q1 s0 s1 x0 x1 y0 y1
  clear b2
  clear X17 Y17 A17 E17 F17 G17 P17 Q17 S17  B17
  have y0 := Y18.out.c0
  have y1 := Y18.out.c1
  have g0 := G18.out.c0
  have g1 := G18.out.c1
  go_wp2_with fail
  refine (dknown_any _).mono ?_
  rintro e w30 ⟨rfl, b2⟩
  have B30 := bt B18.out b2; clear b2
  go_wp2_with fail
  go_ret
  exact ⟨rfl, B30⟩

set_option maxRecDepth 100000 in
set_option maxHeartbeats 8000000 in
theorem decDoes_good (c c' : Int) (n n' : Nat) (w : World) (hc : fits c) (hc' : fits c') (hn : n ≤ 9) (hn' : n' ≤ 9) (hz : c' ≠ 0) :
    Calls Try.prog 7 #[.agg #[.int .i64 c, .int .i64 (n : Int)], .agg #[.int .i64 c', .int .i64 (n' : Int)]] w fun e w' => e = .returned (.bool true) ∧ Below w.heap.size w w' := by
  have hs : isB (n : Int) = true := by unfold isB; simp; omega
  have hs' : isB (n' : Int) = true := by unfold isB; simp; omega
  have HIS := Lib.hid hs; have HIS' := Lib.hid hs'
  have hb : (isB (n : Int) && isB (n' : Int)) = true := by rw [hs, hs']; rfl
  have ha : ∀ u, ansV c (n : Int) c' (n' : Int) u = decV u 9 := fun u => by unfold ansV; rw [hb, if_pos rfl]
  have et : ((n : Nat) : Int).toNat = n := rfl; have et' : ((n' : Nat) : Int).toNat = n' := rfl
  obtain ⟨ac, as_, ae, q0⟩ := decV_form (un c n + un c' n') 9
  obtain ⟨bc, bs, be, q1⟩ := decV_form (un c n - un c' n') 9
  obtain ⟨dc, ds, de, q2⟩ := decV_form (evenZ (un c n * un c' n') (10 ^ 9)) 9
  have h1 : Hid (ansV c (n : Int) c' (n' : Int) (un c (n : Int).toNat + un c' (n' : Int).toNat) = .tuple #[.agg #[.int .i64 ac, .int .i64 as_], .int .i64 ae]) := (ha _).trans q0
  have h2 : Hid (ansV c (n : Int) c' (n' : Int) (un c (n : Int).toNat - un c' (n' : Int).toNat) = .tuple #[.agg #[.int .i64 bc, .int .i64 bs], .int .i64 be]) := (ha _).trans q1
  have h3 : Hid (mulV c (n : Int) c' (n' : Int) = .tuple #[.agg #[.int .i64 dc, .int .i64 ds], .int .i64 de]) := (ha _).trans q2
  obtain ⟨gc, gs, ge, q3⟩ := decV_form (evenZ ((if c' < 0 then -(un c n) else un c n) * ((10 ^ 9 : Nat) : Int)) (un c' n').natAbs) 9
  have h4 : Hid (dvdV c (n : Int) c' (n' : Int) = .tuple #[.agg #[.int .i64 gc, .int .i64 gs], .int .i64 ge]) := by show _ = _; unfold dvdV; rw [hb, if_pos rfl, if_neg hz]; exact q3
  have hz1 : (c' == 0) = false := by simpa using hz
  have HZ := Lib.hid hz; have H3 := Lib.hid q3; clear hz q3
  obtain ⟨z, hcz⟩ : ∃ z, Hid (cmpZ (un c n) (un c' n') = z) := ⟨_, rfl⟩
  have h5 : Hid (cmpV c (n : Int) c' (n' : Int) = .tuple #[.int .i64 z, .int .i64 0]) := by show _ = _; unfold cmpV; rw [hb, if_pos rfl, et, et', hcz.out]
  have H0 := Lib.hid q0; have H1 := Lib.hid q1; have H2 := Lib.hid q2; have HF : Hid (fits c ∧ fits c' ∧ n ≤ 9 ∧ n' ≤ 9) := ⟨hc, hc', hn, hn'⟩; clear hc hc' hs hs' hb ha q0 q1 q2 et et' hn hn'
  go_enter Try.func7, Try.ntmps7
  go_upto_region 1 with fail
  obtain ⟨hX, hY, hB⟩ := two_dec w c (n : Int) c' (n' : Int)
  have X0 := Lib.hid hX; have Y0 := Lib.hid hY; have B0 := Lib.hid hB; clear hX hY hB
  generalize World.alloc (World.alloc w _) _ = w0 at X0 Y0 B0 ⊢
  have x0 := X0.out.c0
  have x1 := X0.out.c1
  have y0 := Y0.out.c0
  have y1 := Y0.out.c1
  go_wp2_with fail
  refine (dAdd_any c (n : Int) c' (n' : Int) _ _ HF.out.1 HF.out.2.1 h1.out).mono ?_
  rintro e w1 ⟨rfl, b2⟩
  have X1 := Lib.hid (DAt.below X0.out b2)
  have Y1 := Lib.hid (DAt.below Y0.out b2)
  have B1 := Lib.hid (bt B0.out b2)
  clear x0 x1 y0 y1
  clear b2
  clear X0 Y0  B0
  go_upto_region 2 with fail
  generalize hW : World.alloc w1 _ = W2
  obtain ⟨ia, hiia⟩ : ∃ x, Hid (w1.heap.size = x) := ⟨_, rfl⟩
  have A2 : Hid (DAt W2 ia ac as_) := by rw [← hW, ← hiia.out]; exact dAt_new _ _ _
  have bW : Below w1.heap.size w1 W2 := by rw [← hW]; exact ba _ _
  rw [hiia.out]; clear hW
  have X2 := Lib.hid (DAt.below X1.out bW)
  have Y2 := Lib.hid (DAt.below Y1.out bW)
  have B2 := Lib.hid (bt B1.out bW)
  clear bW hiia
  clear X1 Y1  B1
  obtain ⟨w2, hw2⟩ : ∃ x, x = W2 := ⟨_, rfl⟩; subst hw2
  have x0 := X2.out.c0
  have x1 := X2.out.c1
  have y0 := Y2.out.c0
  have y1 := Y2.out.c1
  go_wp2_with fail
  refine (dSub_any c (n : Int) c' (n' : Int) _ _ HF.out.1 HF.out.2.1 h2.out).mono ?_
  rintro e w3 ⟨rfl, b2⟩
  have X3 := Lib.hid (DAt.below X2.out b2)
  have Y3 := Lib.hid (DAt.below Y2.out b2)
  have A3 := Lib.hid (DAt.below A2.out b2)
  have B3 := Lib.hid (bt B2.out b2)
  clear x0 x1 y0 y1
  clear b2
  clear X2 Y2 A2  B2
  go_upto_region 3 with fail
  generalize hW : World.alloc w3 _ = W4
  obtain ⟨ie, hiie⟩ : ∃ x, Hid (w3.heap.size = x) := ⟨_, rfl⟩
  have E4 : Hid (DAt W4 ie bc bs) := by rw [← hW, ← hiie.out]; exact dAt_new _ _ _
  have bW : Below w3.heap.size w3 W4 := by rw [← hW]; exact ba _ _
  rw [hiie.out]; clear hW
  have X4 := Lib.hid (DAt.below X3.out bW)
  have Y4 := Lib.hid (DAt.below Y3.out bW)
  have A4 := Lib.hid (DAt.below A3.out bW)
  have B4 := Lib.hid (bt B3.out bW)
  clear bW hiie
  clear X3 Y3 A3  B3
  obtain ⟨w4, hw2⟩ : ∃ x, x = W4 := ⟨_, rfl⟩; subst hw2
  have x0 := X4.out.c0
  have x1 := X4.out.c1
  have y0 := Y4.out.c0
  have y1 := Y4.out.c1
  go_wp2_with fail
  refine (dMul_any c (n : Int) c' (n' : Int) _ _ HF.out.1 HF.out.2.1 h3.out).mono ?_
  rintro e w5 ⟨rfl, b2⟩
  have X5 := Lib.hid (DAt.below X4.out b2)
  have Y5 := Lib.hid (DAt.below Y4.out b2)
  have A5 := Lib.hid (DAt.below A4.out b2)
  have E5 := Lib.hid (DAt.below E4.out b2)
  have B5 := Lib.hid (bt B4.out b2)
  clear x0 x1 y0 y1
  clear b2
  clear X4 Y4 A4 E4  B4
  go_upto_region 4 with fail
  generalize hW : World.alloc w5 _ = W6
  obtain ⟨jf, hijf⟩ : ∃ x, Hid (w5.heap.size = x) := ⟨_, rfl⟩
  have F6 : Hid (DAt W6 jf dc ds) := by rw [← hW, ← hijf.out]; exact dAt_new _ _ _
  have bW : Below w5.heap.size w5 W6 := by rw [← hW]; exact ba _ _
  rw [hijf.out]; clear hW
  have X6 := Lib.hid (DAt.below X5.out bW)
  have Y6 := Lib.hid (DAt.below Y5.out bW)
  have A6 := Lib.hid (DAt.below A5.out bW)
  have E6 := Lib.hid (DAt.below E5.out bW)
  have B6 := Lib.hid (bt B5.out bW)
  clear bW hijf
  clear X5 Y5 A5 E5  B5
  obtain ⟨w6, hw2⟩ : ∃ x, x = W6 := ⟨_, rfl⟩; subst hw2
  have x0 := X6.out.c0
  have x1 := X6.out.c1
  have y0 := Y6.out.c0
  have y1 := Y6.out.c1
  go_wp2_with fail
  refine (dDiv_any c (n : Int) c' (n' : Int) _ _ HF.out.1 HF.out.2.1 h4.out).mono ?_
  rintro e w7 ⟨rfl, b2⟩
  have X7 := Lib.hid (DAt.below X6.out b2)
  have Y7 := Lib.hid (DAt.below Y6.out b2)
  have A7 := Lib.hid (DAt.below A6.out b2)
  have E7 := Lib.hid (DAt.below E6.out b2)
  have F7 := Lib.hid (DAt.below F6.out b2)
  have B7 := Lib.hid (bt B6.out b2)
  clear x0 x1 y0 y1
  clear b2
  clear X6 Y6 A6 E6 F6  B6
  go_upto_region 5 with fail
  generalize hW : World.alloc w7 _ = W8
  obtain ⟨ig, hiig⟩ : ∃ x, Hid (w7.heap.size = x) := ⟨_, rfl⟩
  have G8 : Hid (DAt W8 ig gc gs) := by rw [← hW, ← hiig.out]; exact dAt_new _ _ _
  have bW : Below w7.heap.size w7 W8 := by rw [← hW]; exact ba _ _
  rw [hiig.out]; clear hW
  have X8 := Lib.hid (DAt.below X7.out bW)
  have Y8 := Lib.hid (DAt.below Y7.out bW)
  have A8 := Lib.hid (DAt.below A7.out bW)
  have E8 := Lib.hid (DAt.below E7.out bW)
  have F8 := Lib.hid (DAt.below F7.out bW)
  have B8 := Lib.hid (bt B7.out bW)
  clear bW hiig
  clear X7 Y7 A7 E7 F7  B7
  obtain ⟨w8, hw2⟩ : ∃ x, x = W8 := ⟨_, rfl⟩; subst hw2
  have x0 := X8.out.c0
  have x1 := X8.out.c1
  have y0 := Y8.out.c0
  have y1 := Y8.out.c1
  go_wp2_with fail
  refine (dCmp_any c (n : Int) c' (n' : Int) _ _ HF.out.1 HF.out.2.1 h5.out).mono ?_
  rintro e w9 ⟨rfl, b2⟩
  have X9 := Lib.hid (DAt.below X8.out b2)
  have Y9 := Lib.hid (DAt.below Y8.out b2)
  have A9 := Lib.hid (DAt.below A8.out b2)
  have E9 := Lib.hid (DAt.below E8.out b2)
  have F9 := Lib.hid (DAt.below F8.out b2)
  have G9 := Lib.hid (DAt.below G8.out b2)
  have B9 := Lib.hid (bt B8.out b2)
  clear x0 x1 y0 y1
  clear b2
  clear X8 Y8 A8 E8 F8 G8  B8
  have x0 := X9.out.c0
  have x1 := X9.out.c1
  go_wp2_with fail
  refine (rIs_any c (n : Int) _).mono ?_
  rintro e w10 ⟨rfl, b2⟩
  have X10 := Lib.hid (DAt.below X9.out b2)
  have Y10 := Lib.hid (DAt.below Y9.out b2)
  have A10 := Lib.hid (DAt.below A9.out b2)
  have E10 := Lib.hid (DAt.below E9.out b2)
  have F10 := Lib.hid (DAt.below F9.out b2)
  have G10 := Lib.hid (DAt.below G9.out b2)
  have B10 := Lib.hid (bt B9.out b2)
  clear x0 x1
  clear b2
  clear X9 Y9 A9 E9 F9 G9  B9
  rw [HIS.out]
  have y0 := Y10.out.c0
  have y1 := Y10.out.c1
  go_wp2_with fail
  refine (rIs_any c' (n' : Int) _).mono ?_
  rintro e w11 ⟨rfl, b2⟩
  have X11 := Lib.hid (DAt.below X10.out b2)
  have Y11 := Lib.hid (DAt.below Y10.out b2)
  have A11 := Lib.hid (DAt.below A10.out b2)
  have E11 := Lib.hid (DAt.below E10.out b2)
  have F11 := Lib.hid (DAt.below F10.out b2)
  have G11 := Lib.hid (DAt.below G10.out b2)
  have B11 := Lib.hid (bt B10.out b2)
  clear y0 y1
  clear b2
  clear X10 Y10 A10 E10 F10 G10  B10
  rw [HIS'.out]
  have x0 := X11.out.c0
  have x1 := X11.out.c1
  have y0 := Y11.out.c0
  have y1 := Y11.out.c1
  go_wp2_with fail
  refine (rAdd_any c c' n n' _ _ HF.out.1 HF.out.2.1 HF.out.2.2.1 HF.out.2.2.2 H0.out).mono ?_
  rintro e w12 ⟨rfl, b2⟩
  have X12 := Lib.hid (DAt.below X11.out b2)
  have Y12 := Lib.hid (DAt.below Y11.out b2)
  have A12 := Lib.hid (DAt.below A11.out b2)
  have E12 := Lib.hid (DAt.below E11.out b2)
  have F12 := Lib.hid (DAt.below F11.out b2)
  have G12 := Lib.hid (DAt.below G11.out b2)
  have B12 := Lib.hid (bt B11.out b2)
  clear x0 x1 y0 y1
  clear b2
  clear X11 Y11 A11 E11 F11 G11  B11
  go_upto_region 10 with fail
  generalize hW : World.alloc w12 _ = W13
  obtain ⟨ip, hiip⟩ : ∃ x, Hid (w12.heap.size = x) := ⟨_, rfl⟩
  have P13 : Hid (DAt W13 ip ac as_) := by rw [← hW, ← hiip.out]; exact dAt_new _ _ _
  have bW : Below w12.heap.size w12 W13 := by rw [← hW]; exact ba _ _
  rw [hiip.out]; clear hW
  have X13 := Lib.hid (DAt.below X12.out bW)
  have Y13 := Lib.hid (DAt.below Y12.out bW)
  have A13 := Lib.hid (DAt.below A12.out bW)
  have E13 := Lib.hid (DAt.below E12.out bW)
  have F13 := Lib.hid (DAt.below F12.out bW)
  have G13 := Lib.hid (DAt.below G12.out bW)
  have B13 := Lib.hid (bt B12.out bW)
  clear bW hiip
  clear X12 Y12 A12 E12 F12 G12  B12
  obtain ⟨w13, hw2⟩ : ∃ x, x = W13 := ⟨_, rfl⟩; subst hw2
  have x0 := X13.out.c0
  have x1 := X13.out.c1
  have y0 := Y13.out.c0
  have y1 := Y13.out.c1
  go_wp2_with fail
  refine (rSub_any c c' n n' _ _ HF.out.1 HF.out.2.1 HF.out.2.2.1 HF.out.2.2.2 H1.out).mono ?_
  rintro e w14 ⟨rfl, b2⟩
  have X14 := Lib.hid (DAt.below X13.out b2)
  have Y14 := Lib.hid (DAt.below Y13.out b2)
  have A14 := Lib.hid (DAt.below A13.out b2)
  have E14 := Lib.hid (DAt.below E13.out b2)
  have F14 := Lib.hid (DAt.below F13.out b2)
  have G14 := Lib.hid (DAt.below G13.out b2)
  have P14 := Lib.hid (DAt.below P13.out b2)
  have B14 := Lib.hid (bt B13.out b2)
  clear x0 x1 y0 y1
  clear b2
  clear X13 Y13 A13 E13 F13 G13 P13  B13
  go_upto_region 11 with fail
  generalize hW : World.alloc w14 _ = W15
  obtain ⟨iq, hiiq⟩ : ∃ x, Hid (w14.heap.size = x) := ⟨_, rfl⟩
  have Q15 : Hid (DAt W15 iq bc bs) := by rw [← hW, ← hiiq.out]; exact dAt_new _ _ _
  have bW : Below w14.heap.size w14 W15 := by rw [← hW]; exact ba _ _
  rw [hiiq.out]; clear hW
  have X15 := Lib.hid (DAt.below X14.out bW)
  have Y15 := Lib.hid (DAt.below Y14.out bW)
  have A15 := Lib.hid (DAt.below A14.out bW)
  have E15 := Lib.hid (DAt.below E14.out bW)
  have F15 := Lib.hid (DAt.below F14.out bW)
  have G15 := Lib.hid (DAt.below G14.out bW)
  have P15 := Lib.hid (DAt.below P14.out bW)
  have B15 := Lib.hid (bt B14.out bW)
  clear bW hiiq
  clear X14 Y14 A14 E14 F14 G14 P14  B14
  obtain ⟨w15, hw2⟩ : ∃ x, x = W15 := ⟨_, rfl⟩; subst hw2
  have x0 := X15.out.c0
  have x1 := X15.out.c1
  have y0 := Y15.out.c0
  have y1 := Y15.out.c1
  go_wp2_with fail
  refine (rMul_any c c' n n' _ _ HF.out.1 HF.out.2.1 HF.out.2.2.1 HF.out.2.2.2 H2.out).mono ?_
  rintro e w16 ⟨rfl, b2⟩
  have X16 := Lib.hid (DAt.below X15.out b2)
  have Y16 := Lib.hid (DAt.below Y15.out b2)
  have A16 := Lib.hid (DAt.below A15.out b2)
  have E16 := Lib.hid (DAt.below E15.out b2)
  have F16 := Lib.hid (DAt.below F15.out b2)
  have G16 := Lib.hid (DAt.below G15.out b2)
  have P16 := Lib.hid (DAt.below P15.out b2)
  have Q16 := Lib.hid (DAt.below Q15.out b2)
  have B16 := Lib.hid (bt B15.out b2)
  clear x0 x1 y0 y1
  clear b2
  clear X15 Y15 A15 E15 F15 G15 P15 Q15  B15
  go_upto_region 12 with fail
  generalize hW : World.alloc w16 _ = W17
  obtain ⟨is, hiis⟩ : ∃ x, Hid (w16.heap.size = x) := ⟨_, rfl⟩
  have S17 : Hid (DAt W17 is dc ds) := by rw [← hW, ← hiis.out]; exact dAt_new _ _ _
  have bW : Below w16.heap.size w16 W17 := by rw [← hW]; exact ba _ _
  rw [hiis.out]; clear hW
  have X17 := Lib.hid (DAt.below X16.out bW)
  have Y17 := Lib.hid (DAt.below Y16.out bW)
  have A17 := Lib.hid (DAt.below A16.out bW)
  have E17 := Lib.hid (DAt.below E16.out bW)
  have F17 := Lib.hid (DAt.below F16.out bW)
  have G17 := Lib.hid (DAt.below G16.out bW)
  have P17 := Lib.hid (DAt.below P16.out bW)
  have Q17 := Lib.hid (DAt.below Q16.out bW)
  have B17 := Lib.hid (bt B16.out bW)
  clear bW hiis
  clear X16 Y16 A16 E16 F16 G16 P16 Q16  B16
  obtain ⟨w17, hw2⟩ : ∃ x, x = W17 := ⟨_, rfl⟩; subst hw2
  have a0 := A17.out.c0
  have a1 := A17.out.c1
  have e0 := E17.out.c0
  have e1 := E17.out.c1
  have f0 := F17.out.c0
  have f1 := F17.out.c1
  have p0 := P17.out.c0
  have p1 := P17.out.c1
  have q0 := Q17.out.c0
  have q1 := Q17.out.c1
  have s0 := S17.out.c0
  have s1 := S17.out.c1
  have x0 := X17.out.c0
  have x1 := X17.out.c1
  have y0 := Y17.out.c0
  have y1 := Y17.out.c1
  go_wp2_with fail
  refine (rCmp_any c c' n n' z _ HF.out.1 HF.out.2.1 HF.out.2.2.1 HF.out.2.2.2 hcz.out).mono ?_
  rintro e w18 ⟨rfl, b2⟩
  have X18 := Lib.hid (DAt.below X17.out b2)
  have Y18 := Lib.hid (DAt.below Y17.out b2)
  have A18 := Lib.hid (DAt.below A17.out b2)
  have E18 := Lib.hid (DAt.below E17.out b2)
  have F18 := Lib.hid (DAt.below F17.out b2)
  have G18 := Lib.hid (DAt.below G17.out b2)
  have P18 := Lib.hid (DAt.below P17.out b2)
  have Q18 := Lib.hid (DAt.below Q17.out b2)
  have S18 := Lib.hid (DAt.below S17.out b2)
  have B18 := Lib.hid (bt B17.out b2)
  clear a0 a1 e0 e1 f0 f1 p0 p1 q0 q1 s0 s1 x0 x1 y0 y1
  clear b2
  clear X17 Y17 A17 E17 F17 G17 P17 Q17 S17  B17
  have x0 := X18.out.c0
  have x1 := X18.out.c1
  have y0 := Y18.out.c0
  have y1 := Y18.out.c1
  go_wp2_with fail
  refine (rDiv_any c c' n n' _ _ HF.out.1 HF.out.2.1 HF.out.2.2.1 HF.out.2.2.2 HZ.out H3.out).mono ?_
  rintro e w19 ⟨rfl, b2⟩
  have X19 := Lib.hid (DAt.below X18.out b2)
  have Y19 := Lib.hid (DAt.below Y18.out b2)
  have A19 := Lib.hid (DAt.below A18.out b2)
  have E19 := Lib.hid (DAt.below E18.out b2)
  have F19 := Lib.hid (DAt.below F18.out b2)
  have G19 := Lib.hid (DAt.below G18.out b2)
  have P19 := Lib.hid (DAt.below P18.out b2)
  have Q19 := Lib.hid (DAt.below Q18.out b2)
  have S19 := Lib.hid (DAt.below S18.out b2)
  have B19 := Lib.hid (bt B18.out b2)
  clear x0 x1 y0 y1
  clear b2
  clear X18 Y18 A18 E18 F18 G18 P18 Q18 S18  B18
  go_upto_region 17 with fail
  generalize hW : World.alloc w19 _ = W20
  obtain ⟨iz, hiiz⟩ : ∃ x, Hid (w19.heap.size = x) := ⟨_, rfl⟩
  have Z20 : Hid (DAt W20 iz gc gs) := by rw [← hW, ← hiiz.out]; exact dAt_new _ _ _
  have bW : Below w19.heap.size w19 W20 := by rw [← hW]; exact ba _ _
  rw [hiiz.out]; clear hW
  have X20 := Lib.hid (DAt.below X19.out bW)
  have Y20 := Lib.hid (DAt.below Y19.out bW)
  have A20 := Lib.hid (DAt.below A19.out bW)
  have E20 := Lib.hid (DAt.below E19.out bW)
  have F20 := Lib.hid (DAt.below F19.out bW)
  have G20 := Lib.hid (DAt.below G19.out bW)
  have P20 := Lib.hid (DAt.below P19.out bW)
  have Q20 := Lib.hid (DAt.below Q19.out bW)
  have S20 := Lib.hid (DAt.below S19.out bW)
  have B20 := Lib.hid (bt B19.out bW)
  clear bW hiiz
  clear X19 Y19 A19 E19 F19 G19 P19 Q19 S19  B19
  have g0 := G20.out.c0
  have g1 := G20.out.c1
  have z0 := Z20.out.c0
  have z1 := Z20.out.c1
  go_wp2_with fail
  refine (dknown_any _).mono ?_
  rintro e w30 ⟨rfl, b2⟩
  have B30 := bt B20.out b2; clear b2
  go_wp2_with fail
  go_ret
  exact ⟨rfl, B30⟩

theorem decimalDoes_law (c s c' s' : Int) (hc : fits c) (_ : fits s) (hc' : fits c') (_ : fits s') (w : World) :
    Calls Try.prog 7 #[.agg #[.int .i64 c, .int .i64 s], .agg #[.int .i64 c', .int .i64 s']] w fun e w' => e = .returned (.bool true) ∧ Below w.heap.size w w' := by
  cases hs : isB s with
  | false => exact decDoes_bad1 c s c' s' w hc hc' hs
  | true =>
    cases hs' : isB s' with
    | false => exact decDoes_bad2 c s c' s' w hc hc' hs hs'
    | true =>
      obtain ⟨n, rfl, hn⟩ := isB_nat hs
      obtain ⟨n', rfl, hn'⟩ := isB_nat hs'
      by_cases hz : c' = 0
      · exact decDoes_zero c c' n n' w hc hc' hn hn' hz
      · exact decDoes_good c c' n n' w hc hc' hn hn' hz
end Go.Proofs.Ytlbmmnjecemkeaa
