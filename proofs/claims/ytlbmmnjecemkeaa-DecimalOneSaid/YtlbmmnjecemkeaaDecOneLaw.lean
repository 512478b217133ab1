/-
  THE WALK of corrodylaw02's DecimalOne.
-/
import Derived.Test.YtlbmmnjecemkeaaDecKnown
import Derived.Test.YtlbmmnjecemkeaaDecRefs
namespace Go.Proofs.Ytlbmmnjecemkeaa
open Go.RowKit
set_option linter.unusedSimpArgs false
set_option linter.unusedVariables false
attribute [local go_sem ↓] Go.wp_at_zero Go.wp_at_succ

theorem dMay_c (c s : Int) (b : Bool) (w : World) (hc : fits c) (hb : mayB c s = b) : Calls Try.prog 38 #[.agg #[.int .i64 c, .int .i64 s]] w fun e w' => e = .returned (.bool b) ∧ Below w.heap.size w w' := by rw [← hb]; exact dMay_any c s w hc
theorem rMay_c (c s : Int) (b : Bool) (w : World) (hc : fits c) (hb : mayB c s = b) : Calls Try.prog 39 #[.agg #[.int .i64 c, .int .i64 s]] w fun e w' => e = .returned (.bool b) ∧ Below w.heap.size w w' := by rw [← hb]; exact rMay_any c s w hc
theorem rSub0_any (c : Int) (n : Nat) (V : Value) (w : World) (hc : fits c) (hn : n ≤ 9) (hV : decV (un 0 0 - un c n) 9 = V) :
    Calls Try.prog 44 #[.agg #[.int .i64 0, .int .i64 0], .agg #[.int .i64 c, .int .i64 (n : Int)]] w fun e w' => e = .returned V ∧ Below w.heap.size w w' := rSub_any 0 c 0 n V w fits0 hc (by omega) hn hV

set_option maxRecDepth 100000 in
set_option maxHeartbeats 8000000 in
theorem decOne_bad (c s t m : Int) (w : World) (hc : fits c) (hs : isB s = false) :
    Calls Try.prog 6 #[.agg #[.int .i64 c, .int .i64 s], .int .i64 t, .int .i64 m] w fun e w' => e = .returned (.bool true) ∧ Below w.heap.size w w' := by
  have HIS := Lib.hid hs
  obtain ⟨mb, HMB⟩ : ∃ b, Hid (mayB c s = b) := ⟨_, rfl⟩
  have hp : Hid (putV c s = noneV 2) := by show _ = _; unfold putV; rw [hs, if_neg (by simp)]
  have hn : Hid (negV c s = noneV 2) := by show _ = _; unfold negV ansV; rw [hs, if_neg (by simp)]
  have ha : Hid (absV c s = noneV 2) := by show _ = _; unfold absV; split; exact hn.out; exact hp.out
  have hr : Hid (roundV c s t = noneV 2) := by show _ = _; unfold roundV; rw [hs, if_neg (by simp)]
  have HF : Hid (fits c ∧ True) := ⟨hc, trivial⟩; clear hc hs
  unfold noneV at hp hn ha hr
  go_enter Try.func6, Try.ntmps6
  go_upto_region 1 with fail
  have X0 := Lib.hid (dAt_new w c s); have B0 := Lib.hid (ba w (.cells #[.int .i64 c, .int .i64 s] 59))
  generalize World.alloc w _ = w0 at X0 B0 ⊢
  have x0 := X0.out.c0
  have x1 := X0.out.c1
  go_wp2_with fail
  refine (dPut_any c s _ _ HF.out.1 hp.out).mono ?_
  rintro e w1 ⟨rfl, b2⟩
  have X1 := Lib.hid (DAt.below X0.out b2)
  have B1 := Lib.hid (bt B0.out b2)
  clear x0 x1
  clear b2
  clear X0  B0
  go_upto_region 2 with fail
  generalize hW : World.alloc w1 _ = W2
  obtain ⟨ia, hiia⟩ : ∃ x, Hid (w1.heap.size = x) := ⟨_, rfl⟩
  have A2 : Hid (DAt W2 ia 0 0) := by rw [← hW, ← hiia.out]; exact dAt_new _ _ _
  have bW : Below w1.heap.size w1 W2 := by rw [← hW]; exact ba _ _
  rw [hiia.out]; clear hW
  have X2 := Lib.hid (DAt.below X1.out bW)
  have B2 := Lib.hid (bt B1.out bW)
  clear bW hiia
  clear X1  B1
  obtain ⟨w2, hw2⟩ : ∃ x, x = W2 := ⟨_, rfl⟩; subst hw2
  have x0 := X2.out.c0
  have x1 := X2.out.c1
  go_wp2_with fail
  refine (dNeg_any c s _ _ HF.out.1 hn.out).mono ?_
  rintro e w3 ⟨rfl, b2⟩
  have X3 := Lib.hid (DAt.below X2.out b2)
  have A3 := Lib.hid (DAt.below A2.out b2)
  have B3 := Lib.hid (bt B2.out b2)
  clear x0 x1
  clear b2
  clear X2 A2  B2
  go_upto_region 3 with fail
  generalize hW : World.alloc w3 _ = W4
  obtain ⟨ie, hiie⟩ : ∃ x, Hid (w3.heap.size = x) := ⟨_, rfl⟩
  have E4 : Hid (DAt W4 ie 0 0) := by rw [← hW, ← hiie.out]; exact dAt_new _ _ _
  have bW : Below w3.heap.size w3 W4 := by rw [← hW]; exact ba _ _
  rw [hiie.out]; clear hW
  have X4 := Lib.hid (DAt.below X3.out bW)
  have A4 := Lib.hid (DAt.below A3.out bW)
  have B4 := Lib.hid (bt B3.out bW)
  clear bW hiie
  clear X3 A3  B3
  obtain ⟨w4, hw2⟩ : ∃ x, x = W4 := ⟨_, rfl⟩; subst hw2
  have x0 := X4.out.c0
  have x1 := X4.out.c1
  go_wp2_with fail
  refine (dAbs_any c s _ _ HF.out.1 ha.out).mono ?_
  rintro e w5 ⟨rfl, b2⟩
  have X5 := Lib.hid (DAt.below X4.out b2)
  have A5 := Lib.hid (DAt.below A4.out b2)
  have E5 := Lib.hid (DAt.below E4.out b2)
  have B5 := Lib.hid (bt B4.out b2)
  clear x0 x1
  clear b2
  clear X4 A4 E4  B4
  go_upto_region 4 with fail
  generalize hW : World.alloc w5 _ = W6
  obtain ⟨jf, hijf⟩ : ∃ x, Hid (w5.heap.size = x) := ⟨_, rfl⟩
  have F6 : Hid (DAt W6 jf 0 0) := by rw [← hW, ← hijf.out]; exact dAt_new _ _ _
  have bW : Below w5.heap.size w5 W6 := by rw [← hW]; exact ba _ _
  rw [hijf.out]; clear hW
  have X6 := Lib.hid (DAt.below X5.out bW)
  have A6 := Lib.hid (DAt.below A5.out bW)
  have E6 := Lib.hid (DAt.below E5.out bW)
  have B6 := Lib.hid (bt B5.out bW)
  clear bW hijf
  clear X5 A5 E5  B5
  obtain ⟨w6, hw2⟩ : ∃ x, x = W6 := ⟨_, rfl⟩; subst hw2
  have x0 := X6.out.c0
  have x1 := X6.out.c1
  go_wp2_with fail
  refine (dRound_any c s t _ _ HF.out.1 hr.out).mono ?_
  rintro e w7 ⟨rfl, b2⟩
  have X7 := Lib.hid (DAt.below X6.out b2)
  have A7 := Lib.hid (DAt.below A6.out b2)
  have E7 := Lib.hid (DAt.below E6.out b2)
  have F7 := Lib.hid (DAt.below F6.out b2)
  have B7 := Lib.hid (bt B6.out b2)
  clear x0 x1
  clear b2
  clear X6 A6 E6 F6  B6
  go_upto_region 5 with fail
  generalize hW : World.alloc w7 _ = W8
  obtain ⟨ig, hiig⟩ : ∃ x, Hid (w7.heap.size = x) := ⟨_, rfl⟩
  have G8 : Hid (DAt W8 ig 0 0) := by rw [← hW, ← hiig.out]; exact dAt_new _ _ _
  have bW : Below w7.heap.size w7 W8 := by rw [← hW]; exact ba _ _
  rw [hiig.out]; clear hW
  have X8 := Lib.hid (DAt.below X7.out bW)
  have A8 := Lib.hid (DAt.below A7.out bW)
  have E8 := Lib.hid (DAt.below E7.out bW)
  have F8 := Lib.hid (DAt.below F7.out bW)
  have B8 := Lib.hid (bt B7.out bW)
  clear bW hiig
  clear X7 A7 E7 F7  B7
  obtain ⟨w8, hw2⟩ : ∃ x, x = W8 := ⟨_, rfl⟩; subst hw2
  have HS0 : (fun w' : World => w'.cell? ⟨w.heap.size, 0, none⟩ = some (.int .i64 c) ∧ w'.cell? ⟨w.heap.size, 1, none⟩ = some (.int .i64 s)) w8.drew := ⟨(DAt.below X8.out ((Below.refl _ _).drew)).c0, (DAt.below X8.out ((Below.refl _ _).drew)).c1⟩
  go_region_held3 (fun w' => w'.cell? ⟨w.heap.size, 0, none⟩ = some (.int .i64 c) ∧ w'.cell? ⟨w.heap.size, 1, none⟩ = some (.int .i64 s))
    (first | with_reducible exact HS0 | with_reducible assumption)
    (first
      | (go_at_call 38; (with_reducible refine (dMay_c c _ mb _ HF.out.1 HMB.out).mono ?_); rintro e w20 ⟨rfl, b20⟩; have T20 : Hid (Below w8.heap.size w8 w20) := bt ((Below.refl _ _).drew) b20; have HS20 : w20.cell? ⟨w.heap.size, 0, none⟩ = some (.int .i64 c) ∧ w20.cell? ⟨w.heap.size, 1, none⟩ = some (.int .i64 s) := ⟨(DAt.below X8.out T20.out).c0, (DAt.below X8.out T20.out).c1⟩; clear b20)
      | (go_at_call 39; (with_reducible refine (rMay_c c _ mb _ HF.out.1 HMB.out).mono ?_); rintro e w21 ⟨rfl, b21⟩; have T21 : Hid (Below w8.heap.size w8 w21) := bt T20.out b21; have HS21 : w21.cell? ⟨w.heap.size, 0, none⟩ = some (.int .i64 c) ∧ w21.cell? ⟨w.heap.size, 1, none⟩ = some (.int .i64 s) := ⟨(DAt.below X8.out T21.out).c0, (DAt.below X8.out T21.out).c1⟩; clear b21)
      | (go_at_call 40; (with_reducible refine (dOf_any m _).mono ?_); rintro e w22 ⟨rfl, b22⟩; have T22 : Hid (Below w8.heap.size w8 w22) := bt T21.out b22; have HS22 : w22.cell? ⟨w.heap.size, 0, none⟩ = some (.int .i64 c) ∧ w22.cell? ⟨w.heap.size, 1, none⟩ = some (.int .i64 s) := ⟨(DAt.below X8.out T22.out).c0, (DAt.below X8.out T22.out).c1⟩; clear b22))
  all_goals
    have X9 := Lib.hid (DAt.below X8.out T22.out)
    have A9 := Lib.hid (DAt.below A8.out T22.out)
    have E9 := Lib.hid (DAt.below E8.out T22.out)
    have F9 := Lib.hid (DAt.below F8.out T22.out)
    have G9 := Lib.hid (DAt.below G8.out T22.out)
    have B9 := Lib.hid (bt B8.out T22.out)
    clear HS0 HS20 T20 HS21 T21 HS22
    clear X8 A8 E8 F8 G8  B8
    clear T22
    go_upto_region 7 with fail
    obtain ⟨w9, hw2⟩ : ∃ x, x = w22 := ⟨_, rfl⟩; subst hw2
    have x0 := X9.out.c0
    have x1 := X9.out.c1
    go_wp2_with fail
    refine (rIs_any c s _).mono ?_
    rintro e w10 ⟨rfl, b2⟩
    have X10 := Lib.hid (DAt.below X9.out b2)
    have A10 := Lib.hid (DAt.below A9.out b2)
    have E10 := Lib.hid (DAt.below E9.out b2)
    have F10 := Lib.hid (DAt.below F9.out b2)
    have G10 := Lib.hid (DAt.below G9.out b2)
    have B10 := Lib.hid (bt B9.out b2)
    clear x0 x1
    clear b2
    clear X9 A9 E9 F9 G9  B9
    rw [HIS.out]
    go_upto_region 9 with fail
    generalize hW : World.alloc w10 _ = W11
    obtain ⟨jn, hijn⟩ : ∃ x, Hid (w10.heap.size = x) := ⟨_, rfl⟩
    have N11 : Hid (DAt W11 jn 0 0) := by rw [← hW, ← hijn.out]; exact dAt_new _ _ _
    have bW : Below w10.heap.size w10 W11 := by rw [← hW]; exact ba _ _
    rw [hijn.out]; clear hW
    have X11 := Lib.hid (DAt.below X10.out bW)
    have A11 := Lib.hid (DAt.below A10.out bW)
    have E11 := Lib.hid (DAt.below E10.out bW)
    have F11 := Lib.hid (DAt.below F10.out bW)
    have G11 := Lib.hid (DAt.below G10.out bW)
    have B11 := Lib.hid (bt B10.out bW)
    clear bW hijn
    clear X10 A10 E10 F10 G10  B10
    have a0 := A11.out.c0
    have a1 := A11.out.c1
    have e0 := E11.out.c0
    have e1 := E11.out.c1
    have f0 := F11.out.c0
    have f1 := F11.out.c1
    have g0 := G11.out.c0
    have g1 := G11.out.c1
    have n0 := N11.out.c0
    have n1 := N11.out.c1
    go_wp2_with fail
    refine (dknown_any _).mono ?_
    rintro e w12 ⟨rfl, b2⟩
    have B12 := bt B11.out b2; clear b2
    go_wp2_with fail
    go_ret
    exact ⟨rfl, B12⟩

set_option maxRecDepth 100000 in
set_option maxHeartbeats 8000000 in
theorem decOne_neg_ok (c : Int) (n : Nat) (k : Nat) (m : Int) (w : World) (hc : fits c) (hn : n ≤ 9) (hneg : c < 0) (hk : k ≤ 9) :
    Calls Try.prog 6 #[.agg #[.int .i64 c, .int .i64 (n : Int)], .int .i64 (k : Int), .int .i64 m] w fun e w' => e = .returned (.bool true) ∧ Below w.heap.size w w' := by
  have hs : isB (n : Int) = true := by unfold isB; simp; omega
  have HIS := Lib.hid hs
  obtain ⟨mb, HMB⟩ : ∃ b, Hid (mayB c (n : Int) = b) := ⟨_, rfl⟩
  obtain ⟨pc, ps, pe, hdp⟩ := decV_form c n
  obtain ⟨qc, qs, qe, hdq⟩ := decV_form (un 0 0 - un c n) 9
  have hp : Hid (putV c (n : Int) = .tuple #[.agg #[.int .i64 pc, .int .i64 ps], .int .i64 pe]) := by show _ = _; unfold putV; rw [hs, if_pos rfl, show ((n : Nat) : Int).toNat = n from rfl, decV_un c n hn, hdp]
  have hng : Hid (negV c (n : Int) = .tuple #[.agg #[.int .i64 qc, .int .i64 qs], .int .i64 qe]) := by show _ = _; unfold negV ansV; rw [hs, if_pos (by rfl), show ((n : Nat) : Int).toNat = n from rfl, hdq]
  have ha : Hid (absV c (n : Int) = .tuple #[.agg #[.int .i64 qc, .int .i64 qs], .int .i64 qe]) := by show _ = _; unfold absV; rw [if_pos hneg]; exact hng.out
  have dn : decide (c < 0) = true := by simpa using hneg
  have ht : isB (k : Int) = true := by unfold isB; simp; omega
  obtain ⟨rc, rs, re, hdr⟩ := decV_form (evenZ (un c n) (10 ^ (9 - k))) k
  have hr : Hid (roundV c (n : Int) (k : Int) = .tuple #[.agg #[.int .i64 rc, .int .i64 rs], .int .i64 re]) := by show _ = _; unfold roundV; rw [hs, ht, if_pos (by rfl), show ((n : Nat) : Int).toNat = n from rfl, show ((k : Nat) : Int).toNat = k from rfl, hdr]
  have HDR := Lib.hid hdr; have k1 : ¬ ((k : Int) < 0) := by omega
  have k2 : ¬ (9 < k) := by omega
  have HDP := Lib.hid hdp; have HDQ := Lib.hid hdq
  have HF : Hid (fits c ∧ n ≤ 9 ∧ k ≤ 9) := ⟨hc, hn, hk⟩; clear hc hs hn hdp hdq hdr ht hk
  go_enter Try.func6, Try.ntmps6
  go_upto_region 1 with fail
  have X0 := Lib.hid (dAt_new w c (n : Int)); have B0 := Lib.hid (ba w (.cells #[.int .i64 c, .int .i64 (n : Int)] 59))
  generalize World.alloc w _ = w0 at X0 B0 ⊢
  have x0 := X0.out.c0
  have x1 := X0.out.c1
  go_wp2_with fail
  refine (dPut_any c (n : Int) _ _ HF.out.1 hp.out).mono ?_
  rintro e w1 ⟨rfl, b2⟩
  have X1 := Lib.hid (DAt.below X0.out b2)
  have B1 := Lib.hid (bt B0.out b2)
  clear x0 x1
  clear b2
  clear X0  B0
  go_upto_region 2 with fail
  generalize hW : World.alloc w1 _ = W2
  obtain ⟨ia, hiia⟩ : ∃ x, Hid (w1.heap.size = x) := ⟨_, rfl⟩
  have A2 : Hid (DAt W2 ia pc ps) := by rw [← hW, ← hiia.out]; exact dAt_new _ _ _
  have bW : Below w1.heap.size w1 W2 := by rw [← hW]; exact ba _ _
  rw [hiia.out]; clear hW
  have X2 := Lib.hid (DAt.below X1.out bW)
  have B2 := Lib.hid (bt B1.out bW)
  clear bW hiia
  clear X1  B1
  obtain ⟨w2, hw2⟩ : ∃ x, x = W2 := ⟨_, rfl⟩; subst hw2
  have x0 := X2.out.c0
  have x1 := X2.out.c1
  go_wp2_with fail
  refine (dNeg_any c (n : Int) _ _ HF.out.1 hng.out).mono ?_
  rintro e w3 ⟨rfl, b2⟩
  have X3 := Lib.hid (DAt.below X2.out b2)
  have A3 := Lib.hid (DAt.below A2.out b2)
  have B3 := Lib.hid (bt B2.out b2)
  clear x0 x1
  clear b2
  clear X2 A2  B2
  go_upto_region 3 with fail
  generalize hW : World.alloc w3 _ = W4
  obtain ⟨ie, hiie⟩ : ∃ x, Hid (w3.heap.size = x) := ⟨_, rfl⟩
  have E4 : Hid (DAt W4 ie qc qs) := by rw [← hW, ← hiie.out]; exact dAt_new _ _ _
  have bW : Below w3.heap.size w3 W4 := by rw [← hW]; exact ba _ _
  rw [hiie.out]; clear hW
  have X4 := Lib.hid (DAt.below X3.out bW)
  have A4 := Lib.hid (DAt.below A3.out bW)
  have B4 := Lib.hid (bt B3.out bW)
  clear bW hiie
  clear X3 A3  B3
  obtain ⟨w4, hw2⟩ : ∃ x, x = W4 := ⟨_, rfl⟩; subst hw2
  have x0 := X4.out.c0
  have x1 := X4.out.c1
  go_wp2_with fail
  refine (dAbs_any c (n : Int) _ _ HF.out.1 ha.out).mono ?_
  rintro e w5 ⟨rfl, b2⟩
  have X5 := Lib.hid (DAt.below X4.out b2)
  have A5 := Lib.hid (DAt.below A4.out b2)
  have E5 := Lib.hid (DAt.below E4.out b2)
  have B5 := Lib.hid (bt B4.out b2)
  clear x0 x1
  clear b2
  clear X4 A4 E4  B4
  go_upto_region 4 with fail
  generalize hW : World.alloc w5 _ = W6
  obtain ⟨jf, hijf⟩ : ∃ x, Hid (w5.heap.size = x) := ⟨_, rfl⟩
  have F6 : Hid (DAt W6 jf qc qs) := by rw [← hW, ← hijf.out]; exact dAt_new _ _ _
  have bW : Below w5.heap.size w5 W6 := by rw [← hW]; exact ba _ _
  rw [hijf.out]; clear hW
  have X6 := Lib.hid (DAt.below X5.out bW)
  have A6 := Lib.hid (DAt.below A5.out bW)
  have E6 := Lib.hid (DAt.below E5.out bW)
  have B6 := Lib.hid (bt B5.out bW)
  clear bW hijf
  clear X5 A5 E5  B5
  obtain ⟨w6, hw2⟩ : ∃ x, x = W6 := ⟨_, rfl⟩; subst hw2
  have x0 := X6.out.c0
  have x1 := X6.out.c1
  go_wp2_with fail
  refine (dRound_any c (n : Int) (k : Int) _ _ HF.out.1 hr.out).mono ?_
  rintro e w7 ⟨rfl, b2⟩
  have X7 := Lib.hid (DAt.below X6.out b2)
  have A7 := Lib.hid (DAt.below A6.out b2)
  have E7 := Lib.hid (DAt.below E6.out b2)
  have F7 := Lib.hid (DAt.below F6.out b2)
  have B7 := Lib.hid (bt B6.out b2)
  clear x0 x1
  clear b2
  clear X6 A6 E6 F6  B6
  go_upto_region 5 with fail
  generalize hW : World.alloc w7 _ = W8
  obtain ⟨ig, hiig⟩ : ∃ x, Hid (w7.heap.size = x) := ⟨_, rfl⟩
  have G8 : Hid (DAt W8 ig rc rs) := by rw [← hW, ← hiig.out]; exact dAt_new _ _ _
  have bW : Below w7.heap.size w7 W8 := by rw [← hW]; exact ba _ _
  rw [hiig.out]; clear hW
  have X8 := Lib.hid (DAt.below X7.out bW)
  have A8 := Lib.hid (DAt.below A7.out bW)
  have E8 := Lib.hid (DAt.below E7.out bW)
  have F8 := Lib.hid (DAt.below F7.out bW)
  have B8 := Lib.hid (bt B7.out bW)
  clear bW hiig
  clear X7 A7 E7 F7  B7
  obtain ⟨w8, hw2⟩ : ∃ x, x = W8 := ⟨_, rfl⟩; subst hw2
  have HS0 : (fun w' : World => w'.cell? ⟨w.heap.size, 0, none⟩ = some (.int .i64 c) ∧ w'.cell? ⟨w.heap.size, 1, none⟩ = some (.int .i64 (n : Int))) w8.drew := ⟨(DAt.below X8.out ((Below.refl _ _).drew)).c0, (DAt.below X8.out ((Below.refl _ _).drew)).c1⟩
  go_region_held3 (fun w' => w'.cell? ⟨w.heap.size, 0, none⟩ = some (.int .i64 c) ∧ w'.cell? ⟨w.heap.size, 1, none⟩ = some (.int .i64 (n : Int)))
    (first | with_reducible exact HS0 | with_reducible assumption)
    (first
      | (go_at_call 38; (with_reducible refine (dMay_c c _ mb _ HF.out.1 HMB.out).mono ?_); rintro e w20 ⟨rfl, b20⟩; have T20 : Hid (Below w8.heap.size w8 w20) := bt ((Below.refl _ _).drew) b20; have HS20 : w20.cell? ⟨w.heap.size, 0, none⟩ = some (.int .i64 c) ∧ w20.cell? ⟨w.heap.size, 1, none⟩ = some (.int .i64 (n : Int)) := ⟨(DAt.below X8.out T20.out).c0, (DAt.below X8.out T20.out).c1⟩; clear b20)
      | (go_at_call 39; (with_reducible refine (rMay_c c _ mb _ HF.out.1 HMB.out).mono ?_); rintro e w21 ⟨rfl, b21⟩; have T21 : Hid (Below w8.heap.size w8 w21) := bt T20.out b21; have HS21 : w21.cell? ⟨w.heap.size, 0, none⟩ = some (.int .i64 c) ∧ w21.cell? ⟨w.heap.size, 1, none⟩ = some (.int .i64 (n : Int)) := ⟨(DAt.below X8.out T21.out).c0, (DAt.below X8.out T21.out).c1⟩; clear b21)
      | (go_at_call 40; (with_reducible refine (dOf_any m _).mono ?_); rintro e w22 ⟨rfl, b22⟩; have T22 : Hid (Below w8.heap.size w8 w22) := bt T21.out b22; have HS22 : w22.cell? ⟨w.heap.size, 0, none⟩ = some (.int .i64 c) ∧ w22.cell? ⟨w.heap.size, 1, none⟩ = some (.int .i64 (n : Int)) := ⟨(DAt.below X8.out T22.out).c0, (DAt.below X8.out T22.out).c1⟩; clear b22))
  all_goals
    have X9 := Lib.hid (DAt.below X8.out T22.out)
    have A9 := Lib.hid (DAt.below A8.out T22.out)
    have E9 := Lib.hid (DAt.below E8.out T22.out)
    have F9 := Lib.hid (DAt.below F8.out T22.out)
    have G9 := Lib.hid (DAt.below G8.out T22.out)
    have B9 := Lib.hid (bt B8.out T22.out)
    clear HS0 HS20 T20 HS21 T21 HS22
    clear X8 A8 E8 F8 G8  B8
    clear T22
    go_upto_region 7 with fail
    obtain ⟨w9, hw2⟩ : ∃ x, x = w22 := ⟨_, rfl⟩; subst hw2
    have x0 := X9.out.c0
    have x1 := X9.out.c1
    go_wp2_with fail
    refine (rIs_any c (n : Int) _).mono ?_
    rintro e w10 ⟨rfl, b2⟩
    have X10 := Lib.hid (DAt.below X9.out b2)
    have A10 := Lib.hid (DAt.below A9.out b2)
    have E10 := Lib.hid (DAt.below E9.out b2)
    have F10 := Lib.hid (DAt.below F9.out b2)
    have G10 := Lib.hid (DAt.below G9.out b2)
    have B10 := Lib.hid (bt B9.out b2)
    clear x0 x1
    clear b2
    clear X9 A9 E9 F9 G9  B9
    rw [HIS.out]
    have x0 := X10.out.c0
    have x1 := X10.out.c1
    go_wp2_with fail
    refine (rPut_any c n _ _ HF.out.1 HF.out.2.1 HDP.out).mono ?_
    rintro e w11 ⟨rfl, b2⟩
    have X11 := Lib.hid (DAt.below X10.out b2)
    have A11 := Lib.hid (DAt.below A10.out b2)
    have E11 := Lib.hid (DAt.below E10.out b2)
    have F11 := Lib.hid (DAt.below F10.out b2)
    have G11 := Lib.hid (DAt.below G10.out b2)
    have B11 := Lib.hid (bt B10.out b2)
    clear x0 x1
    clear b2
    clear X10 A10 E10 F10 G10  B10
    go_upto_region 11 with fail
    generalize hW : World.alloc w11 _ = W12
    obtain ⟨ip, hiip⟩ : ∃ x, Hid (w11.heap.size = x) := ⟨_, rfl⟩
    have P12 : Hid (DAt W12 ip pc ps) := by rw [← hW, ← hiip.out]; exact dAt_new _ _ _
    have bW : Below w11.heap.size w11 W12 := by rw [← hW]; exact ba _ _
    rw [hiip.out]; clear hW
    have X12 := Lib.hid (DAt.below X11.out bW)
    have A12 := Lib.hid (DAt.below A11.out bW)
    have E12 := Lib.hid (DAt.below E11.out bW)
    have F12 := Lib.hid (DAt.below F11.out bW)
    have G12 := Lib.hid (DAt.below G11.out bW)
    have B12 := Lib.hid (bt B11.out bW)
    clear bW hiip
    clear X11 A11 E11 F11 G11  B11
    obtain ⟨w12, hw2⟩ : ∃ x, x = W12 := ⟨_, rfl⟩; subst hw2
    have x0 := X12.out.c0
    have x1 := X12.out.c1
    go_wp2_with fail
    refine (rSub0_any c n _ _ HF.out.1 HF.out.2.1 HDQ.out).mono ?_
    rintro e w13 ⟨rfl, b2⟩
    have X13 := Lib.hid (DAt.below X12.out b2)
    have A13 := Lib.hid (DAt.below A12.out b2)
    have E13 := Lib.hid (DAt.below E12.out b2)
    have F13 := Lib.hid (DAt.below F12.out b2)
    have G13 := Lib.hid (DAt.below G12.out b2)
    have P13 := Lib.hid (DAt.below P12.out b2)
    have B13 := Lib.hid (bt B12.out b2)
    clear x0 x1
    clear b2
    clear X12 A12 E12 F12 G12 P12  B12
    go_upto_region 12 with fail
    generalize hW : World.alloc w13 _ = W14
    obtain ⟨iq, hiiq⟩ : ∃ x, Hid (w13.heap.size = x) := ⟨_, rfl⟩
    have Q14 : Hid (DAt W14 iq qc qs) := by rw [← hW, ← hiiq.out]; exact dAt_new _ _ _
    have bW : Below w13.heap.size w13 W14 := by rw [← hW]; exact ba _ _
    rw [hiiq.out]; clear hW
    have X14 := Lib.hid (DAt.below X13.out bW)
    have A14 := Lib.hid (DAt.below A13.out bW)
    have E14 := Lib.hid (DAt.below E13.out bW)
    have F14 := Lib.hid (DAt.below F13.out bW)
    have G14 := Lib.hid (DAt.below G13.out bW)
    have P14 := Lib.hid (DAt.below P13.out bW)
    have B14 := Lib.hid (bt B13.out bW)
    clear bW hiiq
    clear X13 A13 E13 F13 G13 P13  B13
    obtain ⟨w14, hw2⟩ : ∃ x, x = W14 := ⟨_, rfl⟩; subst hw2
    have p0 := P14.out.c0
    have p1 := P14.out.c1
    go_upto_region 13 with fail
    generalize hW : World.alloc w14 _ = W15
    obtain ⟨ir, hiir⟩ : ∃ x, Hid (w14.heap.size = x) := ⟨_, rfl⟩
    have LX : Hid (w.heap.size < ir) := by have h := X14.out.lt; have l4 := hiir.out; show _ < _; omega
    have LA : Hid (ia < ir) := by have h := A14.out.lt; have l4 := hiir.out; show _ < _; omega
    have LE : Hid (ie < ir) := by have h := E14.out.lt; have l4 := hiir.out; show _ < _; omega
    have LF : Hid (jf < ir) := by have h := F14.out.lt; have l4 := hiir.out; show _ < _; omega
    have LG : Hid (ig < ir) := by have h := G14.out.lt; have l4 := hiir.out; show _ < _; omega
    have LP : Hid (ip < ir) := by have h := P14.out.lt; have l4 := hiir.out; show _ < _; omega
    have LQ : Hid (iq < ir) := by have h := Q14.out.lt; have l4 := hiir.out; show _ < _; omega
    have LB : Hid (w.heap.size ≤ ir) := by have h := B14.out.size; have l4 := hiir.out; show _ ≤ _; omega
    have R15 : Hid (DAt W15 ir pc ps) := by rw [← hW, ← hiir.out]; exact dAt_new _ _ _
    have bW : Below w14.heap.size w14 W15 := by rw [← hW]; exact ba _ _
    rw [hiir.out]; clear hW
    have X15 := Lib.hid (DAt.below X14.out bW)
    have A15 := Lib.hid (DAt.below A14.out bW)
    have E15 := Lib.hid (DAt.below E14.out bW)
    have F15 := Lib.hid (DAt.below F14.out bW)
    have G15 := Lib.hid (DAt.below G14.out bW)
    have P15 := Lib.hid (DAt.below P14.out bW)
    have Q15 := Lib.hid (DAt.below Q14.out bW)
    have B15 := Lib.hid (bt B14.out bW)
    clear bW hiir
    clear X14 A14 E14 F14 G14 P14 Q14  B14
    clear p0 p1
    have hne : ∀ b, b < ir → b ≠ ir := fun b h => by omega
    have x0 := X15.out.c0
    have x1 := X15.out.c1
    have q0 := Q15.out.c0
    have q1 := Q15.out.c1
    have r0 := R15.out.c0
    have r1 := R15.out.c1
    have rf0 := R15.out.f0; have rf1 := R15.out.f1
    go_upto_region 15 with fail
    generalize hW : World.setCell (World.setCell W15 _ _) _ _ = W16
    clear x0 x1 q0 q1 r0 r1
    clear rf0 rf1
    have X16 : Hid (DAt W16 w.heap.size c (n : Int)) := by rw [← hW]; exact dAt_other _ _ (dAt_other _ _ X15.out (hne _ LX.out)) (hne _ LX.out)
    have A16 : Hid (DAt W16 ia pc ps) := by rw [← hW]; exact dAt_other _ _ (dAt_other _ _ A15.out (hne _ LA.out)) (hne _ LA.out)
    have E16 : Hid (DAt W16 ie qc qs) := by rw [← hW]; exact dAt_other _ _ (dAt_other _ _ E15.out (hne _ LE.out)) (hne _ LE.out)
    have F16 : Hid (DAt W16 jf qc qs) := by rw [← hW]; exact dAt_other _ _ (dAt_other _ _ F15.out (hne _ LF.out)) (hne _ LF.out)
    have G16 : Hid (DAt W16 ig rc rs) := by rw [← hW]; exact dAt_other _ _ (dAt_other _ _ G15.out (hne _ LG.out)) (hne _ LG.out)
    have P16 : Hid (DAt W16 ip pc ps) := by rw [← hW]; exact dAt_other _ _ (dAt_other _ _ P15.out (hne _ LP.out)) (hne _ LP.out)
    have Q16 : Hid (DAt W16 iq qc qs) := by rw [← hW]; exact dAt_other _ _ (dAt_other _ _ Q15.out (hne _ LQ.out)) (hne _ LQ.out)
    have R16 : Hid (DAt W16 ir qc qs) := by rw [← hW]; exact dAt_set2 _ _ R15.out
    have B16 : Hid (Below w.heap.size w W16) := by rw [← hW]; exact (B15.out.setCell LB.out _).setCell LB.out _
    clear hW
    clear X15 A15 E15 F15 G15 P15 Q15 R15  B15
    have a0 := A16.out.c0
    have a1 := A16.out.c1
    have e0 := E16.out.c0
    have e1 := E16.out.c1
    have f0 := F16.out.c0
    have f1 := F16.out.c1
    have g0 := G16.out.c0
    have g1 := G16.out.c1
    have p0 := P16.out.c0
    have p1 := P16.out.c1
    have q0 := Q16.out.c0
    have q1 := Q16.out.c1
    have r0 := R16.out.c0
    have r1 := R16.out.c1
    have x0 := X16.out.c0
    have x1 := X16.out.c1
    go_wp2_with fail
    refine (rRound_any c n k _ _ HF.out.1 HF.out.2.1 HF.out.2.2 HDR.out).mono ?_
    rintro e w17 ⟨rfl, b2⟩
    have X17 := Lib.hid (DAt.below X16.out b2)
    have A17 := Lib.hid (DAt.below A16.out b2)
    have E17 := Lib.hid (DAt.below E16.out b2)
    have F17 := Lib.hid (DAt.below F16.out b2)
    have G17 := Lib.hid (DAt.below G16.out b2)
    have P17 := Lib.hid (DAt.below P16.out b2)
    have Q17 := Lib.hid (DAt.below Q16.out b2)
    have R17 := Lib.hid (DAt.below R16.out b2)
    have B17 := Lib.hid (bt B16.out b2)
    clear a0 a1 e0 e1 f0 f1 g0 g1 p0 p1 q0 q1 r0 r1 x0 x1
    clear b2
    clear X16 A16 E16 F16 G16 P16 Q16 R16  B16
    go_upto_region 20 with fail
    generalize hW : World.alloc w17 _ = W18
    obtain ⟨iz, hiiz⟩ : ∃ x, Hid (w17.heap.size = x) := ⟨_, rfl⟩
    have Z18 : Hid (DAt W18 iz rc rs) := by rw [← hW, ← hiiz.out]; exact dAt_new _ _ _
    have bW : Below w17.heap.size w17 W18 := by rw [← hW]; exact ba _ _
    rw [hiiz.out]; clear hW
    have X18 := Lib.hid (DAt.below X17.out bW)
    have A18 := Lib.hid (DAt.below A17.out bW)
    have E18 := Lib.hid (DAt.below E17.out bW)
    have F18 := Lib.hid (DAt.below F17.out bW)
    have G18 := Lib.hid (DAt.below G17.out bW)
    have P18 := Lib.hid (DAt.below P17.out bW)
    have Q18 := Lib.hid (DAt.below Q17.out bW)
    have R18 := Lib.hid (DAt.below R17.out bW)
    have B18 := Lib.hid (bt B17.out bW)
    clear bW hiiz
    clear X17 A17 E17 F17 G17 P17 Q17 R17  B17
    have g0 := G18.out.c0
    have g1 := G18.out.c1
    have z0 := Z18.out.c0
    have z1 := Z18.out.c1
    go_wp2_with fail
    refine (dknown_any _).mono ?_
    rintro e w20 ⟨rfl, b2⟩
    have B20 := bt B18.out b2; clear b2
    go_wp2_with fail
    go_ret
    exact ⟨rfl, B20⟩

set_option maxRecDepth 100000 in
set_option maxHeartbeats 8000000 in
theorem decOne_neg_low (c : Int) (n : Nat) (t : Int) (m : Int) (w : World) (hc : fits c) (hn : n ≤ 9) (hneg : c < 0) (ht : t < 0) :
    Calls Try.prog 6 #[.agg #[.int .i64 c, .int .i64 (n : Int)], .int .i64 t, .int .i64 m] w fun e w' => e = .returned (.bool true) ∧ Below w.heap.size w w' := by
  have hs : isB (n : Int) = true := by unfold isB; simp; omega
  have HIS := Lib.hid hs
  obtain ⟨mb, HMB⟩ : ∃ b, Hid (mayB c (n : Int) = b) := ⟨_, rfl⟩
  obtain ⟨pc, ps, pe, hdp⟩ := decV_form c n
  obtain ⟨qc, qs, qe, hdq⟩ := decV_form (un 0 0 - un c n) 9
  have hp : Hid (putV c (n : Int) = .tuple #[.agg #[.int .i64 pc, .int .i64 ps], .int .i64 pe]) := by show _ = _; unfold putV; rw [hs, if_pos rfl, show ((n : Nat) : Int).toNat = n from rfl, decV_un c n hn, hdp]
  have hng : Hid (negV c (n : Int) = .tuple #[.agg #[.int .i64 qc, .int .i64 qs], .int .i64 qe]) := by show _ = _; unfold negV ansV; rw [hs, if_pos (by rfl), show ((n : Nat) : Int).toNat = n from rfl, hdq]
  have ha : Hid (absV c (n : Int) = .tuple #[.agg #[.int .i64 qc, .int .i64 qs], .int .i64 qe]) := by show _ = _; unfold absV; rw [if_pos hneg]; exact hng.out
  have dn : decide (c < 0) = true := by simpa using hneg
  have htb : isB t = false := by unfold isB; simp; omega
  have hr : Hid (roundV c (n : Int) t = noneV 2) := by show _ = _; unfold roundV; rw [htb, if_neg (by simp)]
  unfold noneV at hr
  have k1 : decide (t < 0) = true := by simpa using ht
  clear htb ht
  have HDP := Lib.hid hdp; have HDQ := Lib.hid hdq
  have HF : Hid (fits c ∧ n ≤ 9) := ⟨hc, hn⟩; clear hc hs hn hdp hdq
  go_enter Try.func6, Try.ntmps6
  go_upto_region 1 with fail
  have X0 := Lib.hid (dAt_new w c (n : Int)); have B0 := Lib.hid (ba w (.cells #[.int .i64 c, .int .i64 (n : Int)] 59))
  generalize World.alloc w _ = w0 at X0 B0 ⊢
  have x0 := X0.out.c0
  have x1 := X0.out.c1
  go_wp2_with fail
  refine (dPut_any c (n : Int) _ _ HF.out.1 hp.out).mono ?_
  rintro e w1 ⟨rfl, b2⟩
  have X1 := Lib.hid (DAt.below X0.out b2)
  have B1 := Lib.hid (bt B0.out b2)
  clear x0 x1
  clear b2
  clear X0  B0
  go_upto_region 2 with fail
  generalize hW : World.alloc w1 _ = W2
  obtain ⟨ia, hiia⟩ : ∃ x, Hid (w1.heap.size = x) := ⟨_, rfl⟩
  have A2 : Hid (DAt W2 ia pc ps) := by rw [← hW, ← hiia.out]; exact dAt_new _ _ _
  have bW : Below w1.heap.size w1 W2 := by rw [← hW]; exact ba _ _
  rw [hiia.out]; clear hW
  have X2 := Lib.hid (DAt.below X1.out bW)
  have B2 := Lib.hid (bt B1.out bW)
  clear bW hiia
  clear X1  B1
  obtain ⟨w2, hw2⟩ : ∃ x, x = W2 := ⟨_, rfl⟩; subst hw2
  have x0 := X2.out.c0
  have x1 := X2.out.c1
  go_wp2_with fail
  refine (dNeg_any c (n : Int) _ _ HF.out.1 hng.out).mono ?_
  rintro e w3 ⟨rfl, b2⟩
  have X3 := Lib.hid (DAt.below X2.out b2)
  have A3 := Lib.hid (DAt.below A2.out b2)
  have B3 := Lib.hid (bt B2.out b2)
  clear x0 x1
  clear b2
  clear X2 A2  B2
  go_upto_region 3 with fail
  generalize hW : World.alloc w3 _ = W4
  obtain ⟨ie, hiie⟩ : ∃ x, Hid (w3.heap.size = x) := ⟨_, rfl⟩
  have E4 : Hid (DAt W4 ie qc qs) := by rw [← hW, ← hiie.out]; exact dAt_new _ _ _
  have bW : Below w3.heap.size w3 W4 := by rw [← hW]; exact ba _ _
  rw [hiie.out]; clear hW
  have X4 := Lib.hid (DAt.below X3.out bW)
  have A4 := Lib.hid (DAt.below A3.out bW)
  have B4 := Lib.hid (bt B3.out bW)
  clear bW hiie
  clear X3 A3  B3
  obtain ⟨w4, hw2⟩ : ∃ x, x = W4 := ⟨_, rfl⟩; subst hw2
  have x0 := X4.out.c0
  have x1 := X4.out.c1
  go_wp2_with fail
  refine (dAbs_any c (n : Int) _ _ HF.out.1 ha.out).mono ?_
  rintro e w5 ⟨rfl, b2⟩
  have X5 := Lib.hid (DAt.below X4.out b2)
  have A5 := Lib.hid (DAt.below A4.out b2)
  have E5 := Lib.hid (DAt.below E4.out b2)
  have B5 := Lib.hid (bt B4.out b2)
  clear x0 x1
  clear b2
  clear X4 A4 E4  B4
  go_upto_region 4 with fail
  generalize hW : World.alloc w5 _ = W6
  obtain ⟨jf, hijf⟩ : ∃ x, Hid (w5.heap.size = x) := ⟨_, rfl⟩
  have F6 : Hid (DAt W6 jf qc qs) := by rw [← hW, ← hijf.out]; exact dAt_new _ _ _
  have bW : Below w5.heap.size w5 W6 := by rw [← hW]; exact ba _ _
  rw [hijf.out]; clear hW
  have X6 := Lib.hid (DAt.below X5.out bW)
  have A6 := Lib.hid (DAt.below A5.out bW)
  have E6 := Lib.hid (DAt.below E5.out bW)
  have B6 := Lib.hid (bt B5.out bW)
  clear bW hijf
  clear X5 A5 E5  B5
  obtain ⟨w6, hw2⟩ : ∃ x, x = W6 := ⟨_, rfl⟩; subst hw2
  have x0 := X6.out.c0
  have x1 := X6.out.c1
  go_wp2_with fail
  refine (dRound_any c (n : Int) t _ _ HF.out.1 hr.out).mono ?_
  rintro e w7 ⟨rfl, b2⟩
  have X7 := Lib.hid (DAt.below X6.out b2)
  have A7 := Lib.hid (DAt.below A6.out b2)
  have E7 := Lib.hid (DAt.below E6.out b2)
  have F7 := Lib.hid (DAt.below F6.out b2)
  have B7 := Lib.hid (bt B6.out b2)
  clear x0 x1
  clear b2
  clear X6 A6 E6 F6  B6
  go_upto_region 5 with fail
  generalize hW : World.alloc w7 _ = W8
  obtain ⟨ig, hiig⟩ : ∃ x, Hid (w7.heap.size = x) := ⟨_, rfl⟩
  have G8 : Hid (DAt W8 ig 0 0) := by rw [← hW, ← hiig.out]; exact dAt_new _ _ _
  have bW : Below w7.heap.size w7 W8 := by rw [← hW]; exact ba _ _
  rw [hiig.out]; clear hW
  have X8 := Lib.hid (DAt.below X7.out bW)
  have A8 := Lib.hid (DAt.below A7.out bW)
  have E8 := Lib.hid (DAt.below E7.out bW)
  have F8 := Lib.hid (DAt.below F7.out bW)
  have B8 := Lib.hid (bt B7.out bW)
  clear bW hiig
  clear X7 A7 E7 F7  B7
  obtain ⟨w8, hw2⟩ : ∃ x, x = W8 := ⟨_, rfl⟩; subst hw2
  have HS0 : (fun w' : World => w'.cell? ⟨w.heap.size, 0, none⟩ = some (.int .i64 c) ∧ w'.cell? ⟨w.heap.size, 1, none⟩ = some (.int .i64 (n : Int))) w8.drew := ⟨(DAt.below X8.out ((Below.refl _ _).drew)).c0, (DAt.below X8.out ((Below.refl _ _).drew)).c1⟩
  go_region_held3 (fun w' => w'.cell? ⟨w.heap.size, 0, none⟩ = some (.int .i64 c) ∧ w'.cell? ⟨w.heap.size, 1, none⟩ = some (.int .i64 (n : Int)))
    (first | with_reducible exact HS0 | with_reducible assumption)
    (first
      | (go_at_call 38; (with_reducible refine (dMay_c c _ mb _ HF.out.1 HMB.out).mono ?_); rintro e w20 ⟨rfl, b20⟩; have T20 : Hid (Below w8.heap.size w8 w20) := bt ((Below.refl _ _).drew) b20; have HS20 : w20.cell? ⟨w.heap.size, 0, none⟩ = some (.int .i64 c) ∧ w20.cell? ⟨w.heap.size, 1, none⟩ = some (.int .i64 (n : Int)) := ⟨(DAt.below X8.out T20.out).c0, (DAt.below X8.out T20.out).c1⟩; clear b20)
      | (go_at_call 39; (with_reducible refine (rMay_c c _ mb _ HF.out.1 HMB.out).mono ?_); rintro e w21 ⟨rfl, b21⟩; have T21 : Hid (Below w8.heap.size w8 w21) := bt T20.out b21; have HS21 : w21.cell? ⟨w.heap.size, 0, none⟩ = some (.int .i64 c) ∧ w21.cell? ⟨w.heap.size, 1, none⟩ = some (.int .i64 (n : Int)) := ⟨(DAt.below X8.out T21.out).c0, (DAt.below X8.out T21.out).c1⟩; clear b21)
      | (go_at_call 40; (with_reducible refine (dOf_any m _).mono ?_); rintro e w22 ⟨rfl, b22⟩; have T22 : Hid (Below w8.heap.size w8 w22) := bt T21.out b22; have HS22 : w22.cell? ⟨w.heap.size, 0, none⟩ = some (.int .i64 c) ∧ w22.cell? ⟨w.heap.size, 1, none⟩ = some (.int .i64 (n : Int)) := ⟨(DAt.below X8.out T22.out).c0, (DAt.below X8.out T22.out).c1⟩; clear b22))
  all_goals
    have X9 := Lib.hid (DAt.below X8.out T22.out)
    have A9 := Lib.hid (DAt.below A8.out T22.out)
    have E9 := Lib.hid (DAt.below E8.out T22.out)
    have F9 := Lib.hid (DAt.below F8.out T22.out)
    have G9 := Lib.hid (DAt.below G8.out T22.out)
    have B9 := Lib.hid (bt B8.out T22.out)
    clear HS0 HS20 T20 HS21 T21 HS22
    clear X8 A8 E8 F8 G8  B8
    clear T22
    go_upto_region 7 with fail
    obtain ⟨w9, hw2⟩ : ∃ x, x = w22 := ⟨_, rfl⟩; subst hw2
    have x0 := X9.out.c0
    have x1 := X9.out.c1
    go_wp2_with fail
    refine (rIs_any c (n : Int) _).mono ?_
    rintro e w10 ⟨rfl, b2⟩
    have X10 := Lib.hid (DAt.below X9.out b2)
    have A10 := Lib.hid (DAt.below A9.out b2)
    have E10 := Lib.hid (DAt.below E9.out b2)
    have F10 := Lib.hid (DAt.below F9.out b2)
    have G10 := Lib.hid (DAt.below G9.out b2)
    have B10 := Lib.hid (bt B9.out b2)
    clear x0 x1
    clear b2
    clear X9 A9 E9 F9 G9  B9
    rw [HIS.out]
    have x0 := X10.out.c0
    have x1 := X10.out.c1
    go_wp2_with fail
    refine (rPut_any c n _ _ HF.out.1 HF.out.2 HDP.out).mono ?_
    rintro e w11 ⟨rfl, b2⟩
    have X11 := Lib.hid (DAt.below X10.out b2)
    have A11 := Lib.hid (DAt.below A10.out b2)
    have E11 := Lib.hid (DAt.below E10.out b2)
    have F11 := Lib.hid (DAt.below F10.out b2)
    have G11 := Lib.hid (DAt.below G10.out b2)
    have B11 := Lib.hid (bt B10.out b2)
    clear x0 x1
    clear b2
    clear X10 A10 E10 F10 G10  B10
    go_upto_region 11 with fail
    generalize hW : World.alloc w11 _ = W12
    obtain ⟨ip, hiip⟩ : ∃ x, Hid (w11.heap.size = x) := ⟨_, rfl⟩
    have P12 : Hid (DAt W12 ip pc ps) := by rw [← hW, ← hiip.out]; exact dAt_new _ _ _
    have bW : Below w11.heap.size w11 W12 := by rw [← hW]; exact ba _ _
    rw [hiip.out]; clear hW
    have X12 := Lib.hid (DAt.below X11.out bW)
    have A12 := Lib.hid (DAt.below A11.out bW)
    have E12 := Lib.hid (DAt.below E11.out bW)
    have F12 := Lib.hid (DAt.below F11.out bW)
    have G12 := Lib.hid (DAt.below G11.out bW)
    have B12 := Lib.hid (bt B11.out bW)
    clear bW hiip
    clear X11 A11 E11 F11 G11  B11
    obtain ⟨w12, hw2⟩ : ∃ x, x = W12 := ⟨_, rfl⟩; subst hw2
    have x0 := X12.out.c0
    have x1 := X12.out.c1
    go_wp2_with fail
    refine (rSub0_any c n _ _ HF.out.1 HF.out.2 HDQ.out).mono ?_
    rintro e w13 ⟨rfl, b2⟩
    have X13 := Lib.hid (DAt.below X12.out b2)
    have A13 := Lib.hid (DAt.below A12.out b2)
    have E13 := Lib.hid (DAt.below E12.out b2)
    have F13 := Lib.hid (DAt.below F12.out b2)
    have G13 := Lib.hid (DAt.below G12.out b2)
    have P13 := Lib.hid (DAt.below P12.out b2)
    have B13 := Lib.hid (bt B12.out b2)
    clear x0 x1
    clear b2
    clear X12 A12 E12 F12 G12 P12  B12
    go_upto_region 12 with fail
    generalize hW : World.alloc w13 _ = W14
    obtain ⟨iq, hiiq⟩ : ∃ x, Hid (w13.heap.size = x) := ⟨_, rfl⟩
    have Q14 : Hid (DAt W14 iq qc qs) := by rw [← hW, ← hiiq.out]; exact dAt_new _ _ _
    have bW : Below w13.heap.size w13 W14 := by rw [← hW]; exact ba _ _
    rw [hiiq.out]; clear hW
    have X14 := Lib.hid (DAt.below X13.out bW)
    have A14 := Lib.hid (DAt.below A13.out bW)
    have E14 := Lib.hid (DAt.below E13.out bW)
    have F14 := Lib.hid (DAt.below F13.out bW)
    have G14 := Lib.hid (DAt.below G13.out bW)
    have P14 := Lib.hid (DAt.below P13.out bW)
    have B14 := Lib.hid (bt B13.out bW)
    clear bW hiiq
    clear X13 A13 E13 F13 G13 P13  B13
    obtain ⟨w14, hw2⟩ : ∃ x, x = W14 := ⟨_, rfl⟩; subst hw2
    have p0 := P14.out.c0
    have p1 := P14.out.c1
    go_upto_region 13 with fail
    generalize hW : World.alloc w14 _ = W15
    obtain ⟨ir, hiir⟩ : ∃ x, Hid (w14.heap.size = x) := ⟨_, rfl⟩
    have LX : Hid (w.heap.size < ir) := by have h := X14.out.lt; have l4 := hiir.out; show _ < _; omega
    have LA : Hid (ia < ir) := by have h := A14.out.lt; have l4 := hiir.out; show _ < _; omega
    have LE : Hid (ie < ir) := by have h := E14.out.lt; have l4 := hiir.out; show _ < _; omega
    have LF : Hid (jf < ir) := by have h := F14.out.lt; have l4 := hiir.out; show _ < _; omega
    have LG : Hid (ig < ir) := by have h := G14.out.lt; have l4 := hiir.out; show _ < _; omega
    have LP : Hid (ip < ir) := by have h := P14.out.lt; have l4 := hiir.out; show _ < _; omega
    have LQ : Hid (iq < ir) := by have h := Q14.out.lt; have l4 := hiir.out; show _ < _; omega
    have LB : Hid (w.heap.size ≤ ir) := by have h := B14.out.size; have l4 := hiir.out; show _ ≤ _; omega
    have R15 : Hid (DAt W15 ir pc ps) := by rw [← hW, ← hiir.out]; exact dAt_new _ _ _
    have bW : Below w14.heap.size w14 W15 := by rw [← hW]; exact ba _ _
    rw [hiir.out]; clear hW
    have X15 := Lib.hid (DAt.below X14.out bW)
    have A15 := Lib.hid (DAt.below A14.out bW)
    have E15 := Lib.hid (DAt.below E14.out bW)
    have F15 := Lib.hid (DAt.below F14.out bW)
    have G15 := Lib.hid (DAt.below G14.out bW)
    have P15 := Lib.hid (DAt.below P14.out bW)
    have Q15 := Lib.hid (DAt.below Q14.out bW)
    have B15 := Lib.hid (bt B14.out bW)
    clear bW hiir
    clear X14 A14 E14 F14 G14 P14 Q14  B14
    clear p0 p1
    have hne : ∀ b, b < ir → b ≠ ir := fun b h => by omega
    have x0 := X15.out.c0
    have x1 := X15.out.c1
    have q0 := Q15.out.c0
    have q1 := Q15.out.c1
    have r0 := R15.out.c0
    have r1 := R15.out.c1
    have rf0 := R15.out.f0; have rf1 := R15.out.f1
    go_upto_region 15 with fail
    generalize hW : World.setCell (World.setCell W15 _ _) _ _ = W16
    clear x0 x1 q0 q1 r0 r1
    clear rf0 rf1
    have X16 : Hid (DAt W16 w.heap.size c (n : Int)) := by rw [← hW]; exact dAt_other _ _ (dAt_other _ _ X15.out (hne _ LX.out)) (hne _ LX.out)
    have A16 : Hid (DAt W16 ia pc ps) := by rw [← hW]; exact dAt_other _ _ (dAt_other _ _ A15.out (hne _ LA.out)) (hne _ LA.out)
    have E16 : Hid (DAt W16 ie qc qs) := by rw [← hW]; exact dAt_other _ _ (dAt_other _ _ E15.out (hne _ LE.out)) (hne _ LE.out)
    have F16 : Hid (DAt W16 jf qc qs) := by rw [← hW]; exact dAt_other _ _ (dAt_other _ _ F15.out (hne _ LF.out)) (hne _ LF.out)
    have G16 : Hid (DAt W16 ig 0 0) := by rw [← hW]; exact dAt_other _ _ (dAt_other _ _ G15.out (hne _ LG.out)) (hne _ LG.out)
    have P16 : Hid (DAt W16 ip pc ps) := by rw [← hW]; exact dAt_other _ _ (dAt_other _ _ P15.out (hne _ LP.out)) (hne _ LP.out)
    have Q16 : Hid (DAt W16 iq qc qs) := by rw [← hW]; exact dAt_other _ _ (dAt_other _ _ Q15.out (hne _ LQ.out)) (hne _ LQ.out)
    have R16 : Hid (DAt W16 ir qc qs) := by rw [← hW]; exact dAt_set2 _ _ R15.out
    have B16 : Hid (Below w.heap.size w W16) := by rw [← hW]; exact (B15.out.setCell LB.out _).setCell LB.out _
    clear hW
    clear X15 A15 E15 F15 G15 P15 Q15 R15  B15
    have a0 := A16.out.c0
    have a1 := A16.out.c1
    have e0 := E16.out.c0
    have e1 := E16.out.c1
    have f0 := F16.out.c0
    have f1 := F16.out.c1
    have g0 := G16.out.c0
    have g1 := G16.out.c1
    have p0 := P16.out.c0
    have p1 := P16.out.c1
    have q0 := Q16.out.c0
    have q1 := Q16.out.c1
    have r0 := R16.out.c0
    have r1 := R16.out.c1
    go_wp2_with fail
    refine (dknown_any _).mono ?_
    rintro e w20 ⟨rfl, b2⟩
    have B20 := bt B16.out b2; clear b2
    go_wp2_with fail
    go_ret
    exact ⟨rfl, B20⟩

set_option maxRecDepth 100000 in
set_option maxHeartbeats 8000000 in
theorem decOne_neg_high (c : Int) (n : Nat) (t : Int) (m : Int) (w : World) (hc : fits c) (hn : n ≤ 9) (hneg : c < 0) (ht : 9 < t) :
    Calls Try.prog 6 #[.agg #[.int .i64 c, .int .i64 (n : Int)], .int .i64 t, .int .i64 m] w fun e w' => e = .returned (.bool true) ∧ Below w.heap.size w w' := by
  have hs : isB (n : Int) = true := by unfold isB; simp; omega
  have HIS := Lib.hid hs
  obtain ⟨mb, HMB⟩ : ∃ b, Hid (mayB c (n : Int) = b) := ⟨_, rfl⟩
  obtain ⟨pc, ps, pe, hdp⟩ := decV_form c n
  obtain ⟨qc, qs, qe, hdq⟩ := decV_form (un 0 0 - un c n) 9
  have hp : Hid (putV c (n : Int) = .tuple #[.agg #[.int .i64 pc, .int .i64 ps], .int .i64 pe]) := by show _ = _; unfold putV; rw [hs, if_pos rfl, show ((n : Nat) : Int).toNat = n from rfl, decV_un c n hn, hdp]
  have hng : Hid (negV c (n : Int) = .tuple #[.agg #[.int .i64 qc, .int .i64 qs], .int .i64 qe]) := by show _ = _; unfold negV ansV; rw [hs, if_pos (by rfl), show ((n : Nat) : Int).toNat = n from rfl, hdq]
  have ha : Hid (absV c (n : Int) = .tuple #[.agg #[.int .i64 qc, .int .i64 qs], .int .i64 qe]) := by show _ = _; unfold absV; rw [if_pos hneg]; exact hng.out
  have dn : decide (c < 0) = true := by simpa using hneg
  have htb : isB t = false := by unfold isB; simp; omega
  have hr : Hid (roundV c (n : Int) t = noneV 2) := by show _ = _; unfold roundV; rw [htb, if_neg (by simp)]
  unfold noneV at hr
  have k1 : decide (t < 0) = false := by simp; omega
  have k2 : decide (9 < t) = true := by simpa using ht
  clear htb ht
  have HDP := Lib.hid hdp; have HDQ := Lib.hid hdq
  have HF : Hid (fits c ∧ n ≤ 9) := ⟨hc, hn⟩; clear hc hs hn hdp hdq
  go_enter Try.func6, Try.ntmps6
  go_upto_region 1 with fail
  have X0 := Lib.hid (dAt_new w c (n : Int)); have B0 := Lib.hid (ba w (.cells #[.int .i64 c, .int .i64 (n : Int)] 59))
  generalize World.alloc w _ = w0 at X0 B0 ⊢
  have x0 := X0.out.c0
  have x1 := X0.out.c1
  go_wp2_with fail
  refine (dPut_any c (n : Int) _ _ HF.out.1 hp.out).mono ?_
  rintro e w1 ⟨rfl, b2⟩
  have X1 := Lib.hid (DAt.below X0.out b2)
  have B1 := Lib.hid (bt B0.out b2)
  clear x0 x1
  clear b2
  clear X0  B0
  go_upto_region 2 with fail
  generalize hW : World.alloc w1 _ = W2
  obtain ⟨ia, hiia⟩ : ∃ x, Hid (w1.heap.size = x) := ⟨_, rfl⟩
  have A2 : Hid (DAt W2 ia pc ps) := by rw [← hW, ← hiia.out]; exact dAt_new _ _ _
  have bW : Below w1.heap.size w1 W2 := by rw [← hW]; exact ba _ _
  rw [hiia.out]; clear hW
  have X2 := Lib.hid (DAt.below X1.out bW)
  have B2 := Lib.hid (bt B1.out bW)
  clear bW hiia
  clear X1  B1
  obtain ⟨w2, hw2⟩ : ∃ x, x = W2 := ⟨_, rfl⟩; subst hw2
  have x0 := X2.out.c0
  have x1 := X2.out.c1
  go_wp2_with fail
  refine (dNeg_any c (n : Int) _ _ HF.out.1 hng.out).mono ?_
  rintro e w3 ⟨rfl, b2⟩
  have X3 := Lib.hid (DAt.below X2.out b2)
  have A3 := Lib.hid (DAt.below A2.out b2)
  have B3 := Lib.hid (bt B2.out b2)
  clear x0 x1
  clear b2
  clear X2 A2  B2
  go_upto_region 3 with fail
  generalize hW : World.alloc w3 _ = W4
  obtain ⟨ie, hiie⟩ : ∃ x, Hid (w3.heap.size = x) := ⟨_, rfl⟩
  have E4 : Hid (DAt W4 ie qc qs) := by rw [← hW, ← hiie.out]; exact dAt_new _ _ _
  have bW : Below w3.heap.size w3 W4 := by rw [← hW]; exact ba _ _
  rw [hiie.out]; clear hW
  have X4 := Lib.hid (DAt.below X3.out bW)
  have A4 := Lib.hid (DAt.below A3.out bW)
  have B4 := Lib.hid (bt B3.out bW)
  clear bW hiie
  clear X3 A3  B3
  obtain ⟨w4, hw2⟩ : ∃ x, x = W4 := ⟨_, rfl⟩; subst hw2
  have x0 := X4.out.c0
  have x1 := X4.out.c1
  go_wp2_with fail
  refine (dAbs_any c (n : Int) _ _ HF.out.1 ha.out).mono ?_
  rintro e w5 ⟨rfl, b2⟩
  have X5 := Lib.hid (DAt.below X4.out b2)
  have A5 := Lib.hid (DAt.below A4.out b2)
  have E5 := Lib.hid (DAt.below E4.out b2)
  have B5 := Lib.hid (bt B4.out b2)
  clear x0 x1
  clear b2
  clear X4 A4 E4  B4
  go_upto_region 4 with fail
  generalize hW : World.alloc w5 _ = W6
  obtain ⟨jf, hijf⟩ : ∃ x, Hid (w5.heap.size = x) := ⟨_, rfl⟩
  have F6 : Hid (DAt W6 jf qc qs) := by rw [← hW, ← hijf.out]; exact dAt_new _ _ _
  have bW : Below w5.heap.size w5 W6 := by rw [← hW]; exact ba _ _
  rw [hijf.out]; clear hW
  have X6 := Lib.hid (DAt.below X5.out bW)
  have A6 := Lib.hid (DAt.below A5.out bW)
  have E6 := Lib.hid (DAt.below E5.out bW)
  have B6 := Lib.hid (bt B5.out bW)
  clear bW hijf
  clear X5 A5 E5  B5
  obtain ⟨w6, hw2⟩ : ∃ x, x = W6 := ⟨_, rfl⟩; subst hw2
  have x0 := X6.out.c0
  have x1 := X6.out.c1
  go_wp2_with fail
  refine (dRound_any c (n : Int) t _ _ HF.out.1 hr.out).mono ?_
  rintro e w7 ⟨rfl, b2⟩
  have X7 := Lib.hid (DAt.below X6.out b2)
  have A7 := Lib.hid (DAt.below A6.out b2)
  have E7 := Lib.hid (DAt.below E6.out b2)
  have F7 := Lib.hid (DAt.below F6.out b2)
  have B7 := Lib.hid (bt B6.out b2)
  clear x0 x1
  clear b2
  clear X6 A6 E6 F6  B6
  go_upto_region 5 with fail
  generalize hW : World.alloc w7 _ = W8
  obtain ⟨ig, hiig⟩ : ∃ x, Hid (w7.heap.size = x) := ⟨_, rfl⟩
  have G8 : Hid (DAt W8 ig 0 0) := by rw [← hW, ← hiig.out]; exact dAt_new _ _ _
  have bW : Below w7.heap.size w7 W8 := by rw [← hW]; exact ba _ _
  rw [hiig.out]; clear hW
  have X8 := Lib.hid (DAt.below X7.out bW)
  have A8 := Lib.hid (DAt.below A7.out bW)
  have E8 := Lib.hid (DAt.below E7.out bW)
  have F8 := Lib.hid (DAt.below F7.out bW)
  have B8 := Lib.hid (bt B7.out bW)
  clear bW hiig
  clear X7 A7 E7 F7  B7
  obtain ⟨w8, hw2⟩ : ∃ x, x = W8 := ⟨_, rfl⟩; subst hw2
  have HS0 : (fun w' : World => w'.cell? ⟨w.heap.size, 0, none⟩ = some (.int .i64 c) ∧ w'.cell? ⟨w.heap.size, 1, none⟩ = some (.int .i64 (n : Int))) w8.drew := ⟨(DAt.below X8.out ((Below.refl _ _).drew)).c0, (DAt.below X8.out ((Below.refl _ _).drew)).c1⟩
  go_region_held3 (fun w' => w'.cell? ⟨w.heap.size, 0, none⟩ = some (.int .i64 c) ∧ w'.cell? ⟨w.heap.size, 1, none⟩ = some (.int .i64 (n : Int)))
    (first | with_reducible exact HS0 | with_reducible assumption)
    (first
      | (go_at_call 38; (with_reducible refine (dMay_c c _ mb _ HF.out.1 HMB.out).mono ?_); rintro e w20 ⟨rfl, b20⟩; have T20 : Hid (Below w8.heap.size w8 w20) := bt ((Below.refl _ _).drew) b20; have HS20 : w20.cell? ⟨w.heap.size, 0, none⟩ = some (.int .i64 c) ∧ w20.cell? ⟨w.heap.size, 1, none⟩ = some (.int .i64 (n : Int)) := ⟨(DAt.below X8.out T20.out).c0, (DAt.below X8.out T20.out).c1⟩; clear b20)
      | (go_at_call 39; (with_reducible refine (rMay_c c _ mb _ HF.out.1 HMB.out).mono ?_); rintro e w21 ⟨rfl, b21⟩; have T21 : Hid (Below w8.heap.size w8 w21) := bt T20.out b21; have HS21 : w21.cell? ⟨w.heap.size, 0, none⟩ = some (.int .i64 c) ∧ w21.cell? ⟨w.heap.size, 1, none⟩ = some (.int .i64 (n : Int)) := ⟨(DAt.below X8.out T21.out).c0, (DAt.below X8.out T21.out).c1⟩; clear b21)
      | (go_at_call 40; (with_reducible refine (dOf_any m _).mono ?_); rintro e w22 ⟨rfl, b22⟩; have T22 : Hid (Below w8.heap.size w8 w22) := bt T21.out b22; have HS22 : w22.cell? ⟨w.heap.size, 0, none⟩ = some (.int .i64 c) ∧ w22.cell? ⟨w.heap.size, 1, none⟩ = some (.int .i64 (n : Int)) := ⟨(DAt.below X8.out T22.out).c0, (DAt.below X8.out T22.out).c1⟩; clear b22))
  all_goals
    have X9 := Lib.hid (DAt.below X8.out T22.out)
    have A9 := Lib.hid (DAt.below A8.out T22.out)
    have E9 := Lib.hid (DAt.below E8.out T22.out)
    have F9 := Lib.hid (DAt.below F8.out T22.out)
    have G9 := Lib.hid (DAt.below G8.out T22.out)
    have B9 := Lib.hid (bt B8.out T22.out)
    clear HS0 HS20 T20 HS21 T21 HS22
    clear X8 A8 E8 F8 G8  B8
    clear T22
    go_upto_region 7 with fail
    obtain ⟨w9, hw2⟩ : ∃ x, x = w22 := ⟨_, rfl⟩; subst hw2
    have x0 := X9.out.c0
    have x1 := X9.out.c1
    go_wp2_with fail
    refine (rIs_any c (n : Int) _).mono ?_
    rintro e w10 ⟨rfl, b2⟩
    have X10 := Lib.hid (DAt.below X9.out b2)
    have A10 := Lib.hid (DAt.below A9.out b2)
    have E10 := Lib.hid (DAt.below E9.out b2)
    have F10 := Lib.hid (DAt.below F9.out b2)
    have G10 := Lib.hid (DAt.below G9.out b2)
    have B10 := Lib.hid (bt B9.out b2)
    clear x0 x1
    clear b2
    clear X9 A9 E9 F9 G9  B9
    rw [HIS.out]
    have x0 := X10.out.c0
    have x1 := X10.out.c1
    go_wp2_with fail
    refine (rPut_any c n _ _ HF.out.1 HF.out.2 HDP.out).mono ?_
    rintro e w11 ⟨rfl, b2⟩
    have X11 := Lib.hid (DAt.below X10.out b2)
    have A11 := Lib.hid (DAt.below A10.out b2)
    have E11 := Lib.hid (DAt.below E10.out b2)
    have F11 := Lib.hid (DAt.below F10.out b2)
    have G11 := Lib.hid (DAt.below G10.out b2)
    have B11 := Lib.hid (bt B10.out b2)
    clear x0 x1
    clear b2
    clear X10 A10 E10 F10 G10  B10
    go_upto_region 11 with fail
    generalize hW : World.alloc w11 _ = W12
    obtain ⟨ip, hiip⟩ : ∃ x, Hid (w11.heap.size = x) := ⟨_, rfl⟩
    have P12 : Hid (DAt W12 ip pc ps) := by rw [← hW, ← hiip.out]; exact dAt_new _ _ _
    have bW : Below w11.heap.size w11 W12 := by rw [← hW]; exact ba _ _
    rw [hiip.out]; clear hW
    have X12 := Lib.hid (DAt.below X11.out bW)
    have A12 := Lib.hid (DAt.below A11.out bW)
    have E12 := Lib.hid (DAt.below E11.out bW)
    have F12 := Lib.hid (DAt.below F11.out bW)
    have G12 := Lib.hid (DAt.below G11.out bW)
    have B12 := Lib.hid (bt B11.out bW)
    clear bW hiip
    clear X11 A11 E11 F11 G11  B11
    obtain ⟨w12, hw2⟩ : ∃ x, x = W12 := ⟨_, rfl⟩; subst hw2
    have x0 := X12.out.c0
    have x1 := X12.out.c1
    go_wp2_with fail
    refine (rSub0_any c n _ _ HF.out.1 HF.out.2 HDQ.out).mono ?_
    rintro e w13 ⟨rfl, b2⟩
    have X13 := Lib.hid (DAt.below X12.out b2)
    have A13 := Lib.hid (DAt.below A12.out b2)
    have E13 := Lib.hid (DAt.below E12.out b2)
    have F13 := Lib.hid (DAt.below F12.out b2)
    have G13 := Lib.hid (DAt.below G12.out b2)
    have P13 := Lib.hid (DAt.below P12.out b2)
    have B13 := Lib.hid (bt B12.out b2)
    clear x0 x1
    clear b2
    clear X12 A12 E12 F12 G12 P12  B12
    go_upto_region 12 with fail
    generalize hW : World.alloc w13 _ = W14
    obtain ⟨iq, hiiq⟩ : ∃ x, Hid (w13.heap.size = x) := ⟨_, rfl⟩
    have Q14 : Hid (DAt W14 iq qc qs) := by rw [← hW, ← hiiq.out]; exact dAt_new _ _ _
    have bW : Below w13.heap.size w13 W14 := by rw [← hW]; exact ba _ _
    rw [hiiq.out]; clear hW
    have X14 := Lib.hid (DAt.below X13.out bW)
    have A14 := Lib.hid (DAt.below A13.out bW)
    have E14 := Lib.hid (DAt.below E13.out bW)
    have F14 := Lib.hid (DAt.below F13.out bW)
    have G14 := Lib.hid (DAt.below G13.out bW)
    have P14 := Lib.hid (DAt.below P13.out bW)
    have B14 := Lib.hid (bt B13.out bW)
    clear bW hiiq
    clear X13 A13 E13 F13 G13 P13  B13
    obtain ⟨w14, hw2⟩ : ∃ x, x = W14 := ⟨_, rfl⟩; subst hw2
    have p0 := P14.out.c0
    have p1 := P14.out.c1
    go_upto_region 13 with fail
    generalize hW : World.alloc w14 _ = W15
    obtain ⟨ir, hiir⟩ : ∃ x, Hid (w14.heap.size = x) := ⟨_, rfl⟩
    have LX : Hid (w.heap.size < ir) := by have h := X14.out.lt; have l4 := hiir.out; show _ < _; omega
    have LA : Hid (ia < ir) := by have h := A14.out.lt; have l4 := hiir.out; show _ < _; omega
    have LE : Hid (ie < ir) := by have h := E14.out.lt; have l4 := hiir.out; show _ < _; omega
    have LF : Hid (jf < ir) := by have h := F14.out.lt; have l4 := hiir.out; show _ < _; omega
    have LG : Hid (ig < ir) := by have h := G14.out.lt; have l4 := hiir.out; show _ < _; omega
    have LP : Hid (ip < ir) := by have h := P14.out.lt; have l4 := hiir.out; show _ < _; omega
    have LQ : Hid (iq < ir) := by have h := Q14.out.lt; have l4 := hiir.out; show _ < _; omega
    have LB : Hid (w.heap.size ≤ ir) := by have h := B14.out.size; have l4 := hiir.out; show _ ≤ _; omega
    have R15 : Hid (DAt W15 ir pc ps) := by rw [← hW, ← hiir.out]; exact dAt_new _ _ _
    have bW : Below w14.heap.size w14 W15 := by rw [← hW]; exact ba _ _
    rw [hiir.out]; clear hW
    have X15 := Lib.hid (DAt.below X14.out bW)
    have A15 := Lib.hid (DAt.below A14.out bW)
    have E15 := Lib.hid (DAt.below E14.out bW)
    have F15 := Lib.hid (DAt.below F14.out bW)
    have G15 := Lib.hid (DAt.below G14.out bW)
    have P15 := Lib.hid (DAt.below P14.out bW)
    have Q15 := Lib.hid (DAt.below Q14.out bW)
    have B15 := Lib.hid (bt B14.out bW)
    clear bW hiir
    clear X14 A14 E14 F14 G14 P14 Q14  B14
    clear p0 p1
    have hne : ∀ b, b < ir → b ≠ ir := fun b h => by omega
    have x0 := X15.out.c0
    have x1 := X15.out.c1
    have q0 := Q15.out.c0
    have q1 := Q15.out.c1
    have r0 := R15.out.c0
    have r1 := R15.out.c1
    have rf0 := R15.out.f0; have rf1 := R15.out.f1
    go_upto_region 15 with fail
    generalize hW : World.setCell (World.setCell W15 _ _) _ _ = W16
    clear x0 x1 q0 q1 r0 r1
    clear rf0 rf1
    have X16 : Hid (DAt W16 w.heap.size c (n : Int)) := by rw [← hW]; exact dAt_other _ _ (dAt_other _ _ X15.out (hne _ LX.out)) (hne _ LX.out)
    have A16 : Hid (DAt W16 ia pc ps) := by rw [← hW]; exact dAt_other _ _ (dAt_other _ _ A15.out (hne _ LA.out)) (hne _ LA.out)
    have E16 : Hid (DAt W16 ie qc qs) := by rw [← hW]; exact dAt_other _ _ (dAt_other _ _ E15.out (hne _ LE.out)) (hne _ LE.out)
    have F16 : Hid (DAt W16 jf qc qs) := by rw [← hW]; exact dAt_other _ _ (dAt_other _ _ F15.out (hne _ LF.out)) (hne _ LF.out)
    have G16 : Hid (DAt W16 ig 0 0) := by rw [← hW]; exact dAt_other _ _ (dAt_other _ _ G15.out (hne _ LG.out)) (hne _ LG.out)
    have P16 : Hid (DAt W16 ip pc ps) := by rw [← hW]; exact dAt_other _ _ (dAt_other _ _ P15.out (hne _ LP.out)) (hne _ LP.out)
    have Q16 : Hid (DAt W16 iq qc qs) := by rw [← hW]; exact dAt_other _ _ (dAt_other _ _ Q15.out (hne _ LQ.out)) (hne _ LQ.out)
    have R16 : Hid (DAt W16 ir qc qs) := by rw [← hW]; exact dAt_set2 _ _ R15.out
    have B16 : Hid (Below w.heap.size w W16) := by rw [← hW]; exact (B15.out.setCell LB.out _).setCell LB.out _
    clear hW
    clear X15 A15 E15 F15 G15 P15 Q15 R15  B15
    have a0 := A16.out.c0
    have a1 := A16.out.c1
    have e0 := E16.out.c0
    have e1 := E16.out.c1
    have f0 := F16.out.c0
    have f1 := F16.out.c1
    have g0 := G16.out.c0
    have g1 := G16.out.c1
    have p0 := P16.out.c0
    have p1 := P16.out.c1
    have q0 := Q16.out.c0
    have q1 := Q16.out.c1
    have r0 := R16.out.c0
    have r1 := R16.out.c1
    go_wp2_with fail
    refine (dknown_any _).mono ?_
    rintro e w20 ⟨rfl, b2⟩
    have B20 := bt B16.out b2; clear b2
    go_wp2_with fail
    go_ret
    exact ⟨rfl, B20⟩

set_option maxRecDepth 100000 in
set_option maxHeartbeats 8000000 in
theorem decOne_pos_ok (c : Int) (n : Nat) (k : Nat) (m : Int) (w : World) (hc : fits c) (hn : n ≤ 9) (hneg : ¬ c < 0) (hk : k ≤ 9) :
    Calls Try.prog 6 #[.agg #[.int .i64 c, .int .i64 (n : Int)], .int .i64 (k : Int), .int .i64 m] w fun e w' => e = .returned (.bool true) ∧ Below w.heap.size w w' := by
  have hs : isB (n : Int) = true := by unfold isB; simp; omega
  have HIS := Lib.hid hs
  obtain ⟨mb, HMB⟩ : ∃ b, Hid (mayB c (n : Int) = b) := ⟨_, rfl⟩
  obtain ⟨pc, ps, pe, hdp⟩ := decV_form c n
  obtain ⟨qc, qs, qe, hdq⟩ := decV_form (un 0 0 - un c n) 9
  have hp : Hid (putV c (n : Int) = .tuple #[.agg #[.int .i64 pc, .int .i64 ps], .int .i64 pe]) := by show _ = _; unfold putV; rw [hs, if_pos rfl, show ((n : Nat) : Int).toNat = n from rfl, decV_un c n hn, hdp]
  have hng : Hid (negV c (n : Int) = .tuple #[.agg #[.int .i64 qc, .int .i64 qs], .int .i64 qe]) := by show _ = _; unfold negV ansV; rw [hs, if_pos (by rfl), show ((n : Nat) : Int).toNat = n from rfl, hdq]
  have ha : Hid (absV c (n : Int) = .tuple #[.agg #[.int .i64 pc, .int .i64 ps], .int .i64 pe]) := by show _ = _; unfold absV; rw [if_neg hneg]; exact hp.out
  have dn : decide (c < 0) = false := by simpa using hneg
  have ht : isB (k : Int) = true := by unfold isB; simp; omega
  obtain ⟨rc, rs, re, hdr⟩ := decV_form (evenZ (un c n) (10 ^ (9 - k))) k
  have hr : Hid (roundV c (n : Int) (k : Int) = .tuple #[.agg #[.int .i64 rc, .int .i64 rs], .int .i64 re]) := by show _ = _; unfold roundV; rw [hs, ht, if_pos (by rfl), show ((n : Nat) : Int).toNat = n from rfl, show ((k : Nat) : Int).toNat = k from rfl, hdr]
  have HDR := Lib.hid hdr; have k1 : ¬ ((k : Int) < 0) := by omega
  have k2 : ¬ (9 < k) := by omega
  have HDP := Lib.hid hdp; have HDQ := Lib.hid hdq
  have HF : Hid (fits c ∧ n ≤ 9 ∧ k ≤ 9) := ⟨hc, hn, hk⟩; clear hc hs hn hdp hdq hdr ht hk
  go_enter Try.func6, Try.ntmps6
  go_upto_region 1 with fail
  have X0 := Lib.hid (dAt_new w c (n : Int)); have B0 := Lib.hid (ba w (.cells #[.int .i64 c, .int .i64 (n : Int)] 59))
  generalize World.alloc w _ = w0 at X0 B0 ⊢
  have x0 := X0.out.c0
  have x1 := X0.out.c1
  go_wp2_with fail
  refine (dPut_any c (n : Int) _ _ HF.out.1 hp.out).mono ?_
  rintro e w1 ⟨rfl, b2⟩
  have X1 := Lib.hid (DAt.below X0.out b2)
  have B1 := Lib.hid (bt B0.out b2)
  clear x0 x1
  clear b2
  clear X0  B0
  go_upto_region 2 with fail
  generalize hW : World.alloc w1 _ = W2
  obtain ⟨ia, hiia⟩ : ∃ x, Hid (w1.heap.size = x) := ⟨_, rfl⟩
  have A2 : Hid (DAt W2 ia pc ps) := by rw [← hW, ← hiia.out]; exact dAt_new _ _ _
  have bW : Below w1.heap.size w1 W2 := by rw [← hW]; exact ba _ _
  rw [hiia.out]; clear hW
  have X2 := Lib.hid (DAt.below X1.out bW)
  have B2 := Lib.hid (bt B1.out bW)
  clear bW hiia
  clear X1  B1
  obtain ⟨w2, hw2⟩ : ∃ x, x = W2 := ⟨_, rfl⟩; subst hw2
  have x0 := X2.out.c0
  have x1 := X2.out.c1
  go_wp2_with fail
  refine (dNeg_any c (n : Int) _ _ HF.out.1 hng.out).mono ?_
  rintro e w3 ⟨rfl, b2⟩
  have X3 := Lib.hid (DAt.below X2.out b2)
  have A3 := Lib.hid (DAt.below A2.out b2)
  have B3 := Lib.hid (bt B2.out b2)
  clear x0 x1
  clear b2
  clear X2 A2  B2
  go_upto_region 3 with fail
  generalize hW : World.alloc w3 _ = W4
  obtain ⟨ie, hiie⟩ : ∃ x, Hid (w3.heap.size = x) := ⟨_, rfl⟩
  have E4 : Hid (DAt W4 ie qc qs) := by rw [← hW, ← hiie.out]; exact dAt_new _ _ _
  have bW : Below w3.heap.size w3 W4 := by rw [← hW]; exact ba _ _
  rw [hiie.out]; clear hW
  have X4 := Lib.hid (DAt.below X3.out bW)
  have A4 := Lib.hid (DAt.below A3.out bW)
  have B4 := Lib.hid (bt B3.out bW)
  clear bW hiie
  clear X3 A3  B3
  obtain ⟨w4, hw2⟩ : ∃ x, x = W4 := ⟨_, rfl⟩; subst hw2
  have x0 := X4.out.c0
  have x1 := X4.out.c1
  go_wp2_with fail
  refine (dAbs_any c (n : Int) _ _ HF.out.1 ha.out).mono ?_
  rintro e w5 ⟨rfl, b2⟩
  have X5 := Lib.hid (DAt.below X4.out b2)
  have A5 := Lib.hid (DAt.below A4.out b2)
  have E5 := Lib.hid (DAt.below E4.out b2)
  have B5 := Lib.hid (bt B4.out b2)
  clear x0 x1
  clear b2
  clear X4 A4 E4  B4
  go_upto_region 4 with fail
  generalize hW : World.alloc w5 _ = W6
  obtain ⟨jf, hijf⟩ : ∃ x, Hid (w5.heap.size = x) := ⟨_, rfl⟩
  have F6 : Hid (DAt W6 jf pc ps) := by rw [← hW, ← hijf.out]; exact dAt_new _ _ _
  have bW : Below w5.heap.size w5 W6 := by rw [← hW]; exact ba _ _
  rw [hijf.out]; clear hW
  have X6 := Lib.hid (DAt.below X5.out bW)
  have A6 := Lib.hid (DAt.below A5.out bW)
  have E6 := Lib.hid (DAt.below E5.out bW)
  have B6 := Lib.hid (bt B5.out bW)
  clear bW hijf
  clear X5 A5 E5  B5
  obtain ⟨w6, hw2⟩ : ∃ x, x = W6 := ⟨_, rfl⟩; subst hw2
  have x0 := X6.out.c0
  have x1 := X6.out.c1
  go_wp2_with fail
  refine (dRound_any c (n : Int) (k : Int) _ _ HF.out.1 hr.out).mono ?_
  rintro e w7 ⟨rfl, b2⟩
  have X7 := Lib.hid (DAt.below X6.out b2)
  have A7 := Lib.hid (DAt.below A6.out b2)
  have E7 := Lib.hid (DAt.below E6.out b2)
  have F7 := Lib.hid (DAt.below F6.out b2)
  have B7 := Lib.hid (bt B6.out b2)
  clear x0 x1
  clear b2
  clear X6 A6 E6 F6  B6
  go_upto_region 5 with fail
  generalize hW : World.alloc w7 _ = W8
  obtain ⟨ig, hiig⟩ : ∃ x, Hid (w7.heap.size = x) := ⟨_, rfl⟩
  have G8 : Hid (DAt W8 ig rc rs) := by rw [← hW, ← hiig.out]; exact dAt_new _ _ _
  have bW : Below w7.heap.size w7 W8 := by rw [← hW]; exact ba _ _
  rw [hiig.out]; clear hW
  have X8 := Lib.hid (DAt.below X7.out bW)
  have A8 := Lib.hid (DAt.below A7.out bW)
  have E8 := Lib.hid (DAt.below E7.out bW)
  have F8 := Lib.hid (DAt.below F7.out bW)
  have B8 := Lib.hid (bt B7.out bW)
  clear bW hiig
  clear X7 A7 E7 F7  B7
  obtain ⟨w8, hw2⟩ : ∃ x, x = W8 := ⟨_, rfl⟩; subst hw2
  have HS0 : (fun w' : World => w'.cell? ⟨w.heap.size, 0, none⟩ = some (.int .i64 c) ∧ w'.cell? ⟨w.heap.size, 1, none⟩ = some (.int .i64 (n : Int))) w8.drew := ⟨(DAt.below X8.out ((Below.refl _ _).drew)).c0, (DAt.below X8.out ((Below.refl _ _).drew)).c1⟩
  go_region_held3 (fun w' => w'.cell? ⟨w.heap.size, 0, none⟩ = some (.int .i64 c) ∧ w'.cell? ⟨w.heap.size, 1, none⟩ = some (.int .i64 (n : Int)))
    (first | with_reducible exact HS0 | with_reducible assumption)
    (first
      | (go_at_call 38; (with_reducible refine (dMay_c c _ mb _ HF.out.1 HMB.out).mono ?_); rintro e w20 ⟨rfl, b20⟩; have T20 : Hid (Below w8.heap.size w8 w20) := bt ((Below.refl _ _).drew) b20; have HS20 : w20.cell? ⟨w.heap.size, 0, none⟩ = some (.int .i64 c) ∧ w20.cell? ⟨w.heap.size, 1, none⟩ = some (.int .i64 (n : Int)) := ⟨(DAt.below X8.out T20.out).c0, (DAt.below X8.out T20.out).c1⟩; clear b20)
      | (go_at_call 39; (with_reducible refine (rMay_c c _ mb _ HF.out.1 HMB.out).mono ?_); rintro e w21 ⟨rfl, b21⟩; have T21 : Hid (Below w8.heap.size w8 w21) := bt T20.out b21; have HS21 : w21.cell? ⟨w.heap.size, 0, none⟩ = some (.int .i64 c) ∧ w21.cell? ⟨w.heap.size, 1, none⟩ = some (.int .i64 (n : Int)) := ⟨(DAt.below X8.out T21.out).c0, (DAt.below X8.out T21.out).c1⟩; clear b21)
      | (go_at_call 40; (with_reducible refine (dOf_any m _).mono ?_); rintro e w22 ⟨rfl, b22⟩; have T22 : Hid (Below w8.heap.size w8 w22) := bt T21.out b22; have HS22 : w22.cell? ⟨w.heap.size, 0, none⟩ = some (.int .i64 c) ∧ w22.cell? ⟨w.heap.size, 1, none⟩ = some (.int .i64 (n : Int)) := ⟨(DAt.below X8.out T22.out).c0, (DAt.below X8.out T22.out).c1⟩; clear b22))
  all_goals
    have X9 := Lib.hid (DAt.below X8.out T22.out)
    have A9 := Lib.hid (DAt.below A8.out T22.out)
    have E9 := Lib.hid (DAt.below E8.out T22.out)
    have F9 := Lib.hid (DAt.below F8.out T22.out)
    have G9 := Lib.hid (DAt.below G8.out T22.out)
    have B9 := Lib.hid (bt B8.out T22.out)
    clear HS0 HS20 T20 HS21 T21 HS22
    clear X8 A8 E8 F8 G8  B8
    clear T22
    go_upto_region 7 with fail
    obtain ⟨w9, hw2⟩ : ∃ x, x = w22 := ⟨_, rfl⟩; subst hw2
    have x0 := X9.out.c0
    have x1 := X9.out.c1
    go_wp2_with fail
    refine (rIs_any c (n : Int) _).mono ?_
    rintro e w10 ⟨rfl, b2⟩
    have X10 := Lib.hid (DAt.below X9.out b2)
    have A10 := Lib.hid (DAt.below A9.out b2)
    have E10 := Lib.hid (DAt.below E9.out b2)
    have F10 := Lib.hid (DAt.below F9.out b2)
    have G10 := Lib.hid (DAt.below G9.out b2)
    have B10 := Lib.hid (bt B9.out b2)
    clear x0 x1
    clear b2
    clear X9 A9 E9 F9 G9  B9
    rw [HIS.out]
    have x0 := X10.out.c0
    have x1 := X10.out.c1
    go_wp2_with fail
    refine (rPut_any c n _ _ HF.out.1 HF.out.2.1 HDP.out).mono ?_
    rintro e w11 ⟨rfl, b2⟩
    have X11 := Lib.hid (DAt.below X10.out b2)
    have A11 := Lib.hid (DAt.below A10.out b2)
    have E11 := Lib.hid (DAt.below E10.out b2)
    have F11 := Lib.hid (DAt.below F10.out b2)
    have G11 := Lib.hid (DAt.below G10.out b2)
    have B11 := Lib.hid (bt B10.out b2)
    clear x0 x1
    clear b2
    clear X10 A10 E10 F10 G10  B10
    go_upto_region 11 with fail
    generalize hW : World.alloc w11 _ = W12
    obtain ⟨ip, hiip⟩ : ∃ x, Hid (w11.heap.size = x) := ⟨_, rfl⟩
    have P12 : Hid (DAt W12 ip pc ps) := by rw [← hW, ← hiip.out]; exact dAt_new _ _ _
    have bW : Below w11.heap.size w11 W12 := by rw [← hW]; exact ba _ _
    rw [hiip.out]; clear hW
    have X12 := Lib.hid (DAt.below X11.out bW)
    have A12 := Lib.hid (DAt.below A11.out bW)
    have E12 := Lib.hid (DAt.below E11.out bW)
    have F12 := Lib.hid (DAt.below F11.out bW)
    have G12 := Lib.hid (DAt.below G11.out bW)
    have B12 := Lib.hid (bt B11.out bW)
    clear bW hiip
    clear X11 A11 E11 F11 G11  B11
    obtain ⟨w12, hw2⟩ : ∃ x, x = W12 := ⟨_, rfl⟩; subst hw2
    have x0 := X12.out.c0
    have x1 := X12.out.c1
    go_wp2_with fail
    refine (rSub0_any c n _ _ HF.out.1 HF.out.2.1 HDQ.out).mono ?_
    rintro e w13 ⟨rfl, b2⟩
    have X13 := Lib.hid (DAt.below X12.out b2)
    have A13 := Lib.hid (DAt.below A12.out b2)
    have E13 := Lib.hid (DAt.below E12.out b2)
    have F13 := Lib.hid (DAt.below F12.out b2)
    have G13 := Lib.hid (DAt.below G12.out b2)
    have P13 := Lib.hid (DAt.below P12.out b2)
    have B13 := Lib.hid (bt B12.out b2)
    clear x0 x1
    clear b2
    clear X12 A12 E12 F12 G12 P12  B12
    go_upto_region 12 with fail
    generalize hW : World.alloc w13 _ = W14
    obtain ⟨iq, hiiq⟩ : ∃ x, Hid (w13.heap.size = x) := ⟨_, rfl⟩
    have Q14 : Hid (DAt W14 iq qc qs) := by rw [← hW, ← hiiq.out]; exact dAt_new _ _ _
    have bW : Below w13.heap.size w13 W14 := by rw [← hW]; exact ba _ _
    rw [hiiq.out]; clear hW
    have X14 := Lib.hid (DAt.below X13.out bW)
    have A14 := Lib.hid (DAt.below A13.out bW)
    have E14 := Lib.hid (DAt.below E13.out bW)
    have F14 := Lib.hid (DAt.below F13.out bW)
    have G14 := Lib.hid (DAt.below G13.out bW)
    have P14 := Lib.hid (DAt.below P13.out bW)
    have B14 := Lib.hid (bt B13.out bW)
    clear bW hiiq
    clear X13 A13 E13 F13 G13 P13  B13
    obtain ⟨w14, hw2⟩ : ∃ x, x = W14 := ⟨_, rfl⟩; subst hw2
    have p0 := P14.out.c0
    have p1 := P14.out.c1
    go_upto_region 13 with fail
    generalize hW : World.alloc w14 _ = W15
    obtain ⟨ir, hiir⟩ : ∃ x, Hid (w14.heap.size = x) := ⟨_, rfl⟩
    have R15 : Hid (DAt W15 ir pc ps) := by rw [← hW, ← hiir.out]; exact dAt_new _ _ _
    have bW : Below w14.heap.size w14 W15 := by rw [← hW]; exact ba _ _
    rw [hiir.out]; clear hW
    have X15 := Lib.hid (DAt.below X14.out bW)
    have A15 := Lib.hid (DAt.below A14.out bW)
    have E15 := Lib.hid (DAt.below E14.out bW)
    have F15 := Lib.hid (DAt.below F14.out bW)
    have G15 := Lib.hid (DAt.below G14.out bW)
    have P15 := Lib.hid (DAt.below P14.out bW)
    have Q15 := Lib.hid (DAt.below Q14.out bW)
    have B15 := Lib.hid (bt B14.out bW)
    clear bW hiir
    clear X14 A14 E14 F14 G14 P14 Q14  B14
    clear p0 p1
    have x0 := X15.out.c0
    have x1 := X15.out.c1
    go_upto_region 15 with fail
    clear x0 x1
    have a0 := A15.out.c0
    have a1 := A15.out.c1
    have e0 := E15.out.c0
    have e1 := E15.out.c1
    have f0 := F15.out.c0
    have f1 := F15.out.c1
    have g0 := G15.out.c0
    have g1 := G15.out.c1
    have p0 := P15.out.c0
    have p1 := P15.out.c1
    have q0 := Q15.out.c0
    have q1 := Q15.out.c1
    have r0 := R15.out.c0
    have r1 := R15.out.c1
    have x0 := X15.out.c0
    have x1 := X15.out.c1
    go_wp2_with fail
    refine (rRound_any c n k _ _ HF.out.1 HF.out.2.1 HF.out.2.2 HDR.out).mono ?_
    rintro e w17 ⟨rfl, b2⟩
    have X17 := Lib.hid (DAt.below X15.out b2)
    have A17 := Lib.hid (DAt.below A15.out b2)
    have E17 := Lib.hid (DAt.below E15.out b2)
    have F17 := Lib.hid (DAt.below F15.out b2)
    have G17 := Lib.hid (DAt.below G15.out b2)
    have P17 := Lib.hid (DAt.below P15.out b2)
    have Q17 := Lib.hid (DAt.below Q15.out b2)
    have R17 := Lib.hid (DAt.below R15.out b2)
    have B17 := Lib.hid (bt B15.out b2)
    clear a0 a1 e0 e1 f0 f1 g0 g1 p0 p1 q0 q1 r0 r1 x0 x1
    clear b2
    clear X15 A15 E15 F15 G15 P15 Q15 R15  B15
    go_upto_region 20 with fail
    generalize hW : World.alloc w17 _ = W18
    obtain ⟨iz, hiiz⟩ : ∃ x, Hid (w17.heap.size = x) := ⟨_, rfl⟩
    have Z18 : Hid (DAt W18 iz rc rs) := by rw [← hW, ← hiiz.out]; exact dAt_new _ _ _
    have bW : Below w17.heap.size w17 W18 := by rw [← hW]; exact ba _ _
    rw [hiiz.out]; clear hW
    have X18 := Lib.hid (DAt.below X17.out bW)
    have A18 := Lib.hid (DAt.below A17.out bW)
    have E18 := Lib.hid (DAt.below E17.out bW)
    have F18 := Lib.hid (DAt.below F17.out bW)
    have G18 := Lib.hid (DAt.below G17.out bW)
    have P18 := Lib.hid (DAt.below P17.out bW)
    have Q18 := Lib.hid (DAt.below Q17.out bW)
    have R18 := Lib.hid (DAt.below R17.out bW)
    have B18 := Lib.hid (bt B17.out bW)
    clear bW hiiz
    clear X17 A17 E17 F17 G17 P17 Q17 R17  B17
    have g0 := G18.out.c0
    have g1 := G18.out.c1
    have z0 := Z18.out.c0
    have z1 := Z18.out.c1
    go_wp2_with fail
    refine (dknown_any _).mono ?_
    rintro e w20 ⟨rfl, b2⟩
    have B20 := bt B18.out b2; clear b2
    go_wp2_with fail
    go_ret
    exact ⟨rfl, B20⟩

set_option maxRecDepth 100000 in
set_option maxHeartbeats 8000000 in
theorem decOne_pos_low (c : Int) (n : Nat) (t : Int) (m : Int) (w : World) (hc : fits c) (hn : n ≤ 9) (hneg : ¬ c < 0) (ht : t < 0) :
    Calls Try.prog 6 #[.agg #[.int .i64 c, .int .i64 (n : Int)], .int .i64 t, .int .i64 m] w fun e w' => e = .returned (.bool true) ∧ Below w.heap.size w w' := by
  have hs : isB (n : Int) = true := by unfold isB; simp; omega
  have HIS := Lib.hid hs
  obtain ⟨mb, HMB⟩ : ∃ b, Hid (mayB c (n : Int) = b) := ⟨_, rfl⟩
  obtain ⟨pc, ps, pe, hdp⟩ := decV_form c n
  obtain ⟨qc, qs, qe, hdq⟩ := decV_form (un 0 0 - un c n) 9
  have hp : Hid (putV c (n : Int) = .tuple #[.agg #[.int .i64 pc, .int .i64 ps], .int .i64 pe]) := by show _ = _; unfold putV; rw [hs, if_pos rfl, show ((n : Nat) : Int).toNat = n from rfl, decV_un c n hn, hdp]
  have hng : Hid (negV c (n : Int) = .tuple #[.agg #[.int .i64 qc, .int .i64 qs], .int .i64 qe]) := by show _ = _; unfold negV ansV; rw [hs, if_pos (by rfl), show ((n : Nat) : Int).toNat = n from rfl, hdq]
  have ha : Hid (absV c (n : Int) = .tuple #[.agg #[.int .i64 pc, .int .i64 ps], .int .i64 pe]) := by show _ = _; unfold absV; rw [if_neg hneg]; exact hp.out
  have dn : decide (c < 0) = false := by simpa using hneg
  have htb : isB t = false := by unfold isB; simp; omega
  have hr : Hid (roundV c (n : Int) t = noneV 2) := by show _ = _; unfold roundV; rw [htb, if_neg (by simp)]
  unfold noneV at hr
  have k1 : decide (t < 0) = true := by simpa using ht
  clear htb ht
  have HDP := Lib.hid hdp; have HDQ := Lib.hid hdq
  have HF : Hid (fits c ∧ n ≤ 9) := ⟨hc, hn⟩; clear hc hs hn hdp hdq
  go_enter Try.func6, Try.ntmps6
  go_upto_region 1 with fail
  have X0 := Lib.hid (dAt_new w c (n : Int)); have B0 := Lib.hid (ba w (.cells #[.int .i64 c, .int .i64 (n : Int)] 59))
  generalize World.alloc w _ = w0 at X0 B0 ⊢
  have x0 := X0.out.c0
  have x1 := X0.out.c1
  go_wp2_with fail
  refine (dPut_any c (n : Int) _ _ HF.out.1 hp.out).mono ?_
  rintro e w1 ⟨rfl, b2⟩
  have X1 := Lib.hid (DAt.below X0.out b2)
  have B1 := Lib.hid (bt B0.out b2)
  clear x0 x1
  clear b2
  clear X0  B0
  go_upto_region 2 with fail
  generalize hW : World.alloc w1 _ = W2
  obtain ⟨ia, hiia⟩ : ∃ x, Hid (w1.heap.size = x) := ⟨_, rfl⟩
  have A2 : Hid (DAt W2 ia pc ps) := by rw [← hW, ← hiia.out]; exact dAt_new _ _ _
  have bW : Below w1.heap.size w1 W2 := by rw [← hW]; exact ba _ _
  rw [hiia.out]; clear hW
  have X2 := Lib.hid (DAt.below X1.out bW)
  have B2 := Lib.hid (bt B1.out bW)
  clear bW hiia
  clear X1  B1
  obtain ⟨w2, hw2⟩ : ∃ x, x = W2 := ⟨_, rfl⟩; subst hw2
  have x0 := X2.out.c0
  have x1 := X2.out.c1
  go_wp2_with fail
  refine (dNeg_any c (n : Int) _ _ HF.out.1 hng.out).mono ?_
  rintro e w3 ⟨rfl, b2⟩
  have X3 := Lib.hid (DAt.below X2.out b2)
  have A3 := Lib.hid (DAt.below A2.out b2)
  have B3 := Lib.hid (bt B2.out b2)
  clear x0 x1
  clear b2
  clear X2 A2  B2
  go_upto_region 3 with fail
  generalize hW : World.alloc w3 _ = W4
  obtain ⟨ie, hiie⟩ : ∃ x, Hid (w3.heap.size = x) := ⟨_, rfl⟩
  have E4 : Hid (DAt W4 ie qc qs) := by rw [← hW, ← hiie.out]; exact dAt_new _ _ _
  have bW : Below w3.heap.size w3 W4 := by rw [← hW]; exact ba _ _
  rw [hiie.out]; clear hW
  have X4 := Lib.hid (DAt.below X3.out bW)
  have A4 := Lib.hid (DAt.below A3.out bW)
  have B4 := Lib.hid (bt B3.out bW)
  clear bW hiie
  clear X3 A3  B3
  obtain ⟨w4, hw2⟩ : ∃ x, x = W4 := ⟨_, rfl⟩; subst hw2
  have x0 := X4.out.c0
  have x1 := X4.out.c1
  go_wp2_with fail
  refine (dAbs_any c (n : Int) _ _ HF.out.1 ha.out).mono ?_
  rintro e w5 ⟨rfl, b2⟩
  have X5 := Lib.hid (DAt.below X4.out b2)
  have A5 := Lib.hid (DAt.below A4.out b2)
  have E5 := Lib.hid (DAt.below E4.out b2)
  have B5 := Lib.hid (bt B4.out b2)
  clear x0 x1
  clear b2
  clear X4 A4 E4  B4
  go_upto_region 4 with fail
  generalize hW : World.alloc w5 _ = W6
  obtain ⟨jf, hijf⟩ : ∃ x, Hid (w5.heap.size = x) := ⟨_, rfl⟩
  have F6 : Hid (DAt W6 jf pc ps) := by rw [← hW, ← hijf.out]; exact dAt_new _ _ _
  have bW : Below w5.heap.size w5 W6 := by rw [← hW]; exact ba _ _
  rw [hijf.out]; clear hW
  have X6 := Lib.hid (DAt.below X5.out bW)
  have A6 := Lib.hid (DAt.below A5.out bW)
  have E6 := Lib.hid (DAt.below E5.out bW)
  have B6 := Lib.hid (bt B5.out bW)
  clear bW hijf
  clear X5 A5 E5  B5
  obtain ⟨w6, hw2⟩ : ∃ x, x = W6 := ⟨_, rfl⟩; subst hw2
  have x0 := X6.out.c0
  have x1 := X6.out.c1
  go_wp2_with fail
  refine (dRound_any c (n : Int) t _ _ HF.out.1 hr.out).mono ?_
  rintro e w7 ⟨rfl, b2⟩
  have X7 := Lib.hid (DAt.below X6.out b2)
  have A7 := Lib.hid (DAt.below A6.out b2)
  have E7 := Lib.hid (DAt.below E6.out b2)
  have F7 := Lib.hid (DAt.below F6.out b2)
  have B7 := Lib.hid (bt B6.out b2)
  clear x0 x1
  clear b2
  clear X6 A6 E6 F6  B6
  go_upto_region 5 with fail
  generalize hW : World.alloc w7 _ = W8
  obtain ⟨ig, hiig⟩ : ∃ x, Hid (w7.heap.size = x) := ⟨_, rfl⟩
  have G8 : Hid (DAt W8 ig 0 0) := by rw [← hW, ← hiig.out]; exact dAt_new _ _ _
  have bW : Below w7.heap.size w7 W8 := by rw [← hW]; exact ba _ _
  rw [hiig.out]; clear hW
  have X8 := Lib.hid (DAt.below X7.out bW)
  have A8 := Lib.hid (DAt.below A7.out bW)
  have E8 := Lib.hid (DAt.below E7.out bW)
  have F8 := Lib.hid (DAt.below F7.out bW)
  have B8 := Lib.hid (bt B7.out bW)
  clear bW hiig
  clear X7 A7 E7 F7  B7
  obtain ⟨w8, hw2⟩ : ∃ x, x = W8 := ⟨_, rfl⟩; subst hw2
  have HS0 : (fun w' : World => w'.cell? ⟨w.heap.size, 0, none⟩ = some (.int .i64 c) ∧ w'.cell? ⟨w.heap.size, 1, none⟩ = some (.int .i64 (n : Int))) w8.drew := ⟨(DAt.below X8.out ((Below.refl _ _).drew)).c0, (DAt.below X8.out ((Below.refl _ _).drew)).c1⟩
  go_region_held3 (fun w' => w'.cell? ⟨w.heap.size, 0, none⟩ = some (.int .i64 c) ∧ w'.cell? ⟨w.heap.size, 1, none⟩ = some (.int .i64 (n : Int)))
    (first | with_reducible exact HS0 | with_reducible assumption)
    (first
      | (go_at_call 38; (with_reducible refine (dMay_c c _ mb _ HF.out.1 HMB.out).mono ?_); rintro e w20 ⟨rfl, b20⟩; have T20 : Hid (Below w8.heap.size w8 w20) := bt ((Below.refl _ _).drew) b20; have HS20 : w20.cell? ⟨w.heap.size, 0, none⟩ = some (.int .i64 c) ∧ w20.cell? ⟨w.heap.size, 1, none⟩ = some (.int .i64 (n : Int)) := ⟨(DAt.below X8.out T20.out).c0, (DAt.below X8.out T20.out).c1⟩; clear b20)
      | (go_at_call 39; (with_reducible refine (rMay_c c _ mb _ HF.out.1 HMB.out).mono ?_); rintro e w21 ⟨rfl, b21⟩; have T21 : Hid (Below w8.heap.size w8 w21) := bt T20.out b21; have HS21 : w21.cell? ⟨w.heap.size, 0, none⟩ = some (.int .i64 c) ∧ w21.cell? ⟨w.heap.size, 1, none⟩ = some (.int .i64 (n : Int)) := ⟨(DAt.below X8.out T21.out).c0, (DAt.below X8.out T21.out).c1⟩; clear b21)
      | (go_at_call 40; (with_reducible refine (dOf_any m _).mono ?_); rintro e w22 ⟨rfl, b22⟩; have T22 : Hid (Below w8.heap.size w8 w22) := bt T21.out b22; have HS22 : w22.cell? ⟨w.heap.size, 0, none⟩ = some (.int .i64 c) ∧ w22.cell? ⟨w.heap.size, 1, none⟩ = some (.int .i64 (n : Int)) := ⟨(DAt.below X8.out T22.out).c0, (DAt.below X8.out T22.out).c1⟩; clear b22))
  all_goals
    have X9 := Lib.hid (DAt.below X8.out T22.out)
    have A9 := Lib.hid (DAt.below A8.out T22.out)
    have E9 := Lib.hid (DAt.below E8.out T22.out)
    have F9 := Lib.hid (DAt.below F8.out T22.out)
    have G9 := Lib.hid (DAt.below G8.out T22.out)
    have B9 := Lib.hid (bt B8.out T22.out)
    clear HS0 HS20 T20 HS21 T21 HS22
    clear X8 A8 E8 F8 G8  B8
    clear T22
    go_upto_region 7 with fail
    obtain ⟨w9, hw2⟩ : ∃ x, x = w22 := ⟨_, rfl⟩; subst hw2
    have x0 := X9.out.c0
    have x1 := X9.out.c1
    go_wp2_with fail
    refine (rIs_any c (n : Int) _).mono ?_
    rintro e w10 ⟨rfl, b2⟩
    have X10 := Lib.hid (DAt.below X9.out b2)
    have A10 := Lib.hid (DAt.below A9.out b2)
    have E10 := Lib.hid (DAt.below E9.out b2)
    have F10 := Lib.hid (DAt.below F9.out b2)
    have G10 := Lib.hid (DAt.below G9.out b2)
    have B10 := Lib.hid (bt B9.out b2)
    clear x0 x1
    clear b2
    clear X9 A9 E9 F9 G9  B9
    rw [HIS.out]
    have x0 := X10.out.c0
    have x1 := X10.out.c1
    go_wp2_with fail
    refine (rPut_any c n _ _ HF.out.1 HF.out.2 HDP.out).mono ?_
    rintro e w11 ⟨rfl, b2⟩
    have X11 := Lib.hid (DAt.below X10.out b2)
    have A11 := Lib.hid (DAt.below A10.out b2)
    have E11 := Lib.hid (DAt.below E10.out b2)
    have F11 := Lib.hid (DAt.below F10.out b2)
    have G11 := Lib.hid (DAt.below G10.out b2)
    have B11 := Lib.hid (bt B10.out b2)
    clear x0 x1
    clear b2
    clear X10 A10 E10 F10 G10  B10
    go_upto_region 11 with fail
    generalize hW : World.alloc w11 _ = W12
    obtain ⟨ip, hiip⟩ : ∃ x, Hid (w11.heap.size = x) := ⟨_, rfl⟩
    have P12 : Hid (DAt W12 ip pc ps) := by rw [← hW, ← hiip.out]; exact dAt_new _ _ _
    have bW : Below w11.heap.size w11 W12 := by rw [← hW]; exact ba _ _
    rw [hiip.out]; clear hW
    have X12 := Lib.hid (DAt.below X11.out bW)
    have A12 := Lib.hid (DAt.below A11.out bW)
    have E12 := Lib.hid (DAt.below E11.out bW)
    have F12 := Lib.hid (DAt.below F11.out bW)
    have G12 := Lib.hid (DAt.below G11.out bW)
    have B12 := Lib.hid (bt B11.out bW)
    clear bW hiip
    clear X11 A11 E11 F11 G11  B11
    obtain ⟨w12, hw2⟩ : ∃ x, x = W12 := ⟨_, rfl⟩; subst hw2
    have x0 := X12.out.c0
    have x1 := X12.out.c1
    go_wp2_with fail
    refine (rSub0_any c n _ _ HF.out.1 HF.out.2 HDQ.out).mono ?_
    rintro e w13 ⟨rfl, b2⟩
    have X13 := Lib.hid (DAt.below X12.out b2)
    have A13 := Lib.hid (DAt.below A12.out b2)
    have E13 := Lib.hid (DAt.below E12.out b2)
    have F13 := Lib.hid (DAt.below F12.out b2)
    have G13 := Lib.hid (DAt.below G12.out b2)
    have P13 := Lib.hid (DAt.below P12.out b2)
    have B13 := Lib.hid (bt B12.out b2)
    clear x0 x1
    clear b2
    clear X12 A12 E12 F12 G12 P12  B12
    go_upto_region 12 with fail
    generalize hW : World.alloc w13 _ = W14
    obtain ⟨iq, hiiq⟩ : ∃ x, Hid (w13.heap.size = x) := ⟨_, rfl⟩
    have Q14 : Hid (DAt W14 iq qc qs) := by rw [← hW, ← hiiq.out]; exact dAt_new _ _ _
    have bW : Below w13.heap.size w13 W14 := by rw [← hW]; exact ba _ _
    rw [hiiq.out]; clear hW
    have X14 := Lib.hid (DAt.below X13.out bW)
    have A14 := Lib.hid (DAt.below A13.out bW)
    have E14 := Lib.hid (DAt.below E13.out bW)
    have F14 := Lib.hid (DAt.below F13.out bW)
    have G14 := Lib.hid (DAt.below G13.out bW)
    have P14 := Lib.hid (DAt.below P13.out bW)
    have B14 := Lib.hid (bt B13.out bW)
    clear bW hiiq
    clear X13 A13 E13 F13 G13 P13  B13
    obtain ⟨w14, hw2⟩ : ∃ x, x = W14 := ⟨_, rfl⟩; subst hw2
    have p0 := P14.out.c0
    have p1 := P14.out.c1
    go_upto_region 13 with fail
    generalize hW : World.alloc w14 _ = W15
    obtain ⟨ir, hiir⟩ : ∃ x, Hid (w14.heap.size = x) := ⟨_, rfl⟩
    have R15 : Hid (DAt W15 ir pc ps) := by rw [← hW, ← hiir.out]; exact dAt_new _ _ _
    have bW : Below w14.heap.size w14 W15 := by rw [← hW]; exact ba _ _
    rw [hiir.out]; clear hW
    have X15 := Lib.hid (DAt.below X14.out bW)
    have A15 := Lib.hid (DAt.below A14.out bW)
    have E15 := Lib.hid (DAt.below E14.out bW)
    have F15 := Lib.hid (DAt.below F14.out bW)
    have G15 := Lib.hid (DAt.below G14.out bW)
    have P15 := Lib.hid (DAt.below P14.out bW)
    have Q15 := Lib.hid (DAt.below Q14.out bW)
    have B15 := Lib.hid (bt B14.out bW)
    clear bW hiir
    clear X14 A14 E14 F14 G14 P14 Q14  B14
    clear p0 p1
    have x0 := X15.out.c0
    have x1 := X15.out.c1
    go_upto_region 15 with fail
    clear x0 x1
    have a0 := A15.out.c0
    have a1 := A15.out.c1
    have e0 := E15.out.c0
    have e1 := E15.out.c1
    have f0 := F15.out.c0
    have f1 := F15.out.c1
    have g0 := G15.out.c0
    have g1 := G15.out.c1
    have p0 := P15.out.c0
    have p1 := P15.out.c1
    have q0 := Q15.out.c0
    have q1 := Q15.out.c1
    have r0 := R15.out.c0
    have r1 := R15.out.c1
    go_wp2_with fail
    refine (dknown_any _).mono ?_
    rintro e w20 ⟨rfl, b2⟩
    have B20 := bt B15.out b2; clear b2
    go_wp2_with fail
    go_ret
    exact ⟨rfl, B20⟩

set_option maxRecDepth 100000 in
set_option maxHeartbeats 8000000 in
theorem decOne_pos_high (c : Int) (n : Nat) (t : Int) (m : Int) (w : World) (hc : fits c) (hn : n ≤ 9) (hneg : ¬ c < 0) (ht : 9 < t) :
    Calls Try.prog 6 #[.agg #[.int .i64 c, .int .i64 (n : Int)], .int .i64 t, .int .i64 m] w fun e w' => e = .returned (.bool true) ∧ Below w.heap.size w w' := by
  have hs : isB (n : Int) = true := by unfold isB; simp; omega
  have HIS := Lib.hid hs
  obtain ⟨mb, HMB⟩ : ∃ b, Hid (mayB c (n : Int) = b) := ⟨_, rfl⟩
  obtain ⟨pc, ps, pe, hdp⟩ := decV_form c n
  obtain ⟨qc, qs, qe, hdq⟩ := decV_form (un 0 0 - un c n) 9
  have hp : Hid (putV c (n : Int) = .tuple #[.agg #[.int .i64 pc, .int .i64 ps], .int .i64 pe]) := by show _ = _; unfold putV; rw [hs, if_pos rfl, show ((n : Nat) : Int).toNat = n from rfl, decV_un c n hn, hdp]
  have hng : Hid (negV c (n : Int) = .tuple #[.agg #[.int .i64 qc, .int .i64 qs], .int .i64 qe]) := by show _ = _; unfold negV ansV; rw [hs, if_pos (by rfl), show ((n : Nat) : Int).toNat = n from rfl, hdq]
  have ha : Hid (absV c (n : Int) = .tuple #[.agg #[.int .i64 pc, .int .i64 ps], .int .i64 pe]) := by show _ = _; unfold absV; rw [if_neg hneg]; exact hp.out
  have dn : decide (c < 0) = false := by simpa using hneg
  have htb : isB t = false := by unfold isB; simp; omega
  have hr : Hid (roundV c (n : Int) t = noneV 2) := by show _ = _; unfold roundV; rw [htb, if_neg (by simp)]
  unfold noneV at hr
  have k1 : decide (t < 0) = false := by simp; omega
  have k2 : decide (9 < t) = true := by simpa using ht
  clear htb ht
  have HDP := Lib.hid hdp; have HDQ := Lib.hid hdq
  have HF : Hid (fits c ∧ n ≤ 9) := ⟨hc, hn⟩; clear hc hs hn hdp hdq
  go_enter Try.func6, Try.ntmps6
  go_upto_region 1 with fail
  have X0 := Lib.hid (dAt_new w c (n : Int)); have B0 := Lib.hid (ba w (.cells #[.int .i64 c, .int .i64 (n : Int)] 59))
  generalize World.alloc w _ = w0 at X0 B0 ⊢
  have x0 := X0.out.c0
  have x1 := X0.out.c1
  go_wp2_with fail
  refine (dPut_any c (n : Int) _ _ HF.out.1 hp.out).mono ?_
  rintro e w1 ⟨rfl, b2⟩
  have X1 := Lib.hid (DAt.below X0.out b2)
  have B1 := Lib.hid (bt B0.out b2)
  clear x0 x1
  clear b2
  clear X0  B0
  go_upto_region 2 with fail
  generalize hW : World.alloc w1 _ = W2
  obtain ⟨ia, hiia⟩ : ∃ x, Hid (w1.heap.size = x) := ⟨_, rfl⟩
  have A2 : Hid (DAt W2 ia pc ps) := by rw [← hW, ← hiia.out]; exact dAt_new _ _ _
  have bW : Below w1.heap.size w1 W2 := by rw [← hW]; exact ba _ _
  rw [hiia.out]; clear hW
  have X2 := Lib.hid (DAt.below X1.out bW)
  have B2 := Lib.hid (bt B1.out bW)
  clear bW hiia
  clear X1  B1
  obtain ⟨w2, hw2⟩ : ∃ x, x = W2 := ⟨_, rfl⟩; subst hw2
  have x0 := X2.out.c0
  have x1 := X2.out.c1
  go_wp2_with fail
  refine (dNeg_any c (n : Int) _ _ HF.out.1 hng.out).mono ?_
  rintro e w3 ⟨rfl, b2⟩
  have X3 := Lib.hid (DAt.below X2.out b2)
  have A3 := Lib.hid (DAt.below A2.out b2)
  have B3 := Lib.hid (bt B2.out b2)
  clear x0 x1
  clear b2
  clear X2 A2  B2
  go_upto_region 3 with fail
  generalize hW : World.alloc w3 _ = W4
  obtain ⟨ie, hiie⟩ : ∃ x, Hid (w3.heap.size = x) := ⟨_, rfl⟩
  have E4 : Hid (DAt W4 ie qc qs) := by rw [← hW, ← hiie.out]; exact dAt_new _ _ _
  have bW : Below w3.heap.size w3 W4 := by rw [← hW]; exact ba _ _
  rw [hiie.out]; clear hW
  have X4 := Lib.hid (DAt.below X3.out bW)
  have A4 := Lib.hid (DAt.below A3.out bW)
  have B4 := Lib.hid (bt B3.out bW)
  clear bW hiie
  clear X3 A3  B3
  obtain ⟨w4, hw2⟩ : ∃ x, x = W4 := ⟨_, rfl⟩; subst hw2
  have x0 := X4.out.c0
  have x1 := X4.out.c1
  go_wp2_with fail
  refine (dAbs_any c (n : Int) _ _ HF.out.1 ha.out).mono ?_
  rintro e w5 ⟨rfl, b2⟩
  have X5 := Lib.hid (DAt.below X4.out b2)
  have A5 := Lib.hid (DAt.below A4.out b2)
  have E5 := Lib.hid (DAt.below E4.out b2)
  have B5 := Lib.hid (bt B4.out b2)
  clear x0 x1
  clear b2
  clear X4 A4 E4  B4
  go_upto_region 4 with fail
  generalize hW : World.alloc w5 _ = W6
  obtain ⟨jf, hijf⟩ : ∃ x, Hid (w5.heap.size = x) := ⟨_, rfl⟩
  have F6 : Hid (DAt W6 jf pc ps) := by rw [← hW, ← hijf.out]; exact dAt_new _ _ _
  have bW : Below w5.heap.size w5 W6 := by rw [← hW]; exact ba _ _
  rw [hijf.out]; clear hW
  have X6 := Lib.hid (DAt.below X5.out bW)
  have A6 := Lib.hid (DAt.below A5.out bW)
  have E6 := Lib.hid (DAt.below E5.out bW)
  have B6 := Lib.hid (bt B5.out bW)
  clear bW hijf
  clear X5 A5 E5  B5
  obtain ⟨w6, hw2⟩ : ∃ x, x = W6 := ⟨_, rfl⟩; subst hw2
  have x0 := X6.out.c0
  have x1 := X6.out.c1
  go_wp2_with fail
  refine (dRound_any c (n : Int) t _ _ HF.out.1 hr.out).mono ?_
  rintro e w7 ⟨rfl, b2⟩
  have X7 := Lib.hid (DAt.below X6.out b2)
  have A7 := Lib.hid (DAt.below A6.out b2)
  have E7 := Lib.hid (DAt.below E6.out b2)
  have F7 := Lib.hid (DAt.below F6.out b2)
  have B7 := Lib.hid (bt B6.out b2)
  clear x0 x1
  clear b2
  clear X6 A6 E6 F6  B6
  go_upto_region 5 with fail
  generalize hW : World.alloc w7 _ = W8
  obtain ⟨ig, hiig⟩ : ∃ x, Hid (w7.heap.size = x) := ⟨_, rfl⟩
  have G8 : Hid (DAt W8 ig 0 0) := by rw [← hW, ← hiig.out]; exact dAt_new _ _ _
  have bW : Below w7.heap.size w7 W8 := by rw [← hW]; exact ba _ _
  rw [hiig.out]; clear hW
  have X8 := Lib.hid (DAt.below X7.out bW)
  have A8 := Lib.hid (DAt.below A7.out bW)
  have E8 := Lib.hid (DAt.below E7.out bW)
  have F8 := Lib.hid (DAt.below F7.out bW)
  have B8 := Lib.hid (bt B7.out bW)
  clear bW hiig
  clear X7 A7 E7 F7  B7
  obtain ⟨w8, hw2⟩ : ∃ x, x = W8 := ⟨_, rfl⟩; subst hw2
  have HS0 : (fun w' : World => w'.cell? ⟨w.heap.size, 0, none⟩ = some (.int .i64 c) ∧ w'.cell? ⟨w.heap.size, 1, none⟩ = some (.int .i64 (n : Int))) w8.drew := ⟨(DAt.below X8.out ((Below.refl _ _).drew)).c0, (DAt.below X8.out ((Below.refl _ _).drew)).c1⟩
  go_region_held3 (fun w' => w'.cell? ⟨w.heap.size, 0, none⟩ = some (.int .i64 c) ∧ w'.cell? ⟨w.heap.size, 1, none⟩ = some (.int .i64 (n : Int)))
    (first | with_reducible exact HS0 | with_reducible assumption)
    (first
      | (go_at_call 38; (with_reducible refine (dMay_c c _ mb _ HF.out.1 HMB.out).mono ?_); rintro e w20 ⟨rfl, b20⟩; have T20 : Hid (Below w8.heap.size w8 w20) := bt ((Below.refl _ _).drew) b20; have HS20 : w20.cell? ⟨w.heap.size, 0, none⟩ = some (.int .i64 c) ∧ w20.cell? ⟨w.heap.size, 1, none⟩ = some (.int .i64 (n : Int)) := ⟨(DAt.below X8.out T20.out).c0, (DAt.below X8.out T20.out).c1⟩; clear b20)
      | (go_at_call 39; (with_reducible refine (rMay_c c _ mb _ HF.out.1 HMB.out).mono ?_); rintro e w21 ⟨rfl, b21⟩; have T21 : Hid (Below w8.heap.size w8 w21) := bt T20.out b21; have HS21 : w21.cell? ⟨w.heap.size, 0, none⟩ = some (.int .i64 c) ∧ w21.cell? ⟨w.heap.size, 1, none⟩ = some (.int .i64 (n : Int)) := ⟨(DAt.below X8.out T21.out).c0, (DAt.below X8.out T21.out).c1⟩; clear b21)
      | (go_at_call 40; (with_reducible refine (dOf_any m _).mono ?_); rintro e w22 ⟨rfl, b22⟩; have T22 : Hid (Below w8.heap.size w8 w22) := bt T21.out b22; have HS22 : w22.cell? ⟨w.heap.size, 0, none⟩ = some (.int .i64 c) ∧ w22.cell? ⟨w.heap.size, 1, none⟩ = some (.int .i64 (n : Int)) := ⟨(DAt.below X8.out T22.out).c0, (DAt.below X8.out T22.out).c1⟩; clear b22))
  all_goals
    have X9 := Lib.hid (DAt.below X8.out T22.out)
    have A9 := Lib.hid (DAt.below A8.out T22.out)
    have E9 := Lib.hid (DAt.below E8.out T22.out)
    have F9 := Lib.hid (DAt.below F8.out T22.out)
    have G9 := Lib.hid (DAt.below G8.out T22.out)
    have B9 := Lib.hid (bt B8.out T22.out)
    clear HS0 HS20 T20 HS21 T21 HS22
    clear X8 A8 E8 F8 G8  B8
    clear T22
    go_upto_region 7 with fail
    obtain ⟨w9, hw2⟩ : ∃ x, x = w22 := ⟨_, rfl⟩; subst hw2
    have x0 := X9.out.c0
    have x1 := X9.out.c1
    go_wp2_with fail
    refine (rIs_any c (n : Int) _).mono ?_
    rintro e w10 ⟨rfl, b2⟩
    have X10 := Lib.hid (DAt.below X9.out b2)
    have A10 := Lib.hid (DAt.below A9.out b2)
    have E10 := Lib.hid (DAt.below E9.out b2)
    have F10 := Lib.hid (DAt.below F9.out b2)
    have G10 := Lib.hid (DAt.below G9.out b2)
    have B10 := Lib.hid (bt B9.out b2)
    clear x0 x1
    clear b2
    clear X9 A9 E9 F9 G9  B9
    rw [HIS.out]
    have x0 := X10.out.c0
    have x1 := X10.out.c1
    go_wp2_with fail
    refine (rPut_any c n _ _ HF.out.1 HF.out.2 HDP.out).mono ?_
    rintro e w11 ⟨rfl, b2⟩
    have X11 := Lib.hid (DAt.below X10.out b2)
    have A11 := Lib.hid (DAt.below A10.out b2)
    have E11 := Lib.hid (DAt.below E10.out b2)
    have F11 := Lib.hid (DAt.below F10.out b2)
    have G11 := Lib.hid (DAt.below G10.out b2)
    have B11 := Lib.hid (bt B10.out b2)
    clear x0 x1
    clear b2
    clear X10 A10 E10 F10 G10  B10
    go_upto_region 11 with fail
    generalize hW : World.alloc w11 _ = W12
    obtain ⟨ip, hiip⟩ : ∃ x, Hid (w11.heap.size = x) := ⟨_, rfl⟩
    have P12 : Hid (DAt W12 ip pc ps) := by rw [← hW, ← hiip.out]; exact dAt_new _ _ _
    have bW : Below w11.heap.size w11 W12 := by rw [← hW]; exact ba _ _
    rw [hiip.out]; clear hW
    have X12 := Lib.hid (DAt.below X11.out bW)
    have A12 := Lib.hid (DAt.below A11.out bW)
    have E12 := Lib.hid (DAt.below E11.out bW)
    have F12 := Lib.hid (DAt.below F11.out bW)
    have G12 := Lib.hid (DAt.below G11.out bW)
    have B12 := Lib.hid (bt B11.out bW)
    clear bW hiip
    clear X11 A11 E11 F11 G11  B11
    obtain ⟨w12, hw2⟩ : ∃ x, x = W12 := ⟨_, rfl⟩; subst hw2
    have x0 := X12.out.c0
    have x1 := X12.out.c1
    go_wp2_with fail
    refine (rSub0_any c n _ _ HF.out.1 HF.out.2 HDQ.out).mono ?_
    rintro e w13 ⟨rfl, b2⟩
    have X13 := Lib.hid (DAt.below X12.out b2)
    have A13 := Lib.hid (DAt.below A12.out b2)
    have E13 := Lib.hid (DAt.below E12.out b2)
    have F13 := Lib.hid (DAt.below F12.out b2)
    have G13 := Lib.hid (DAt.below G12.out b2)
    have P13 := Lib.hid (DAt.below P12.out b2)
    have B13 := Lib.hid (bt B12.out b2)
    clear x0 x1
    clear b2
    clear X12 A12 E12 F12 G12 P12  B12
    go_upto_region 12 with fail
    generalize hW : World.alloc w13 _ = W14
    obtain ⟨iq, hiiq⟩ : ∃ x, Hid (w13.heap.size = x) := ⟨_, rfl⟩
    have Q14 : Hid (DAt W14 iq qc qs) := by rw [← hW, ← hiiq.out]; exact dAt_new _ _ _
    have bW : Below w13.heap.size w13 W14 := by rw [← hW]; exact ba _ _
    rw [hiiq.out]; clear hW
    have X14 := Lib.hid (DAt.below X13.out bW)
    have A14 := Lib.hid (DAt.below A13.out bW)
    have E14 := Lib.hid (DAt.below E13.out bW)
    have F14 := Lib.hid (DAt.below F13.out bW)
    have G14 := Lib.hid (DAt.below G13.out bW)
    have P14 := Lib.hid (DAt.below P13.out bW)
    have B14 := Lib.hid (bt B13.out bW)
    clear bW hiiq
    clear X13 A13 E13 F13 G13 P13  B13
    obtain ⟨w14, hw2⟩ : ∃ x, x = W14 := ⟨_, rfl⟩; subst hw2
    have p0 := P14.out.c0
    have p1 := P14.out.c1
    go_upto_region 13 with fail
    generalize hW : World.alloc w14 _ = W15
    obtain ⟨ir, hiir⟩ : ∃ x, Hid (w14.heap.size = x) := ⟨_, rfl⟩
    have R15 : Hid (DAt W15 ir pc ps) := by rw [← hW, ← hiir.out]; exact dAt_new _ _ _
    have bW : Below w14.heap.size w14 W15 := by rw [← hW]; exact ba _ _
    rw [hiir.out]; clear hW
    have X15 := Lib.hid (DAt.below X14.out bW)
    have A15 := Lib.hid (DAt.below A14.out bW)
    have E15 := Lib.hid (DAt.below E14.out bW)
    have F15 := Lib.hid (DAt.below F14.out bW)
    have G15 := Lib.hid (DAt.below G14.out bW)
    have P15 := Lib.hid (DAt.below P14.out bW)
    have Q15 := Lib.hid (DAt.below Q14.out bW)
    have B15 := Lib.hid (bt B14.out bW)
    clear bW hiir
    clear X14 A14 E14 F14 G14 P14 Q14  B14
    clear p0 p1
    have x0 := X15.out.c0
    have x1 := X15.out.c1
    go_upto_region 15 with fail
    clear x0 x1
    have a0 := A15.out.c0
    have a1 := A15.out.c1
    have e0 := E15.out.c0
    have e1 := E15.out.c1
    have f0 := F15.out.c0
    have f1 := F15.out.c1
    have g0 := G15.out.c0
    have g1 := G15.out.c1
    have p0 := P15.out.c0
    have p1 := P15.out.c1
    have q0 := Q15.out.c0
    have q1 := Q15.out.c1
    have r0 := R15.out.c0
    have r1 := R15.out.c1
    go_wp2_with fail
    refine (dknown_any _).mono ?_
    rintro e w20 ⟨rfl, b2⟩
    have B20 := bt B15.out b2; clear b2
    go_wp2_with fail
    go_ret
    exact ⟨rfl, B20⟩

theorem decOne_law (c s t m : Int) (hc : fits c) (w : World) :
    Calls Try.prog 6 #[.agg #[.int .i64 c, .int .i64 s], .int .i64 t, .int .i64 m] w fun e w' => e = .returned (.bool true) ∧ Below w.heap.size w w' := by
  cases hs : isB s with
  | false => exact decOne_bad c s t m w hc hs
  | true =>
    obtain ⟨n, rfl, hn⟩ := isB_nat hs
    by_cases hneg : c < 0
    · by_cases h0 : t < 0
      · exact decOne_neg_low c n t m w hc hn hneg h0
      · by_cases h9 : 9 < t
        · exact decOne_neg_high c n t m w hc hn hneg h9
        · obtain ⟨k, rfl⟩ := Int.eq_ofNat_of_zero_le (show 0 ≤ t by omega)
          exact decOne_neg_ok c n k m w hc hn hneg (by omega)
    · by_cases h0 : t < 0
      · exact decOne_pos_low c n t m w hc hn hneg h0
      · by_cases h9 : 9 < t
        · exact decOne_pos_high c n t m w hc hn hneg h9
        · obtain ⟨k, rfl⟩ := Int.eq_ofNat_of_zero_le (show 0 ≤ t by omega)
          exact decOne_pos_ok c n k m w hc hn hneg (by omega)
theorem decimalOne_law (c s t m : Int) (hc : fits c) (_ : fits s) (_ : (Lit.int .i64 t).wf = true) (_ : (Lit.int .i64 m).wf = true) (w : World) :
    Calls Try.prog 6 #[.agg #[.int .i64 c, .int .i64 s], .int .i64 t, .int .i64 m] w fun e w' => e = .returned (.bool true) ∧ Below w.heap.size w w' := decOne_law c s t m hc w
end Go.Proofs.Ytlbmmnjecemkeaa
