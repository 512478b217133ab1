/-
  THE WALK of corrodylaw01's WideBack.
-/
import Derived.Test.YtlbmmnjecemkeaaWIsW
namespace Go.Proofs.Ytlbmmnjecemkeaa
open Go.RowKit
attribute [local go_sem ↓] Go.wp_at_zero Go.wp_at_succ

theorem IsW.lt {z : Int} {b : Bool} {h l : Nat} (X : IsW z b h l) : z.natAbs < 340282366920938463463374607431768211456 := by rw [← X.v]; exact wz_lt b h l X.h X.l
/-- behind 'b, f := Add(a, Neg(c))' -/
def BackBox (W : World) (b : Bool) (h l : Int) (s9 s10 : Value) (wx : World) : Prop :=
  ∃ i : Nat, s9 = .pointer (some ⟨i, 0, none⟩) ∧ s10 = .int .i64 0 ∧ WAt wx i b h l ∧ Below W.heap.size W wx

set_option maxRecDepth 100000 in
set_option maxHeartbeats 4000000 in
theorem wideBack_walk (n1 n2 : Bool) (h1 l1 h2 l2 d : Nat) (w : World) (b1 : h1 < 18446744073709551616) (b2 : l1 < 18446744073709551616) (b3 : h2 < 18446744073709551616) (b4 : l2 < 18446744073709551616) (hd1 : d < 18446744073709551616) :
    Calls Try.prog 5 #[.agg #[.bool n1, .int .u64 (h1 : Int), .int .u64 (l1 : Int)], .agg #[.bool n2, .int .u64 (h2 : Int), .int .u64 (l2 : Int)], .int .u64 (d : Int)] w fun e w' => e = .returned (.bool true) ∧ Below w.heap.size w w' := by
  obtain ⟨z1, HX⟩ : ∃ z, Hid (IsW z n1 h1 l1) := ⟨_, rfl, b1, b2⟩
  obtain ⟨z2, HY⟩ : ∃ z, Hid (IsW z n2 h2 l2) := ⟨_, rfl, b3, b4⟩
  have HD := Lib.hid hd1
  obtain ⟨sb, sh, sl, se, hs, hsc⟩ := isW_any (z1 + z2)
  clear b1 b2 b3 b4 hd1
  go_enter Try.func5, Try.ntmps5
  go_upto_region 1 with fail
  obtain ⟨X0, Y0⟩ := two_wide w n1 n2 h1 l1 h2 l2
  have X2 := Lib.hid X0; have Y2 := Lib.hid Y0
  have B2 : Hid (Below w.heap.size w ((w.alloc (.cells #[.bool n1, .int .u64 (h1 : Int), .int .u64 (l1 : Int)] 24)).alloc (.cells #[.bool n2, .int .u64 (h2 : Int), .int .u64 (l2 : Int)] 24))) := bt (ba _ _) (ba _ _)
  clear X0 Y0
  generalize World.alloc (World.alloc w _) _ = w2 at X2 Y2 B2 ⊢
  have x0 := X2.out.c0; have x1 := X2.out.c1; have x2 := X2.out.c2
  have y0 := Y2.out.c0; have y1 := Y2.out.c1; have y2 := Y2.out.c2
  go_wp2_with fail
  refine (add_w _ _ HX.out HY.out hs.out).mono ?_
  rintro e w3 ⟨rfl, b2⟩
  have X3 := Lib.hid (WAt.below X2.out b2)
  have Y3 := Lib.hid (WAt.below Y2.out b2)
  have B3 := Lib.hid (bt B2.out b2)
  clear x0 x1 x2
  clear y0 y1 y2
  clear b2
  clear X2 Y2  B2
  go_upto_region 2 with fail
  generalize hW : World.alloc w3 _ = W4
  obtain ⟨is, hiis⟩ : ∃ x, Hid (w3.heap.size = x) := ⟨_, rfl⟩
  have S4 : Hid (WAt W4 is sb sh sl) := by rw [← hW, ← hiis.out]; exact wAt_new _ _ _ _
  have bW : Below w3.heap.size w3 W4 := by rw [← hW]; exact ba _ _
  rw [hiis.out]
  clear hW
  have X4 := Lib.hid (WAt.below X3.out bW)
  have Y4 := Lib.hid (WAt.below Y3.out bW)
  have B4 := Lib.hid (bt B3.out bW)
  clear bW hiis
  clear X3 Y3  B3
  go_upto_if 36 with fail
  go_cut [] (fun wx => Below W4.heap.size W4 wx)
  case first =>
    rcases hsc.out with ⟨he, hI, hr⟩ | he
    ·
      subst he; have HI := Lib.hid hI; clear hI
      obtain ⟨kb, kh, kl, hk, HK⟩ := isW_wv (-z2) (by rw [Int.natAbs_neg]; exact HY.out.lt)
      obtain ⟨cb, ch, cl, hv, HV⟩ := isW_ov (z1 + z2 + -z2) (by rw [show z1 + z2 + -z2 = z1 by omega]; exact HX.out.lt)
      go_upto_region 3 with fail
      go_cut [9, 10] (fun s9 s10 wx => BackBox W4 cb ch cl s9 s10 wx)
      case first =>
        have mkS : ∀ w', Below W4.heap.size W4 w' → (Below W4.heap.size W4 w' ∧ w'.cell? ⟨is, 0, none⟩ = some (.bool sb) ∧ w'.cell? ⟨is, 1, none⟩ = some (.int .u64 (sh : Int)) ∧ w'.cell? ⟨is, 2, none⟩ = some (.int .u64 (sl : Int)) ∧ w'.cell? ⟨w.heap.size + 1, 0, none⟩ = some (.bool n2) ∧ w'.cell? ⟨w.heap.size + 1, 1, none⟩ = some (.int .u64 (h2 : Int)) ∧ w'.cell? ⟨w.heap.size + 1, 2, none⟩ = some (.int .u64 (l2 : Int))) := fun w' hb => ⟨hb, (WAt.below S4.out hb).c0, (WAt.below S4.out hb).c1, (WAt.below S4.out hb).c2, (WAt.below Y4.out hb).c0, (WAt.below Y4.out hb).c1, (WAt.below Y4.out hb).c2⟩
        have HS0 := mkS _ ((Below.refl _ _).drew)
        go_region_held3 (fun w' => Below W4.heap.size W4 w' ∧ w'.cell? ⟨is, 0, none⟩ = some (.bool sb) ∧ w'.cell? ⟨is, 1, none⟩ = some (.int .u64 (sh : Int)) ∧ w'.cell? ⟨is, 2, none⟩ = some (.int .u64 (sl : Int)) ∧ w'.cell? ⟨w.heap.size + 1, 0, none⟩ = some (.bool n2) ∧ w'.cell? ⟨w.heap.size + 1, 1, none⟩ = some (.int .u64 (h2 : Int)) ∧ w'.cell? ⟨w.heap.size + 1, 2, none⟩ = some (.int .u64 (l2 : Int)))
          (first | with_reducible exact HS0 | with_reducible assumption | (refine mkS _ ?_; (repeat (first | with_reducible exact And.left (by with_reducible assumption) | with_reducible exact Below.refl _ _ | refine Below.setCell ?_ (by first | omega | (simp only [World.size_alloc, hdrew]; omega) | (simp <;> omega)) _ | refine Below.alloc ?_ (by first | omega | (simp only [World.size_alloc, hdrew]; omega) | (simp <;> omega)) _ | refine Below.drew ?_))))
          (first
            | (go_at_call 30; (with_reducible refine (neg_w _ _ HY.out hk.out).mono ?_); rintro e w5 ⟨rfl, b5⟩; have HS5 := mkS _ (bt (And.left (by assumption)) b5); (obtain ⟨hcb5, hfb5⟩ := bcell b5; have zzb5 := Below.size b5; (try simp only [World.size_alloc, hdrew] at zzb5); (try (have llb5 : W4.heap.size < w5.heap.size := by omega)); (try (have lmb5 : W4.heap.size + 1 < w5.heap.size := by omega))); ((try replace b5 := undrew b5); first | (have QA := Lib.hid (WAt.below (Hid.out Q0) b5)) | (have QA := WAt.below (wAt_new _ false 0 0) b5; (try simp only [World.size_alloc, hdrew] at QA); have QA := Lib.hid QA) | skip); clear b5)
            | (go_at_call 24; (with_reducible refine (add_w _ _ HI.out HK.out hv.out).mono ?_); rintro e w6 ⟨rfl, b6⟩; have HS6 := mkS _ (bt (And.left (by assumption)) b6); (obtain ⟨hcb6, hfb6⟩ := bcell b6; have zzb6 := Below.size b6; (try simp only [World.size_alloc, hdrew] at zzb6); (try (have llb6 : w5.heap.size < w6.heap.size := by omega)); (try (have lmb6 : w5.heap.size + 1 < w6.heap.size := by omega))); ((try replace b6 := undrew b6); first | (have QB := Lib.hid (WAt.below (Hid.out QA) b6)) | (have QB := WAt.below (wAt_new _ false 0 0) b6; (try simp only [World.size_alloc, hdrew] at QB); have QB := Lib.hid QB) | skip); (try (have ln6 : W4.heap.size < w6.heap.size := by omega)); clear b6))
        all_goals
          dsimp only [Exit.then]
          refine ‹∀ (a' : Act) (w' : World), Met _ a' w' → _› _ _ ?_
          go_meet
          case rel => exact ⟨_, rfl, rfl, (by (first | with_reducible exact wAt_set3 _ _ _ QB.out | with_reducible exact wAt_set3 _ _ _ QA.out | with_reducible exact wAt_new _ _ _ _ | with_reducible exact wAt_set3 _ _ _ (wAt_new _ _ _ _) | exact wAt_new _ _ _ _)), (by (repeat (first | with_reducible exact And.left (by with_reducible assumption) | with_reducible exact Below.refl _ _ | refine Below.setCell ?_ (by first | omega | (simp only [World.size_alloc, hdrew]; omega) | (simp <;> omega)) _ | refine Below.alloc ?_ (by first | omega | (simp only [World.size_alloc, hdrew]; omega) | (simp <;> omega)) _ | refine Below.drew ?_)))⟩
      case rest =>
        rename_i w9
        obtain ⟨i9, rfl, rfl, h9, b9⟩ := hcut
        have Z9 := Lib.hid h9; have X9 := Lib.hid (WAt.below X4.out b9); have B9 := Lib.hid b9; clear h9 b9
        have z0 := Z9.out.c0; have z1_ := Z9.out.c1; have z2_ := Z9.out.c2; have x0 := X9.out.c0; have x1 := X9.out.c1; have x2 := X9.out.c2
        go_wp2_with fail
        refine (cmp_w 0 _ HV.out HX.out (by unfold cmpZ; rw [if_pos (by omega)])).mono ?_
        rintro e w10 ⟨rfl, b10⟩
        have BX := Lib.hid (bt B9.out b10); clear b10 x0 x1 x2 z0 z1_ z2_
        go_wp2_with fail; go_meet; case rel => exact BX.out
    · subst he; go_wp2_with fail; go_meet; case rel => exact Below.refl _ _
  case rest =>
    rename_i w11
    have b2 := hcut
    have X11 := Lib.hid (WAt.below X4.out b2)
    have B11 := Lib.hid (bt B4.out b2)
    clear b2
    clear X4  B4
    clear Y4 S4
    have x0 := X11.out.c0; have x1 := X11.out.c1; have x2 := X11.out.c2
    rcases Nat.eq_zero_or_pos d with rfl | hd0
    ·
      go_wp2_with fail
      refine (wDiv_zero n1 h1 l1 _).mono ?_
      rintro e w12 ⟨rfl, b2⟩
      have B12 := Lib.hid (bt B11.out b2); clear b2 x0 x1 x2
      go_upto_region 7 with fail
      generalize hW : World.alloc w12 _ = W13
      have B13 : Hid (Below w.heap.size w W13) := by rw [← hW]; exact bt B12.out (ba _ _)
      clear hW
      go_wp2_with fail
      refine (known_any _).mono ?_
      rintro e w14 ⟨rfl, b2⟩
      have B14 := bt B13.out b2; clear b2
      go_wp2_with fail
      go_ret
      exact ⟨rfl, B14⟩
    ·
      obtain ⟨R, hR⟩ : ∃ R : Nat, Hid (z1.natAbs % d = R) := ⟨_, rfl⟩
      have HRd : Hid (R < d) := by show _ < _; rw [← hR.out]; exact Nat.mod_lt _ hd0
      have dz : ((d : Int) == 0) = false := by simp; omega
      have rd : decide ((d : Int) ≤ (R : Int)) = false := by have := HRd.out; simp; omega
      have htd : (z1.tdiv (d : Int)).natAbs ≤ z1.natAbs := by rw [Int.natAbs_tdiv]; exact Nat.div_le_self _ _
      have hab := evenZ_abs z1 d hd0
      obtain ⟨qb, qh, ql, hq, HQ⟩ := isW_wv (z1.tdiv (d : Int)) (Nat.lt_of_le_of_lt htd HX.out.lt)
      obtain ⟨fb, fh, fl, hf, HF⟩ := isW_wv (z1 / (d : Int)) (Nat.lt_of_le_of_lt hab.2 HX.out.lt)
      obtain ⟨eb, eh, el, hev, HE⟩ := isW_wv (evenZ z1 d) (Nat.lt_of_le_of_lt hab.1 HX.out.lt)
      have hqd : Hid (divV z1 d = .tuple #[.agg #[.bool qb, .int .u64 (qh : Int), .int .u64 (ql : Int)], .int .u64 (R : Int), .int .i64 0]) := by show _ = _; unfold divV; rw [hq.out, hR.out]
      have HLW := Lib.hid (left_w z1 n1 h1 l1 d HX.out hd0 HD.out)
      rw [hR.out] at HLW
      obtain ⟨pb, ph, pl, hp, HP⟩ := isW_ov (z1.tdiv (d : Int) * (d : Int)) (by have e := Nat.div_mul_le_self z1.natAbs d; rw [Int.natAbs_mul, Int.natAbs_tdiv]; exact Nat.lt_of_le_of_lt e HX.out.lt)
      obtain ⟨cb, ch, cl, hc, HC⟩ := isW_ov (z1.tdiv (d : Int) * (d : Int) + (z1 - z1.tdiv (d : Int) * (d : Int))) (by rw [show z1.tdiv (d : Int) * (d : Int) + (z1 - z1.tdiv (d : Int) * (d : Int)) = z1 by omega]; exact HX.out.lt)
      obtain ⟨tb, th, tl, te, ht, htc⟩ := isW_any (z1 / (d : Int) * (d : Int))
      obtain ⟨ub, uh, ul, ue, hu, huc⟩ := isW_any (evenZ z1 d * (d : Int))
      have HO := Lib.hid (even_off z1 d hd0); have HM := Lib.hid (floor_off z1 d hd0)
      have HD0 := Lib.hid hd0
      clear htd hab hd0
      go_wp2_with fail
      refine (div_w d HD0.out HD.out _ _ HX.out hqd.out).mono ?_
      rintro e w12 ⟨rfl, b2⟩
      have X12 := Lib.hid (WAt.below X11.out b2)
      have B12 := Lib.hid (bt B11.out b2)
      clear x0 x1 x2
      clear b2
      clear X11  B11
      go_upto_region 7 with fail
      generalize hW : World.alloc w12 _ = W13
      obtain ⟨iq, hiiq⟩ : ∃ x, Hid (w12.heap.size = x) := ⟨_, rfl⟩
      have Q13 : Hid (WAt W13 iq qb qh ql) := by rw [← hW, ← hiiq.out]; exact wAt_new _ _ _ _
      have bW : Below w12.heap.size w12 W13 := by rw [← hW]; exact ba _ _
      rw [hiiq.out]
      clear hW
      have X13 := Lib.hid (WAt.below X12.out bW)
      have B13 := Lib.hid (bt B12.out bW)
      clear bW hiiq
      clear X12  B12
      have q0 := Q13.out.c0; have q1 := Q13.out.c1; have q2 := Q13.out.c2
      go_wp2_with fail
      refine (times_w d HD.out _ _ HQ.out hp.out).mono ?_
      rintro e w14 ⟨rfl, b2⟩
      clear q0 q1 q2
      clear Q13
      have X14 := Lib.hid (WAt.below X13.out b2)
      have B14 := Lib.hid (bt B13.out b2)
      clear b2
      clear X13  B13
      go_upto_region 10 with fail
      generalize hW : World.alloc w14 _ = W15
      obtain ⟨ip, hiip⟩ : ∃ x, Hid (w14.heap.size = x) := ⟨_, rfl⟩
      have P15 : Hid (WAt W15 ip pb ph pl) := by rw [← hW, ← hiip.out]; exact wAt_new _ _ _ _
      have bW : Below w14.heap.size w14 W15 := by rw [← hW]; exact ba _ _
      rw [hiip.out]
      clear hW
      have X15 := Lib.hid (WAt.below X14.out bW)
      have B15 := Lib.hid (bt B14.out bW)
      clear bW hiip
      clear X14  B14
      obtain ⟨w15, hw15⟩ : ∃ x, x = W15 := ⟨_, rfl⟩; subst hw15
      have x0 := X15.out.c0; have x1 := X15.out.c1; have x2 := X15.out.c2
      go_upto_region 11 with fail
      generalize hW : World.alloc w15 _ = W16
      obtain ⟨iL, hiiL⟩ : ∃ x, Hid (w15.heap.size = x) := ⟨_, rfl⟩
      have L16 : Hid (WAt W16 iL n1 0 R) := by rw [← hW, ← hiiL.out]; exact wAt_new _ _ _ _
      have bW : Below w15.heap.size w15 W16 := by rw [← hW]; exact ba _ _
      rw [hiiL.out]
      clear hW
      have X16 := Lib.hid (WAt.below X15.out bW)
      have P16 := Lib.hid (WAt.below P15.out bW)
      have B16 := Lib.hid (bt B15.out bW)
      clear bW hiiL
      clear X15 P15  B15
      clear x0 x1 x2
      have p0 := P16.out.c0; have p1 := P16.out.c1; have p2 := P16.out.c2
      have l0 := L16.out.c0; have l1 := L16.out.c1; have l2 := L16.out.c2
      go_wp2_with fail
      refine (add_w _ _ HP.out HLW.out hc.out).mono ?_
      rintro e w17 ⟨rfl, b2⟩
      clear p0 p1 p2
      clear l0 l1 l2
      clear P16 L16
      have X17 := Lib.hid (WAt.below X16.out b2)
      have B17 := Lib.hid (bt B16.out b2)
      clear b2
      clear X16  B16
      go_upto_region 12 with fail
      generalize hW : World.alloc w17 _ = W18
      obtain ⟨ic, hiic⟩ : ∃ x, Hid (w17.heap.size = x) := ⟨_, rfl⟩
      have C18 : Hid (WAt W18 ic cb ch cl) := by rw [← hW, ← hiic.out]; exact wAt_new _ _ _ _
      have bW : Below w17.heap.size w17 W18 := by rw [← hW]; exact ba _ _
      rw [hiic.out]
      clear hW
      have X18 := Lib.hid (WAt.below X17.out bW)
      have B18 := Lib.hid (bt B17.out bW)
      clear bW hiic
      clear X17  B17
      have x0 := X18.out.c0; have x1 := X18.out.c1; have x2 := X18.out.c2
      have c0 := C18.out.c0; have c1 := C18.out.c1; have c2 := C18.out.c2
      go_wp2_with fail
      refine (cmp_w 0 _ HC.out HX.out (by unfold cmpZ; rw [if_pos (by omega)])).mono ?_
      rintro e w19 ⟨rfl, b2⟩
      clear x0 x1 x2
      clear c0 c1 c2
      clear C18
      have X19 := Lib.hid (WAt.below X18.out b2)
      have B19 := Lib.hid (bt B18.out b2)
      clear b2
      clear X18  B18
      go_upto_region 14 with fail
      have x0 := X19.out.c0; have x1 := X19.out.c1; have x2 := X19.out.c2
      go_wp2_with fail
      refine (floor_w d HD0.out HD.out _ _ HX.out hf.out).mono ?_
      rintro e w20 ⟨rfl, b2⟩
      clear x0 x1 x2
      have X20 := Lib.hid (WAt.below X19.out b2)
      have B20 := Lib.hid (bt B19.out b2)
      clear b2
      clear X19  B19
      go_upto_region 15 with fail
      generalize hW : World.alloc w20 _ = W21
      obtain ⟨jf, hijf⟩ : ∃ x, Hid (w20.heap.size = x) := ⟨_, rfl⟩
      have F21 : Hid (WAt W21 jf fb fh fl) := by rw [← hW, ← hijf.out]; exact wAt_new _ _ _ _
      have bW : Below w20.heap.size w20 W21 := by rw [← hW]; exact ba _ _
      rw [hijf.out]
      clear hW
      have X21 := Lib.hid (WAt.below X20.out bW)
      have B21 := Lib.hid (bt B20.out bW)
      clear bW hijf
      clear X20  B20
      have x0 := X21.out.c0; have x1 := X21.out.c1; have x2 := X21.out.c2
      go_wp2_with fail
      refine (even_w d HD0.out HD.out _ _ HX.out hev.out).mono ?_
      rintro e w22 ⟨rfl, b2⟩
      clear x0 x1 x2
      have X22 := Lib.hid (WAt.below X21.out b2)
      have F22 := Lib.hid (WAt.below F21.out b2)
      have B22 := Lib.hid (bt B21.out b2)
      clear b2
      clear X21 F21  B21
      go_upto_region 16 with fail
      generalize hW : World.alloc w22 _ = W23
      obtain ⟨ie, hiie⟩ : ∃ x, Hid (w22.heap.size = x) := ⟨_, rfl⟩
      have E23 : Hid (WAt W23 ie eb eh el) := by rw [← hW, ← hiie.out]; exact wAt_new _ _ _ _
      have bW : Below w22.heap.size w22 W23 := by rw [← hW]; exact ba _ _
      rw [hiie.out]
      clear hW
      have X23 := Lib.hid (WAt.below X22.out bW)
      have F23 := Lib.hid (WAt.below F22.out bW)
      have B23 := Lib.hid (bt B22.out bW)
      clear bW hiie
      clear X22 F22  B22
      have f0 := F23.out.c0; have f1 := F23.out.c1; have f2 := F23.out.c2
      go_wp2_with fail
      refine (times_w d HD.out _ _ HF.out ht.out).mono ?_
      rintro e w24 ⟨rfl, b2⟩
      clear f0 f1 f2
      clear F23
      have X24 := Lib.hid (WAt.below X23.out b2)
      have E24 := Lib.hid (WAt.below E23.out b2)
      have B24 := Lib.hid (bt B23.out b2)
      clear b2
      clear X23 E23  B23
      go_upto_region 17 with fail
      generalize hW : World.alloc w24 _ = W25
      obtain ⟨jt, hijt⟩ : ∃ x, Hid (w24.heap.size = x) := ⟨_, rfl⟩
      have HTX : Hid (w.heap.size < jt) := by have h := X24.out.lt; have l4 := hijt.out; show _ < _; omega
      have T25 : Hid (WAt W25 jt tb th tl) := by rw [← hW, ← hijt.out]; exact wAt_new _ _ _ _
      have bW : Below w24.heap.size w24 W25 := by rw [← hW]; exact ba _ _
      rw [hijt.out]
      clear hW
      have X25 := Lib.hid (WAt.below X24.out bW)
      have E25 := Lib.hid (WAt.below E24.out bW)
      have B25 := Lib.hid (bt B24.out bW)
      clear bW hijt
      clear X24 E24  B24
      go_upto_if 118 with fail
      go_cut [] (fun wx => Below W25.heap.size W25 wx)
      case first =>
        rcases htc.out with ⟨he, hI, hr⟩ | he
        ·
          subst he; have HI := Lib.hid hI; clear hI
          have hlt : (-(z1 / (d : Int) * (d : Int))).natAbs < 340282366920938463463374607431768211456 := by rw [Int.natAbs_neg]; exact hr
          obtain ⟨kb, kh, kl, hk, HK⟩ := isW_wv _ hlt
          obtain ⟨M, hM⟩ : ∃ M : Nat, Hid ((z1 % (d : Int)).toNat = M) := ⟨_, rfl⟩
          have hv : Hid (ovV (z1 + -(z1 / (d : Int) * (d : Int))) = .tuple #[.agg #[.bool false, .int .u64 0, .int .u64 (M : Int)], .int .i64 0]) := by show _ = _; rw [HM.out.1, hM.out]; exact (isW_lo M (by have := HM.out.2; have := hM.out; have := HD.out; omega)).out
          have md : decide ((d : Int) ≤ (M : Int)) = false := by have := HM.out.2; have := hM.out; simp; omega
          have md2 : ¬ d ≤ M := by have := HM.out.2; have := hM.out; omega
          have md3 : decide (d ≤ M) = false := by simpa using md2
          clear hr hlt
          go_upto_region 18 with fail
          go_cut [25, 26] (fun s9 s10 wx => BackBox W25 false 0 M s9 s10 wx)
          case first =>
            have mkS : ∀ w', Below W25.heap.size W25 w' → (Below W25.heap.size W25 w' ∧ w'.cell? ⟨w.heap.size, 0, none⟩ = some (.bool n1) ∧ w'.cell? ⟨w.heap.size, 1, none⟩ = some (.int .u64 (h1 : Int)) ∧ w'.cell? ⟨w.heap.size, 2, none⟩ = some (.int .u64 (l1 : Int)) ∧ w'.cell? ⟨jt, 0, none⟩ = some (.bool tb) ∧ w'.cell? ⟨jt, 1, none⟩ = some (.int .u64 (th : Int)) ∧ w'.cell? ⟨jt, 2, none⟩ = some (.int .u64 (tl : Int))) := fun w' hb => ⟨hb, (WAt.below X25.out hb).c0, (WAt.below X25.out hb).c1, (WAt.below X25.out hb).c2, (WAt.below T25.out hb).c0, (WAt.below T25.out hb).c1, (WAt.below T25.out hb).c2⟩
            have HS0 := mkS _ ((Below.refl _ _).drew)
            go_region_held3 (fun w' => Below W25.heap.size W25 w' ∧ w'.cell? ⟨w.heap.size, 0, none⟩ = some (.bool n1) ∧ w'.cell? ⟨w.heap.size, 1, none⟩ = some (.int .u64 (h1 : Int)) ∧ w'.cell? ⟨w.heap.size, 2, none⟩ = some (.int .u64 (l1 : Int)) ∧ w'.cell? ⟨jt, 0, none⟩ = some (.bool tb) ∧ w'.cell? ⟨jt, 1, none⟩ = some (.int .u64 (th : Int)) ∧ w'.cell? ⟨jt, 2, none⟩ = some (.int .u64 (tl : Int)))
              (first | with_reducible exact HS0 | with_reducible assumption | (refine mkS _ ?_; (repeat (first | with_reducible exact And.left (by with_reducible assumption) | with_reducible exact Below.refl _ _ | refine Below.setCell ?_ (by first | omega | (simp only [World.size_alloc, hdrew]; omega) | (simp <;> omega)) _ | refine Below.alloc ?_ (by first | omega | (simp only [World.size_alloc, hdrew]; omega) | (simp <;> omega)) _ | refine Below.drew ?_))))
              (first
                | (go_at_call 30; (with_reducible refine (neg_w _ _ HI.out hk.out).mono ?_); rintro e w5 ⟨rfl, b5⟩; have HS5 := mkS _ (bt (And.left (by assumption)) b5); (obtain ⟨hcb5, hfb5⟩ := bcell b5; have zzb5 := Below.size b5; (try simp only [World.size_alloc, hdrew] at zzb5); (try (have llb5 : W25.heap.size < w5.heap.size := by omega)); (try (have lmb5 : W25.heap.size + 1 < w5.heap.size := by omega))); ((try replace b5 := undrew b5); first | (have QA := Lib.hid (WAt.below (Hid.out Q0) b5)) | (have QA := WAt.below (wAt_new _ false 0 0) b5; (try simp only [World.size_alloc, hdrew] at QA); have QA := Lib.hid QA) | skip); clear b5)
                | (go_at_call 24; (with_reducible refine (add_w _ _ HX.out HK.out hv.out).mono ?_); rintro e w6 ⟨rfl, b6⟩; have HS6 := mkS _ (bt (And.left (by assumption)) b6); (obtain ⟨hcb6, hfb6⟩ := bcell b6; have zzb6 := Below.size b6; (try simp only [World.size_alloc, hdrew] at zzb6); (try (have llb6 : w5.heap.size < w6.heap.size := by omega)); (try (have lmb6 : w5.heap.size + 1 < w6.heap.size := by omega))); ((try replace b6 := undrew b6); first | (have QB := Lib.hid (WAt.below (Hid.out QA) b6)) | (have QB := WAt.below (wAt_new _ false 0 0) b6; (try simp only [World.size_alloc, hdrew] at QB); have QB := Lib.hid QB) | skip); (try (have ln6 : W25.heap.size < w6.heap.size := by omega)); clear b6))
            all_goals
              dsimp only [Exit.then]
              refine ‹∀ (a' : Act) (w' : World), Met _ a' w' → _› _ _ ?_
              go_meet
              case rel => exact ⟨_, rfl, rfl, (by (first | with_reducible exact wAt_set3 _ _ _ QB.out | with_reducible exact wAt_set3 _ _ _ QA.out | with_reducible exact wAt_new _ _ _ _ | with_reducible exact wAt_set3 _ _ _ (wAt_new _ _ _ _) | exact wAt_new _ _ _ _)), (by (repeat (first | with_reducible exact And.left (by with_reducible assumption) | with_reducible exact Below.refl _ _ | refine Below.setCell ?_ (by first | omega | (simp only [World.size_alloc, hdrew]; omega) | (simp <;> omega)) _ | refine Below.alloc ?_ (by first | omega | (simp only [World.size_alloc, hdrew]; omega) | (simp <;> omega)) _ | refine Below.drew ?_)))⟩
          case rest =>
            rename_i w9
            obtain ⟨i9, rfl, rfl, h9, b9⟩ := hcut
            have Z9 := Lib.hid h9; have X9 := Lib.hid (WAt.below X25.out b9); have B9 := Lib.hid b9; clear h9 b9
            have z0 := Z9.out.c0; have z1_ := Z9.out.c1; have z2_ := Z9.out.c2
            have BX := B9
            go_wp2_with fail; go_meet; case rel => exact BX.out
        · subst he; go_wp2_with fail; go_meet; case rel => exact Below.refl _ _
      case rest =>
        rename_i w26
        have b2 := hcut
        have X26 := Lib.hid (WAt.below X25.out b2)
        have E26 := Lib.hid (WAt.below E25.out b2)
        have T26 := Lib.hid (WAt.below T25.out b2)
        have B26 := Lib.hid (bt B25.out b2)
        clear b2
        clear X25 E25 T25  B25
        have e0 := E26.out.c0; have e1 := E26.out.c1; have e2 := E26.out.c2
        go_wp2_with fail
        refine (times_w d HD.out _ _ HE.out hu.out).mono ?_
        rintro e w27 ⟨rfl, b2⟩
        clear e0 e1 e2
        clear E26
        have X27 := Lib.hid (WAt.below X26.out b2)
        have T27 := Lib.hid (WAt.below T26.out b2)
        have B27 := Lib.hid (bt B26.out b2)
        clear b2
        clear X26 T26  B26
        have t0 := T27.out.c0; have t1 := T27.out.c1; have t2 := T27.out.c2; have f0 := T27.out.f0; have f1 := T27.out.f1; have f2 := T27.out.f2
        go_upto_region 22 with fail
        generalize hW : World.setCell (World.setCell (World.setCell w27 _ _) _ _) _ _ = W28
        clear t0 t1 t2 f0 f1 f2
        have X28 : Hid (WAt W28 w.heap.size n1 h1 l1) := by rw [← hW]; exact wAt_other3 _ _ _ X27.out (by have := HTX.out; omega)
        have T28 : Hid (WAt W28 jt ub uh ul) := by rw [← hW]; exact wAt_set3 _ _ _ T27.out
        have B28 : Hid (Below w.heap.size w W28) := by rw [← hW]; exact below_set3 _ _ _ B27.out (by have := HTX.out; omega)
        clear hW X27 T27 B27
        go_upto_if 150 with fail
        go_cut [] (fun wx => Below W28.heap.size W28 wx)
        case first =>
          rcases huc.out with ⟨he, hI, hr⟩ | he
          ·
            subst he; have HI := Lib.hid hI; clear hI
            have hlt : (-(evenZ z1 d * (d : Int))).natAbs < 340282366920938463463374607431768211456 := by rw [Int.natAbs_neg]; exact hr
            obtain ⟨kb, kh, kl, hk, HK⟩ := isW_wv _ hlt
            obtain ⟨O, hO⟩ : ∃ O : Nat, Hid ((z1 + -(evenZ z1 d * (d : Int))).natAbs = O) := ⟨_, rfl⟩
            obtain ⟨ob, hv⟩ := ov_lo _ O hO.out (by have := HO.out; have := hO.out; have := HD.out; omega)
            have hwr : IntKind.u64.wrap ((d : Int) - (O : Int)) = ((d - O : Nat) : Int) := by have := HO.out; have := hO.out; have := HD.out; rw [IntKind.wrap_u64]; omega
            obtain ⟨D, hDD⟩ : ∃ D : Nat, Hid (d - O = D) := ⟨_, rfl⟩
            rw [hDD.out] at hwr
            have md : decide ((D : Int) < (O : Int)) = false := by have := HO.out; have := hO.out; have := hDD.out; simp; omega
            have md2 : ¬ D < O := by have := HO.out; have := hO.out; have := hDD.out; omega
            have md3 : decide (D < O) = false := by simpa using md2
            clear hr hlt
            go_upto_region 23 with fail
            go_cut [27, 28] (fun s9 s10 wx => BackBox W28 ob 0 O s9 s10 wx)
            case first =>
              have mkS : ∀ w', Below W28.heap.size W28 w' → (Below W28.heap.size W28 w' ∧ w'.cell? ⟨w.heap.size, 0, none⟩ = some (.bool n1) ∧ w'.cell? ⟨w.heap.size, 1, none⟩ = some (.int .u64 (h1 : Int)) ∧ w'.cell? ⟨w.heap.size, 2, none⟩ = some (.int .u64 (l1 : Int)) ∧ w'.cell? ⟨jt, 0, none⟩ = some (.bool ub) ∧ w'.cell? ⟨jt, 1, none⟩ = some (.int .u64 (uh : Int)) ∧ w'.cell? ⟨jt, 2, none⟩ = some (.int .u64 (ul : Int))) := fun w' hb => ⟨hb, (WAt.below X28.out hb).c0, (WAt.below X28.out hb).c1, (WAt.below X28.out hb).c2, (WAt.below T28.out hb).c0, (WAt.below T28.out hb).c1, (WAt.below T28.out hb).c2⟩
              have HS0 := mkS _ ((Below.refl _ _).drew)
              go_region_held3 (fun w' => Below W28.heap.size W28 w' ∧ w'.cell? ⟨w.heap.size, 0, none⟩ = some (.bool n1) ∧ w'.cell? ⟨w.heap.size, 1, none⟩ = some (.int .u64 (h1 : Int)) ∧ w'.cell? ⟨w.heap.size, 2, none⟩ = some (.int .u64 (l1 : Int)) ∧ w'.cell? ⟨jt, 0, none⟩ = some (.bool ub) ∧ w'.cell? ⟨jt, 1, none⟩ = some (.int .u64 (uh : Int)) ∧ w'.cell? ⟨jt, 2, none⟩ = some (.int .u64 (ul : Int)))
                (first | with_reducible exact HS0 | with_reducible assumption | (refine mkS _ ?_; (repeat (first | with_reducible exact And.left (by with_reducible assumption) | with_reducible exact Below.refl _ _ | refine Below.setCell ?_ (by first | omega | (simp only [World.size_alloc, hdrew]; omega) | (simp <;> omega)) _ | refine Below.alloc ?_ (by first | omega | (simp only [World.size_alloc, hdrew]; omega) | (simp <;> omega)) _ | refine Below.drew ?_))))
                (first
                  | (go_at_call 30; (with_reducible refine (neg_w _ _ HI.out hk.out).mono ?_); rintro e w5 ⟨rfl, b5⟩; have HS5 := mkS _ (bt (And.left (by assumption)) b5); (obtain ⟨hcb5, hfb5⟩ := bcell b5; have zzb5 := Below.size b5; (try simp only [World.size_alloc, hdrew] at zzb5); (try (have llb5 : W28.heap.size < w5.heap.size := by omega)); (try (have lmb5 : W28.heap.size + 1 < w5.heap.size := by omega))); ((try replace b5 := undrew b5); first | (have QA := Lib.hid (WAt.below (Hid.out Q0) b5)) | (have QA := WAt.below (wAt_new _ false 0 0) b5; (try simp only [World.size_alloc, hdrew] at QA); have QA := Lib.hid QA) | skip); clear b5)
                  | (go_at_call 24; (with_reducible refine (add_w _ _ HX.out HK.out hv.out).mono ?_); rintro e w6 ⟨rfl, b6⟩; have HS6 := mkS _ (bt (And.left (by assumption)) b6); (obtain ⟨hcb6, hfb6⟩ := bcell b6; have zzb6 := Below.size b6; (try simp only [World.size_alloc, hdrew] at zzb6); (try (have llb6 : w5.heap.size < w6.heap.size := by omega)); (try (have lmb6 : w5.heap.size + 1 < w6.heap.size := by omega))); ((try replace b6 := undrew b6); first | (have QB := Lib.hid (WAt.below (Hid.out QA) b6)) | (have QB := WAt.below (wAt_new _ false 0 0) b6; (try simp only [World.size_alloc, hdrew] at QB); have QB := Lib.hid QB) | skip); (try (have ln6 : W28.heap.size < w6.heap.size := by omega)); clear b6))
              all_goals
                dsimp only [Exit.then]
                refine ‹∀ (a' : Act) (w' : World), Met _ a' w' → _› _ _ ?_
                go_meet
                case rel => exact ⟨_, rfl, rfl, (by (first | with_reducible exact wAt_set3 _ _ _ QB.out | with_reducible exact wAt_set3 _ _ _ QA.out | with_reducible exact wAt_new _ _ _ _ | with_reducible exact wAt_set3 _ _ _ (wAt_new _ _ _ _) | exact wAt_new _ _ _ _)), (by (repeat (first | with_reducible exact And.left (by with_reducible assumption) | with_reducible exact Below.refl _ _ | refine Below.setCell ?_ (by first | omega | (simp only [World.size_alloc, hdrew]; omega) | (simp <;> omega)) _ | refine Below.alloc ?_ (by first | omega | (simp only [World.size_alloc, hdrew]; omega) | (simp <;> omega)) _ | refine Below.drew ?_)))⟩
            case rest =>
              rename_i w9
              obtain ⟨i9, rfl, rfl, h9, b9⟩ := hcut
              have Z9 := Lib.hid h9; have X9 := Lib.hid (WAt.below X28.out b9); have B9 := Lib.hid b9; clear h9 b9
              have z0 := Z9.out.c0; have z1_ := Z9.out.c1; have z2_ := Z9.out.c2
              have BX := B9
              go_wp2_with fail; go_meet; case rel => exact BX.out
          · subst he; go_wp2_with fail; go_meet; case rel => exact Below.refl _ _
        case rest =>
          rename_i w29
          have B29 := Lib.hid (bt B28.out hcut)
          go_wp2_with fail
          refine (known_any _).mono ?_
          rintro e w30 ⟨rfl, b2⟩
          have B30 := bt B29.out b2; clear b2
          go_wp2_with fail
          go_ret
          exact ⟨rfl, B30⟩

theorem wideBack_law (n1 : Bool) (h1 l1 : Nat) (n2 : Bool) (h2 l2 : Nat) (m : Int) (b1 : h1 < 18446744073709551616) (b2 : l1 < 18446744073709551616) (b3 : h2 < 18446744073709551616) (b4 : l2 < 18446744073709551616) (wm : (Lit.int .u64 m).wf = true) (w : World) :
    Calls Try.prog 5 #[.agg #[.bool n1, .int .u64 (h1 : Int), .int .u64 (l1 : Int)], .agg #[.bool n2, .int .u64 (h2 : Int), .int .u64 (l2 : Int)], .int .u64 m] w fun e w' => e = .returned (.bool true) ∧ Below w.heap.size w w' := by
  have bm := bounds_u64 wm
  obtain ⟨d, rfl⟩ := Int.eq_ofNat_of_zero_le bm.1
  exact wideBack_walk n1 n2 h1 l1 h2 l2 d w b1 b2 b3 b4 (by omega)
end Go.Proofs.Ytlbmmnjecemkeaa
