/-
  ValueTells: walked, way by way.
-/
import Derived.Test.YtfonpegkaajnkaaDoorM49
/-
  ValueTells: walked, way by way.
-/
namespace Go.Proofs.YtfonpegkaajnkaaDoor.Va
open Go Go.RowKit Dt Tx
set_option linter.unusedSimpArgs false
set_option linter.unusedVariables false
attribute [local go_sem ↓] Go.wp_at_zero Go.wp_at_succ

set_option maxRecDepth 100000 in
set_option maxHeartbeats 4000000 in
theorem tells_Btmp {w : World} (v : V) (hv : v.ok) (c s : Int) (hc : fits c) (n : Int) (hn : fits n) (he : Env w) (hm : mayV v = false) (hb : mayV ⟨4, 0, 0, n⟩ = true) (hs : isB s = true) : Calls Tryd.prog 5 #[.agg #[.int .u8 v.k, .int .i64 v.c, .int .i64 v.s, .int .i64 v.e], .agg #[.int .i64 c, .int .i64 s], .bool true, .int .i64 n] w fun e w' => e = .returned (.bool true) ∧ Below w.heap.size w w' := by
  have HE := Lib.hid he
  have T := fun w h => text_is (w := w) v hv h
  have RT := fun w => rtext_is (w := w) v hv
  have MV := fun w => may_is (w := w) v hv
  have RM := fun w => rmay_is (w := w) v hv
  have NU := fun w => num_is (w := w) c s hc
  have BA := fun w => bad_is (w := w) n hn
  have TR := fun w => truth_is (w := w) true
  have RT2 := fun w => rmay_is (w := w) ⟨2, 0, 0, 0⟩ ⟨by decide, by decide, by decide, by decide⟩
  have RW := fun w => rmay_is (w := w) ⟨4, 0, 0, n⟩ ⟨⟨by show (0 : Int) ≤ 4; decide, by show (4 : Int) ≤ 255; decide⟩, by show fits 0; decide, by show fits 0; decide, hn⟩
  have IS := fun w => rIs_any c s w
  have PU : ∀ w, Calls Tryd.prog 19 #[.agg #[.int .i64 c, .int .i64 s]] w fun e w' => e = .returned (.tuple #[.agg #[.int .i64 (canC c s), .int .i64 (canS c s : Int)], .int .i64 0]) ∧ Below w.heap.size w w' := fun w => by
    have e := putV_ok hc hs
    obtain ⟨m, rfl, hm'⟩ := isB_nat hs
    unfold putV at e
    rw [if_pos hs, Int.toNat_natCast, decV_un c m hm'] at e
    exact rPut_any c m _ w hc hm' e
  unfold VPost numS at NU
  unfold VPost badV at BA
  rw [hs] at NU IS
  rw [hb] at BA
  rw [show mayV ⟨2, 0, 0, 0⟩ = true from by decide] at RT2
  rw [hm] at MV RM
  simp only [hb] at RW
  simp only [if_true, Bool.false_eq_true, if_false] at NU BA TR RT2
  obtain ⟨s1, s2⟩ := text_facts hv.2.1 _ hm
  obtain ⟨S, hS⟩ : ∃ s, Hid (bs (textV v) = s) := ⟨_, rfl⟩
  rw [hS.out] at T RT s1 s2
  obtain ⟨p, hp⟩ : ∃ x, Hid (canC c s = x) := ⟨_, rfl⟩
  obtain ⟨r, hr⟩ : ∃ x : Int, Hid ((canS c s : Int) = x) := ⟨_, rfl⟩
  rw [hp.out, hr.out] at NU PU
  clear hp hr
  simp only [Bool.not_true, Bool.not_false] at s1 s2
  have ss := self_toList S
  have B0 := Lib.hid (bt (ba w (.cells #[.int .u8 v.k, .int .i64 v.c, .int .i64 v.s, .int .i64 v.e] 27)) (ba _ (.cells #[.int .i64 c, .int .i64 s] 24)))
  have X0 := Lib.hid ((Four.new w v).below (ba _ (.cells #[.int .i64 c, .int .i64 s] 24)))
  have D0 := Lib.hid (Two.new (w.alloc (.cells #[.int .u8 v.k, .int .i64 v.c, .int .i64 v.s, .int .i64 v.e] 27)) c s)
  clear hv hc hn he hm hb hs hS
  go_enter Tryd.func5, Tryd.ntmps5
  go_upto_region 1 with fail
  obtain ⟨u1, hu1⟩ : ∃ x, Hid (x = w.alloc (.cells #[.int .u8 v.k, .int .i64 v.c, .int .i64 v.s, .int .i64 v.e] 27)) := ⟨_, rfl⟩
  obtain ⟨iX, hiX⟩ : ∃ x, Hid (w.heap.size = x) := ⟨_, rfl⟩
  have hs1 : u1.heap.size = w.heap.size + 1 := by rw [hu1.out]; simp
  rw [← hu1.out] at B0 X0 D0 ⊢
  obtain ⟨iD, hiD⟩ : ∃ x, Hid (u1.heap.size = x) := ⟨_, rfl⟩
  obtain ⟨w0, hw0⟩ : ∃ x, Hid (x = u1.alloc (.cells #[.int .i64 c, .int .i64 s] 24)) := ⟨_, rfl⟩
  rw [← hw0.out] at B0 X0 D0 ⊢
  have hs2 : w.heap.size + 1 = iD := by rw [← hs1]; exact hiD.out
  rw [hiD.out] at D0
  first | rw [hs2] | rw [hiD.out]
  rw [hiX.out] at X0
  clear hu1 hw0 hs1
  try rw [hiX.out]
  clear hs2 hiX hiD
  have X0 : Hid (Four w0 iX ⟨v.k, v.c, v.s, v.e⟩) := X0
  have cX0 := X0.out.c0
  have cX1 := X0.out.c1
  have cX2 := X0.out.c2
  have cX3 := X0.out.c3
  have T0 := T w0 (HE.out.below B0.out)
  go_upto_region 2 with (first | (go_at_call 11; (with_reducible refine T0.mono ?_); rintro e1 w1 ⟨rfl, q1⟩; have B1 := Lib.hid (bt B0.out q1); have X1 : Hid (Four w1 iX ⟨v.k, v.c, v.s, v.e⟩) := Lib.hid (X0.out.below q1); have D1 : Hid (Two w1 iD (c) (s)) := Lib.hid (D0.out.below q1); clear q1 T0))
  clear cX0 cX1 cX2 cX3 X0 D0
  have dr : Below w1.heap.size w1 w1.drew := ⟨rfl, rfl, rfl, Nat.le_refl _, fun _ _ => rfl⟩
  have mk : ∀ w', Below w1.heap.size w1 w' → w'.cell? ⟨iX, 0, none⟩ = some (.int .u8 v.k) ∧ w'.cell? ⟨iX, 1, none⟩ = some (.int .i64 v.c) ∧ w'.cell? ⟨iX, 2, none⟩ = some (.int .i64 v.s) ∧ w'.cell? ⟨iX, 3, none⟩ = some (.int .i64 v.e) := fun w' h => ⟨(X1.out.below h).c0, (X1.out.below h).c1, (X1.out.below h).c2, (X1.out.below h).c3⟩
  have HS0 := mk w1.drew dr
  go_region_held3 (fun w' : World => w'.cell? ⟨iX, 0, none⟩ = some (.int .u8 v.k) ∧ w'.cell? ⟨iX, 1, none⟩ = some (.int .i64 v.c) ∧ w'.cell? ⟨iX, 2, none⟩ = some (.int .i64 v.s) ∧ w'.cell? ⟨iX, 3, none⟩ = some (.int .i64 v.e))
    (first | with_reducible exact HS0 | with_reducible assumption)
    (first
      | (go_at_call 12; (with_reducible refine (MV _).mono ?_); rintro e2 w2 ⟨rfl, q2⟩; have HS2 := mk w2 (bt dr q2); have C2 := Lib.hid (bt dr q2); clear q2 MV)
      | (go_at_call 13; (with_reducible refine (RM _).mono ?_); rintro e3 w3 ⟨rfl, q3⟩; have HS3 := mk w3 (bt C2.out q3); have C3 := Lib.hid (bt C2.out q3); clear q3 RM)
      | (go_at_call 14; (with_reducible refine (RT _).mono ?_); rintro e4 w4 ⟨rfl, q4⟩; have HS4 := mk w4 (bt C3.out q4); have C4 := Lib.hid (bt C3.out q4); clear q4 RT))
  have X4 : Hid (Four w4 iX ⟨v.k, v.c, v.s, v.e⟩) := Lib.hid (X1.out.below C4.out); have D4 : Hid (Two w4 iD (c) (s)) := Lib.hid (D1.out.below C4.out); have B4 := Lib.hid (bt B1.out C4.out)
  clear HS0 HS2 HS3 HS4 dr mk C2 C3 C4 X1 D1 B1
  have cD0 := D4.out.c0
  have cD1 := D4.out.c1
  go_upto_region 9 with (go_at_call 15; (with_reducible refine (NU _).mono ?_); rintro e w6 ⟨rfl, q⟩; have B6 := Lib.hid (bt B4.out (bt q (ba w6 (.cells #[.int .u8 1, .int .i64 p, .int .i64 r, .int .i64 0] 27)))); have X6 := Lib.hid ((X4.out.below q).below (ba w6 (.cells #[.int .u8 1, .int .i64 p, .int .i64 r, .int .i64 0] 27))); have D6 := Lib.hid ((D4.out.below q).below (ba w6 (.cells #[.int .u8 1, .int .i64 p, .int .i64 r, .int .i64 0] 27))); have N6 := Lib.hid (Four.new w6 ⟨1, p, r, 0⟩); clear q)
  obtain ⟨z6, hz⟩ : ∃ x, Hid (x = w6.alloc (.cells #[.int .u8 1, .int .i64 p, .int .i64 r, .int .i64 0] 27)) := ⟨_, rfl⟩
  obtain ⟨iN, hi⟩ : ∃ x, Hid (w6.heap.size = x) := ⟨_, rfl⟩
  rw [← hz.out] at B6 X6 D6 N6 ⊢
  rw [hi.out] at N6 ⊢
  clear hz hi cD0 cD1 X4 D4 B4
  have X6 : Hid (Four z6 iX ⟨v.k, v.c, v.s, v.e⟩) := X6
  have D6 : Hid (Two z6 iD (c) (s)) := D6
  have N6 : Hid (Four z6 iN ⟨1, p, r, 0⟩) := N6
  go_upto_region 10 with (go_at_call 16; (with_reducible refine (BA _).mono ?_); rintro e w7 ⟨rfl, q⟩; have B7 := Lib.hid (bt B6.out (bt q (ba w7 (.cells #[.int .u8 4, .int .i64 0, .int .i64 0, .int .i64 n] 27)))); have X7 := Lib.hid ((X6.out.below q).below (ba w7 (.cells #[.int .u8 4, .int .i64 0, .int .i64 0, .int .i64 n] 27))); have D7 := Lib.hid ((D6.out.below q).below (ba w7 (.cells #[.int .u8 4, .int .i64 0, .int .i64 0, .int .i64 n] 27))); have N7 := Lib.hid ((N6.out.below q).below (ba w7 (.cells #[.int .u8 4, .int .i64 0, .int .i64 0, .int .i64 n] 27))); have E7 := Lib.hid (Four.new w7 ⟨4, 0, 0, n⟩); clear q)
  obtain ⟨z7, hz⟩ : ∃ x, Hid (x = w7.alloc (.cells #[.int .u8 4, .int .i64 0, .int .i64 0, .int .i64 n] 27)) := ⟨_, rfl⟩
  obtain ⟨iE, hi⟩ : ∃ x, Hid (w7.heap.size = x) := ⟨_, rfl⟩
  rw [← hz.out] at B7 X7 D7 N7 E7 ⊢
  rw [hi.out] at E7 ⊢
  clear hz hi  X6 D6 N6 B6
  have X7 : Hid (Four z7 iX ⟨v.k, v.c, v.s, v.e⟩) := X7
  have D7 : Hid (Two z7 iD (c) (s)) := D7
  have N7 : Hid (Four z7 iN ⟨1, p, r, 0⟩) := N7
  have E7 : Hid (Four z7 iE ⟨4, 0, 0, n⟩) := E7
  go_upto_region 11 with (go_at_call 17; (with_reducible refine (TR _).mono ?_); rintro e w8 ⟨rfl, q⟩; have B8 := Lib.hid (bt B7.out (bt q (ba w8 (.cells #[.int .u8 2, .int .i64 0, .int .i64 0, .int .i64 0] 27)))); have X8 := Lib.hid ((X7.out.below q).below (ba w8 (.cells #[.int .u8 2, .int .i64 0, .int .i64 0, .int .i64 0] 27))); have D8 := Lib.hid ((D7.out.below q).below (ba w8 (.cells #[.int .u8 2, .int .i64 0, .int .i64 0, .int .i64 0] 27))); have N8 := Lib.hid ((N7.out.below q).below (ba w8 (.cells #[.int .u8 2, .int .i64 0, .int .i64 0, .int .i64 0] 27))); have E8 := Lib.hid ((E7.out.below q).below (ba w8 (.cells #[.int .u8 2, .int .i64 0, .int .i64 0, .int .i64 0] 27))); have U8 := Lib.hid (Four.new w8 ⟨2, 0, 0, 0⟩); clear q)
  obtain ⟨z8, hz⟩ : ∃ x, Hid (x = w8.alloc (.cells #[.int .u8 2, .int .i64 0, .int .i64 0, .int .i64 0] 27)) := ⟨_, rfl⟩
  obtain ⟨iU, hi⟩ : ∃ x, Hid (w8.heap.size = x) := ⟨_, rfl⟩
  rw [← hz.out] at B8 X8 D8 N8 E8 U8 ⊢
  rw [hi.out] at U8 ⊢
  clear hz hi  X7 D7 N7 E7 B7
  have X8 : Hid (Four z8 iX ⟨v.k, v.c, v.s, v.e⟩) := X8
  have D8 : Hid (Two z8 iD (c) (s)) := D8
  have N8 : Hid (Four z8 iN ⟨1, p, r, 0⟩) := N8
  have E8 : Hid (Four z8 iE ⟨4, 0, 0, n⟩) := E8
  have U8 : Hid (Four z8 iU ⟨2, 0, 0, 0⟩) := U8
  clear NU BA TR
  have cU0 := U8.out.c0
  have cU1 := U8.out.c1
  have cU2 := U8.out.c2
  have cU3 := U8.out.c3
  go_upto_region 14 with (go_at_call 13; (with_reducible refine (RT2 _).mono ?_); rintro e w9 ⟨rfl, q⟩; have B9 := Lib.hid (bt B8.out (bt q (ba w9 (.cells #[.int .u8 4, .int .i64 0, .int .i64 0, .int .i64 n] 27)))); have X9 := Lib.hid ((X8.out.below q).below (ba w9 (.cells #[.int .u8 4, .int .i64 0, .int .i64 0, .int .i64 n] 27))); have D9 := Lib.hid ((D8.out.below q).below (ba w9 (.cells #[.int .u8 4, .int .i64 0, .int .i64 0, .int .i64 n] 27))); have N9 := Lib.hid ((N8.out.below q).below (ba w9 (.cells #[.int .u8 4, .int .i64 0, .int .i64 0, .int .i64 n] 27))); have E9 := Lib.hid ((E8.out.below q).below (ba w9 (.cells #[.int .u8 4, .int .i64 0, .int .i64 0, .int .i64 n] 27))); have U9 := Lib.hid ((U8.out.below q).below (ba w9 (.cells #[.int .u8 4, .int .i64 0, .int .i64 0, .int .i64 n] 27))); have W9 := Lib.hid (Four.new w9 ⟨4, 0, 0, n⟩); clear q RT2)
  obtain ⟨z9, hz⟩ : ∃ x, Hid (x = w9.alloc (.cells #[.int .u8 4, .int .i64 0, .int .i64 0, .int .i64 n] 27)) := ⟨_, rfl⟩
  obtain ⟨iW, hi⟩ : ∃ x, Hid (w9.heap.size = x) := ⟨_, rfl⟩
  rw [← hz.out] at B9 X9 D9 N9 E9 U9 W9 ⊢
  rw [hi.out] at W9 ⊢
  clear hz hi cU0 cU1 cU2 cU3 X8 D8 N8 E8 U8 B8
  have X9 : Hid (Four z9 iX ⟨v.k, v.c, v.s, v.e⟩) := X9
  have D9 : Hid (Two z9 iD (c) (s)) := D9
  have N9 : Hid (Four z9 iN ⟨1, p, r, 0⟩) := N9
  have E9 : Hid (Four z9 iE ⟨4, 0, 0, n⟩) := E9
  have U9 : Hid (Four z9 iU ⟨2, 0, 0, 0⟩) := U9
  have W9 : Hid (Four z9 iW ⟨4, 0, 0, n⟩) := W9
  have cW0 := W9.out.c0
  have cW1 := W9.out.c1
  have cW2 := W9.out.c2
  have cW3 := W9.out.c3
  go_upto_region 16 with (go_at_call 13; (with_reducible refine (RW _).mono ?_); rintro e w10 ⟨rfl, q⟩; have B10 := Lib.hid (bt B9.out q); have X10 : Hid (Four w10 iX ⟨v.k, v.c, v.s, v.e⟩) := Lib.hid (X9.out.below q); have D10 : Hid (Two w10 iD (c) (s)) := Lib.hid (D9.out.below q); have N10 : Hid (Four w10 iN ⟨1, p, r, 0⟩) := Lib.hid (N9.out.below q); have E10 : Hid (Four w10 iE ⟨4, 0, 0, n⟩) := Lib.hid (E9.out.below q); have U10 : Hid (Four w10 iU ⟨2, 0, 0, 0⟩) := Lib.hid (U9.out.below q); have W10 : Hid (Four w10 iW ⟨4, 0, 0, n⟩) := Lib.hid (W9.out.below q);have dE0 := E10.out.c0; have dE1 := E10.out.c1; have dE2 := E10.out.c2; have dE3 := E10.out.c3; have dW0 := W10.out.c0; have dW1 := W10.out.c1; have dW2 := W10.out.c2; have dW3 := W10.out.c3; clear q RW)
  clear X9 D9 N9 E9 U9 W9 cW0 cW1 cW2 cW3 dE0 dE1 dE2 dE3 dW0 dW1 dW2 dW3 B9
  have cD0 := D10.out.c0
  have cD1 := D10.out.c1
  go_upto_region 18 with (go_at_call 18; (with_reducible refine (IS _).mono ?_); rintro e w11 ⟨rfl, q⟩; have B11 := Lib.hid (bt B10.out q); have X11 : Hid (Four w11 iX ⟨v.k, v.c, v.s, v.e⟩) := Lib.hid (X10.out.below q); have D11 : Hid (Two w11 iD (c) (s)) := Lib.hid (D10.out.below q); have N11 : Hid (Four w11 iN ⟨1, p, r, 0⟩) := Lib.hid (N10.out.below q); have E11 : Hid (Four w11 iE ⟨4, 0, 0, n⟩) := Lib.hid (E10.out.below q); have U11 : Hid (Four w11 iU ⟨2, 0, 0, 0⟩) := Lib.hid (U10.out.below q); have W11 : Hid (Four w11 iW ⟨4, 0, 0, n⟩) := Lib.hid (W10.out.below q); clear q IS)
  clear X10 D10 N10 E10 U10 W10 cD0 cD1 B10
  have cD0 := D11.out.c0
  have cD1 := D11.out.c1
  go_upto_region 19 with (go_at_call 19; (with_reducible refine (PU _).mono ?_); rintro e w12 ⟨rfl, q⟩; have B12 := Lib.hid (bt B11.out (bt q (ba w12 (.cells #[.int .i64 p, .int .i64 r] 24)))); have X12 := Lib.hid ((X11.out.below q).below (ba w12 (.cells #[.int .i64 p, .int .i64 r] 24))); have D12 := Lib.hid ((D11.out.below q).below (ba w12 (.cells #[.int .i64 p, .int .i64 r] 24))); have N12 := Lib.hid ((N11.out.below q).below (ba w12 (.cells #[.int .i64 p, .int .i64 r] 24))); have E12 := Lib.hid ((E11.out.below q).below (ba w12 (.cells #[.int .i64 p, .int .i64 r] 24))); have U12 := Lib.hid ((U11.out.below q).below (ba w12 (.cells #[.int .i64 p, .int .i64 r] 24))); have W12 := Lib.hid ((W11.out.below q).below (ba w12 (.cells #[.int .i64 p, .int .i64 r] 24))); have Q12 := Lib.hid (Two.new w12 (p) (r)); clear q)
  obtain ⟨z12, hz⟩ : ∃ x, Hid (x = w12.alloc (.cells #[.int .i64 p, .int .i64 r] 24)) := ⟨_, rfl⟩
  obtain ⟨iQ, hi⟩ : ∃ x, Hid (w12.heap.size = x) := ⟨_, rfl⟩
  rw [← hz.out] at B12 X12 D12 N12 E12 U12 W12 Q12 ⊢
  rw [hi.out] at Q12 ⊢
  clear hz hi cD0 cD1 X11 D11 N11 E11 U11 W11 B11
  have X12 : Hid (Four z12 iX ⟨v.k, v.c, v.s, v.e⟩) := X12
  have D12 : Hid (Two z12 iD (c) (s)) := D12
  have N12 : Hid (Four z12 iN ⟨1, p, r, 0⟩) := N12
  have E12 : Hid (Four z12 iE ⟨4, 0, 0, n⟩) := E12
  have U12 : Hid (Four z12 iU ⟨2, 0, 0, 0⟩) := U12
  have W12 : Hid (Four z12 iW ⟨4, 0, 0, n⟩) := W12
  have Q12 : Hid (Two z12 iQ (p) (r)) := Q12
  clear PU
  have cN0 := N12.out.c0
  have cN1 := N12.out.c1
  have cN2 := N12.out.c2
  have cN3 := N12.out.c3
  have cQ0 := Q12.out.c0
  have cQ1 := Q12.out.c1
  have K := knownV_is (HE.out.below B12.out)
  go_wp2_with (go_at_call 8; (with_reducible refine K.mono ?_); rintro e w13 ⟨rfl, q⟩; have B13 := Lib.hid (bt B12.out q); clear q K)
  go_ret
  exact ⟨rfl, B13.out⟩
set_option maxRecDepth 100000 in
set_option maxHeartbeats 4000000 in
theorem tells_Btmq {w : World} (v : V) (hv : v.ok) (c s : Int) (hc : fits c) (n : Int) (hn : fits n) (he : Env w) (hm : mayV v = false) (hb : mayV ⟨4, 0, 0, n⟩ = true) (hs : isB s = false) : Calls Tryd.prog 5 #[.agg #[.int .u8 v.k, .int .i64 v.c, .int .i64 v.s, .int .i64 v.e], .agg #[.int .i64 c, .int .i64 s], .bool true, .int .i64 n] w fun e w' => e = .returned (.bool true) ∧ Below w.heap.size w w' := by
  have HE := Lib.hid he
  have T := fun w h => text_is (w := w) v hv h
  have RT := fun w => rtext_is (w := w) v hv
  have MV := fun w => may_is (w := w) v hv
  have RM := fun w => rmay_is (w := w) v hv
  have NU := fun w => num_is (w := w) c s hc
  have BA := fun w => bad_is (w := w) n hn
  have TR := fun w => truth_is (w := w) true
  have RT2 := fun w => rmay_is (w := w) ⟨2, 0, 0, 0⟩ ⟨by decide, by decide, by decide, by decide⟩
  have RW := fun w => rmay_is (w := w) ⟨4, 0, 0, n⟩ ⟨⟨by show (0 : Int) ≤ 4; decide, by show (4 : Int) ≤ 255; decide⟩, by show fits 0; decide, by show fits 0; decide, hn⟩
  have IS := fun w => rIs_any c s w
  unfold VPost numS at NU
  unfold VPost badV at BA
  rw [hs] at NU IS
  rw [hb] at BA
  rw [show mayV ⟨2, 0, 0, 0⟩ = true from by decide] at RT2
  rw [hm] at MV RM
  simp only [hb] at RW
  simp only [if_true, Bool.false_eq_true, if_false] at NU BA TR RT2
  obtain ⟨s1, s2⟩ := text_facts hv.2.1 _ hm
  obtain ⟨S, hS⟩ : ∃ s, Hid (bs (textV v) = s) := ⟨_, rfl⟩
  rw [hS.out] at T RT s1 s2
  simp only [Bool.not_true, Bool.not_false] at s1 s2
  have ss := self_toList S
  have B0 := Lib.hid (bt (ba w (.cells #[.int .u8 v.k, .int .i64 v.c, .int .i64 v.s, .int .i64 v.e] 27)) (ba _ (.cells #[.int .i64 c, .int .i64 s] 24)))
  have X0 := Lib.hid ((Four.new w v).below (ba _ (.cells #[.int .i64 c, .int .i64 s] 24)))
  have D0 := Lib.hid (Two.new (w.alloc (.cells #[.int .u8 v.k, .int .i64 v.c, .int .i64 v.s, .int .i64 v.e] 27)) c s)
  clear hv hc hn he hm hb hs hS
  go_enter Tryd.func5, Tryd.ntmps5
  go_upto_region 1 with fail
  obtain ⟨u1, hu1⟩ : ∃ x, Hid (x = w.alloc (.cells #[.int .u8 v.k, .int .i64 v.c, .int .i64 v.s, .int .i64 v.e] 27)) := ⟨_, rfl⟩
  obtain ⟨iX, hiX⟩ : ∃ x, Hid (w.heap.size = x) := ⟨_, rfl⟩
  have hs1 : u1.heap.size = w.heap.size + 1 := by rw [hu1.out]; simp
  rw [← hu1.out] at B0 X0 D0 ⊢
  obtain ⟨iD, hiD⟩ : ∃ x, Hid (u1.heap.size = x) := ⟨_, rfl⟩
  obtain ⟨w0, hw0⟩ : ∃ x, Hid (x = u1.alloc (.cells #[.int .i64 c, .int .i64 s] 24)) := ⟨_, rfl⟩
  rw [← hw0.out] at B0 X0 D0 ⊢
  have hs2 : w.heap.size + 1 = iD := by rw [← hs1]; exact hiD.out
  rw [hiD.out] at D0
  first | rw [hs2] | rw [hiD.out]
  rw [hiX.out] at X0
  clear hu1 hw0 hs1
  try rw [hiX.out]
  clear hs2 hiX hiD
  have X0 : Hid (Four w0 iX ⟨v.k, v.c, v.s, v.e⟩) := X0
  have cX0 := X0.out.c0
  have cX1 := X0.out.c1
  have cX2 := X0.out.c2
  have cX3 := X0.out.c3
  have T0 := T w0 (HE.out.below B0.out)
  go_upto_region 2 with (first | (go_at_call 11; (with_reducible refine T0.mono ?_); rintro e1 w1 ⟨rfl, q1⟩; have B1 := Lib.hid (bt B0.out q1); have X1 : Hid (Four w1 iX ⟨v.k, v.c, v.s, v.e⟩) := Lib.hid (X0.out.below q1); have D1 : Hid (Two w1 iD (c) (s)) := Lib.hid (D0.out.below q1); clear q1 T0))
  clear cX0 cX1 cX2 cX3 X0 D0
  have dr : Below w1.heap.size w1 w1.drew := ⟨rfl, rfl, rfl, Nat.le_refl _, fun _ _ => rfl⟩
  have mk : ∀ w', Below w1.heap.size w1 w' → w'.cell? ⟨iX, 0, none⟩ = some (.int .u8 v.k) ∧ w'.cell? ⟨iX, 1, none⟩ = some (.int .i64 v.c) ∧ w'.cell? ⟨iX, 2, none⟩ = some (.int .i64 v.s) ∧ w'.cell? ⟨iX, 3, none⟩ = some (.int .i64 v.e) := fun w' h => ⟨(X1.out.below h).c0, (X1.out.below h).c1, (X1.out.below h).c2, (X1.out.below h).c3⟩
  have HS0 := mk w1.drew dr
  go_region_held3 (fun w' : World => w'.cell? ⟨iX, 0, none⟩ = some (.int .u8 v.k) ∧ w'.cell? ⟨iX, 1, none⟩ = some (.int .i64 v.c) ∧ w'.cell? ⟨iX, 2, none⟩ = some (.int .i64 v.s) ∧ w'.cell? ⟨iX, 3, none⟩ = some (.int .i64 v.e))
    (first | with_reducible exact HS0 | with_reducible assumption)
    (first
      | (go_at_call 12; (with_reducible refine (MV _).mono ?_); rintro e2 w2 ⟨rfl, q2⟩; have HS2 := mk w2 (bt dr q2); have C2 := Lib.hid (bt dr q2); clear q2 MV)
      | (go_at_call 13; (with_reducible refine (RM _).mono ?_); rintro e3 w3 ⟨rfl, q3⟩; have HS3 := mk w3 (bt C2.out q3); have C3 := Lib.hid (bt C2.out q3); clear q3 RM)
      | (go_at_call 14; (with_reducible refine (RT _).mono ?_); rintro e4 w4 ⟨rfl, q4⟩; have HS4 := mk w4 (bt C3.out q4); have C4 := Lib.hid (bt C3.out q4); clear q4 RT))
  have X4 : Hid (Four w4 iX ⟨v.k, v.c, v.s, v.e⟩) := Lib.hid (X1.out.below C4.out); have D4 : Hid (Two w4 iD (c) (s)) := Lib.hid (D1.out.below C4.out); have B4 := Lib.hid (bt B1.out C4.out)
  clear HS0 HS2 HS3 HS4 dr mk C2 C3 C4 X1 D1 B1
  have cD0 := D4.out.c0
  have cD1 := D4.out.c1
  go_upto_region 9 with (go_at_call 15; (with_reducible refine (NU _).mono ?_); rintro e w6 ⟨rfl, q⟩; have B6 := Lib.hid (bt B4.out (bt q (ba w6 (.cells #[.int .u8 0, .int .i64 0, .int .i64 0, .int .i64 0] 27)))); have X6 := Lib.hid ((X4.out.below q).below (ba w6 (.cells #[.int .u8 0, .int .i64 0, .int .i64 0, .int .i64 0] 27))); have D6 := Lib.hid ((D4.out.below q).below (ba w6 (.cells #[.int .u8 0, .int .i64 0, .int .i64 0, .int .i64 0] 27))); have N6 := Lib.hid (Four.new w6 ⟨0, 0, 0, 0⟩); clear q)
  obtain ⟨z6, hz⟩ : ∃ x, Hid (x = w6.alloc (.cells #[.int .u8 0, .int .i64 0, .int .i64 0, .int .i64 0] 27)) := ⟨_, rfl⟩
  obtain ⟨iN, hi⟩ : ∃ x, Hid (w6.heap.size = x) := ⟨_, rfl⟩
  rw [← hz.out] at B6 X6 D6 N6 ⊢
  rw [hi.out] at N6 ⊢
  clear hz hi cD0 cD1 X4 D4 B4
  have X6 : Hid (Four z6 iX ⟨v.k, v.c, v.s, v.e⟩) := X6
  have D6 : Hid (Two z6 iD (c) (s)) := D6
  have N6 : Hid (Four z6 iN ⟨0, 0, 0, 0⟩) := N6
  go_upto_region 10 with (go_at_call 16; (with_reducible refine (BA _).mono ?_); rintro e w7 ⟨rfl, q⟩; have B7 := Lib.hid (bt B6.out (bt q (ba w7 (.cells #[.int .u8 4, .int .i64 0, .int .i64 0, .int .i64 n] 27)))); have X7 := Lib.hid ((X6.out.below q).below (ba w7 (.cells #[.int .u8 4, .int .i64 0, .int .i64 0, .int .i64 n] 27))); have D7 := Lib.hid ((D6.out.below q).below (ba w7 (.cells #[.int .u8 4, .int .i64 0, .int .i64 0, .int .i64 n] 27))); have N7 := Lib.hid ((N6.out.below q).below (ba w7 (.cells #[.int .u8 4, .int .i64 0, .int .i64 0, .int .i64 n] 27))); have E7 := Lib.hid (Four.new w7 ⟨4, 0, 0, n⟩); clear q)
  obtain ⟨z7, hz⟩ : ∃ x, Hid (x = w7.alloc (.cells #[.int .u8 4, .int .i64 0, .int .i64 0, .int .i64 n] 27)) := ⟨_, rfl⟩
  obtain ⟨iE, hi⟩ : ∃ x, Hid (w7.heap.size = x) := ⟨_, rfl⟩
  rw [← hz.out] at B7 X7 D7 N7 E7 ⊢
  rw [hi.out] at E7 ⊢
  clear hz hi  X6 D6 N6 B6
  have X7 : Hid (Four z7 iX ⟨v.k, v.c, v.s, v.e⟩) := X7
  have D7 : Hid (Two z7 iD (c) (s)) := D7
  have N7 : Hid (Four z7 iN ⟨0, 0, 0, 0⟩) := N7
  have E7 : Hid (Four z7 iE ⟨4, 0, 0, n⟩) := E7
  go_upto_region 11 with (go_at_call 17; (with_reducible refine (TR _).mono ?_); rintro e w8 ⟨rfl, q⟩; have B8 := Lib.hid (bt B7.out (bt q (ba w8 (.cells #[.int .u8 2, .int .i64 0, .int .i64 0, .int .i64 0] 27)))); have X8 := Lib.hid ((X7.out.below q).below (ba w8 (.cells #[.int .u8 2, .int .i64 0, .int .i64 0, .int .i64 0] 27))); have D8 := Lib.hid ((D7.out.below q).below (ba w8 (.cells #[.int .u8 2, .int .i64 0, .int .i64 0, .int .i64 0] 27))); have N8 := Lib.hid ((N7.out.below q).below (ba w8 (.cells #[.int .u8 2, .int .i64 0, .int .i64 0, .int .i64 0] 27))); have E8 := Lib.hid ((E7.out.below q).below (ba w8 (.cells #[.int .u8 2, .int .i64 0, .int .i64 0, .int .i64 0] 27))); have U8 := Lib.hid (Four.new w8 ⟨2, 0, 0, 0⟩); clear q)
  obtain ⟨z8, hz⟩ : ∃ x, Hid (x = w8.alloc (.cells #[.int .u8 2, .int .i64 0, .int .i64 0, .int .i64 0] 27)) := ⟨_, rfl⟩
  obtain ⟨iU, hi⟩ : ∃ x, Hid (w8.heap.size = x) := ⟨_, rfl⟩
  rw [← hz.out] at B8 X8 D8 N8 E8 U8 ⊢
  rw [hi.out] at U8 ⊢
  clear hz hi  X7 D7 N7 E7 B7
  have X8 : Hid (Four z8 iX ⟨v.k, v.c, v.s, v.e⟩) := X8
  have D8 : Hid (Two z8 iD (c) (s)) := D8
  have N8 : Hid (Four z8 iN ⟨0, 0, 0, 0⟩) := N8
  have E8 : Hid (Four z8 iE ⟨4, 0, 0, n⟩) := E8
  have U8 : Hid (Four z8 iU ⟨2, 0, 0, 0⟩) := U8
  clear NU BA TR
  have cU0 := U8.out.c0
  have cU1 := U8.out.c1
  have cU2 := U8.out.c2
  have cU3 := U8.out.c3
  go_upto_region 14 with (go_at_call 13; (with_reducible refine (RT2 _).mono ?_); rintro e w9 ⟨rfl, q⟩; have B9 := Lib.hid (bt B8.out (bt q (ba w9 (.cells #[.int .u8 4, .int .i64 0, .int .i64 0, .int .i64 n] 27)))); have X9 := Lib.hid ((X8.out.below q).below (ba w9 (.cells #[.int .u8 4, .int .i64 0, .int .i64 0, .int .i64 n] 27))); have D9 := Lib.hid ((D8.out.below q).below (ba w9 (.cells #[.int .u8 4, .int .i64 0, .int .i64 0, .int .i64 n] 27))); have N9 := Lib.hid ((N8.out.below q).below (ba w9 (.cells #[.int .u8 4, .int .i64 0, .int .i64 0, .int .i64 n] 27))); have E9 := Lib.hid ((E8.out.below q).below (ba w9 (.cells #[.int .u8 4, .int .i64 0, .int .i64 0, .int .i64 n] 27))); have U9 := Lib.hid ((U8.out.below q).below (ba w9 (.cells #[.int .u8 4, .int .i64 0, .int .i64 0, .int .i64 n] 27))); have W9 := Lib.hid (Four.new w9 ⟨4, 0, 0, n⟩); clear q RT2)
  obtain ⟨z9, hz⟩ : ∃ x, Hid (x = w9.alloc (.cells #[.int .u8 4, .int .i64 0, .int .i64 0, .int .i64 n] 27)) := ⟨_, rfl⟩
  obtain ⟨iW, hi⟩ : ∃ x, Hid (w9.heap.size = x) := ⟨_, rfl⟩
  rw [← hz.out] at B9 X9 D9 N9 E9 U9 W9 ⊢
  rw [hi.out] at W9 ⊢
  clear hz hi cU0 cU1 cU2 cU3 X8 D8 N8 E8 U8 B8
  have X9 : Hid (Four z9 iX ⟨v.k, v.c, v.s, v.e⟩) := X9
  have D9 : Hid (Two z9 iD (c) (s)) := D9
  have N9 : Hid (Four z9 iN ⟨0, 0, 0, 0⟩) := N9
  have E9 : Hid (Four z9 iE ⟨4, 0, 0, n⟩) := E9
  have U9 : Hid (Four z9 iU ⟨2, 0, 0, 0⟩) := U9
  have W9 : Hid (Four z9 iW ⟨4, 0, 0, n⟩) := W9
  have cW0 := W9.out.c0
  have cW1 := W9.out.c1
  have cW2 := W9.out.c2
  have cW3 := W9.out.c3
  go_upto_region 16 with (go_at_call 13; (with_reducible refine (RW _).mono ?_); rintro e w10 ⟨rfl, q⟩; have B10 := Lib.hid (bt B9.out q); have X10 : Hid (Four w10 iX ⟨v.k, v.c, v.s, v.e⟩) := Lib.hid (X9.out.below q); have D10 : Hid (Two w10 iD (c) (s)) := Lib.hid (D9.out.below q); have N10 : Hid (Four w10 iN ⟨0, 0, 0, 0⟩) := Lib.hid (N9.out.below q); have E10 : Hid (Four w10 iE ⟨4, 0, 0, n⟩) := Lib.hid (E9.out.below q); have U10 : Hid (Four w10 iU ⟨2, 0, 0, 0⟩) := Lib.hid (U9.out.below q); have W10 : Hid (Four w10 iW ⟨4, 0, 0, n⟩) := Lib.hid (W9.out.below q);have dE0 := E10.out.c0; have dE1 := E10.out.c1; have dE2 := E10.out.c2; have dE3 := E10.out.c3; have dW0 := W10.out.c0; have dW1 := W10.out.c1; have dW2 := W10.out.c2; have dW3 := W10.out.c3; clear q RW)
  clear X9 D9 N9 E9 U9 W9 cW0 cW1 cW2 cW3 dE0 dE1 dE2 dE3 dW0 dW1 dW2 dW3 B9
  have cD0 := D10.out.c0
  have cD1 := D10.out.c1
  go_wp2_with (first | (go_at_call 18; (with_reducible refine (IS _).mono ?_); rintro e w11 ⟨rfl, q⟩; have B11 := Lib.hid (bt B10.out q); have X11 : Hid (Four w11 iX ⟨v.k, v.c, v.s, v.e⟩) := Lib.hid (X10.out.below q); have D11 : Hid (Two w11 iD (c) (s)) := Lib.hid (D10.out.below q); have N11 : Hid (Four w11 iN ⟨0, 0, 0, 0⟩) := Lib.hid (N10.out.below q); have E11 : Hid (Four w11 iE ⟨4, 0, 0, n⟩) := Lib.hid (E10.out.below q); have U11 : Hid (Four w11 iU ⟨2, 0, 0, 0⟩) := Lib.hid (U10.out.below q); have W11 : Hid (Four w11 iW ⟨4, 0, 0, n⟩) := Lib.hid (W10.out.below q); have K := knownV_is (HE.out.below B11.out);have cN0 := N11.out.c0; have cN1 := N11.out.c1; have cN2 := N11.out.c2; have cN3 := N11.out.c3; clear q IS) | (go_at_call 8; (with_reducible refine K.mono ?_); rintro e w13 ⟨rfl, q⟩; have B13 := Lib.hid (bt B11.out q); clear q K))
  go_ret
  exact ⟨rfl, B13.out⟩
set_option maxRecDepth 100000 in
set_option maxHeartbeats 4000000 in
theorem tells_Btnp {w : World} (v : V) (hv : v.ok) (c s : Int) (hc : fits c) (n : Int) (hn : fits n) (he : Env w) (hm : mayV v = false) (hb : mayV ⟨4, 0, 0, n⟩ = false) (hs : isB s = true) : Calls Tryd.prog 5 #[.agg #[.int .u8 v.k, .int .i64 v.c, .int .i64 v.s, .int .i64 v.e], .agg #[.int .i64 c, .int .i64 s], .bool true, .int .i64 n] w fun e w' => e = .returned (.bool true) ∧ Below w.heap.size w w' := by
  have HE := Lib.hid he
  have T := fun w h => text_is (w := w) v hv h
  have RT := fun w => rtext_is (w := w) v hv
  have MV := fun w => may_is (w := w) v hv
  have RM := fun w => rmay_is (w := w) v hv
  have NU := fun w => num_is (w := w) c s hc
  have BA := fun w => bad_is (w := w) n hn
  have TR := fun w => truth_is (w := w) true
  have RT2 := fun w => rmay_is (w := w) ⟨2, 0, 0, 0⟩ ⟨by decide, by decide, by decide, by decide⟩
  have RW := fun w => rmay_is (w := w) ⟨4, 0, 0, n⟩ ⟨⟨by show (0 : Int) ≤ 4; decide, by show (4 : Int) ≤ 255; decide⟩, by show fits 0; decide, by show fits 0; decide, hn⟩
  have IS := fun w => rIs_any c s w
  have PU : ∀ w, Calls Tryd.prog 19 #[.agg #[.int .i64 c, .int .i64 s]] w fun e w' => e = .returned (.tuple #[.agg #[.int .i64 (canC c s), .int .i64 (canS c s : Int)], .int .i64 0]) ∧ Below w.heap.size w w' := fun w => by
    have e := putV_ok hc hs
    obtain ⟨m, rfl, hm'⟩ := isB_nat hs
    unfold putV at e
    rw [if_pos hs, Int.toNat_natCast, decV_un c m hm'] at e
    exact rPut_any c m _ w hc hm' e
  unfold VPost numS at NU
  unfold VPost badV at BA
  rw [hs] at NU IS
  rw [hb] at BA
  rw [show mayV ⟨2, 0, 0, 0⟩ = true from by decide] at RT2
  rw [hm] at MV RM
  simp only [hb] at RW
  simp only [if_true, Bool.false_eq_true, if_false] at NU BA TR RT2
  obtain ⟨s1, s2⟩ := text_facts hv.2.1 _ hm
  obtain ⟨S, hS⟩ : ∃ s, Hid (bs (textV v) = s) := ⟨_, rfl⟩
  rw [hS.out] at T RT s1 s2
  obtain ⟨p, hp⟩ : ∃ x, Hid (canC c s = x) := ⟨_, rfl⟩
  obtain ⟨r, hr⟩ : ∃ x : Int, Hid ((canS c s : Int) = x) := ⟨_, rfl⟩
  rw [hp.out, hr.out] at NU PU
  clear hp hr
  simp only [Bool.not_true, Bool.not_false] at s1 s2
  have ss := self_toList S
  have B0 := Lib.hid (bt (ba w (.cells #[.int .u8 v.k, .int .i64 v.c, .int .i64 v.s, .int .i64 v.e] 27)) (ba _ (.cells #[.int .i64 c, .int .i64 s] 24)))
  have X0 := Lib.hid ((Four.new w v).below (ba _ (.cells #[.int .i64 c, .int .i64 s] 24)))
  have D0 := Lib.hid (Two.new (w.alloc (.cells #[.int .u8 v.k, .int .i64 v.c, .int .i64 v.s, .int .i64 v.e] 27)) c s)
  clear hv hc hn he hm hb hs hS
  go_enter Tryd.func5, Tryd.ntmps5
  go_upto_region 1 with fail
  obtain ⟨u1, hu1⟩ : ∃ x, Hid (x = w.alloc (.cells #[.int .u8 v.k, .int .i64 v.c, .int .i64 v.s, .int .i64 v.e] 27)) := ⟨_, rfl⟩
  obtain ⟨iX, hiX⟩ : ∃ x, Hid (w.heap.size = x) := ⟨_, rfl⟩
  have hs1 : u1.heap.size = w.heap.size + 1 := by rw [hu1.out]; simp
  rw [← hu1.out] at B0 X0 D0 ⊢
  obtain ⟨iD, hiD⟩ : ∃ x, Hid (u1.heap.size = x) := ⟨_, rfl⟩
  obtain ⟨w0, hw0⟩ : ∃ x, Hid (x = u1.alloc (.cells #[.int .i64 c, .int .i64 s] 24)) := ⟨_, rfl⟩
  rw [← hw0.out] at B0 X0 D0 ⊢
  have hs2 : w.heap.size + 1 = iD := by rw [← hs1]; exact hiD.out
  rw [hiD.out] at D0
  first | rw [hs2] | rw [hiD.out]
  rw [hiX.out] at X0
  clear hu1 hw0 hs1
  try rw [hiX.out]
  clear hs2 hiX hiD
  have X0 : Hid (Four w0 iX ⟨v.k, v.c, v.s, v.e⟩) := X0
  have cX0 := X0.out.c0
  have cX1 := X0.out.c1
  have cX2 := X0.out.c2
  have cX3 := X0.out.c3
  have T0 := T w0 (HE.out.below B0.out)
  go_upto_region 2 with (first | (go_at_call 11; (with_reducible refine T0.mono ?_); rintro e1 w1 ⟨rfl, q1⟩; have B1 := Lib.hid (bt B0.out q1); have X1 : Hid (Four w1 iX ⟨v.k, v.c, v.s, v.e⟩) := Lib.hid (X0.out.below q1); have D1 : Hid (Two w1 iD (c) (s)) := Lib.hid (D0.out.below q1); clear q1 T0))
  clear cX0 cX1 cX2 cX3 X0 D0
  have dr : Below w1.heap.size w1 w1.drew := ⟨rfl, rfl, rfl, Nat.le_refl _, fun _ _ => rfl⟩
  have mk : ∀ w', Below w1.heap.size w1 w' → w'.cell? ⟨iX, 0, none⟩ = some (.int .u8 v.k) ∧ w'.cell? ⟨iX, 1, none⟩ = some (.int .i64 v.c) ∧ w'.cell? ⟨iX, 2, none⟩ = some (.int .i64 v.s) ∧ w'.cell? ⟨iX, 3, none⟩ = some (.int .i64 v.e) := fun w' h => ⟨(X1.out.below h).c0, (X1.out.below h).c1, (X1.out.below h).c2, (X1.out.below h).c3⟩
  have HS0 := mk w1.drew dr
  go_region_held3 (fun w' : World => w'.cell? ⟨iX, 0, none⟩ = some (.int .u8 v.k) ∧ w'.cell? ⟨iX, 1, none⟩ = some (.int .i64 v.c) ∧ w'.cell? ⟨iX, 2, none⟩ = some (.int .i64 v.s) ∧ w'.cell? ⟨iX, 3, none⟩ = some (.int .i64 v.e))
    (first | with_reducible exact HS0 | with_reducible assumption)
    (first
      | (go_at_call 12; (with_reducible refine (MV _).mono ?_); rintro e2 w2 ⟨rfl, q2⟩; have HS2 := mk w2 (bt dr q2); have C2 := Lib.hid (bt dr q2); clear q2 MV)
      | (go_at_call 13; (with_reducible refine (RM _).mono ?_); rintro e3 w3 ⟨rfl, q3⟩; have HS3 := mk w3 (bt C2.out q3); have C3 := Lib.hid (bt C2.out q3); clear q3 RM)
      | (go_at_call 14; (with_reducible refine (RT _).mono ?_); rintro e4 w4 ⟨rfl, q4⟩; have HS4 := mk w4 (bt C3.out q4); have C4 := Lib.hid (bt C3.out q4); clear q4 RT))
  have X4 : Hid (Four w4 iX ⟨v.k, v.c, v.s, v.e⟩) := Lib.hid (X1.out.below C4.out); have D4 : Hid (Two w4 iD (c) (s)) := Lib.hid (D1.out.below C4.out); have B4 := Lib.hid (bt B1.out C4.out)
  clear HS0 HS2 HS3 HS4 dr mk C2 C3 C4 X1 D1 B1
  have cD0 := D4.out.c0
  have cD1 := D4.out.c1
  go_upto_region 9 with (go_at_call 15; (with_reducible refine (NU _).mono ?_); rintro e w6 ⟨rfl, q⟩; have B6 := Lib.hid (bt B4.out (bt q (ba w6 (.cells #[.int .u8 1, .int .i64 p, .int .i64 r, .int .i64 0] 27)))); have X6 := Lib.hid ((X4.out.below q).below (ba w6 (.cells #[.int .u8 1, .int .i64 p, .int .i64 r, .int .i64 0] 27))); have D6 := Lib.hid ((D4.out.below q).below (ba w6 (.cells #[.int .u8 1, .int .i64 p, .int .i64 r, .int .i64 0] 27))); have N6 := Lib.hid (Four.new w6 ⟨1, p, r, 0⟩); clear q)
  obtain ⟨z6, hz⟩ : ∃ x, Hid (x = w6.alloc (.cells #[.int .u8 1, .int .i64 p, .int .i64 r, .int .i64 0] 27)) := ⟨_, rfl⟩
  obtain ⟨iN, hi⟩ : ∃ x, Hid (w6.heap.size = x) := ⟨_, rfl⟩
  rw [← hz.out] at B6 X6 D6 N6 ⊢
  rw [hi.out] at N6 ⊢
  clear hz hi cD0 cD1 X4 D4 B4
  have X6 : Hid (Four z6 iX ⟨v.k, v.c, v.s, v.e⟩) := X6
  have D6 : Hid (Two z6 iD (c) (s)) := D6
  have N6 : Hid (Four z6 iN ⟨1, p, r, 0⟩) := N6
  go_upto_region 10 with (go_at_call 16; (with_reducible refine (BA _).mono ?_); rintro e w7 ⟨rfl, q⟩; have B7 := Lib.hid (bt B6.out (bt q (ba w7 (.cells #[.int .u8 0, .int .i64 0, .int .i64 0, .int .i64 0] 27)))); have X7 := Lib.hid ((X6.out.below q).below (ba w7 (.cells #[.int .u8 0, .int .i64 0, .int .i64 0, .int .i64 0] 27))); have D7 := Lib.hid ((D6.out.below q).below (ba w7 (.cells #[.int .u8 0, .int .i64 0, .int .i64 0, .int .i64 0] 27))); have N7 := Lib.hid ((N6.out.below q).below (ba w7 (.cells #[.int .u8 0, .int .i64 0, .int .i64 0, .int .i64 0] 27))); have E7 := Lib.hid (Four.new w7 ⟨0, 0, 0, 0⟩); clear q)
  obtain ⟨z7, hz⟩ : ∃ x, Hid (x = w7.alloc (.cells #[.int .u8 0, .int .i64 0, .int .i64 0, .int .i64 0] 27)) := ⟨_, rfl⟩
  obtain ⟨iE, hi⟩ : ∃ x, Hid (w7.heap.size = x) := ⟨_, rfl⟩
  rw [← hz.out] at B7 X7 D7 N7 E7 ⊢
  rw [hi.out] at E7 ⊢
  clear hz hi  X6 D6 N6 B6
  have X7 : Hid (Four z7 iX ⟨v.k, v.c, v.s, v.e⟩) := X7
  have D7 : Hid (Two z7 iD (c) (s)) := D7
  have N7 : Hid (Four z7 iN ⟨1, p, r, 0⟩) := N7
  have E7 : Hid (Four z7 iE ⟨0, 0, 0, 0⟩) := E7
  go_upto_region 11 with (go_at_call 17; (with_reducible refine (TR _).mono ?_); rintro e w8 ⟨rfl, q⟩; have B8 := Lib.hid (bt B7.out (bt q (ba w8 (.cells #[.int .u8 2, .int .i64 0, .int .i64 0, .int .i64 0] 27)))); have X8 := Lib.hid ((X7.out.below q).below (ba w8 (.cells #[.int .u8 2, .int .i64 0, .int .i64 0, .int .i64 0] 27))); have D8 := Lib.hid ((D7.out.below q).below (ba w8 (.cells #[.int .u8 2, .int .i64 0, .int .i64 0, .int .i64 0] 27))); have N8 := Lib.hid ((N7.out.below q).below (ba w8 (.cells #[.int .u8 2, .int .i64 0, .int .i64 0, .int .i64 0] 27))); have E8 := Lib.hid ((E7.out.below q).below (ba w8 (.cells #[.int .u8 2, .int .i64 0, .int .i64 0, .int .i64 0] 27))); have U8 := Lib.hid (Four.new w8 ⟨2, 0, 0, 0⟩); clear q)
  obtain ⟨z8, hz⟩ : ∃ x, Hid (x = w8.alloc (.cells #[.int .u8 2, .int .i64 0, .int .i64 0, .int .i64 0] 27)) := ⟨_, rfl⟩
  obtain ⟨iU, hi⟩ : ∃ x, Hid (w8.heap.size = x) := ⟨_, rfl⟩
  rw [← hz.out] at B8 X8 D8 N8 E8 U8 ⊢
  rw [hi.out] at U8 ⊢
  clear hz hi  X7 D7 N7 E7 B7
  have X8 : Hid (Four z8 iX ⟨v.k, v.c, v.s, v.e⟩) := X8
  have D8 : Hid (Two z8 iD (c) (s)) := D8
  have N8 : Hid (Four z8 iN ⟨1, p, r, 0⟩) := N8
  have E8 : Hid (Four z8 iE ⟨0, 0, 0, 0⟩) := E8
  have U8 : Hid (Four z8 iU ⟨2, 0, 0, 0⟩) := U8
  clear NU BA TR
  have cU0 := U8.out.c0
  have cU1 := U8.out.c1
  have cU2 := U8.out.c2
  have cU3 := U8.out.c3
  go_upto_region 14 with (go_at_call 13; (with_reducible refine (RT2 _).mono ?_); rintro e w9 ⟨rfl, q⟩; have B9 := Lib.hid (bt B8.out (bt q (ba w9 (.cells #[.int .u8 4, .int .i64 0, .int .i64 0, .int .i64 n] 27)))); have X9 := Lib.hid ((X8.out.below q).below (ba w9 (.cells #[.int .u8 4, .int .i64 0, .int .i64 0, .int .i64 n] 27))); have D9 := Lib.hid ((D8.out.below q).below (ba w9 (.cells #[.int .u8 4, .int .i64 0, .int .i64 0, .int .i64 n] 27))); have N9 := Lib.hid ((N8.out.below q).below (ba w9 (.cells #[.int .u8 4, .int .i64 0, .int .i64 0, .int .i64 n] 27))); have E9 := Lib.hid ((E8.out.below q).below (ba w9 (.cells #[.int .u8 4, .int .i64 0, .int .i64 0, .int .i64 n] 27))); have U9 := Lib.hid ((U8.out.below q).below (ba w9 (.cells #[.int .u8 4, .int .i64 0, .int .i64 0, .int .i64 n] 27))); have W9 := Lib.hid (Four.new w9 ⟨4, 0, 0, n⟩); clear q RT2)
  obtain ⟨z9, hz⟩ : ∃ x, Hid (x = w9.alloc (.cells #[.int .u8 4, .int .i64 0, .int .i64 0, .int .i64 n] 27)) := ⟨_, rfl⟩
  obtain ⟨iW, hi⟩ : ∃ x, Hid (w9.heap.size = x) := ⟨_, rfl⟩
  rw [← hz.out] at B9 X9 D9 N9 E9 U9 W9 ⊢
  rw [hi.out] at W9 ⊢
  clear hz hi cU0 cU1 cU2 cU3 X8 D8 N8 E8 U8 B8
  have X9 : Hid (Four z9 iX ⟨v.k, v.c, v.s, v.e⟩) := X9
  have D9 : Hid (Two z9 iD (c) (s)) := D9
  have N9 : Hid (Four z9 iN ⟨1, p, r, 0⟩) := N9
  have E9 : Hid (Four z9 iE ⟨0, 0, 0, 0⟩) := E9
  have U9 : Hid (Four z9 iU ⟨2, 0, 0, 0⟩) := U9
  have W9 : Hid (Four z9 iW ⟨4, 0, 0, n⟩) := W9
  have cW0 := W9.out.c0
  have cW1 := W9.out.c1
  have cW2 := W9.out.c2
  have cW3 := W9.out.c3
  go_upto_region 16 with (go_at_call 13; (with_reducible refine (RW _).mono ?_); rintro e w10 ⟨rfl, q⟩; have B10 := Lib.hid (bt B9.out q); have X10 : Hid (Four w10 iX ⟨v.k, v.c, v.s, v.e⟩) := Lib.hid (X9.out.below q); have D10 : Hid (Two w10 iD (c) (s)) := Lib.hid (D9.out.below q); have N10 : Hid (Four w10 iN ⟨1, p, r, 0⟩) := Lib.hid (N9.out.below q); have E10 : Hid (Four w10 iE ⟨0, 0, 0, 0⟩) := Lib.hid (E9.out.below q); have U10 : Hid (Four w10 iU ⟨2, 0, 0, 0⟩) := Lib.hid (U9.out.below q); have W10 : Hid (Four w10 iW ⟨4, 0, 0, n⟩) := Lib.hid (W9.out.below q);have dE0 := E10.out.c0; have dE1 := E10.out.c1; have dE2 := E10.out.c2; have dE3 := E10.out.c3; have dW0 := W10.out.c0; have dW1 := W10.out.c1; have dW2 := W10.out.c2; have dW3 := W10.out.c3; clear q RW)
  clear X9 D9 N9 E9 U9 W9 cW0 cW1 cW2 cW3 dE0 dE1 dE2 dE3 dW0 dW1 dW2 dW3 B9
  have cD0 := D10.out.c0
  have cD1 := D10.out.c1
  go_upto_region 18 with (go_at_call 18; (with_reducible refine (IS _).mono ?_); rintro e w11 ⟨rfl, q⟩; have B11 := Lib.hid (bt B10.out q); have X11 : Hid (Four w11 iX ⟨v.k, v.c, v.s, v.e⟩) := Lib.hid (X10.out.below q); have D11 : Hid (Two w11 iD (c) (s)) := Lib.hid (D10.out.below q); have N11 : Hid (Four w11 iN ⟨1, p, r, 0⟩) := Lib.hid (N10.out.below q); have E11 : Hid (Four w11 iE ⟨0, 0, 0, 0⟩) := Lib.hid (E10.out.below q); have U11 : Hid (Four w11 iU ⟨2, 0, 0, 0⟩) := Lib.hid (U10.out.below q); have W11 : Hid (Four w11 iW ⟨4, 0, 0, n⟩) := Lib.hid (W10.out.below q); clear q IS)
  clear X10 D10 N10 E10 U10 W10 cD0 cD1 B10
  have cD0 := D11.out.c0
  have cD1 := D11.out.c1
  go_upto_region 19 with (go_at_call 19; (with_reducible refine (PU _).mono ?_); rintro e w12 ⟨rfl, q⟩; have B12 := Lib.hid (bt B11.out (bt q (ba w12 (.cells #[.int .i64 p, .int .i64 r] 24)))); have X12 := Lib.hid ((X11.out.below q).below (ba w12 (.cells #[.int .i64 p, .int .i64 r] 24))); have D12 := Lib.hid ((D11.out.below q).below (ba w12 (.cells #[.int .i64 p, .int .i64 r] 24))); have N12 := Lib.hid ((N11.out.below q).below (ba w12 (.cells #[.int .i64 p, .int .i64 r] 24))); have E12 := Lib.hid ((E11.out.below q).below (ba w12 (.cells #[.int .i64 p, .int .i64 r] 24))); have U12 := Lib.hid ((U11.out.below q).below (ba w12 (.cells #[.int .i64 p, .int .i64 r] 24))); have W12 := Lib.hid ((W11.out.below q).below (ba w12 (.cells #[.int .i64 p, .int .i64 r] 24))); have Q12 := Lib.hid (Two.new w12 (p) (r)); clear q)
  obtain ⟨z12, hz⟩ : ∃ x, Hid (x = w12.alloc (.cells #[.int .i64 p, .int .i64 r] 24)) := ⟨_, rfl⟩
  obtain ⟨iQ, hi⟩ : ∃ x, Hid (w12.heap.size = x) := ⟨_, rfl⟩
  rw [← hz.out] at B12 X12 D12 N12 E12 U12 W12 Q12 ⊢
  rw [hi.out] at Q12 ⊢
  clear hz hi cD0 cD1 X11 D11 N11 E11 U11 W11 B11
  have X12 : Hid (Four z12 iX ⟨v.k, v.c, v.s, v.e⟩) := X12
  have D12 : Hid (Two z12 iD (c) (s)) := D12
  have N12 : Hid (Four z12 iN ⟨1, p, r, 0⟩) := N12
  have E12 : Hid (Four z12 iE ⟨0, 0, 0, 0⟩) := E12
  have U12 : Hid (Four z12 iU ⟨2, 0, 0, 0⟩) := U12
  have W12 : Hid (Four z12 iW ⟨4, 0, 0, n⟩) := W12
  have Q12 : Hid (Two z12 iQ (p) (r)) := Q12
  clear PU
  have cN0 := N12.out.c0
  have cN1 := N12.out.c1
  have cN2 := N12.out.c2
  have cN3 := N12.out.c3
  have cQ0 := Q12.out.c0
  have cQ1 := Q12.out.c1
  have K := knownV_is (HE.out.below B12.out)
  go_wp2_with (go_at_call 8; (with_reducible refine K.mono ?_); rintro e w13 ⟨rfl, q⟩; have B13 := Lib.hid (bt B12.out q); clear q K)
  go_ret
  exact ⟨rfl, B13.out⟩
set_option maxRecDepth 100000 in
set_option maxHeartbeats 4000000 in
theorem tells_Btnq {w : World} (v : V) (hv : v.ok) (c s : Int) (hc : fits c) (n : Int) (hn : fits n) (he : Env w) (hm : mayV v = false) (hb : mayV ⟨4, 0, 0, n⟩ = false) (hs : isB s = false) : Calls Tryd.prog 5 #[.agg #[.int .u8 v.k, .int .i64 v.c, .int .i64 v.s, .int .i64 v.e], .agg #[.int .i64 c, .int .i64 s], .bool true, .int .i64 n] w fun e w' => e = .returned (.bool true) ∧ Below w.heap.size w w' := by
  have HE := Lib.hid he
  have T := fun w h => text_is (w := w) v hv h
  have RT := fun w => rtext_is (w := w) v hv
  have MV := fun w => may_is (w := w) v hv
  have RM := fun w => rmay_is (w := w) v hv
  have NU := fun w => num_is (w := w) c s hc
  have BA := fun w => bad_is (w := w) n hn
  have TR := fun w => truth_is (w := w) true
  have RT2 := fun w => rmay_is (w := w) ⟨2, 0, 0, 0⟩ ⟨by decide, by decide, by decide, by decide⟩
  have RW := fun w => rmay_is (w := w) ⟨4, 0, 0, n⟩ ⟨⟨by show (0 : Int) ≤ 4; decide, by show (4 : Int) ≤ 255; decide⟩, by show fits 0; decide, by show fits 0; decide, hn⟩
  have IS := fun w => rIs_any c s w
  unfold VPost numS at NU
  unfold VPost badV at BA
  rw [hs] at NU IS
  rw [hb] at BA
  rw [show mayV ⟨2, 0, 0, 0⟩ = true from by decide] at RT2
  rw [hm] at MV RM
  simp only [hb] at RW
  simp only [if_true, Bool.false_eq_true, if_false] at NU BA TR RT2
  obtain ⟨s1, s2⟩ := text_facts hv.2.1 _ hm
  obtain ⟨S, hS⟩ : ∃ s, Hid (bs (textV v) = s) := ⟨_, rfl⟩
  rw [hS.out] at T RT s1 s2
  simp only [Bool.not_true, Bool.not_false] at s1 s2
  have ss := self_toList S
  have B0 := Lib.hid (bt (ba w (.cells #[.int .u8 v.k, .int .i64 v.c, .int .i64 v.s, .int .i64 v.e] 27)) (ba _ (.cells #[.int .i64 c, .int .i64 s] 24)))
  have X0 := Lib.hid ((Four.new w v).below (ba _ (.cells #[.int .i64 c, .int .i64 s] 24)))
  have D0 := Lib.hid (Two.new (w.alloc (.cells #[.int .u8 v.k, .int .i64 v.c, .int .i64 v.s, .int .i64 v.e] 27)) c s)
  clear hv hc hn he hm hb hs hS
  go_enter Tryd.func5, Tryd.ntmps5
  go_upto_region 1 with fail
  obtain ⟨u1, hu1⟩ : ∃ x, Hid (x = w.alloc (.cells #[.int .u8 v.k, .int .i64 v.c, .int .i64 v.s, .int .i64 v.e] 27)) := ⟨_, rfl⟩
  obtain ⟨iX, hiX⟩ : ∃ x, Hid (w.heap.size = x) := ⟨_, rfl⟩
  have hs1 : u1.heap.size = w.heap.size + 1 := by rw [hu1.out]; simp
  rw [← hu1.out] at B0 X0 D0 ⊢
  obtain ⟨iD, hiD⟩ : ∃ x, Hid (u1.heap.size = x) := ⟨_, rfl⟩
  obtain ⟨w0, hw0⟩ : ∃ x, Hid (x = u1.alloc (.cells #[.int .i64 c, .int .i64 s] 24)) := ⟨_, rfl⟩
  rw [← hw0.out] at B0 X0 D0 ⊢
  have hs2 : w.heap.size + 1 = iD := by rw [← hs1]; exact hiD.out
  rw [hiD.out] at D0
  first | rw [hs2] | rw [hiD.out]
  rw [hiX.out] at X0
  clear hu1 hw0 hs1
  try rw [hiX.out]
  clear hs2 hiX hiD
  have X0 : Hid (Four w0 iX ⟨v.k, v.c, v.s, v.e⟩) := X0
  have cX0 := X0.out.c0
  have cX1 := X0.out.c1
  have cX2 := X0.out.c2
  have cX3 := X0.out.c3
  have T0 := T w0 (HE.out.below B0.out)
  go_upto_region 2 with (first | (go_at_call 11; (with_reducible refine T0.mono ?_); rintro e1 w1 ⟨rfl, q1⟩; have B1 := Lib.hid (bt B0.out q1); have X1 : Hid (Four w1 iX ⟨v.k, v.c, v.s, v.e⟩) := Lib.hid (X0.out.below q1); have D1 : Hid (Two w1 iD (c) (s)) := Lib.hid (D0.out.below q1); clear q1 T0))
  clear cX0 cX1 cX2 cX3 X0 D0
  have dr : Below w1.heap.size w1 w1.drew := ⟨rfl, rfl, rfl, Nat.le_refl _, fun _ _ => rfl⟩
  have mk : ∀ w', Below w1.heap.size w1 w' → w'.cell? ⟨iX, 0, none⟩ = some (.int .u8 v.k) ∧ w'.cell? ⟨iX, 1, none⟩ = some (.int .i64 v.c) ∧ w'.cell? ⟨iX, 2, none⟩ = some (.int .i64 v.s) ∧ w'.cell? ⟨iX, 3, none⟩ = some (.int .i64 v.e) := fun w' h => ⟨(X1.out.below h).c0, (X1.out.below h).c1, (X1.out.below h).c2, (X1.out.below h).c3⟩
  have HS0 := mk w1.drew dr
  go_region_held3 (fun w' : World => w'.cell? ⟨iX, 0, none⟩ = some (.int .u8 v.k) ∧ w'.cell? ⟨iX, 1, none⟩ = some (.int .i64 v.c) ∧ w'.cell? ⟨iX, 2, none⟩ = some (.int .i64 v.s) ∧ w'.cell? ⟨iX, 3, none⟩ = some (.int .i64 v.e))
    (first | with_reducible exact HS0 | with_reducible assumption)
    (first
      | (go_at_call 12; (with_reducible refine (MV _).mono ?_); rintro e2 w2 ⟨rfl, q2⟩; have HS2 := mk w2 (bt dr q2); have C2 := Lib.hid (bt dr q2); clear q2 MV)
      | (go_at_call 13; (with_reducible refine (RM _).mono ?_); rintro e3 w3 ⟨rfl, q3⟩; have HS3 := mk w3 (bt C2.out q3); have C3 := Lib.hid (bt C2.out q3); clear q3 RM)
      | (go_at_call 14; (with_reducible refine (RT _).mono ?_); rintro e4 w4 ⟨rfl, q4⟩; have HS4 := mk w4 (bt C3.out q4); have C4 := Lib.hid (bt C3.out q4); clear q4 RT))
  have X4 : Hid (Four w4 iX ⟨v.k, v.c, v.s, v.e⟩) := Lib.hid (X1.out.below C4.out); have D4 : Hid (Two w4 iD (c) (s)) := Lib.hid (D1.out.below C4.out); have B4 := Lib.hid (bt B1.out C4.out)
  clear HS0 HS2 HS3 HS4 dr mk C2 C3 C4 X1 D1 B1
  have cD0 := D4.out.c0
  have cD1 := D4.out.c1
  go_upto_region 9 with (go_at_call 15; (with_reducible refine (NU _).mono ?_); rintro e w6 ⟨rfl, q⟩; have B6 := Lib.hid (bt B4.out (bt q (ba w6 (.cells #[.int .u8 0, .int .i64 0, .int .i64 0, .int .i64 0] 27)))); have X6 := Lib.hid ((X4.out.below q).below (ba w6 (.cells #[.int .u8 0, .int .i64 0, .int .i64 0, .int .i64 0] 27))); have D6 := Lib.hid ((D4.out.below q).below (ba w6 (.cells #[.int .u8 0, .int .i64 0, .int .i64 0, .int .i64 0] 27))); have N6 := Lib.hid (Four.new w6 ⟨0, 0, 0, 0⟩); clear q)
  obtain ⟨z6, hz⟩ : ∃ x, Hid (x = w6.alloc (.cells #[.int .u8 0, .int .i64 0, .int .i64 0, .int .i64 0] 27)) := ⟨_, rfl⟩
  obtain ⟨iN, hi⟩ : ∃ x, Hid (w6.heap.size = x) := ⟨_, rfl⟩
  rw [← hz.out] at B6 X6 D6 N6 ⊢
  rw [hi.out] at N6 ⊢
  clear hz hi cD0 cD1 X4 D4 B4
  have X6 : Hid (Four z6 iX ⟨v.k, v.c, v.s, v.e⟩) := X6
  have D6 : Hid (Two z6 iD (c) (s)) := D6
  have N6 : Hid (Four z6 iN ⟨0, 0, 0, 0⟩) := N6
  go_upto_region 10 with (go_at_call 16; (with_reducible refine (BA _).mono ?_); rintro e w7 ⟨rfl, q⟩; have B7 := Lib.hid (bt B6.out (bt q (ba w7 (.cells #[.int .u8 0, .int .i64 0, .int .i64 0, .int .i64 0] 27)))); have X7 := Lib.hid ((X6.out.below q).below (ba w7 (.cells #[.int .u8 0, .int .i64 0, .int .i64 0, .int .i64 0] 27))); have D7 := Lib.hid ((D6.out.below q).below (ba w7 (.cells #[.int .u8 0, .int .i64 0, .int .i64 0, .int .i64 0] 27))); have N7 := Lib.hid ((N6.out.below q).below (ba w7 (.cells #[.int .u8 0, .int .i64 0, .int .i64 0, .int .i64 0] 27))); have E7 := Lib.hid (Four.new w7 ⟨0, 0, 0, 0⟩); clear q)
  obtain ⟨z7, hz⟩ : ∃ x, Hid (x = w7.alloc (.cells #[.int .u8 0, .int .i64 0, .int .i64 0, .int .i64 0] 27)) := ⟨_, rfl⟩
  obtain ⟨iE, hi⟩ : ∃ x, Hid (w7.heap.size = x) := ⟨_, rfl⟩
  rw [← hz.out] at B7 X7 D7 N7 E7 ⊢
  rw [hi.out] at E7 ⊢
  clear hz hi  X6 D6 N6 B6
  have X7 : Hid (Four z7 iX ⟨v.k, v.c, v.s, v.e⟩) := X7
  have D7 : Hid (Two z7 iD (c) (s)) := D7
  have N7 : Hid (Four z7 iN ⟨0, 0, 0, 0⟩) := N7
  have E7 : Hid (Four z7 iE ⟨0, 0, 0, 0⟩) := E7
  go_upto_region 11 with (go_at_call 17; (with_reducible refine (TR _).mono ?_); rintro e w8 ⟨rfl, q⟩; have B8 := Lib.hid (bt B7.out (bt q (ba w8 (.cells #[.int .u8 2, .int .i64 0, .int .i64 0, .int .i64 0] 27)))); have X8 := Lib.hid ((X7.out.below q).below (ba w8 (.cells #[.int .u8 2, .int .i64 0, .int .i64 0, .int .i64 0] 27))); have D8 := Lib.hid ((D7.out.below q).below (ba w8 (.cells #[.int .u8 2, .int .i64 0, .int .i64 0, .int .i64 0] 27))); have N8 := Lib.hid ((N7.out.below q).below (ba w8 (.cells #[.int .u8 2, .int .i64 0, .int .i64 0, .int .i64 0] 27))); have E8 := Lib.hid ((E7.out.below q).below (ba w8 (.cells #[.int .u8 2, .int .i64 0, .int .i64 0, .int .i64 0] 27))); have U8 := Lib.hid (Four.new w8 ⟨2, 0, 0, 0⟩); clear q)
  obtain ⟨z8, hz⟩ : ∃ x, Hid (x = w8.alloc (.cells #[.int .u8 2, .int .i64 0, .int .i64 0, .int .i64 0] 27)) := ⟨_, rfl⟩
  obtain ⟨iU, hi⟩ : ∃ x, Hid (w8.heap.size = x) := ⟨_, rfl⟩
  rw [← hz.out] at B8 X8 D8 N8 E8 U8 ⊢
  rw [hi.out] at U8 ⊢
  clear hz hi  X7 D7 N7 E7 B7
  have X8 : Hid (Four z8 iX ⟨v.k, v.c, v.s, v.e⟩) := X8
  have D8 : Hid (Two z8 iD (c) (s)) := D8
  have N8 : Hid (Four z8 iN ⟨0, 0, 0, 0⟩) := N8
  have E8 : Hid (Four z8 iE ⟨0, 0, 0, 0⟩) := E8
  have U8 : Hid (Four z8 iU ⟨2, 0, 0, 0⟩) := U8
  clear NU BA TR
  have cU0 := U8.out.c0
  have cU1 := U8.out.c1
  have cU2 := U8.out.c2
  have cU3 := U8.out.c3
  go_upto_region 14 with (go_at_call 13; (with_reducible refine (RT2 _).mono ?_); rintro e w9 ⟨rfl, q⟩; have B9 := Lib.hid (bt B8.out (bt q (ba w9 (.cells #[.int .u8 4, .int .i64 0, .int .i64 0, .int .i64 n] 27)))); have X9 := Lib.hid ((X8.out.below q).below (ba w9 (.cells #[.int .u8 4, .int .i64 0, .int .i64 0, .int .i64 n] 27))); have D9 := Lib.hid ((D8.out.below q).below (ba w9 (.cells #[.int .u8 4, .int .i64 0, .int .i64 0, .int .i64 n] 27))); have N9 := Lib.hid ((N8.out.below q).below (ba w9 (.cells #[.int .u8 4, .int .i64 0, .int .i64 0, .int .i64 n] 27))); have E9 := Lib.hid ((E8.out.below q).below (ba w9 (.cells #[.int .u8 4, .int .i64 0, .int .i64 0, .int .i64 n] 27))); have U9 := Lib.hid ((U8.out.below q).below (ba w9 (.cells #[.int .u8 4, .int .i64 0, .int .i64 0, .int .i64 n] 27))); have W9 := Lib.hid (Four.new w9 ⟨4, 0, 0, n⟩); clear q RT2)
  obtain ⟨z9, hz⟩ : ∃ x, Hid (x = w9.alloc (.cells #[.int .u8 4, .int .i64 0, .int .i64 0, .int .i64 n] 27)) := ⟨_, rfl⟩
  obtain ⟨iW, hi⟩ : ∃ x, Hid (w9.heap.size = x) := ⟨_, rfl⟩
  rw [← hz.out] at B9 X9 D9 N9 E9 U9 W9 ⊢
  rw [hi.out] at W9 ⊢
  clear hz hi cU0 cU1 cU2 cU3 X8 D8 N8 E8 U8 B8
  have X9 : Hid (Four z9 iX ⟨v.k, v.c, v.s, v.e⟩) := X9
  have D9 : Hid (Two z9 iD (c) (s)) := D9
  have N9 : Hid (Four z9 iN ⟨0, 0, 0, 0⟩) := N9
  have E9 : Hid (Four z9 iE ⟨0, 0, 0, 0⟩) := E9
  have U9 : Hid (Four z9 iU ⟨2, 0, 0, 0⟩) := U9
  have W9 : Hid (Four z9 iW ⟨4, 0, 0, n⟩) := W9
  have cW0 := W9.out.c0
  have cW1 := W9.out.c1
  have cW2 := W9.out.c2
  have cW3 := W9.out.c3
  go_upto_region 16 with (go_at_call 13; (with_reducible refine (RW _).mono ?_); rintro e w10 ⟨rfl, q⟩; have B10 := Lib.hid (bt B9.out q); have X10 : Hid (Four w10 iX ⟨v.k, v.c, v.s, v.e⟩) := Lib.hid (X9.out.below q); have D10 : Hid (Two w10 iD (c) (s)) := Lib.hid (D9.out.below q); have N10 : Hid (Four w10 iN ⟨0, 0, 0, 0⟩) := Lib.hid (N9.out.below q); have E10 : Hid (Four w10 iE ⟨0, 0, 0, 0⟩) := Lib.hid (E9.out.below q); have U10 : Hid (Four w10 iU ⟨2, 0, 0, 0⟩) := Lib.hid (U9.out.below q); have W10 : Hid (Four w10 iW ⟨4, 0, 0, n⟩) := Lib.hid (W9.out.below q);have dE0 := E10.out.c0; have dE1 := E10.out.c1; have dE2 := E10.out.c2; have dE3 := E10.out.c3; have dW0 := W10.out.c0; have dW1 := W10.out.c1; have dW2 := W10.out.c2; have dW3 := W10.out.c3; clear q RW)
  clear X9 D9 N9 E9 U9 W9 cW0 cW1 cW2 cW3 dE0 dE1 dE2 dE3 dW0 dW1 dW2 dW3 B9
  have cD0 := D10.out.c0
  have cD1 := D10.out.c1
  go_wp2_with (first | (go_at_call 18; (with_reducible refine (IS _).mono ?_); rintro e w11 ⟨rfl, q⟩; have B11 := Lib.hid (bt B10.out q); have X11 : Hid (Four w11 iX ⟨v.k, v.c, v.s, v.e⟩) := Lib.hid (X10.out.below q); have D11 : Hid (Two w11 iD (c) (s)) := Lib.hid (D10.out.below q); have N11 : Hid (Four w11 iN ⟨0, 0, 0, 0⟩) := Lib.hid (N10.out.below q); have E11 : Hid (Four w11 iE ⟨0, 0, 0, 0⟩) := Lib.hid (E10.out.below q); have U11 : Hid (Four w11 iU ⟨2, 0, 0, 0⟩) := Lib.hid (U10.out.below q); have W11 : Hid (Four w11 iW ⟨4, 0, 0, n⟩) := Lib.hid (W10.out.below q); have K := knownV_is (HE.out.below B11.out);have cN0 := N11.out.c0; have cN1 := N11.out.c1; have cN2 := N11.out.c2; have cN3 := N11.out.c3; clear q IS) | (go_at_call 8; (with_reducible refine K.mono ?_); rintro e w13 ⟨rfl, q⟩; have B13 := Lib.hid (bt B11.out q); clear q K))
  go_ret
  exact ⟨rfl, B13.out⟩
set_option maxRecDepth 100000 in
set_option maxHeartbeats 4000000 in
theorem tells_Bfmp {w : World} (v : V) (hv : v.ok) (c s : Int) (hc : fits c) (n : Int) (hn : fits n) (he : Env w) (hm : mayV v = false) (hb : mayV ⟨4, 0, 0, n⟩ = true) (hs : isB s = true) : Calls Tryd.prog 5 #[.agg #[.int .u8 v.k, .int .i64 v.c, .int .i64 v.s, .int .i64 v.e], .agg #[.int .i64 c, .int .i64 s], .bool false, .int .i64 n] w fun e w' => e = .returned (.bool true) ∧ Below w.heap.size w w' := by
  have HE := Lib.hid he
  have T := fun w h => text_is (w := w) v hv h
  have RT := fun w => rtext_is (w := w) v hv
  have MV := fun w => may_is (w := w) v hv
  have RM := fun w => rmay_is (w := w) v hv
  have NU := fun w => num_is (w := w) c s hc
  have BA := fun w => bad_is (w := w) n hn
  have TR := fun w => truth_is (w := w) false
  have RT2 := fun w => rmay_is (w := w) ⟨3, 0, 0, 0⟩ ⟨by decide, by decide, by decide, by decide⟩
  have RW := fun w => rmay_is (w := w) ⟨4, 0, 0, n⟩ ⟨⟨by show (0 : Int) ≤ 4; decide, by show (4 : Int) ≤ 255; decide⟩, by show fits 0; decide, by show fits 0; decide, hn⟩
  have IS := fun w => rIs_any c s w
  have PU : ∀ w, Calls Tryd.prog 19 #[.agg #[.int .i64 c, .int .i64 s]] w fun e w' => e = .returned (.tuple #[.agg #[.int .i64 (canC c s), .int .i64 (canS c s : Int)], .int .i64 0]) ∧ Below w.heap.size w w' := fun w => by
    have e := putV_ok hc hs
    obtain ⟨m, rfl, hm'⟩ := isB_nat hs
    unfold putV at e
    rw [if_pos hs, Int.toNat_natCast, decV_un c m hm'] at e
    exact rPut_any c m _ w hc hm' e
  unfold VPost numS at NU
  unfold VPost badV at BA
  rw [hs] at NU IS
  rw [hb] at BA
  rw [show mayV ⟨3, 0, 0, 0⟩ = true from by decide] at RT2
  rw [hm] at MV RM
  simp only [hb] at RW
  simp only [if_true, Bool.false_eq_true, if_false] at NU BA TR RT2
  obtain ⟨s1, s2⟩ := text_facts hv.2.1 _ hm
  obtain ⟨S, hS⟩ : ∃ s, Hid (bs (textV v) = s) := ⟨_, rfl⟩
  rw [hS.out] at T RT s1 s2
  obtain ⟨p, hp⟩ : ∃ x, Hid (canC c s = x) := ⟨_, rfl⟩
  obtain ⟨r, hr⟩ : ∃ x : Int, Hid ((canS c s : Int) = x) := ⟨_, rfl⟩
  rw [hp.out, hr.out] at NU PU
  clear hp hr
  simp only [Bool.not_true, Bool.not_false] at s1 s2
  have ss := self_toList S
  have B0 := Lib.hid (bt (ba w (.cells #[.int .u8 v.k, .int .i64 v.c, .int .i64 v.s, .int .i64 v.e] 27)) (ba _ (.cells #[.int .i64 c, .int .i64 s] 24)))
  have X0 := Lib.hid ((Four.new w v).below (ba _ (.cells #[.int .i64 c, .int .i64 s] 24)))
  have D0 := Lib.hid (Two.new (w.alloc (.cells #[.int .u8 v.k, .int .i64 v.c, .int .i64 v.s, .int .i64 v.e] 27)) c s)
  clear hv hc hn he hm hb hs hS
  go_enter Tryd.func5, Tryd.ntmps5
  go_upto_region 1 with fail
  obtain ⟨u1, hu1⟩ : ∃ x, Hid (x = w.alloc (.cells #[.int .u8 v.k, .int .i64 v.c, .int .i64 v.s, .int .i64 v.e] 27)) := ⟨_, rfl⟩
  obtain ⟨iX, hiX⟩ : ∃ x, Hid (w.heap.size = x) := ⟨_, rfl⟩
  have hs1 : u1.heap.size = w.heap.size + 1 := by rw [hu1.out]; simp
  rw [← hu1.out] at B0 X0 D0 ⊢
  obtain ⟨iD, hiD⟩ : ∃ x, Hid (u1.heap.size = x) := ⟨_, rfl⟩
  obtain ⟨w0, hw0⟩ : ∃ x, Hid (x = u1.alloc (.cells #[.int .i64 c, .int .i64 s] 24)) := ⟨_, rfl⟩
  rw [← hw0.out] at B0 X0 D0 ⊢
  have hs2 : w.heap.size + 1 = iD := by rw [← hs1]; exact hiD.out
  rw [hiD.out] at D0
  first | rw [hs2] | rw [hiD.out]
  rw [hiX.out] at X0
  clear hu1 hw0 hs1
  try rw [hiX.out]
  clear hs2 hiX hiD
  have X0 : Hid (Four w0 iX ⟨v.k, v.c, v.s, v.e⟩) := X0
  have cX0 := X0.out.c0
  have cX1 := X0.out.c1
  have cX2 := X0.out.c2
  have cX3 := X0.out.c3
  have T0 := T w0 (HE.out.below B0.out)
  go_upto_region 2 with (first | (go_at_call 11; (with_reducible refine T0.mono ?_); rintro e1 w1 ⟨rfl, q1⟩; have B1 := Lib.hid (bt B0.out q1); have X1 : Hid (Four w1 iX ⟨v.k, v.c, v.s, v.e⟩) := Lib.hid (X0.out.below q1); have D1 : Hid (Two w1 iD (c) (s)) := Lib.hid (D0.out.below q1); clear q1 T0))
  clear cX0 cX1 cX2 cX3 X0 D0
  have dr : Below w1.heap.size w1 w1.drew := ⟨rfl, rfl, rfl, Nat.le_refl _, fun _ _ => rfl⟩
  have mk : ∀ w', Below w1.heap.size w1 w' → w'.cell? ⟨iX, 0, none⟩ = some (.int .u8 v.k) ∧ w'.cell? ⟨iX, 1, none⟩ = some (.int .i64 v.c) ∧ w'.cell? ⟨iX, 2, none⟩ = some (.int .i64 v.s) ∧ w'.cell? ⟨iX, 3, none⟩ = some (.int .i64 v.e) := fun w' h => ⟨(X1.out.below h).c0, (X1.out.below h).c1, (X1.out.below h).c2, (X1.out.below h).c3⟩
  have HS0 := mk w1.drew dr
  go_region_held3 (fun w' : World => w'.cell? ⟨iX, 0, none⟩ = some (.int .u8 v.k) ∧ w'.cell? ⟨iX, 1, none⟩ = some (.int .i64 v.c) ∧ w'.cell? ⟨iX, 2, none⟩ = some (.int .i64 v.s) ∧ w'.cell? ⟨iX, 3, none⟩ = some (.int .i64 v.e))
    (first | with_reducible exact HS0 | with_reducible assumption)
    (first
      | (go_at_call 12; (with_reducible refine (MV _).mono ?_); rintro e2 w2 ⟨rfl, q2⟩; have HS2 := mk w2 (bt dr q2); have C2 := Lib.hid (bt dr q2); clear q2 MV)
      | (go_at_call 13; (with_reducible refine (RM _).mono ?_); rintro e3 w3 ⟨rfl, q3⟩; have HS3 := mk w3 (bt C2.out q3); have C3 := Lib.hid (bt C2.out q3); clear q3 RM)
      | (go_at_call 14; (with_reducible refine (RT _).mono ?_); rintro e4 w4 ⟨rfl, q4⟩; have HS4 := mk w4 (bt C3.out q4); have C4 := Lib.hid (bt C3.out q4); clear q4 RT))
  have X4 : Hid (Four w4 iX ⟨v.k, v.c, v.s, v.e⟩) := Lib.hid (X1.out.below C4.out); have D4 : Hid (Two w4 iD (c) (s)) := Lib.hid (D1.out.below C4.out); have B4 := Lib.hid (bt B1.out C4.out)
  clear HS0 HS2 HS3 HS4 dr mk C2 C3 C4 X1 D1 B1
  have cD0 := D4.out.c0
  have cD1 := D4.out.c1
  go_upto_region 9 with (go_at_call 15; (with_reducible refine (NU _).mono ?_); rintro e w6 ⟨rfl, q⟩; have B6 := Lib.hid (bt B4.out (bt q (ba w6 (.cells #[.int .u8 1, .int .i64 p, .int .i64 r, .int .i64 0] 27)))); have X6 := Lib.hid ((X4.out.below q).below (ba w6 (.cells #[.int .u8 1, .int .i64 p, .int .i64 r, .int .i64 0] 27))); have D6 := Lib.hid ((D4.out.below q).below (ba w6 (.cells #[.int .u8 1, .int .i64 p, .int .i64 r, .int .i64 0] 27))); have N6 := Lib.hid (Four.new w6 ⟨1, p, r, 0⟩); clear q)
  obtain ⟨z6, hz⟩ : ∃ x, Hid (x = w6.alloc (.cells #[.int .u8 1, .int .i64 p, .int .i64 r, .int .i64 0] 27)) := ⟨_, rfl⟩
  obtain ⟨iN, hi⟩ : ∃ x, Hid (w6.heap.size = x) := ⟨_, rfl⟩
  rw [← hz.out] at B6 X6 D6 N6 ⊢
  rw [hi.out] at N6 ⊢
  clear hz hi cD0 cD1 X4 D4 B4
  have X6 : Hid (Four z6 iX ⟨v.k, v.c, v.s, v.e⟩) := X6
  have D6 : Hid (Two z6 iD (c) (s)) := D6
  have N6 : Hid (Four z6 iN ⟨1, p, r, 0⟩) := N6
  go_upto_region 10 with (go_at_call 16; (with_reducible refine (BA _).mono ?_); rintro e w7 ⟨rfl, q⟩; have B7 := Lib.hid (bt B6.out (bt q (ba w7 (.cells #[.int .u8 4, .int .i64 0, .int .i64 0, .int .i64 n] 27)))); have X7 := Lib.hid ((X6.out.below q).below (ba w7 (.cells #[.int .u8 4, .int .i64 0, .int .i64 0, .int .i64 n] 27))); have D7 := Lib.hid ((D6.out.below q).below (ba w7 (.cells #[.int .u8 4, .int .i64 0, .int .i64 0, .int .i64 n] 27))); have N7 := Lib.hid ((N6.out.below q).below (ba w7 (.cells #[.int .u8 4, .int .i64 0, .int .i64 0, .int .i64 n] 27))); have E7 := Lib.hid (Four.new w7 ⟨4, 0, 0, n⟩); clear q)
  obtain ⟨z7, hz⟩ : ∃ x, Hid (x = w7.alloc (.cells #[.int .u8 4, .int .i64 0, .int .i64 0, .int .i64 n] 27)) := ⟨_, rfl⟩
  obtain ⟨iE, hi⟩ : ∃ x, Hid (w7.heap.size = x) := ⟨_, rfl⟩
  rw [← hz.out] at B7 X7 D7 N7 E7 ⊢
  rw [hi.out] at E7 ⊢
  clear hz hi  X6 D6 N6 B6
  have X7 : Hid (Four z7 iX ⟨v.k, v.c, v.s, v.e⟩) := X7
  have D7 : Hid (Two z7 iD (c) (s)) := D7
  have N7 : Hid (Four z7 iN ⟨1, p, r, 0⟩) := N7
  have E7 : Hid (Four z7 iE ⟨4, 0, 0, n⟩) := E7
  go_upto_region 11 with (go_at_call 17; (with_reducible refine (TR _).mono ?_); rintro e w8 ⟨rfl, q⟩; have B8 := Lib.hid (bt B7.out (bt q (ba w8 (.cells #[.int .u8 3, .int .i64 0, .int .i64 0, .int .i64 0] 27)))); have X8 := Lib.hid ((X7.out.below q).below (ba w8 (.cells #[.int .u8 3, .int .i64 0, .int .i64 0, .int .i64 0] 27))); have D8 := Lib.hid ((D7.out.below q).below (ba w8 (.cells #[.int .u8 3, .int .i64 0, .int .i64 0, .int .i64 0] 27))); have N8 := Lib.hid ((N7.out.below q).below (ba w8 (.cells #[.int .u8 3, .int .i64 0, .int .i64 0, .int .i64 0] 27))); have E8 := Lib.hid ((E7.out.below q).below (ba w8 (.cells #[.int .u8 3, .int .i64 0, .int .i64 0, .int .i64 0] 27))); have U8 := Lib.hid (Four.new w8 ⟨3, 0, 0, 0⟩); clear q)
  obtain ⟨z8, hz⟩ : ∃ x, Hid (x = w8.alloc (.cells #[.int .u8 3, .int .i64 0, .int .i64 0, .int .i64 0] 27)) := ⟨_, rfl⟩
  obtain ⟨iU, hi⟩ : ∃ x, Hid (w8.heap.size = x) := ⟨_, rfl⟩
  rw [← hz.out] at B8 X8 D8 N8 E8 U8 ⊢
  rw [hi.out] at U8 ⊢
  clear hz hi  X7 D7 N7 E7 B7
  have X8 : Hid (Four z8 iX ⟨v.k, v.c, v.s, v.e⟩) := X8
  have D8 : Hid (Two z8 iD (c) (s)) := D8
  have N8 : Hid (Four z8 iN ⟨1, p, r, 0⟩) := N8
  have E8 : Hid (Four z8 iE ⟨4, 0, 0, n⟩) := E8
  have U8 : Hid (Four z8 iU ⟨3, 0, 0, 0⟩) := U8
  clear NU BA TR
  have cU0 := U8.out.c0
  have cU1 := U8.out.c1
  have cU2 := U8.out.c2
  have cU3 := U8.out.c3
  go_upto_region 14 with (go_at_call 13; (with_reducible refine (RT2 _).mono ?_); rintro e w9 ⟨rfl, q⟩; have B9 := Lib.hid (bt B8.out (bt q (ba w9 (.cells #[.int .u8 4, .int .i64 0, .int .i64 0, .int .i64 n] 27)))); have X9 := Lib.hid ((X8.out.below q).below (ba w9 (.cells #[.int .u8 4, .int .i64 0, .int .i64 0, .int .i64 n] 27))); have D9 := Lib.hid ((D8.out.below q).below (ba w9 (.cells #[.int .u8 4, .int .i64 0, .int .i64 0, .int .i64 n] 27))); have N9 := Lib.hid ((N8.out.below q).below (ba w9 (.cells #[.int .u8 4, .int .i64 0, .int .i64 0, .int .i64 n] 27))); have E9 := Lib.hid ((E8.out.below q).below (ba w9 (.cells #[.int .u8 4, .int .i64 0, .int .i64 0, .int .i64 n] 27))); have U9 := Lib.hid ((U8.out.below q).below (ba w9 (.cells #[.int .u8 4, .int .i64 0, .int .i64 0, .int .i64 n] 27))); have W9 := Lib.hid (Four.new w9 ⟨4, 0, 0, n⟩); clear q RT2)
  obtain ⟨z9, hz⟩ : ∃ x, Hid (x = w9.alloc (.cells #[.int .u8 4, .int .i64 0, .int .i64 0, .int .i64 n] 27)) := ⟨_, rfl⟩
  obtain ⟨iW, hi⟩ : ∃ x, Hid (w9.heap.size = x) := ⟨_, rfl⟩
  rw [← hz.out] at B9 X9 D9 N9 E9 U9 W9 ⊢
  rw [hi.out] at W9 ⊢
  clear hz hi cU0 cU1 cU2 cU3 X8 D8 N8 E8 U8 B8
  have X9 : Hid (Four z9 iX ⟨v.k, v.c, v.s, v.e⟩) := X9
  have D9 : Hid (Two z9 iD (c) (s)) := D9
  have N9 : Hid (Four z9 iN ⟨1, p, r, 0⟩) := N9
  have E9 : Hid (Four z9 iE ⟨4, 0, 0, n⟩) := E9
  have U9 : Hid (Four z9 iU ⟨3, 0, 0, 0⟩) := U9
  have W9 : Hid (Four z9 iW ⟨4, 0, 0, n⟩) := W9
  have cW0 := W9.out.c0
  have cW1 := W9.out.c1
  have cW2 := W9.out.c2
  have cW3 := W9.out.c3
  go_upto_region 16 with (go_at_call 13; (with_reducible refine (RW _).mono ?_); rintro e w10 ⟨rfl, q⟩; have B10 := Lib.hid (bt B9.out q); have X10 : Hid (Four w10 iX ⟨v.k, v.c, v.s, v.e⟩) := Lib.hid (X9.out.below q); have D10 : Hid (Two w10 iD (c) (s)) := Lib.hid (D9.out.below q); have N10 : Hid (Four w10 iN ⟨1, p, r, 0⟩) := Lib.hid (N9.out.below q); have E10 : Hid (Four w10 iE ⟨4, 0, 0, n⟩) := Lib.hid (E9.out.below q); have U10 : Hid (Four w10 iU ⟨3, 0, 0, 0⟩) := Lib.hid (U9.out.below q); have W10 : Hid (Four w10 iW ⟨4, 0, 0, n⟩) := Lib.hid (W9.out.below q);have dE0 := E10.out.c0; have dE1 := E10.out.c1; have dE2 := E10.out.c2; have dE3 := E10.out.c3; have dW0 := W10.out.c0; have dW1 := W10.out.c1; have dW2 := W10.out.c2; have dW3 := W10.out.c3; clear q RW)
  clear X9 D9 N9 E9 U9 W9 cW0 cW1 cW2 cW3 dE0 dE1 dE2 dE3 dW0 dW1 dW2 dW3 B9
  have cD0 := D10.out.c0
  have cD1 := D10.out.c1
  go_upto_region 18 with (go_at_call 18; (with_reducible refine (IS _).mono ?_); rintro e w11 ⟨rfl, q⟩; have B11 := Lib.hid (bt B10.out q); have X11 : Hid (Four w11 iX ⟨v.k, v.c, v.s, v.e⟩) := Lib.hid (X10.out.below q); have D11 : Hid (Two w11 iD (c) (s)) := Lib.hid (D10.out.below q); have N11 : Hid (Four w11 iN ⟨1, p, r, 0⟩) := Lib.hid (N10.out.below q); have E11 : Hid (Four w11 iE ⟨4, 0, 0, n⟩) := Lib.hid (E10.out.below q); have U11 : Hid (Four w11 iU ⟨3, 0, 0, 0⟩) := Lib.hid (U10.out.below q); have W11 : Hid (Four w11 iW ⟨4, 0, 0, n⟩) := Lib.hid (W10.out.below q); clear q IS)
  clear X10 D10 N10 E10 U10 W10 cD0 cD1 B10
  have cD0 := D11.out.c0
  have cD1 := D11.out.c1
  go_upto_region 19 with (go_at_call 19; (with_reducible refine (PU _).mono ?_); rintro e w12 ⟨rfl, q⟩; have B12 := Lib.hid (bt B11.out (bt q (ba w12 (.cells #[.int .i64 p, .int .i64 r] 24)))); have X12 := Lib.hid ((X11.out.below q).below (ba w12 (.cells #[.int .i64 p, .int .i64 r] 24))); have D12 := Lib.hid ((D11.out.below q).below (ba w12 (.cells #[.int .i64 p, .int .i64 r] 24))); have N12 := Lib.hid ((N11.out.below q).below (ba w12 (.cells #[.int .i64 p, .int .i64 r] 24))); have E12 := Lib.hid ((E11.out.below q).below (ba w12 (.cells #[.int .i64 p, .int .i64 r] 24))); have U12 := Lib.hid ((U11.out.below q).below (ba w12 (.cells #[.int .i64 p, .int .i64 r] 24))); have W12 := Lib.hid ((W11.out.below q).below (ba w12 (.cells #[.int .i64 p, .int .i64 r] 24))); have Q12 := Lib.hid (Two.new w12 (p) (r)); clear q)
  obtain ⟨z12, hz⟩ : ∃ x, Hid (x = w12.alloc (.cells #[.int .i64 p, .int .i64 r] 24)) := ⟨_, rfl⟩
  obtain ⟨iQ, hi⟩ : ∃ x, Hid (w12.heap.size = x) := ⟨_, rfl⟩
  rw [← hz.out] at B12 X12 D12 N12 E12 U12 W12 Q12 ⊢
  rw [hi.out] at Q12 ⊢
  clear hz hi cD0 cD1 X11 D11 N11 E11 U11 W11 B11
  have X12 : Hid (Four z12 iX ⟨v.k, v.c, v.s, v.e⟩) := X12
  have D12 : Hid (Two z12 iD (c) (s)) := D12
  have N12 : Hid (Four z12 iN ⟨1, p, r, 0⟩) := N12
  have E12 : Hid (Four z12 iE ⟨4, 0, 0, n⟩) := E12
  have U12 : Hid (Four z12 iU ⟨3, 0, 0, 0⟩) := U12
  have W12 : Hid (Four z12 iW ⟨4, 0, 0, n⟩) := W12
  have Q12 : Hid (Two z12 iQ (p) (r)) := Q12
  clear PU
  have cN0 := N12.out.c0
  have cN1 := N12.out.c1
  have cN2 := N12.out.c2
  have cN3 := N12.out.c3
  have cQ0 := Q12.out.c0
  have cQ1 := Q12.out.c1
  have K := knownV_is (HE.out.below B12.out)
  go_wp2_with (go_at_call 8; (with_reducible refine K.mono ?_); rintro e w13 ⟨rfl, q⟩; have B13 := Lib.hid (bt B12.out q); clear q K)
  go_ret
  exact ⟨rfl, B13.out⟩
set_option maxRecDepth 100000 in
set_option maxHeartbeats 4000000 in
theorem tells_Bfmq {w : World} (v : V) (hv : v.ok) (c s : Int) (hc : fits c) (n : Int) (hn : fits n) (he : Env w) (hm : mayV v = false) (hb : mayV ⟨4, 0, 0, n⟩ = true) (hs : isB s = false) : Calls Tryd.prog 5 #[.agg #[.int .u8 v.k, .int .i64 v.c, .int .i64 v.s, .int .i64 v.e], .agg #[.int .i64 c, .int .i64 s], .bool false, .int .i64 n] w fun e w' => e = .returned (.bool true) ∧ Below w.heap.size w w' := by
  have HE := Lib.hid he
  have T := fun w h => text_is (w := w) v hv h
  have RT := fun w => rtext_is (w := w) v hv
  have MV := fun w => may_is (w := w) v hv
  have RM := fun w => rmay_is (w := w) v hv
  have NU := fun w => num_is (w := w) c s hc
  have BA := fun w => bad_is (w := w) n hn
  have TR := fun w => truth_is (w := w) false
  have RT2 := fun w => rmay_is (w := w) ⟨3, 0, 0, 0⟩ ⟨by decide, by decide, by decide, by decide⟩
  have RW := fun w => rmay_is (w := w) ⟨4, 0, 0, n⟩ ⟨⟨by show (0 : Int) ≤ 4; decide, by show (4 : Int) ≤ 255; decide⟩, by show fits 0; decide, by show fits 0; decide, hn⟩
  have IS := fun w => rIs_any c s w
  unfold VPost numS at NU
  unfold VPost badV at BA
  rw [hs] at NU IS
  rw [hb] at BA
  rw [show mayV ⟨3, 0, 0, 0⟩ = true from by decide] at RT2
  rw [hm] at MV RM
  simp only [hb] at RW
  simp only [if_true, Bool.false_eq_true, if_false] at NU BA TR RT2
  obtain ⟨s1, s2⟩ := text_facts hv.2.1 _ hm
  obtain ⟨S, hS⟩ : ∃ s, Hid (bs (textV v) = s) := ⟨_, rfl⟩
  rw [hS.out] at T RT s1 s2
  simp only [Bool.not_true, Bool.not_false] at s1 s2
  have ss := self_toList S
  have B0 := Lib.hid (bt (ba w (.cells #[.int .u8 v.k, .int .i64 v.c, .int .i64 v.s, .int .i64 v.e] 27)) (ba _ (.cells #[.int .i64 c, .int .i64 s] 24)))
  have X0 := Lib.hid ((Four.new w v).below (ba _ (.cells #[.int .i64 c, .int .i64 s] 24)))
  have D0 := Lib.hid (Two.new (w.alloc (.cells #[.int .u8 v.k, .int .i64 v.c, .int .i64 v.s, .int .i64 v.e] 27)) c s)
  clear hv hc hn he hm hb hs hS
  go_enter Tryd.func5, Tryd.ntmps5
  go_upto_region 1 with fail
  obtain ⟨u1, hu1⟩ : ∃ x, Hid (x = w.alloc (.cells #[.int .u8 v.k, .int .i64 v.c, .int .i64 v.s, .int .i64 v.e] 27)) := ⟨_, rfl⟩
  obtain ⟨iX, hiX⟩ : ∃ x, Hid (w.heap.size = x) := ⟨_, rfl⟩
  have hs1 : u1.heap.size = w.heap.size + 1 := by rw [hu1.out]; simp
  rw [← hu1.out] at B0 X0 D0 ⊢
  obtain ⟨iD, hiD⟩ : ∃ x, Hid (u1.heap.size = x) := ⟨_, rfl⟩
  obtain ⟨w0, hw0⟩ : ∃ x, Hid (x = u1.alloc (.cells #[.int .i64 c, .int .i64 s] 24)) := ⟨_, rfl⟩
  rw [← hw0.out] at B0 X0 D0 ⊢
  have hs2 : w.heap.size + 1 = iD := by rw [← hs1]; exact hiD.out
  rw [hiD.out] at D0
  first | rw [hs2] | rw [hiD.out]
  rw [hiX.out] at X0
  clear hu1 hw0 hs1
  try rw [hiX.out]
  clear hs2 hiX hiD
  have X0 : Hid (Four w0 iX ⟨v.k, v.c, v.s, v.e⟩) := X0
  have cX0 := X0.out.c0
  have cX1 := X0.out.c1
  have cX2 := X0.out.c2
  have cX3 := X0.out.c3
  have T0 := T w0 (HE.out.below B0.out)
  go_upto_region 2 with (first | (go_at_call 11; (with_reducible refine T0.mono ?_); rintro e1 w1 ⟨rfl, q1⟩; have B1 := Lib.hid (bt B0.out q1); have X1 : Hid (Four w1 iX ⟨v.k, v.c, v.s, v.e⟩) := Lib.hid (X0.out.below q1); have D1 : Hid (Two w1 iD (c) (s)) := Lib.hid (D0.out.below q1); clear q1 T0))
  clear cX0 cX1 cX2 cX3 X0 D0
  have dr : Below w1.heap.size w1 w1.drew := ⟨rfl, rfl, rfl, Nat.le_refl _, fun _ _ => rfl⟩
  have mk : ∀ w', Below w1.heap.size w1 w' → w'.cell? ⟨iX, 0, none⟩ = some (.int .u8 v.k) ∧ w'.cell? ⟨iX, 1, none⟩ = some (.int .i64 v.c) ∧ w'.cell? ⟨iX, 2, none⟩ = some (.int .i64 v.s) ∧ w'.cell? ⟨iX, 3, none⟩ = some (.int .i64 v.e) := fun w' h => ⟨(X1.out.below h).c0, (X1.out.below h).c1, (X1.out.below h).c2, (X1.out.below h).c3⟩
  have HS0 := mk w1.drew dr
  go_region_held3 (fun w' : World => w'.cell? ⟨iX, 0, none⟩ = some (.int .u8 v.k) ∧ w'.cell? ⟨iX, 1, none⟩ = some (.int .i64 v.c) ∧ w'.cell? ⟨iX, 2, none⟩ = some (.int .i64 v.s) ∧ w'.cell? ⟨iX, 3, none⟩ = some (.int .i64 v.e))
    (first | with_reducible exact HS0 | with_reducible assumption)
    (first
      | (go_at_call 12; (with_reducible refine (MV _).mono ?_); rintro e2 w2 ⟨rfl, q2⟩; have HS2 := mk w2 (bt dr q2); have C2 := Lib.hid (bt dr q2); clear q2 MV)
      | (go_at_call 13; (with_reducible refine (RM _).mono ?_); rintro e3 w3 ⟨rfl, q3⟩; have HS3 := mk w3 (bt C2.out q3); have C3 := Lib.hid (bt C2.out q3); clear q3 RM)
      | (go_at_call 14; (with_reducible refine (RT _).mono ?_); rintro e4 w4 ⟨rfl, q4⟩; have HS4 := mk w4 (bt C3.out q4); have C4 := Lib.hid (bt C3.out q4); clear q4 RT))
  have X4 : Hid (Four w4 iX ⟨v.k, v.c, v.s, v.e⟩) := Lib.hid (X1.out.below C4.out); have D4 : Hid (Two w4 iD (c) (s)) := Lib.hid (D1.out.below C4.out); have B4 := Lib.hid (bt B1.out C4.out)
  clear HS0 HS2 HS3 HS4 dr mk C2 C3 C4 X1 D1 B1
  have cD0 := D4.out.c0
  have cD1 := D4.out.c1
  go_upto_region 9 with (go_at_call 15; (with_reducible refine (NU _).mono ?_); rintro e w6 ⟨rfl, q⟩; have B6 := Lib.hid (bt B4.out (bt q (ba w6 (.cells #[.int .u8 0, .int .i64 0, .int .i64 0, .int .i64 0] 27)))); have X6 := Lib.hid ((X4.out.below q).below (ba w6 (.cells #[.int .u8 0, .int .i64 0, .int .i64 0, .int .i64 0] 27))); have D6 := Lib.hid ((D4.out.below q).below (ba w6 (.cells #[.int .u8 0, .int .i64 0, .int .i64 0, .int .i64 0] 27))); have N6 := Lib.hid (Four.new w6 ⟨0, 0, 0, 0⟩); clear q)
  obtain ⟨z6, hz⟩ : ∃ x, Hid (x = w6.alloc (.cells #[.int .u8 0, .int .i64 0, .int .i64 0, .int .i64 0] 27)) := ⟨_, rfl⟩
  obtain ⟨iN, hi⟩ : ∃ x, Hid (w6.heap.size = x) := ⟨_, rfl⟩
  rw [← hz.out] at B6 X6 D6 N6 ⊢
  rw [hi.out] at N6 ⊢
  clear hz hi cD0 cD1 X4 D4 B4
  have X6 : Hid (Four z6 iX ⟨v.k, v.c, v.s, v.e⟩) := X6
  have D6 : Hid (Two z6 iD (c) (s)) := D6
  have N6 : Hid (Four z6 iN ⟨0, 0, 0, 0⟩) := N6
  go_upto_region 10 with (go_at_call 16; (with_reducible refine (BA _).mono ?_); rintro e w7 ⟨rfl, q⟩; have B7 := Lib.hid (bt B6.out (bt q (ba w7 (.cells #[.int .u8 4, .int .i64 0, .int .i64 0, .int .i64 n] 27)))); have X7 := Lib.hid ((X6.out.below q).below (ba w7 (.cells #[.int .u8 4, .int .i64 0, .int .i64 0, .int .i64 n] 27))); have D7 := Lib.hid ((D6.out.below q).below (ba w7 (.cells #[.int .u8 4, .int .i64 0, .int .i64 0, .int .i64 n] 27))); have N7 := Lib.hid ((N6.out.below q).below (ba w7 (.cells #[.int .u8 4, .int .i64 0, .int .i64 0, .int .i64 n] 27))); have E7 := Lib.hid (Four.new w7 ⟨4, 0, 0, n⟩); clear q)
  obtain ⟨z7, hz⟩ : ∃ x, Hid (x = w7.alloc (.cells #[.int .u8 4, .int .i64 0, .int .i64 0, .int .i64 n] 27)) := ⟨_, rfl⟩
  obtain ⟨iE, hi⟩ : ∃ x, Hid (w7.heap.size = x) := ⟨_, rfl⟩
  rw [← hz.out] at B7 X7 D7 N7 E7 ⊢
  rw [hi.out] at E7 ⊢
  clear hz hi  X6 D6 N6 B6
  have X7 : Hid (Four z7 iX ⟨v.k, v.c, v.s, v.e⟩) := X7
  have D7 : Hid (Two z7 iD (c) (s)) := D7
  have N7 : Hid (Four z7 iN ⟨0, 0, 0, 0⟩) := N7
  have E7 : Hid (Four z7 iE ⟨4, 0, 0, n⟩) := E7
  go_upto_region 11 with (go_at_call 17; (with_reducible refine (TR _).mono ?_); rintro e w8 ⟨rfl, q⟩; have B8 := Lib.hid (bt B7.out (bt q (ba w8 (.cells #[.int .u8 3, .int .i64 0, .int .i64 0, .int .i64 0] 27)))); have X8 := Lib.hid ((X7.out.below q).below (ba w8 (.cells #[.int .u8 3, .int .i64 0, .int .i64 0, .int .i64 0] 27))); have D8 := Lib.hid ((D7.out.below q).below (ba w8 (.cells #[.int .u8 3, .int .i64 0, .int .i64 0, .int .i64 0] 27))); have N8 := Lib.hid ((N7.out.below q).below (ba w8 (.cells #[.int .u8 3, .int .i64 0, .int .i64 0, .int .i64 0] 27))); have E8 := Lib.hid ((E7.out.below q).below (ba w8 (.cells #[.int .u8 3, .int .i64 0, .int .i64 0, .int .i64 0] 27))); have U8 := Lib.hid (Four.new w8 ⟨3, 0, 0, 0⟩); clear q)
  obtain ⟨z8, hz⟩ : ∃ x, Hid (x = w8.alloc (.cells #[.int .u8 3, .int .i64 0, .int .i64 0, .int .i64 0] 27)) := ⟨_, rfl⟩
  obtain ⟨iU, hi⟩ : ∃ x, Hid (w8.heap.size = x) := ⟨_, rfl⟩
  rw [← hz.out] at B8 X8 D8 N8 E8 U8 ⊢
  rw [hi.out] at U8 ⊢
  clear hz hi  X7 D7 N7 E7 B7
  have X8 : Hid (Four z8 iX ⟨v.k, v.c, v.s, v.e⟩) := X8
  have D8 : Hid (Two z8 iD (c) (s)) := D8
  have N8 : Hid (Four z8 iN ⟨0, 0, 0, 0⟩) := N8
  have E8 : Hid (Four z8 iE ⟨4, 0, 0, n⟩) := E8
  have U8 : Hid (Four z8 iU ⟨3, 0, 0, 0⟩) := U8
  clear NU BA TR
  have cU0 := U8.out.c0
  have cU1 := U8.out.c1
  have cU2 := U8.out.c2
  have cU3 := U8.out.c3
  go_upto_region 14 with (go_at_call 13; (with_reducible refine (RT2 _).mono ?_); rintro e w9 ⟨rfl, q⟩; have B9 := Lib.hid (bt B8.out (bt q (ba w9 (.cells #[.int .u8 4, .int .i64 0, .int .i64 0, .int .i64 n] 27)))); have X9 := Lib.hid ((X8.out.below q).below (ba w9 (.cells #[.int .u8 4, .int .i64 0, .int .i64 0, .int .i64 n] 27))); have D9 := Lib.hid ((D8.out.below q).below (ba w9 (.cells #[.int .u8 4, .int .i64 0, .int .i64 0, .int .i64 n] 27))); have N9 := Lib.hid ((N8.out.below q).below (ba w9 (.cells #[.int .u8 4, .int .i64 0, .int .i64 0, .int .i64 n] 27))); have E9 := Lib.hid ((E8.out.below q).below (ba w9 (.cells #[.int .u8 4, .int .i64 0, .int .i64 0, .int .i64 n] 27))); have U9 := Lib.hid ((U8.out.below q).below (ba w9 (.cells #[.int .u8 4, .int .i64 0, .int .i64 0, .int .i64 n] 27))); have W9 := Lib.hid (Four.new w9 ⟨4, 0, 0, n⟩); clear q RT2)
  obtain ⟨z9, hz⟩ : ∃ x, Hid (x = w9.alloc (.cells #[.int .u8 4, .int .i64 0, .int .i64 0, .int .i64 n] 27)) := ⟨_, rfl⟩
  obtain ⟨iW, hi⟩ : ∃ x, Hid (w9.heap.size = x) := ⟨_, rfl⟩
  rw [← hz.out] at B9 X9 D9 N9 E9 U9 W9 ⊢
  rw [hi.out] at W9 ⊢
  clear hz hi cU0 cU1 cU2 cU3 X8 D8 N8 E8 U8 B8
  have X9 : Hid (Four z9 iX ⟨v.k, v.c, v.s, v.e⟩) := X9
  have D9 : Hid (Two z9 iD (c) (s)) := D9
  have N9 : Hid (Four z9 iN ⟨0, 0, 0, 0⟩) := N9
  have E9 : Hid (Four z9 iE ⟨4, 0, 0, n⟩) := E9
  have U9 : Hid (Four z9 iU ⟨3, 0, 0, 0⟩) := U9
  have W9 : Hid (Four z9 iW ⟨4, 0, 0, n⟩) := W9
  have cW0 := W9.out.c0
  have cW1 := W9.out.c1
  have cW2 := W9.out.c2
  have cW3 := W9.out.c3
  go_upto_region 16 with (go_at_call 13; (with_reducible refine (RW _).mono ?_); rintro e w10 ⟨rfl, q⟩; have B10 := Lib.hid (bt B9.out q); have X10 : Hid (Four w10 iX ⟨v.k, v.c, v.s, v.e⟩) := Lib.hid (X9.out.below q); have D10 : Hid (Two w10 iD (c) (s)) := Lib.hid (D9.out.below q); have N10 : Hid (Four w10 iN ⟨0, 0, 0, 0⟩) := Lib.hid (N9.out.below q); have E10 : Hid (Four w10 iE ⟨4, 0, 0, n⟩) := Lib.hid (E9.out.below q); have U10 : Hid (Four w10 iU ⟨3, 0, 0, 0⟩) := Lib.hid (U9.out.below q); have W10 : Hid (Four w10 iW ⟨4, 0, 0, n⟩) := Lib.hid (W9.out.below q);have dE0 := E10.out.c0; have dE1 := E10.out.c1; have dE2 := E10.out.c2; have dE3 := E10.out.c3; have dW0 := W10.out.c0; have dW1 := W10.out.c1; have dW2 := W10.out.c2; have dW3 := W10.out.c3; clear q RW)
  clear X9 D9 N9 E9 U9 W9 cW0 cW1 cW2 cW3 dE0 dE1 dE2 dE3 dW0 dW1 dW2 dW3 B9
  have cD0 := D10.out.c0
  have cD1 := D10.out.c1
  go_wp2_with (first | (go_at_call 18; (with_reducible refine (IS _).mono ?_); rintro e w11 ⟨rfl, q⟩; have B11 := Lib.hid (bt B10.out q); have X11 : Hid (Four w11 iX ⟨v.k, v.c, v.s, v.e⟩) := Lib.hid (X10.out.below q); have D11 : Hid (Two w11 iD (c) (s)) := Lib.hid (D10.out.below q); have N11 : Hid (Four w11 iN ⟨0, 0, 0, 0⟩) := Lib.hid (N10.out.below q); have E11 : Hid (Four w11 iE ⟨4, 0, 0, n⟩) := Lib.hid (E10.out.below q); have U11 : Hid (Four w11 iU ⟨3, 0, 0, 0⟩) := Lib.hid (U10.out.below q); have W11 : Hid (Four w11 iW ⟨4, 0, 0, n⟩) := Lib.hid (W10.out.below q); have K := knownV_is (HE.out.below B11.out);have cN0 := N11.out.c0; have cN1 := N11.out.c1; have cN2 := N11.out.c2; have cN3 := N11.out.c3; clear q IS) | (go_at_call 8; (with_reducible refine K.mono ?_); rintro e w13 ⟨rfl, q⟩; have B13 := Lib.hid (bt B11.out q); clear q K))
  go_ret
  exact ⟨rfl, B13.out⟩
set_option maxRecDepth 100000 in
set_option maxHeartbeats 4000000 in
theorem tells_Bfnp {w : World} (v : V) (hv : v.ok) (c s : Int) (hc : fits c) (n : Int) (hn : fits n) (he : Env w) (hm : mayV v = false) (hb : mayV ⟨4, 0, 0, n⟩ = false) (hs : isB s = true) : Calls Tryd.prog 5 #[.agg #[.int .u8 v.k, .int .i64 v.c, .int .i64 v.s, .int .i64 v.e], .agg #[.int .i64 c, .int .i64 s], .bool false, .int .i64 n] w fun e w' => e = .returned (.bool true) ∧ Below w.heap.size w w' := by
  have HE := Lib.hid he
  have T := fun w h => text_is (w := w) v hv h
  have RT := fun w => rtext_is (w := w) v hv
  have MV := fun w => may_is (w := w) v hv
  have RM := fun w => rmay_is (w := w) v hv
  have NU := fun w => num_is (w := w) c s hc
  have BA := fun w => bad_is (w := w) n hn
  have TR := fun w => truth_is (w := w) false
  have RT2 := fun w => rmay_is (w := w) ⟨3, 0, 0, 0⟩ ⟨by decide, by decide, by decide, by decide⟩
  have RW := fun w => rmay_is (w := w) ⟨4, 0, 0, n⟩ ⟨⟨by show (0 : Int) ≤ 4; decide, by show (4 : Int) ≤ 255; decide⟩, by show fits 0; decide, by show fits 0; decide, hn⟩
  have IS := fun w => rIs_any c s w
  have PU : ∀ w, Calls Tryd.prog 19 #[.agg #[.int .i64 c, .int .i64 s]] w fun e w' => e = .returned (.tuple #[.agg #[.int .i64 (canC c s), .int .i64 (canS c s : Int)], .int .i64 0]) ∧ Below w.heap.size w w' := fun w => by
    have e := putV_ok hc hs
    obtain ⟨m, rfl, hm'⟩ := isB_nat hs
    unfold putV at e
    rw [if_pos hs, Int.toNat_natCast, decV_un c m hm'] at e
    exact rPut_any c m _ w hc hm' e
  unfold VPost numS at NU
  unfold VPost badV at BA
  rw [hs] at NU IS
  rw [hb] at BA
  rw [show mayV ⟨3, 0, 0, 0⟩ = true from by decide] at RT2
  rw [hm] at MV RM
  simp only [hb] at RW
  simp only [if_true, Bool.false_eq_true, if_false] at NU BA TR RT2
  obtain ⟨s1, s2⟩ := text_facts hv.2.1 _ hm
  obtain ⟨S, hS⟩ : ∃ s, Hid (bs (textV v) = s) := ⟨_, rfl⟩
  rw [hS.out] at T RT s1 s2
  obtain ⟨p, hp⟩ : ∃ x, Hid (canC c s = x) := ⟨_, rfl⟩
  obtain ⟨r, hr⟩ : ∃ x : Int, Hid ((canS c s : Int) = x) := ⟨_, rfl⟩
  rw [hp.out, hr.out] at NU PU
  clear hp hr
  simp only [Bool.not_true, Bool.not_false] at s1 s2
  have ss := self_toList S
  have B0 := Lib.hid (bt (ba w (.cells #[.int .u8 v.k, .int .i64 v.c, .int .i64 v.s, .int .i64 v.e] 27)) (ba _ (.cells #[.int .i64 c, .int .i64 s] 24)))
  have X0 := Lib.hid ((Four.new w v).below (ba _ (.cells #[.int .i64 c, .int .i64 s] 24)))
  have D0 := Lib.hid (Two.new (w.alloc (.cells #[.int .u8 v.k, .int .i64 v.c, .int .i64 v.s, .int .i64 v.e] 27)) c s)
  clear hv hc hn he hm hb hs hS
  go_enter Tryd.func5, Tryd.ntmps5
  go_upto_region 1 with fail
  obtain ⟨u1, hu1⟩ : ∃ x, Hid (x = w.alloc (.cells #[.int .u8 v.k, .int .i64 v.c, .int .i64 v.s, .int .i64 v.e] 27)) := ⟨_, rfl⟩
  obtain ⟨iX, hiX⟩ : ∃ x, Hid (w.heap.size = x) := ⟨_, rfl⟩
  have hs1 : u1.heap.size = w.heap.size + 1 := by rw [hu1.out]; simp
  rw [← hu1.out] at B0 X0 D0 ⊢
  obtain ⟨iD, hiD⟩ : ∃ x, Hid (u1.heap.size = x) := ⟨_, rfl⟩
  obtain ⟨w0, hw0⟩ : ∃ x, Hid (x = u1.alloc (.cells #[.int .i64 c, .int .i64 s] 24)) := ⟨_, rfl⟩
  rw [← hw0.out] at B0 X0 D0 ⊢
  have hs2 : w.heap.size + 1 = iD := by rw [← hs1]; exact hiD.out
  rw [hiD.out] at D0
  first | rw [hs2] | rw [hiD.out]
  rw [hiX.out] at X0
  clear hu1 hw0 hs1
  try rw [hiX.out]
  clear hs2 hiX hiD
  have X0 : Hid (Four w0 iX ⟨v.k, v.c, v.s, v.e⟩) := X0
  have cX0 := X0.out.c0
  have cX1 := X0.out.c1
  have cX2 := X0.out.c2
  have cX3 := X0.out.c3
  have T0 := T w0 (HE.out.below B0.out)
  go_upto_region 2 with (first | (go_at_call 11; (with_reducible refine T0.mono ?_); rintro e1 w1 ⟨rfl, q1⟩; have B1 := Lib.hid (bt B0.out q1); have X1 : Hid (Four w1 iX ⟨v.k, v.c, v.s, v.e⟩) := Lib.hid (X0.out.below q1); have D1 : Hid (Two w1 iD (c) (s)) := Lib.hid (D0.out.below q1); clear q1 T0))
  clear cX0 cX1 cX2 cX3 X0 D0
  have dr : Below w1.heap.size w1 w1.drew := ⟨rfl, rfl, rfl, Nat.le_refl _, fun _ _ => rfl⟩
  have mk : ∀ w', Below w1.heap.size w1 w' → w'.cell? ⟨iX, 0, none⟩ = some (.int .u8 v.k) ∧ w'.cell? ⟨iX, 1, none⟩ = some (.int .i64 v.c) ∧ w'.cell? ⟨iX, 2, none⟩ = some (.int .i64 v.s) ∧ w'.cell? ⟨iX, 3, none⟩ = some (.int .i64 v.e) := fun w' h => ⟨(X1.out.below h).c0, (X1.out.below h).c1, (X1.out.below h).c2, (X1.out.below h).c3⟩
  have HS0 := mk w1.drew dr
  go_region_held3 (fun w' : World => w'.cell? ⟨iX, 0, none⟩ = some (.int .u8 v.k) ∧ w'.cell? ⟨iX, 1, none⟩ = some (.int .i64 v.c) ∧ w'.cell? ⟨iX, 2, none⟩ = some (.int .i64 v.s) ∧ w'.cell? ⟨iX, 3, none⟩ = some (.int .i64 v.e))
    (first | with_reducible exact HS0 | with_reducible assumption)
    (first
      | (go_at_call 12; (with_reducible refine (MV _).mono ?_); rintro e2 w2 ⟨rfl, q2⟩; have HS2 := mk w2 (bt dr q2); have C2 := Lib.hid (bt dr q2); clear q2 MV)
      | (go_at_call 13; (with_reducible refine (RM _).mono ?_); rintro e3 w3 ⟨rfl, q3⟩; have HS3 := mk w3 (bt C2.out q3); have C3 := Lib.hid (bt C2.out q3); clear q3 RM)
      | (go_at_call 14; (with_reducible refine (RT _).mono ?_); rintro e4 w4 ⟨rfl, q4⟩; have HS4 := mk w4 (bt C3.out q4); have C4 := Lib.hid (bt C3.out q4); clear q4 RT))
  have X4 : Hid (Four w4 iX ⟨v.k, v.c, v.s, v.e⟩) := Lib.hid (X1.out.below C4.out); have D4 : Hid (Two w4 iD (c) (s)) := Lib.hid (D1.out.below C4.out); have B4 := Lib.hid (bt B1.out C4.out)
  clear HS0 HS2 HS3 HS4 dr mk C2 C3 C4 X1 D1 B1
  have cD0 := D4.out.c0
  have cD1 := D4.out.c1
  go_upto_region 9 with (go_at_call 15; (with_reducible refine (NU _).mono ?_); rintro e w6 ⟨rfl, q⟩; have B6 := Lib.hid (bt B4.out (bt q (ba w6 (.cells #[.int .u8 1, .int .i64 p, .int .i64 r, .int .i64 0] 27)))); have X6 := Lib.hid ((X4.out.below q).below (ba w6 (.cells #[.int .u8 1, .int .i64 p, .int .i64 r, .int .i64 0] 27))); have D6 := Lib.hid ((D4.out.below q).below (ba w6 (.cells #[.int .u8 1, .int .i64 p, .int .i64 r, .int .i64 0] 27))); have N6 := Lib.hid (Four.new w6 ⟨1, p, r, 0⟩); clear q)
  obtain ⟨z6, hz⟩ : ∃ x, Hid (x = w6.alloc (.cells #[.int .u8 1, .int .i64 p, .int .i64 r, .int .i64 0] 27)) := ⟨_, rfl⟩
  obtain ⟨iN, hi⟩ : ∃ x, Hid (w6.heap.size = x) := ⟨_, rfl⟩
  rw [← hz.out] at B6 X6 D6 N6 ⊢
  rw [hi.out] at N6 ⊢
  clear hz hi cD0 cD1 X4 D4 B4
  have X6 : Hid (Four z6 iX ⟨v.k, v.c, v.s, v.e⟩) := X6
  have D6 : Hid (Two z6 iD (c) (s)) := D6
  have N6 : Hid (Four z6 iN ⟨1, p, r, 0⟩) := N6
  go_upto_region 10 with (go_at_call 16; (with_reducible refine (BA _).mono ?_); rintro e w7 ⟨rfl, q⟩; have B7 := Lib.hid (bt B6.out (bt q (ba w7 (.cells #[.int .u8 0, .int .i64 0, .int .i64 0, .int .i64 0] 27)))); have X7 := Lib.hid ((X6.out.below q).below (ba w7 (.cells #[.int .u8 0, .int .i64 0, .int .i64 0, .int .i64 0] 27))); have D7 := Lib.hid ((D6.out.below q).below (ba w7 (.cells #[.int .u8 0, .int .i64 0, .int .i64 0, .int .i64 0] 27))); have N7 := Lib.hid ((N6.out.below q).below (ba w7 (.cells #[.int .u8 0, .int .i64 0, .int .i64 0, .int .i64 0] 27))); have E7 := Lib.hid (Four.new w7 ⟨0, 0, 0, 0⟩); clear q)
  obtain ⟨z7, hz⟩ : ∃ x, Hid (x = w7.alloc (.cells #[.int .u8 0, .int .i64 0, .int .i64 0, .int .i64 0] 27)) := ⟨_, rfl⟩
  obtain ⟨iE, hi⟩ : ∃ x, Hid (w7.heap.size = x) := ⟨_, rfl⟩
  rw [← hz.out] at B7 X7 D7 N7 E7 ⊢
  rw [hi.out] at E7 ⊢
  clear hz hi  X6 D6 N6 B6
  have X7 : Hid (Four z7 iX ⟨v.k, v.c, v.s, v.e⟩) := X7
  have D7 : Hid (Two z7 iD (c) (s)) := D7
  have N7 : Hid (Four z7 iN ⟨1, p, r, 0⟩) := N7
  have E7 : Hid (Four z7 iE ⟨0, 0, 0, 0⟩) := E7
  go_upto_region 11 with (go_at_call 17; (with_reducible refine (TR _).mono ?_); rintro e w8 ⟨rfl, q⟩; have B8 := Lib.hid (bt B7.out (bt q (ba w8 (.cells #[.int .u8 3, .int .i64 0, .int .i64 0, .int .i64 0] 27)))); have X8 := Lib.hid ((X7.out.below q).below (ba w8 (.cells #[.int .u8 3, .int .i64 0, .int .i64 0, .int .i64 0] 27))); have D8 := Lib.hid ((D7.out.below q).below (ba w8 (.cells #[.int .u8 3, .int .i64 0, .int .i64 0, .int .i64 0] 27))); have N8 := Lib.hid ((N7.out.below q).below (ba w8 (.cells #[.int .u8 3, .int .i64 0, .int .i64 0, .int .i64 0] 27))); have E8 := Lib.hid ((E7.out.below q).below (ba w8 (.cells #[.int .u8 3, .int .i64 0, .int .i64 0, .int .i64 0] 27))); have U8 := Lib.hid (Four.new w8 ⟨3, 0, 0, 0⟩); clear q)
  obtain ⟨z8, hz⟩ : ∃ x, Hid (x = w8.alloc (.cells #[.int .u8 3, .int .i64 0, .int .i64 0, .int .i64 0] 27)) := ⟨_, rfl⟩
  obtain ⟨iU, hi⟩ : ∃ x, Hid (w8.heap.size = x) := ⟨_, rfl⟩
  rw [← hz.out] at B8 X8 D8 N8 E8 U8 ⊢
  rw [hi.out] at U8 ⊢
  clear hz hi  X7 D7 N7 E7 B7
  have X8 : Hid (Four z8 iX ⟨v.k, v.c, v.s, v.e⟩) := X8
  have D8 : Hid (Two z8 iD (c) (s)) := D8
  have N8 : Hid (Four z8 iN ⟨1, p, r, 0⟩) := N8
  have E8 : Hid (Four z8 iE ⟨0, 0, 0, 0⟩) := E8
  have U8 : Hid (Four z8 iU ⟨3, 0, 0, 0⟩) := U8
  clear NU BA TR
  have cU0 := U8.out.c0
  have cU1 := U8.out.c1
  have cU2 := U8.out.c2
  have cU3 := U8.out.c3
  go_upto_region 14 with (go_at_call 13; (with_reducible refine (RT2 _).mono ?_); rintro e w9 ⟨rfl, q⟩; have B9 := Lib.hid (bt B8.out (bt q (ba w9 (.cells #[.int .u8 4, .int .i64 0, .int .i64 0, .int .i64 n] 27)))); have X9 := Lib.hid ((X8.out.below q).below (ba w9 (.cells #[.int .u8 4, .int .i64 0, .int .i64 0, .int .i64 n] 27))); have D9 := Lib.hid ((D8.out.below q).below (ba w9 (.cells #[.int .u8 4, .int .i64 0, .int .i64 0, .int .i64 n] 27))); have N9 := Lib.hid ((N8.out.below q).below (ba w9 (.cells #[.int .u8 4, .int .i64 0, .int .i64 0, .int .i64 n] 27))); have E9 := Lib.hid ((E8.out.below q).below (ba w9 (.cells #[.int .u8 4, .int .i64 0, .int .i64 0, .int .i64 n] 27))); have U9 := Lib.hid ((U8.out.below q).below (ba w9 (.cells #[.int .u8 4, .int .i64 0, .int .i64 0, .int .i64 n] 27))); have W9 := Lib.hid (Four.new w9 ⟨4, 0, 0, n⟩); clear q RT2)
  obtain ⟨z9, hz⟩ : ∃ x, Hid (x = w9.alloc (.cells #[.int .u8 4, .int .i64 0, .int .i64 0, .int .i64 n] 27)) := ⟨_, rfl⟩
  obtain ⟨iW, hi⟩ : ∃ x, Hid (w9.heap.size = x) := ⟨_, rfl⟩
  rw [← hz.out] at B9 X9 D9 N9 E9 U9 W9 ⊢
  rw [hi.out] at W9 ⊢
  clear hz hi cU0 cU1 cU2 cU3 X8 D8 N8 E8 U8 B8
  have X9 : Hid (Four z9 iX ⟨v.k, v.c, v.s, v.e⟩) := X9
  have D9 : Hid (Two z9 iD (c) (s)) := D9
  have N9 : Hid (Four z9 iN ⟨1, p, r, 0⟩) := N9
  have E9 : Hid (Four z9 iE ⟨0, 0, 0, 0⟩) := E9
  have U9 : Hid (Four z9 iU ⟨3, 0, 0, 0⟩) := U9
  have W9 : Hid (Four z9 iW ⟨4, 0, 0, n⟩) := W9
  have cW0 := W9.out.c0
  have cW1 := W9.out.c1
  have cW2 := W9.out.c2
  have cW3 := W9.out.c3
  go_upto_region 16 with (go_at_call 13; (with_reducible refine (RW _).mono ?_); rintro e w10 ⟨rfl, q⟩; have B10 := Lib.hid (bt B9.out q); have X10 : Hid (Four w10 iX ⟨v.k, v.c, v.s, v.e⟩) := Lib.hid (X9.out.below q); have D10 : Hid (Two w10 iD (c) (s)) := Lib.hid (D9.out.below q); have N10 : Hid (Four w10 iN ⟨1, p, r, 0⟩) := Lib.hid (N9.out.below q); have E10 : Hid (Four w10 iE ⟨0, 0, 0, 0⟩) := Lib.hid (E9.out.below q); have U10 : Hid (Four w10 iU ⟨3, 0, 0, 0⟩) := Lib.hid (U9.out.below q); have W10 : Hid (Four w10 iW ⟨4, 0, 0, n⟩) := Lib.hid (W9.out.below q);have dE0 := E10.out.c0; have dE1 := E10.out.c1; have dE2 := E10.out.c2; have dE3 := E10.out.c3; have dW0 := W10.out.c0; have dW1 := W10.out.c1; have dW2 := W10.out.c2; have dW3 := W10.out.c3; clear q RW)
  clear X9 D9 N9 E9 U9 W9 cW0 cW1 cW2 cW3 dE0 dE1 dE2 dE3 dW0 dW1 dW2 dW3 B9
  have cD0 := D10.out.c0
  have cD1 := D10.out.c1
  go_upto_region 18 with (go_at_call 18; (with_reducible refine (IS _).mono ?_); rintro e w11 ⟨rfl, q⟩; have B11 := Lib.hid (bt B10.out q); have X11 : Hid (Four w11 iX ⟨v.k, v.c, v.s, v.e⟩) := Lib.hid (X10.out.below q); have D11 : Hid (Two w11 iD (c) (s)) := Lib.hid (D10.out.below q); have N11 : Hid (Four w11 iN ⟨1, p, r, 0⟩) := Lib.hid (N10.out.below q); have E11 : Hid (Four w11 iE ⟨0, 0, 0, 0⟩) := Lib.hid (E10.out.below q); have U11 : Hid (Four w11 iU ⟨3, 0, 0, 0⟩) := Lib.hid (U10.out.below q); have W11 : Hid (Four w11 iW ⟨4, 0, 0, n⟩) := Lib.hid (W10.out.below q); clear q IS)
  clear X10 D10 N10 E10 U10 W10 cD0 cD1 B10
  have cD0 := D11.out.c0
  have cD1 := D11.out.c1
  go_upto_region 19 with (go_at_call 19; (with_reducible refine (PU _).mono ?_); rintro e w12 ⟨rfl, q⟩; have B12 := Lib.hid (bt B11.out (bt q (ba w12 (.cells #[.int .i64 p, .int .i64 r] 24)))); have X12 := Lib.hid ((X11.out.below q).below (ba w12 (.cells #[.int .i64 p, .int .i64 r] 24))); have D12 := Lib.hid ((D11.out.below q).below (ba w12 (.cells #[.int .i64 p, .int .i64 r] 24))); have N12 := Lib.hid ((N11.out.below q).below (ba w12 (.cells #[.int .i64 p, .int .i64 r] 24))); have E12 := Lib.hid ((E11.out.below q).below (ba w12 (.cells #[.int .i64 p, .int .i64 r] 24))); have U12 := Lib.hid ((U11.out.below q).below (ba w12 (.cells #[.int .i64 p, .int .i64 r] 24))); have W12 := Lib.hid ((W11.out.below q).below (ba w12 (.cells #[.int .i64 p, .int .i64 r] 24))); have Q12 := Lib.hid (Two.new w12 (p) (r)); clear q)
  obtain ⟨z12, hz⟩ : ∃ x, Hid (x = w12.alloc (.cells #[.int .i64 p, .int .i64 r] 24)) := ⟨_, rfl⟩
  obtain ⟨iQ, hi⟩ : ∃ x, Hid (w12.heap.size = x) := ⟨_, rfl⟩
  rw [← hz.out] at B12 X12 D12 N12 E12 U12 W12 Q12 ⊢
  rw [hi.out] at Q12 ⊢
  clear hz hi cD0 cD1 X11 D11 N11 E11 U11 W11 B11
  have X12 : Hid (Four z12 iX ⟨v.k, v.c, v.s, v.e⟩) := X12
  have D12 : Hid (Two z12 iD (c) (s)) := D12
  have N12 : Hid (Four z12 iN ⟨1, p, r, 0⟩) := N12
  have E12 : Hid (Four z12 iE ⟨0, 0, 0, 0⟩) := E12
  have U12 : Hid (Four z12 iU ⟨3, 0, 0, 0⟩) := U12
  have W12 : Hid (Four z12 iW ⟨4, 0, 0, n⟩) := W12
  have Q12 : Hid (Two z12 iQ (p) (r)) := Q12
  clear PU
  have cN0 := N12.out.c0
  have cN1 := N12.out.c1
  have cN2 := N12.out.c2
  have cN3 := N12.out.c3
  have cQ0 := Q12.out.c0
  have cQ1 := Q12.out.c1
  have K := knownV_is (HE.out.below B12.out)
  go_wp2_with (go_at_call 8; (with_reducible refine K.mono ?_); rintro e w13 ⟨rfl, q⟩; have B13 := Lib.hid (bt B12.out q); clear q K)
  go_ret
  exact ⟨rfl, B13.out⟩
set_option maxRecDepth 100000 in
set_option maxHeartbeats 4000000 in
theorem tells_Bfnq {w : World} (v : V) (hv : v.ok) (c s : Int) (hc : fits c) (n : Int) (hn : fits n) (he : Env w) (hm : mayV v = false) (hb : mayV ⟨4, 0, 0, n⟩ = false) (hs : isB s = false) : Calls Tryd.prog 5 #[.agg #[.int .u8 v.k, .int .i64 v.c, .int .i64 v.s, .int .i64 v.e], .agg #[.int .i64 c, .int .i64 s], .bool false, .int .i64 n] w fun e w' => e = .returned (.bool true) ∧ Below w.heap.size w w' := by
  have HE := Lib.hid he
  have T := fun w h => text_is (w := w) v hv h
  have RT := fun w => rtext_is (w := w) v hv
  have MV := fun w => may_is (w := w) v hv
  have RM := fun w => rmay_is (w := w) v hv
  have NU := fun w => num_is (w := w) c s hc
  have BA := fun w => bad_is (w := w) n hn
  have TR := fun w => truth_is (w := w) false
  have RT2 := fun w => rmay_is (w := w) ⟨3, 0, 0, 0⟩ ⟨by decide, by decide, by decide, by decide⟩
  have RW := fun w => rmay_is (w := w) ⟨4, 0, 0, n⟩ ⟨⟨by show (0 : Int) ≤ 4; decide, by show (4 : Int) ≤ 255; decide⟩, by show fits 0; decide, by show fits 0; decide, hn⟩
  have IS := fun w => rIs_any c s w
  unfold VPost numS at NU
  unfold VPost badV at BA
  rw [hs] at NU IS
  rw [hb] at BA
  rw [show mayV ⟨3, 0, 0, 0⟩ = true from by decide] at RT2
  rw [hm] at MV RM
  simp only [hb] at RW
  simp only [if_true, Bool.false_eq_true, if_false] at NU BA TR RT2
  obtain ⟨s1, s2⟩ := text_facts hv.2.1 _ hm
  obtain ⟨S, hS⟩ : ∃ s, Hid (bs (textV v) = s) := ⟨_, rfl⟩
  rw [hS.out] at T RT s1 s2
  simp only [Bool.not_true, Bool.not_false] at s1 s2
  have ss := self_toList S
  have B0 := Lib.hid (bt (ba w (.cells #[.int .u8 v.k, .int .i64 v.c, .int .i64 v.s, .int .i64 v.e] 27)) (ba _ (.cells #[.int .i64 c, .int .i64 s] 24)))
  have X0 := Lib.hid ((Four.new w v).below (ba _ (.cells #[.int .i64 c, .int .i64 s] 24)))
  have D0 := Lib.hid (Two.new (w.alloc (.cells #[.int .u8 v.k, .int .i64 v.c, .int .i64 v.s, .int .i64 v.e] 27)) c s)
  clear hv hc hn he hm hb hs hS
  go_enter Tryd.func5, Tryd.ntmps5
  go_upto_region 1 with fail
  obtain ⟨u1, hu1⟩ : ∃ x, Hid (x = w.alloc (.cells #[.int .u8 v.k, .int .i64 v.c, .int .i64 v.s, .int .i64 v.e] 27)) := ⟨_, rfl⟩
  obtain ⟨iX, hiX⟩ : ∃ x, Hid (w.heap.size = x) := ⟨_, rfl⟩
  have hs1 : u1.heap.size = w.heap.size + 1 := by rw [hu1.out]; simp
  rw [← hu1.out] at B0 X0 D0 ⊢
  obtain ⟨iD, hiD⟩ : ∃ x, Hid (u1.heap.size = x) := ⟨_, rfl⟩
  obtain ⟨w0, hw0⟩ : ∃ x, Hid (x = u1.alloc (.cells #[.int .i64 c, .int .i64 s] 24)) := ⟨_, rfl⟩
  rw [← hw0.out] at B0 X0 D0 ⊢
  have hs2 : w.heap.size + 1 = iD := by rw [← hs1]; exact hiD.out
  rw [hiD.out] at D0
  first | rw [hs2] | rw [hiD.out]
  rw [hiX.out] at X0
  clear hu1 hw0 hs1
  try rw [hiX.out]
  clear hs2 hiX hiD
  have X0 : Hid (Four w0 iX ⟨v.k, v.c, v.s, v.e⟩) := X0
  have cX0 := X0.out.c0
  have cX1 := X0.out.c1
  have cX2 := X0.out.c2
  have cX3 := X0.out.c3
  have T0 := T w0 (HE.out.below B0.out)
  go_upto_region 2 with (first | (go_at_call 11; (with_reducible refine T0.mono ?_); rintro e1 w1 ⟨rfl, q1⟩; have B1 := Lib.hid (bt B0.out q1); have X1 : Hid (Four w1 iX ⟨v.k, v.c, v.s, v.e⟩) := Lib.hid (X0.out.below q1); have D1 : Hid (Two w1 iD (c) (s)) := Lib.hid (D0.out.below q1); clear q1 T0))
  clear cX0 cX1 cX2 cX3 X0 D0
  have dr : Below w1.heap.size w1 w1.drew := ⟨rfl, rfl, rfl, Nat.le_refl _, fun _ _ => rfl⟩
  have mk : ∀ w', Below w1.heap.size w1 w' → w'.cell? ⟨iX, 0, none⟩ = some (.int .u8 v.k) ∧ w'.cell? ⟨iX, 1, none⟩ = some (.int .i64 v.c) ∧ w'.cell? ⟨iX, 2, none⟩ = some (.int .i64 v.s) ∧ w'.cell? ⟨iX, 3, none⟩ = some (.int .i64 v.e) := fun w' h => ⟨(X1.out.below h).c0, (X1.out.below h).c1, (X1.out.below h).c2, (X1.out.below h).c3⟩
  have HS0 := mk w1.drew dr
  go_region_held3 (fun w' : World => w'.cell? ⟨iX, 0, none⟩ = some (.int .u8 v.k) ∧ w'.cell? ⟨iX, 1, none⟩ = some (.int .i64 v.c) ∧ w'.cell? ⟨iX, 2, none⟩ = some (.int .i64 v.s) ∧ w'.cell? ⟨iX, 3, none⟩ = some (.int .i64 v.e))
    (first | with_reducible exact HS0 | with_reducible assumption)
    (first
      | (go_at_call 12; (with_reducible refine (MV _).mono ?_); rintro e2 w2 ⟨rfl, q2⟩; have HS2 := mk w2 (bt dr q2); have C2 := Lib.hid (bt dr q2); clear q2 MV)
      | (go_at_call 13; (with_reducible refine (RM _).mono ?_); rintro e3 w3 ⟨rfl, q3⟩; have HS3 := mk w3 (bt C2.out q3); have C3 := Lib.hid (bt C2.out q3); clear q3 RM)
      | (go_at_call 14; (with_reducible refine (RT _).mono ?_); rintro e4 w4 ⟨rfl, q4⟩; have HS4 := mk w4 (bt C3.out q4); have C4 := Lib.hid (bt C3.out q4); clear q4 RT))
  have X4 : Hid (Four w4 iX ⟨v.k, v.c, v.s, v.e⟩) := Lib.hid (X1.out.below C4.out); have D4 : Hid (Two w4 iD (c) (s)) := Lib.hid (D1.out.below C4.out); have B4 := Lib.hid (bt B1.out C4.out)
  clear HS0 HS2 HS3 HS4 dr mk C2 C3 C4 X1 D1 B1
  have cD0 := D4.out.c0
  have cD1 := D4.out.c1
  go_upto_region 9 with (go_at_call 15; (with_reducible refine (NU _).mono ?_); rintro e w6 ⟨rfl, q⟩; have B6 := Lib.hid (bt B4.out (bt q (ba w6 (.cells #[.int .u8 0, .int .i64 0, .int .i64 0, .int .i64 0] 27)))); have X6 := Lib.hid ((X4.out.below q).below (ba w6 (.cells #[.int .u8 0, .int .i64 0, .int .i64 0, .int .i64 0] 27))); have D6 := Lib.hid ((D4.out.below q).below (ba w6 (.cells #[.int .u8 0, .int .i64 0, .int .i64 0, .int .i64 0] 27))); have N6 := Lib.hid (Four.new w6 ⟨0, 0, 0, 0⟩); clear q)
  obtain ⟨z6, hz⟩ : ∃ x, Hid (x = w6.alloc (.cells #[.int .u8 0, .int .i64 0, .int .i64 0, .int .i64 0] 27)) := ⟨_, rfl⟩
  obtain ⟨iN, hi⟩ : ∃ x, Hid (w6.heap.size = x) := ⟨_, rfl⟩
  rw [← hz.out] at B6 X6 D6 N6 ⊢
  rw [hi.out] at N6 ⊢
  clear hz hi cD0 cD1 X4 D4 B4
  have X6 : Hid (Four z6 iX ⟨v.k, v.c, v.s, v.e⟩) := X6
  have D6 : Hid (Two z6 iD (c) (s)) := D6
  have N6 : Hid (Four z6 iN ⟨0, 0, 0, 0⟩) := N6
  go_upto_region 10 with (go_at_call 16; (with_reducible refine (BA _).mono ?_); rintro e w7 ⟨rfl, q⟩; have B7 := Lib.hid (bt B6.out (bt q (ba w7 (.cells #[.int .u8 0, .int .i64 0, .int .i64 0, .int .i64 0] 27)))); have X7 := Lib.hid ((X6.out.below q).below (ba w7 (.cells #[.int .u8 0, .int .i64 0, .int .i64 0, .int .i64 0] 27))); have D7 := Lib.hid ((D6.out.below q).below (ba w7 (.cells #[.int .u8 0, .int .i64 0, .int .i64 0, .int .i64 0] 27))); have N7 := Lib.hid ((N6.out.below q).below (ba w7 (.cells #[.int .u8 0, .int .i64 0, .int .i64 0, .int .i64 0] 27))); have E7 := Lib.hid (Four.new w7 ⟨0, 0, 0, 0⟩); clear q)
  obtain ⟨z7, hz⟩ : ∃ x, Hid (x = w7.alloc (.cells #[.int .u8 0, .int .i64 0, .int .i64 0, .int .i64 0] 27)) := ⟨_, rfl⟩
  obtain ⟨iE, hi⟩ : ∃ x, Hid (w7.heap.size = x) := ⟨_, rfl⟩
  rw [← hz.out] at B7 X7 D7 N7 E7 ⊢
  rw [hi.out] at E7 ⊢
  clear hz hi  X6 D6 N6 B6
  have X7 : Hid (Four z7 iX ⟨v.k, v.c, v.s, v.e⟩) := X7
  have D7 : Hid (Two z7 iD (c) (s)) := D7
  have N7 : Hid (Four z7 iN ⟨0, 0, 0, 0⟩) := N7
  have E7 : Hid (Four z7 iE ⟨0, 0, 0, 0⟩) := E7
  go_upto_region 11 with (go_at_call 17; (with_reducible refine (TR _).mono ?_); rintro e w8 ⟨rfl, q⟩; have B8 := Lib.hid (bt B7.out (bt q (ba w8 (.cells #[.int .u8 3, .int .i64 0, .int .i64 0, .int .i64 0] 27)))); have X8 := Lib.hid ((X7.out.below q).below (ba w8 (.cells #[.int .u8 3, .int .i64 0, .int .i64 0, .int .i64 0] 27))); have D8 := Lib.hid ((D7.out.below q).below (ba w8 (.cells #[.int .u8 3, .int .i64 0, .int .i64 0, .int .i64 0] 27))); have N8 := Lib.hid ((N7.out.below q).below (ba w8 (.cells #[.int .u8 3, .int .i64 0, .int .i64 0, .int .i64 0] 27))); have E8 := Lib.hid ((E7.out.below q).below (ba w8 (.cells #[.int .u8 3, .int .i64 0, .int .i64 0, .int .i64 0] 27))); have U8 := Lib.hid (Four.new w8 ⟨3, 0, 0, 0⟩); clear q)
  obtain ⟨z8, hz⟩ : ∃ x, Hid (x = w8.alloc (.cells #[.int .u8 3, .int .i64 0, .int .i64 0, .int .i64 0] 27)) := ⟨_, rfl⟩
  obtain ⟨iU, hi⟩ : ∃ x, Hid (w8.heap.size = x) := ⟨_, rfl⟩
  rw [← hz.out] at B8 X8 D8 N8 E8 U8 ⊢
  rw [hi.out] at U8 ⊢
  clear hz hi  X7 D7 N7 E7 B7
  have X8 : Hid (Four z8 iX ⟨v.k, v.c, v.s, v.e⟩) := X8
  have D8 : Hid (Two z8 iD (c) (s)) := D8
  have N8 : Hid (Four z8 iN ⟨0, 0, 0, 0⟩) := N8
  have E8 : Hid (Four z8 iE ⟨0, 0, 0, 0⟩) := E8
  have U8 : Hid (Four z8 iU ⟨3, 0, 0, 0⟩) := U8
  clear NU BA TR
  have cU0 := U8.out.c0
  have cU1 := U8.out.c1
  have cU2 := U8.out.c2
  have cU3 := U8.out.c3
  go_upto_region 14 with (go_at_call 13; (with_reducible refine (RT2 _).mono ?_); rintro e w9 ⟨rfl, q⟩; have B9 := Lib.hid (bt B8.out (bt q (ba w9 (.cells #[.int .u8 4, .int .i64 0, .int .i64 0, .int .i64 n] 27)))); have X9 := Lib.hid ((X8.out.below q).below (ba w9 (.cells #[.int .u8 4, .int .i64 0, .int .i64 0, .int .i64 n] 27))); have D9 := Lib.hid ((D8.out.below q).below (ba w9 (.cells #[.int .u8 4, .int .i64 0, .int .i64 0, .int .i64 n] 27))); have N9 := Lib.hid ((N8.out.below q).below (ba w9 (.cells #[.int .u8 4, .int .i64 0, .int .i64 0, .int .i64 n] 27))); have E9 := Lib.hid ((E8.out.below q).below (ba w9 (.cells #[.int .u8 4, .int .i64 0, .int .i64 0, .int .i64 n] 27))); have U9 := Lib.hid ((U8.out.below q).below (ba w9 (.cells #[.int .u8 4, .int .i64 0, .int .i64 0, .int .i64 n] 27))); have W9 := Lib.hid (Four.new w9 ⟨4, 0, 0, n⟩); clear q RT2)
  obtain ⟨z9, hz⟩ : ∃ x, Hid (x = w9.alloc (.cells #[.int .u8 4, .int .i64 0, .int .i64 0, .int .i64 n] 27)) := ⟨_, rfl⟩
  obtain ⟨iW, hi⟩ : ∃ x, Hid (w9.heap.size = x) := ⟨_, rfl⟩
  rw [← hz.out] at B9 X9 D9 N9 E9 U9 W9 ⊢
  rw [hi.out] at W9 ⊢
  clear hz hi cU0 cU1 cU2 cU3 X8 D8 N8 E8 U8 B8
  have X9 : Hid (Four z9 iX ⟨v.k, v.c, v.s, v.e⟩) := X9
  have D9 : Hid (Two z9 iD (c) (s)) := D9
  have N9 : Hid (Four z9 iN ⟨0, 0, 0, 0⟩) := N9
  have E9 : Hid (Four z9 iE ⟨0, 0, 0, 0⟩) := E9
  have U9 : Hid (Four z9 iU ⟨3, 0, 0, 0⟩) := U9
  have W9 : Hid (Four z9 iW ⟨4, 0, 0, n⟩) := W9
  have cW0 := W9.out.c0
  have cW1 := W9.out.c1
  have cW2 := W9.out.c2
  have cW3 := W9.out.c3
  go_upto_region 16 with (go_at_call 13; (with_reducible refine (RW _).mono ?_); rintro e w10 ⟨rfl, q⟩; have B10 := Lib.hid (bt B9.out q); have X10 : Hid (Four w10 iX ⟨v.k, v.c, v.s, v.e⟩) := Lib.hid (X9.out.below q); have D10 : Hid (Two w10 iD (c) (s)) := Lib.hid (D9.out.below q); have N10 : Hid (Four w10 iN ⟨0, 0, 0, 0⟩) := Lib.hid (N9.out.below q); have E10 : Hid (Four w10 iE ⟨0, 0, 0, 0⟩) := Lib.hid (E9.out.below q); have U10 : Hid (Four w10 iU ⟨3, 0, 0, 0⟩) := Lib.hid (U9.out.below q); have W10 : Hid (Four w10 iW ⟨4, 0, 0, n⟩) := Lib.hid (W9.out.below q);have dE0 := E10.out.c0; have dE1 := E10.out.c1; have dE2 := E10.out.c2; have dE3 := E10.out.c3; have dW0 := W10.out.c0; have dW1 := W10.out.c1; have dW2 := W10.out.c2; have dW3 := W10.out.c3; clear q RW)
  clear X9 D9 N9 E9 U9 W9 cW0 cW1 cW2 cW3 dE0 dE1 dE2 dE3 dW0 dW1 dW2 dW3 B9
  have cD0 := D10.out.c0
  have cD1 := D10.out.c1
  go_wp2_with (first | (go_at_call 18; (with_reducible refine (IS _).mono ?_); rintro e w11 ⟨rfl, q⟩; have B11 := Lib.hid (bt B10.out q); have X11 : Hid (Four w11 iX ⟨v.k, v.c, v.s, v.e⟩) := Lib.hid (X10.out.below q); have D11 : Hid (Two w11 iD (c) (s)) := Lib.hid (D10.out.below q); have N11 : Hid (Four w11 iN ⟨0, 0, 0, 0⟩) := Lib.hid (N10.out.below q); have E11 : Hid (Four w11 iE ⟨0, 0, 0, 0⟩) := Lib.hid (E10.out.below q); have U11 : Hid (Four w11 iU ⟨3, 0, 0, 0⟩) := Lib.hid (U10.out.below q); have W11 : Hid (Four w11 iW ⟨4, 0, 0, n⟩) := Lib.hid (W10.out.below q); have K := knownV_is (HE.out.below B11.out);have cN0 := N11.out.c0; have cN1 := N11.out.c1; have cN2 := N11.out.c2; have cN3 := N11.out.c3; clear q IS) | (go_at_call 8; (with_reducible refine K.mono ?_); rintro e w13 ⟨rfl, q⟩; have B13 := Lib.hid (bt B11.out q); clear q K))
  go_ret
  exact ⟨rfl, B13.out⟩
end Go.Proofs.YtfonpegkaajnkaaDoor.Va
