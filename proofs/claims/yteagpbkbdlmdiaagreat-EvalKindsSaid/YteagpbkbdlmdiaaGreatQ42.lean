/-
  eval: numbers, walked; EvAlike: what its functions answer.
-/
import Derived.Test.YteagpbkbdlmdiaaGreatQ25
import Derived.Laws.StructEq
set_option linter.unusedSimpArgs false
set_option linter.unusedVariables false
namespace Go.Proofs.YteagpbkbdlmdiaaGreat.Ev
set_option maxRecDepth 100000
set_option maxHeartbeats 1000000
open Go Go.RowKit Dt Tx Va
attribute [local go_sem ↓] Go.wp_at_zero Go.wp_at_succ
theorem num_ord2 {w:World} (g:Nat) (a b d r:V) (bf:Nat) (hk:K3 w g a b d) (H:a.k=1→b.k=1→∀ w',Below w.heap.size w w'→Calls Tryz.prog 117 #[.agg #[.int .i64 a.c,.int .i64 a.s],.agg #[.int .i64 b.c,.int .i64 b.s],.pointer (some ⟨bf,0,none⟩)] w' (VP r w')) :
  Calls Tryz.prog 116 #[.slice (some ⟨g,0,none⟩) 2 3,.func (.func 117) #[] #[.pointer (some ⟨bf,0,none⟩)]] w (VP (if a.k ≠ 1 then wrongV a else if b.k ≠ 1 then wrongV b else r) w):=by
 by_cases g1:a.k=1
 ·rw [if_neg (by simpa using g1)]
  by_cases h1:b.k=1
  ·rw [if_neg (by simpa using h1)]
   replace H:=H g1 h1
   have g11:decide (a.k=1)=true:=decide_eq_true g1
   have g12:(a.k==1)=true:=by simpa using g1
   have g13:(a.k !=1)=false:=by simpa using g1
   have h11:decide (b.k=1)=true:=decide_eq_true h1
   have h12:(b.k==1)=true:=by simpa using h1
   have h13:(b.k !=1)=false:=by simpa using h1
   clear g1 h1
   try dsimp only [av,an,ao]
   go_enter Tryz.func116,Tryz.ntmps116
   go_upto_region 1 with fail
   obtain ⟨W0,iR,hW,hR,R0,B0,LR,LI,LS⟩:=mkZ w
   rw [hW.out];try rw [hR.out]
   clear hW hR
   have K0:=Lib.hid (hk.below B0.out)
   have HL:=Lib.hid hk.lt
   clear hk
   have kc0:=K0.out.c0;have kc1:=K0.out.c1;have kc2:=K0.out.c2;have kc3:=K0.out.c3
   go_wp2_with fail
   refine wp_loop_rounds 3 ?_
   rw [rounds_succ]
   go_upto_region 4 with fail
   obtain ⟨W1,iZ1,hW,hZ,Z1,BZ,LZ1,_,_⟩:=mk1 W0 (.cells #[.int .u8 a.k,.int .i64 a.c,.int .i64 a.s,.int .i64 a.e] 33)
   rw [hW.out]
   try rw [hZ.out]
   clear hW hZ
   replace Z1:Hid (Four W1 iZ1 a):=Z1
   have K1:=Lib.hid (K0.out.below BZ.out);have R1:=Lib.hid (R0.out.below BZ.out);have B1:=Lib.hid (bt B0.out BZ.out)
   clear kc0 kc1 kc2 kc3 BZ K0 R0 B0
   have Zc0:=Z1.out.c0;have Zc1:=Z1.out.c1;have Zc2:=Z1.out.c2;have Zc3:=Z1.out.c3
   clear Zc1 Zc2 Zc3
   go_wp2_with fail
   clear Zc0
   have kc0:=K1.out.c4;have kc1:=K1.out.c5;have kc2:=K1.out.c6;have kc3:=K1.out.c7
   rw [rounds_succ]
   go_upto_region 4 with fail
   obtain ⟨W2,iZ2,hW,hZ,Z2,BZ,LZ2,_,_⟩:=mk1 W1 (.cells #[.int .u8 b.k,.int .i64 b.c,.int .i64 b.s,.int .i64 b.e] 33)
   rw [hW.out]
   try rw [hZ.out]
   clear hW hZ
   replace Z2:Hid (Four W2 iZ2 b):=Z2
   have K2:=Lib.hid (K1.out.below BZ.out);have R2:=Lib.hid (R1.out.below BZ.out);have B2:=Lib.hid (bt B1.out BZ.out)
   clear kc0 kc1 kc2 kc3 BZ K1 R1 B1
   have Zc0:=Z2.out.c0;have Zc1:=Z2.out.c1;have Zc2:=Z2.out.c2;have Zc3:=Z2.out.c3
   clear Zc1 Zc2 Zc3
   go_wp2_with fail
   clear Zc0
   rw [rounds_succ]
   go_upto_region 7 with fail
   have HF:=H W2.drew (B2.out.drew)
   clear H
   have Kd:=Lib.hid (K2.out.below (drb W2))
   have HNE:Hid (¬g=iR):=Lib.hid (by have:=HL.out;have:=LR.out;omega)
   have HS0:(fun w':World=>w'.cell? ⟨g,1,none⟩=some (.int .i64 a.c)∧w'.cell? ⟨g,2,none⟩=some (.int .i64 a.s)∧w'.cell? ⟨g,5,none⟩=some (.int .i64 b.c)∧w'.cell? ⟨g,6,none⟩=some (.int .i64 b.s)) W2.drew:=⟨(Kd.out).c1,(Kd.out).c2,(Kd.out).c5,(Kd.out).c6⟩
   have kw0:IntKind.i64.wrap 0=0:=by decide
   have kw1:IntKind.i64.wrap 1=1:=by decide
   have kw2:IntKind.i64.wrap (2 - 1)=1:=by decide
   have kw3:IntKind.i64.wrap (((2:Nat):Int) - 1)=1:=by decide
   go_region_held3 (fun w'=>w'.cell? ⟨g,1,none⟩=some (.int .i64 a.c)∧w'.cell? ⟨g,2,none⟩=some (.int .i64 a.s)∧w'.cell? ⟨g,5,none⟩=some (.int .i64 b.c)∧w'.cell? ⟨g,6,none⟩=some (.int .i64 b.s))
    (first | with_reducible exact HS0 | with_reducible assumption | with_reducible exact HS8 _ _ _ _)
    (first | (go_at_call 117;(with_reducible refine HF.mono ?_);rintro e8 w8 ⟨rfl,q8⟩;have K8:=Lib.hid (Kd.out.below q8);have B8:=Lib.hid (bt (B2.out.drew) q8);have R8:=Lib.hid (R2.out.below (bt (drb W2) q8));have HS7:w8.cell? ⟨g,1,none⟩=some (.int .i64 a.c)∧w8.cell? ⟨g,2,none⟩=some (.int .i64 a.s)∧w8.cell? ⟨g,5,none⟩=some (.int .i64 b.c)∧w8.cell? ⟨g,6,none⟩=some (.int .i64 b.s):=⟨(K8.out).c1,(K8.out).c2,(K8.out).c5,(K8.out).c6⟩;have HS8:∀ x0 x1 x2 x3,(fun w':World=>w'.cell? ⟨g,1,none⟩=some (.int .i64 a.c)∧w'.cell? ⟨g,2,none⟩=some (.int .i64 a.s)∧w'.cell? ⟨g,5,none⟩=some (.int .i64 b.c)∧w'.cell? ⟨g,6,none⟩=some (.int .i64 b.s)) ((((w8.setCell ⟨iR,0,none⟩ x0).setCell ⟨iR,1,none⟩ x1).setCell ⟨iR,2,none⟩ x2).setCell ⟨iR,3,none⟩ x3):=fun x0 x1 x2 x3=>⟨(K8.out.other4 HNE.out x0 x1 x2 x3).c1,(K8.out.other4 HNE.out x0 x1 x2 x3).c2,(K8.out.other4 HNE.out x0 x1 x2 x3).c5,(K8.out.other4 HNE.out x0 x1 x2 x3).c6⟩;have Rc0:=R8.out.c0;have Rc1:=R8.out.c1;have Rc2:=R8.out.c2;have Rc3:=R8.out.c3;have Rf0:=R8.out.f 0;have Rf1:=R8.out.f 1;have Rf2:=R8.out.f 2;have Rf3:=R8.out.f 3;clear q8 HF K8))
   go_wp2_with fail
   exact ret4 4 rfl R8 B8 LR rfl rfl rfl
  ·rw [if_pos h1]
   clear H
   have g11:decide (a.k=1)=true:=decide_eq_true g1
   have g12:(a.k==1)=true:=by simpa using g1
   have g13:(a.k !=1)=false:=by simpa using g1
   have h11:decide (b.k=1)=false:=decide_eq_false h1
   have h12:(b.k==1)=false:=by simpa using h1
   have h13:(b.k !=1)=true:=by simpa using h1
   clear g1 h1
   try dsimp only [av,an,ao]
   go_enter Tryz.func116,Tryz.ntmps116
   go_upto_region 1 with fail
   obtain ⟨W0,iR,hW,hR,R0,B0,LR,LI,LS⟩:=mkZ w
   rw [hW.out];try rw [hR.out]
   clear hW hR
   have K0:=Lib.hid (hk.below B0.out)
   have HL:=Lib.hid hk.lt
   clear hk
   have kc0:=K0.out.c0;have kc1:=K0.out.c1;have kc2:=K0.out.c2;have kc3:=K0.out.c3
   go_wp2_with fail
   refine wp_loop_rounds 3 ?_
   rw [rounds_succ]
   go_upto_region 4 with fail
   obtain ⟨W1,iZ1,hW,hZ,Z1,BZ,LZ1,_,_⟩:=mk1 W0 (.cells #[.int .u8 a.k,.int .i64 a.c,.int .i64 a.s,.int .i64 a.e] 33)
   rw [hW.out]
   try rw [hZ.out]
   clear hW hZ
   replace Z1:Hid (Four W1 iZ1 a):=Z1
   have K1:=Lib.hid (K0.out.below BZ.out);have R1:=Lib.hid (R0.out.below BZ.out);have B1:=Lib.hid (bt B0.out BZ.out)
   clear kc0 kc1 kc2 kc3 BZ K0 R0 B0
   have Zc0:=Z1.out.c0;have Zc1:=Z1.out.c1;have Zc2:=Z1.out.c2;have Zc3:=Z1.out.c3
   clear Zc1 Zc2 Zc3
   go_wp2_with fail
   clear Zc0
   have kc0:=K1.out.c4;have kc1:=K1.out.c5;have kc2:=K1.out.c6;have kc3:=K1.out.c7
   rw [rounds_succ]
   go_upto_region 4 with fail
   obtain ⟨W2,iZ2,hW,hZ,Z2,BZ,LZ2,_,_⟩:=mk1 W1 (.cells #[.int .u8 b.k,.int .i64 b.c,.int .i64 b.s,.int .i64 b.e] 33)
   rw [hW.out]
   try rw [hZ.out]
   clear hW hZ
   replace Z2:Hid (Four W2 iZ2 b):=Z2
   have K2:=Lib.hid (K1.out.below BZ.out);have R2:=Lib.hid (R1.out.below BZ.out);have B2:=Lib.hid (bt B1.out BZ.out)
   clear kc0 kc1 kc2 kc3 BZ K1 R1 B1
   have Zc0:=Z2.out.c0;have Zc1:=Z2.out.c1;have Zc2:=Z2.out.c2;have Zc3:=Z2.out.c3
   go_wp2_with (go_at_call 113;(with_reducible refine (wrong_vp (w:=_) b).mono ?_);rintro e3 w3 ⟨rfl,q3⟩;have B3:=hB B2 q3;have R3:=hF R2 q3;clear q3 B2 R2;obtain ⟨Rc0,Rc1,Rc2,Rc3,Rf0,Rf1,Rf2,Rf3⟩:=R3.out.cf)
   exact ret4 4 rfl R3 B3 LR rfl rfl rfl
 ·rw [if_pos g1]
  clear H
  have g11:decide (a.k=1)=false:=decide_eq_false g1
  have g12:(a.k==1)=false:=by simpa using g1
  have g13:(a.k !=1)=true:=by simpa using g1
  clear g1
  try dsimp only [av,an,ao]
  go_enter Tryz.func116,Tryz.ntmps116
  go_upto_region 1 with fail
  obtain ⟨W0,iR,hW,hR,R0,B0,LR,LI,LS⟩:=mkZ w
  rw [hW.out];try rw [hR.out]
  clear hW hR
  have K0:=Lib.hid (hk.below B0.out)
  have HL:=Lib.hid hk.lt
  clear hk
  have kc0:=K0.out.c0;have kc1:=K0.out.c1;have kc2:=K0.out.c2;have kc3:=K0.out.c3
  go_wp2_with fail
  refine wp_loop_rounds 3 ?_
  rw [rounds_succ]
  go_upto_region 4 with fail
  obtain ⟨W1,iZ1,hW,hZ,Z1,BZ,LZ1,_,_⟩:=mk1 W0 (.cells #[.int .u8 a.k,.int .i64 a.c,.int .i64 a.s,.int .i64 a.e] 33)
  rw [hW.out]
  try rw [hZ.out]
  clear hW hZ
  replace Z1:Hid (Four W1 iZ1 a):=Z1
  have K1:=Lib.hid (K0.out.below BZ.out);have R1:=Lib.hid (R0.out.below BZ.out);have B1:=Lib.hid (bt B0.out BZ.out)
  clear kc0 kc1 kc2 kc3 BZ K0 R0 B0
  have Zc0:=Z1.out.c0;have Zc1:=Z1.out.c1;have Zc2:=Z1.out.c2;have Zc3:=Z1.out.c3
  go_wp2_with (go_at_call 113;(with_reducible refine (wrong_vp (w:=_) a).mono ?_);rintro e2 w2 ⟨rfl,q2⟩;have B2:=hB B1 q2;have R2:=hF R1 q2;clear q2 B1 R1;obtain ⟨Rc0,Rc1,Rc2,Rc3,Rf0,Rf1,Rf2,Rf3⟩:=R2.out.cf)
  exact ret4 4 rfl R2 B2 LR rfl rfl rfl
theorem num_two1 {w:World} (g:Nat) (a b d r:V) (bf:Nat) (hk:K3 w g a b d) (H:a.k=1→∀ w',Below w.heap.size w w'→Calls Tryz.prog 120 #[.agg #[.int .i64 a.c,.int .i64 a.s],.agg #[.int .i64 a.c,.int .i64 a.s],.pointer (some ⟨bf,0,none⟩)] w' (VP r w')) :
  Calls Tryz.prog 116 #[.slice (some ⟨g,0,none⟩) 1 3,.func (.func 120) #[] #[.pointer (some ⟨bf,0,none⟩)]] w (VP (if a.k ≠ 1 then wrongV a else r) w):=by
 by_cases g1:a.k=1
 ·rw [if_neg (by simpa using g1)]
  replace H:=H g1
  have g11:decide (a.k=1)=true:=decide_eq_true g1
  have g12:(a.k==1)=true:=by simpa using g1
  have g13:(a.k !=1)=false:=by simpa using g1
  clear g1
  try dsimp only [av,an,ao]
  go_enter Tryz.func116,Tryz.ntmps116
  go_upto_region 1 with fail
  obtain ⟨W0,iR,hW,hR,R0,B0,LR,LI,LS⟩:=mkZ w
  rw [hW.out];try rw [hR.out]
  clear hW hR
  have K0:=Lib.hid (hk.below B0.out)
  have HL:=Lib.hid hk.lt
  clear hk
  have kc0:=K0.out.c0;have kc1:=K0.out.c1;have kc2:=K0.out.c2;have kc3:=K0.out.c3
  go_wp2_with fail
  refine wp_loop_rounds 2 ?_
  rw [rounds_succ]
  go_upto_region 4 with fail
  obtain ⟨W1,iZ1,hW,hZ,Z1,BZ,LZ1,_,_⟩:=mk1 W0 (.cells #[.int .u8 a.k,.int .i64 a.c,.int .i64 a.s,.int .i64 a.e] 33)
  rw [hW.out]
  try rw [hZ.out]
  clear hW hZ
  replace Z1:Hid (Four W1 iZ1 a):=Z1
  have K1:=Lib.hid (K0.out.below BZ.out);have R1:=Lib.hid (R0.out.below BZ.out);have B1:=Lib.hid (bt B0.out BZ.out)
  clear kc0 kc1 kc2 kc3 BZ K0 R0 B0
  have Zc0:=Z1.out.c0;have Zc1:=Z1.out.c1;have Zc2:=Z1.out.c2;have Zc3:=Z1.out.c3
  clear Zc1 Zc2 Zc3
  go_wp2_with fail
  clear Zc0
  rw [rounds_succ]
  go_upto_region 7 with fail
  have HF:=H W1.drew (B1.out.drew)
  clear H
  have Kd:=Lib.hid (K1.out.below (drb W1))
  have HNE:Hid (¬g=iR):=Lib.hid (by have:=HL.out;have:=LR.out;omega)
  have HS0:(fun w':World=>w'.cell? ⟨g,1,none⟩=some (.int .i64 a.c)∧w'.cell? ⟨g,2,none⟩=some (.int .i64 a.s)) W1.drew:=⟨(Kd.out).c1,(Kd.out).c2⟩
  have kw0:IntKind.i64.wrap 0=0:=by decide
  have kw1:IntKind.i64.wrap 1=1:=by decide
  have kw2:IntKind.i64.wrap (1 - 1)=0:=by decide
  have kw3:IntKind.i64.wrap (((1:Nat):Int) - 1)=0:=by decide
  go_region_held3 (fun w'=>w'.cell? ⟨g,1,none⟩=some (.int .i64 a.c)∧w'.cell? ⟨g,2,none⟩=some (.int .i64 a.s))
   (first | with_reducible exact HS0 | with_reducible assumption | with_reducible exact HS8 _ _ _ _)
   (first | (go_at_call 120;(with_reducible refine HF.mono ?_);rintro e8 w8 ⟨rfl,q8⟩;have K8:=Lib.hid (Kd.out.below q8);have B8:=Lib.hid (bt (B1.out.drew) q8);have R8:=Lib.hid (R1.out.below (bt (drb W1) q8));have HS7:w8.cell? ⟨g,1,none⟩=some (.int .i64 a.c)∧w8.cell? ⟨g,2,none⟩=some (.int .i64 a.s):=⟨(K8.out).c1,(K8.out).c2⟩;have HS8:∀ x0 x1 x2 x3,(fun w':World=>w'.cell? ⟨g,1,none⟩=some (.int .i64 a.c)∧w'.cell? ⟨g,2,none⟩=some (.int .i64 a.s)) ((((w8.setCell ⟨iR,0,none⟩ x0).setCell ⟨iR,1,none⟩ x1).setCell ⟨iR,2,none⟩ x2).setCell ⟨iR,3,none⟩ x3):=fun x0 x1 x2 x3=>⟨(K8.out.other4 HNE.out x0 x1 x2 x3).c1,(K8.out.other4 HNE.out x0 x1 x2 x3).c2⟩;have Rc0:=R8.out.c0;have Rc1:=R8.out.c1;have Rc2:=R8.out.c2;have Rc3:=R8.out.c3;have Rf0:=R8.out.f 0;have Rf1:=R8.out.f 1;have Rf2:=R8.out.f 2;have Rf3:=R8.out.f 3;clear q8 HF K8))
  go_wp2_with fail
  exact ret4 4 rfl R8 B8 LR rfl rfl rfl
 ·rw [if_pos g1]
  clear H
  have g11:decide (a.k=1)=false:=decide_eq_false g1
  have g12:(a.k==1)=false:=by simpa using g1
  have g13:(a.k !=1)=true:=by simpa using g1
  clear g1
  try dsimp only [av,an,ao]
  go_enter Tryz.func116,Tryz.ntmps116
  go_upto_region 1 with fail
  obtain ⟨W0,iR,hW,hR,R0,B0,LR,LI,LS⟩:=mkZ w
  rw [hW.out];try rw [hR.out]
  clear hW hR
  have K0:=Lib.hid (hk.below B0.out)
  have HL:=Lib.hid hk.lt
  clear hk
  have kc0:=K0.out.c0;have kc1:=K0.out.c1;have kc2:=K0.out.c2;have kc3:=K0.out.c3
  go_wp2_with fail
  refine wp_loop_rounds 2 ?_
  rw [rounds_succ]
  go_upto_region 4 with fail
  obtain ⟨W1,iZ1,hW,hZ,Z1,BZ,LZ1,_,_⟩:=mk1 W0 (.cells #[.int .u8 a.k,.int .i64 a.c,.int .i64 a.s,.int .i64 a.e] 33)
  rw [hW.out]
  try rw [hZ.out]
  clear hW hZ
  replace Z1:Hid (Four W1 iZ1 a):=Z1
  have K1:=Lib.hid (K0.out.below BZ.out);have R1:=Lib.hid (R0.out.below BZ.out);have B1:=Lib.hid (bt B0.out BZ.out)
  clear kc0 kc1 kc2 kc3 BZ K0 R0 B0
  have Zc0:=Z1.out.c0;have Zc1:=Z1.out.c1;have Zc2:=Z1.out.c2;have Zc3:=Z1.out.c3
  go_wp2_with (go_at_call 113;(with_reducible refine (wrong_vp (w:=_) a).mono ?_);rintro e2 w2 ⟨rfl,q2⟩;have B2:=hB B1 q2;have R2:=hF R1 q2;clear q2 B1 R1;obtain ⟨Rc0,Rc1,Rc2,Rc3,Rf0,Rf1,Rf2,Rf3⟩:=R2.out.cf)
  exact ret4 4 rfl R2 B2 LR rfl rfl rfl
theorem num_two2 {w:World} (g:Nat) (a b d r:V) (bf:Nat) (hk:K3 w g a b d) (H:a.k=1→b.k=1→∀ w',Below w.heap.size w w'→Calls Tryz.prog 120 #[.agg #[.int .i64 a.c,.int .i64 a.s],.agg #[.int .i64 b.c,.int .i64 b.s],.pointer (some ⟨bf,0,none⟩)] w' (VP r w')) :
  Calls Tryz.prog 116 #[.slice (some ⟨g,0,none⟩) 2 3,.func (.func 120) #[] #[.pointer (some ⟨bf,0,none⟩)]] w (VP (if a.k ≠ 1 then wrongV a else if b.k ≠ 1 then wrongV b else r) w):=by
 by_cases g1:a.k=1
 ·rw [if_neg (by simpa using g1)]
  by_cases h1:b.k=1
  ·rw [if_neg (by simpa using h1)]
   replace H:=H g1 h1
   have g11:decide (a.k=1)=true:=decide_eq_true g1
   have g12:(a.k==1)=true:=by simpa using g1
   have g13:(a.k !=1)=false:=by simpa using g1
   have h11:decide (b.k=1)=true:=decide_eq_true h1
   have h12:(b.k==1)=true:=by simpa using h1
   have h13:(b.k !=1)=false:=by simpa using h1
   clear g1 h1
   try dsimp only [av,an,ao]
   go_enter Tryz.func116,Tryz.ntmps116
   go_upto_region 1 with fail
   obtain ⟨W0,iR,hW,hR,R0,B0,LR,LI,LS⟩:=mkZ w
   rw [hW.out];try rw [hR.out]
   clear hW hR
   have K0:=Lib.hid (hk.below B0.out)
   have HL:=Lib.hid hk.lt
   clear hk
   have kc0:=K0.out.c0;have kc1:=K0.out.c1;have kc2:=K0.out.c2;have kc3:=K0.out.c3
   go_wp2_with fail
   refine wp_loop_rounds 3 ?_
   rw [rounds_succ]
   go_upto_region 4 with fail
   obtain ⟨W1,iZ1,hW,hZ,Z1,BZ,LZ1,_,_⟩:=mk1 W0 (.cells #[.int .u8 a.k,.int .i64 a.c,.int .i64 a.s,.int .i64 a.e] 33)
   rw [hW.out]
   try rw [hZ.out]
   clear hW hZ
   replace Z1:Hid (Four W1 iZ1 a):=Z1
   have K1:=Lib.hid (K0.out.below BZ.out);have R1:=Lib.hid (R0.out.below BZ.out);have B1:=Lib.hid (bt B0.out BZ.out)
   clear kc0 kc1 kc2 kc3 BZ K0 R0 B0
   have Zc0:=Z1.out.c0;have Zc1:=Z1.out.c1;have Zc2:=Z1.out.c2;have Zc3:=Z1.out.c3
   clear Zc1 Zc2 Zc3
   go_wp2_with fail
   clear Zc0
   have kc0:=K1.out.c4;have kc1:=K1.out.c5;have kc2:=K1.out.c6;have kc3:=K1.out.c7
   rw [rounds_succ]
   go_upto_region 4 with fail
   obtain ⟨W2,iZ2,hW,hZ,Z2,BZ,LZ2,_,_⟩:=mk1 W1 (.cells #[.int .u8 b.k,.int .i64 b.c,.int .i64 b.s,.int .i64 b.e] 33)
   rw [hW.out]
   try rw [hZ.out]
   clear hW hZ
   replace Z2:Hid (Four W2 iZ2 b):=Z2
   have K2:=Lib.hid (K1.out.below BZ.out);have R2:=Lib.hid (R1.out.below BZ.out);have B2:=Lib.hid (bt B1.out BZ.out)
   clear kc0 kc1 kc2 kc3 BZ K1 R1 B1
   have Zc0:=Z2.out.c0;have Zc1:=Z2.out.c1;have Zc2:=Z2.out.c2;have Zc3:=Z2.out.c3
   clear Zc1 Zc2 Zc3
   go_wp2_with fail
   clear Zc0
   rw [rounds_succ]
   go_upto_region 7 with fail
   have HF:=H W2.drew (B2.out.drew)
   clear H
   have Kd:=Lib.hid (K2.out.below (drb W2))
   have HNE:Hid (¬g=iR):=Lib.hid (by have:=HL.out;have:=LR.out;omega)
   have HS0:(fun w':World=>w'.cell? ⟨g,1,none⟩=some (.int .i64 a.c)∧w'.cell? ⟨g,2,none⟩=some (.int .i64 a.s)∧w'.cell? ⟨g,5,none⟩=some (.int .i64 b.c)∧w'.cell? ⟨g,6,none⟩=some (.int .i64 b.s)) W2.drew:=⟨(Kd.out).c1,(Kd.out).c2,(Kd.out).c5,(Kd.out).c6⟩
   have kw0:IntKind.i64.wrap 0=0:=by decide
   have kw1:IntKind.i64.wrap 1=1:=by decide
   have kw2:IntKind.i64.wrap (2 - 1)=1:=by decide
   have kw3:IntKind.i64.wrap (((2:Nat):Int) - 1)=1:=by decide
   go_region_held3 (fun w'=>w'.cell? ⟨g,1,none⟩=some (.int .i64 a.c)∧w'.cell? ⟨g,2,none⟩=some (.int .i64 a.s)∧w'.cell? ⟨g,5,none⟩=some (.int .i64 b.c)∧w'.cell? ⟨g,6,none⟩=some (.int .i64 b.s))
    (first | with_reducible exact HS0 | with_reducible assumption | with_reducible exact HS8 _ _ _ _)
    (first | (go_at_call 120;(with_reducible refine HF.mono ?_);rintro e8 w8 ⟨rfl,q8⟩;have K8:=Lib.hid (Kd.out.below q8);have B8:=Lib.hid (bt (B2.out.drew) q8);have R8:=Lib.hid (R2.out.below (bt (drb W2) q8));have HS7:w8.cell? ⟨g,1,none⟩=some (.int .i64 a.c)∧w8.cell? ⟨g,2,none⟩=some (.int .i64 a.s)∧w8.cell? ⟨g,5,none⟩=some (.int .i64 b.c)∧w8.cell? ⟨g,6,none⟩=some (.int .i64 b.s):=⟨(K8.out).c1,(K8.out).c2,(K8.out).c5,(K8.out).c6⟩;have HS8:∀ x0 x1 x2 x3,(fun w':World=>w'.cell? ⟨g,1,none⟩=some (.int .i64 a.c)∧w'.cell? ⟨g,2,none⟩=some (.int .i64 a.s)∧w'.cell? ⟨g,5,none⟩=some (.int .i64 b.c)∧w'.cell? ⟨g,6,none⟩=some (.int .i64 b.s)) ((((w8.setCell ⟨iR,0,none⟩ x0).setCell ⟨iR,1,none⟩ x1).setCell ⟨iR,2,none⟩ x2).setCell ⟨iR,3,none⟩ x3):=fun x0 x1 x2 x3=>⟨(K8.out.other4 HNE.out x0 x1 x2 x3).c1,(K8.out.other4 HNE.out x0 x1 x2 x3).c2,(K8.out.other4 HNE.out x0 x1 x2 x3).c5,(K8.out.other4 HNE.out x0 x1 x2 x3).c6⟩;have Rc0:=R8.out.c0;have Rc1:=R8.out.c1;have Rc2:=R8.out.c2;have Rc3:=R8.out.c3;have Rf0:=R8.out.f 0;have Rf1:=R8.out.f 1;have Rf2:=R8.out.f 2;have Rf3:=R8.out.f 3;clear q8 HF K8))
   go_wp2_with fail
   exact ret4 4 rfl R8 B8 LR rfl rfl rfl
  ·rw [if_pos h1]
   clear H
   have g11:decide (a.k=1)=true:=decide_eq_true g1
   have g12:(a.k==1)=true:=by simpa using g1
   have g13:(a.k !=1)=false:=by simpa using g1
   have h11:decide (b.k=1)=false:=decide_eq_false h1
   have h12:(b.k==1)=false:=by simpa using h1
   have h13:(b.k !=1)=true:=by simpa using h1
   clear g1 h1
   try dsimp only [av,an,ao]
   go_enter Tryz.func116,Tryz.ntmps116
   go_upto_region 1 with fail
   obtain ⟨W0,iR,hW,hR,R0,B0,LR,LI,LS⟩:=mkZ w
   rw [hW.out];try rw [hR.out]
   clear hW hR
   have K0:=Lib.hid (hk.below B0.out)
   have HL:=Lib.hid hk.lt
   clear hk
   have kc0:=K0.out.c0;have kc1:=K0.out.c1;have kc2:=K0.out.c2;have kc3:=K0.out.c3
   go_wp2_with fail
   refine wp_loop_rounds 3 ?_
   rw [rounds_succ]
   go_upto_region 4 with fail
   obtain ⟨W1,iZ1,hW,hZ,Z1,BZ,LZ1,_,_⟩:=mk1 W0 (.cells #[.int .u8 a.k,.int .i64 a.c,.int .i64 a.s,.int .i64 a.e] 33)
   rw [hW.out]
   try rw [hZ.out]
   clear hW hZ
   replace Z1:Hid (Four W1 iZ1 a):=Z1
   have K1:=Lib.hid (K0.out.below BZ.out);have R1:=Lib.hid (R0.out.below BZ.out);have B1:=Lib.hid (bt B0.out BZ.out)
   clear kc0 kc1 kc2 kc3 BZ K0 R0 B0
   have Zc0:=Z1.out.c0;have Zc1:=Z1.out.c1;have Zc2:=Z1.out.c2;have Zc3:=Z1.out.c3
   clear Zc1 Zc2 Zc3
   go_wp2_with fail
   clear Zc0
   have kc0:=K1.out.c4;have kc1:=K1.out.c5;have kc2:=K1.out.c6;have kc3:=K1.out.c7
   rw [rounds_succ]
   go_upto_region 4 with fail
   obtain ⟨W2,iZ2,hW,hZ,Z2,BZ,LZ2,_,_⟩:=mk1 W1 (.cells #[.int .u8 b.k,.int .i64 b.c,.int .i64 b.s,.int .i64 b.e] 33)
   rw [hW.out]
   try rw [hZ.out]
   clear hW hZ
   replace Z2:Hid (Four W2 iZ2 b):=Z2
   have K2:=Lib.hid (K1.out.below BZ.out);have R2:=Lib.hid (R1.out.below BZ.out);have B2:=Lib.hid (bt B1.out BZ.out)
   clear kc0 kc1 kc2 kc3 BZ K1 R1 B1
   have Zc0:=Z2.out.c0;have Zc1:=Z2.out.c1;have Zc2:=Z2.out.c2;have Zc3:=Z2.out.c3
   go_wp2_with (go_at_call 113;(with_reducible refine (wrong_vp (w:=_) b).mono ?_);rintro e3 w3 ⟨rfl,q3⟩;have B3:=hB B2 q3;have R3:=hF R2 q3;clear q3 B2 R2;obtain ⟨Rc0,Rc1,Rc2,Rc3,Rf0,Rf1,Rf2,Rf3⟩:=R3.out.cf)
   exact ret4 4 rfl R3 B3 LR rfl rfl rfl
 ·rw [if_pos g1]
  clear H
  have g11:decide (a.k=1)=false:=decide_eq_false g1
  have g12:(a.k==1)=false:=by simpa using g1
  have g13:(a.k !=1)=true:=by simpa using g1
  clear g1
  try dsimp only [av,an,ao]
  go_enter Tryz.func116,Tryz.ntmps116
  go_upto_region 1 with fail
  obtain ⟨W0,iR,hW,hR,R0,B0,LR,LI,LS⟩:=mkZ w
  rw [hW.out];try rw [hR.out]
  clear hW hR
  have K0:=Lib.hid (hk.below B0.out)
  have HL:=Lib.hid hk.lt
  clear hk
  have kc0:=K0.out.c0;have kc1:=K0.out.c1;have kc2:=K0.out.c2;have kc3:=K0.out.c3
  go_wp2_with fail
  refine wp_loop_rounds 3 ?_
  rw [rounds_succ]
  go_upto_region 4 with fail
  obtain ⟨W1,iZ1,hW,hZ,Z1,BZ,LZ1,_,_⟩:=mk1 W0 (.cells #[.int .u8 a.k,.int .i64 a.c,.int .i64 a.s,.int .i64 a.e] 33)
  rw [hW.out]
  try rw [hZ.out]
  clear hW hZ
  replace Z1:Hid (Four W1 iZ1 a):=Z1
  have K1:=Lib.hid (K0.out.below BZ.out);have R1:=Lib.hid (R0.out.below BZ.out);have B1:=Lib.hid (bt B0.out BZ.out)
  clear kc0 kc1 kc2 kc3 BZ K0 R0 B0
  have Zc0:=Z1.out.c0;have Zc1:=Z1.out.c1;have Zc2:=Z1.out.c2;have Zc3:=Z1.out.c3
  go_wp2_with (go_at_call 113;(with_reducible refine (wrong_vp (w:=_) a).mono ?_);rintro e2 w2 ⟨rfl,q2⟩;have B2:=hB B1 q2;have R2:=hF R1 q2;clear q2 B1 R1;obtain ⟨Rc0,Rc1,Rc2,Rc3,Rf0,Rf1,Rf2,Rf3⟩:=R2.out.cf)
  exact ret4 4 rfl R2 B2 LR rfl rfl rfl
end Go.Proofs.YteagpbkbdlmdiaaGreat.Ev
namespace Go.Proofs.YteagpbkbdlmdiaaGreat.Ev
set_option maxRecDepth 100000
set_option maxHeartbeats 2000000
open Go Go.RowKit Dt Tx Va
attribute [local go_sem ↓] Go.wp_at_zero Go.wp_at_succ
theorem un_inj {c c':Int} {n n':Nat} (hn:n≤9) (hn':n'≤9) (h:n=0∨c % 10 ≠ 0) (h':n'=0∨c' % 10 ≠ 0) (e:un c n=un c' n'):c=c'∧n=n':=by
 have t:=trim_up c n (9 - n)
 have t':=trim_up c' n' (9 - n')
 rw [show n+(9 - n)=9 by omega,trim_self c n h] at t
 rw [show n'+(9 - n')=9 by omega,trim_self c' n' h'] at t'
 unfold un at e
 rw [e,t'] at t
 cases t
 exact ⟨rfl,rfl⟩
theorem cmpZ_eq (x y:Int):cmpZ x y=0↔x=y:=by
 unfold cmpZ
 split
 ·constructor<;>intro h<;>omega
 ·split
  ·constructor<;>intro h<;>omega
  ·constructor<;>intro h<;>omega
theorem same4 (a b:V):∃ e:Bool,Hid (e=decide (a=b))∧
  (((a.k==b.k)=false∧e=false)∨((a.k==b.k)=true∧(((a.c==b.c)=false∧e=false)∨((a.c==b.c)=true∧(((a.s==b.s)=false∧e=false)∨((a.s==b.s)=true∧(((a.e==b.e)=false∧e=false)∨((a.e==b.e)=true∧e=true)))))))):=by
 obtain ⟨k,c,s,e⟩:=a
 obtain ⟨k',c',s',e'⟩:=b
 refine ⟨_,Lib.hid rfl,?_⟩
 by_cases h1:k=k'<;>by_cases h2:c=c'<;>by_cases h3:s=s'<;>by_cases h4:e=e'<;>simp [h1,h2,h3,h4]
theorem alike_a {w:World} (a b:V) (o:Bool) (h:a.k=0∨a.k=4):Calls Tryz.prog 63 #[av a,av b,.bool o] w (VP (wrongV a) w):=by
 have j0:∀ w,(Instr.index 136 (.agg #[.int .u8 a.k,.int .i64 a.c,.int .i64 a.s,.int .i64 a.e,.int .u8 b.k,.int .i64 b.c,.int .i64 b.s,.int .i64 b.e]) (.int .i64 0)).run Tryz.prog w=.ok (.agg #[.int .u8 a.k,.int .i64 a.c,.int .i64 a.s,.int .i64 a.e]) w:=fun w=>by kernel_rfl
 have j1:∀ w,(Instr.index 136 (.agg #[.int .u8 a.k,.int .i64 a.c,.int .i64 a.s,.int .i64 a.e,.int .u8 b.k,.int .i64 b.c,.int .i64 b.s,.int .i64 b.e]) (.int .i64 1)).run Tryz.prog w=.ok (.agg #[.int .u8 b.k,.int .i64 b.c,.int .i64 b.s,.int .i64 b.e]) w:=fun w=>by kernel_rfl
 try dsimp only [av,an,ao]
 go_enter Tryz.func63,Tryz.ntmps63
 go_upto_region 1 with fail
 obtain ⟨W0,iX,iY,iR,hW,hX,hY,hR,X0,Y0,R0,B0,LX,LY,LR,LI,LS⟩:=mkVVZ w a b
 rw [hW.out];try rw [hR.out];try rw [hY.out];try rw [hX.out]
 clear hW hX hY hR
 obtain ⟨Xc0,Xc1,Xc2,Xc3⟩:=X0.out.cs
 obtain ⟨Yc0,Yc1,Yc2,Yc3⟩:=Y0.out.cs
 go_wp2_with fail
 refine wp_loop_rounds 3 ?_
 clear Xc0 Xc1 Xc2 Xc3 Yc0 Yc1 Yc2 Yc3
 rw [rounds_succ]
 go_upto_region 4 with fail
 obtain ⟨W1,iZ1,hW,hZ,Z1,BZ,LZ1,_,_⟩:=mk1 W0 (.cells #[.int .u8 a.k,.int .i64 a.c,.int .i64 a.s,.int .i64 a.e] 33)
 rw [hW.out]
 try rw [hZ.out]
 clear hW hZ
 replace Z1:Hid (Four W1 iZ1 a):=Z1
 have X1:=Lib.hid (X0.out.below BZ.out);have Y1:=Lib.hid (Y0.out.below BZ.out);have R1:=Lib.hid (R0.out.below BZ.out);have B1:=Lib.hid (bt B0.out BZ.out)
 clear BZ X0 Y0 R0 B0
 have Zc0:=Z1.out.c0;have Zc1:=Z1.out.c1;have Zc2:=Z1.out.c2;have Zc3:=Z1.out.c3
 rcases k04 h with ⟨h0,h1,h2,h3,h4,h5⟩ | ⟨h0,h1,h2,h3,h4,h5⟩<;>clear h
 all_goals
  go_wp2_with (go_at_call 113;(with_reducible refine (wrong_vp (w:=_) a).mono ?_);rintro e2 w2 ⟨rfl,q2⟩;have B2:=hB B1 q2;have R2:=hF R1 q2;clear q2 B1 R1;obtain ⟨Rc0,Rc1,Rc2,Rc3,Rf0,Rf1,Rf2,Rf3⟩:=R2.out.cf)
  exact ret4 6 rfl R2 B2 LR rfl rfl rfl
theorem alike_b {w:World} (a b:V) (o:Bool) (g:¬(a.k=0∨a.k=4)) (h:b.k=0∨b.k=4):Calls Tryz.prog 63 #[av a,av b,.bool o] w (VP (wrongV b) w):=by
 obtain ⟨⟨g0,g1,g2⟩,⟨g3,g4,g5⟩⟩:=kno g
 clear g
 have j0:∀ w,(Instr.index 136 (.agg #[.int .u8 a.k,.int .i64 a.c,.int .i64 a.s,.int .i64 a.e,.int .u8 b.k,.int .i64 b.c,.int .i64 b.s,.int .i64 b.e]) (.int .i64 0)).run Tryz.prog w=.ok (.agg #[.int .u8 a.k,.int .i64 a.c,.int .i64 a.s,.int .i64 a.e]) w:=fun w=>by kernel_rfl
 have j1:∀ w,(Instr.index 136 (.agg #[.int .u8 a.k,.int .i64 a.c,.int .i64 a.s,.int .i64 a.e,.int .u8 b.k,.int .i64 b.c,.int .i64 b.s,.int .i64 b.e]) (.int .i64 1)).run Tryz.prog w=.ok (.agg #[.int .u8 b.k,.int .i64 b.c,.int .i64 b.s,.int .i64 b.e]) w:=fun w=>by kernel_rfl
 try dsimp only [av,an,ao]
 go_enter Tryz.func63,Tryz.ntmps63
 go_upto_region 1 with fail
 obtain ⟨W0,iX,iY,iR,hW,hX,hY,hR,X0,Y0,R0,B0,LX,LY,LR,LI,LS⟩:=mkVVZ w a b
 rw [hW.out];try rw [hR.out];try rw [hY.out];try rw [hX.out]
 clear hW hX hY hR
 obtain ⟨Xc0,Xc1,Xc2,Xc3⟩:=X0.out.cs
 obtain ⟨Yc0,Yc1,Yc2,Yc3⟩:=Y0.out.cs
 go_wp2_with fail
 refine wp_loop_rounds 3 ?_
 clear Xc0 Xc1 Xc2 Xc3 Yc0 Yc1 Yc2 Yc3
 rw [rounds_succ]
 go_upto_region 4 with fail
 obtain ⟨W1,iZ1,hW,hZ,Z1,BZ,LZ1,_,_⟩:=mk1 W0 (.cells #[.int .u8 a.k,.int .i64 a.c,.int .i64 a.s,.int .i64 a.e] 33)
 rw [hW.out]
 try rw [hZ.out]
 clear hW hZ
 replace Z1:Hid (Four W1 iZ1 a):=Z1
 have X1:=Lib.hid (X0.out.below BZ.out);have Y1:=Lib.hid (Y0.out.below BZ.out);have R1:=Lib.hid (R0.out.below BZ.out);have B1:=Lib.hid (bt B0.out BZ.out)
 clear BZ X0 Y0 R0 B0
 have Zc0:=Z1.out.c0;have Zc1:=Z1.out.c1;have Zc2:=Z1.out.c2;have Zc3:=Z1.out.c3
 go_wp2_with fail
 clear Zc0 Zc1 Zc2 Zc3
 rw [rounds_succ]
 go_upto_region 4 with fail
 obtain ⟨W2,iZ2,hW,hZ,Z2,BZ,LZ2,_,_⟩:=mk1 W1 (.cells #[.int .u8 b.k,.int .i64 b.c,.int .i64 b.s,.int .i64 b.e] 33)
 rw [hW.out]
 try rw [hZ.out]
 clear hW hZ
 replace Z2:Hid (Four W2 iZ2 b):=Z2
 have X2:=Lib.hid (X1.out.below BZ.out);have Y2:=Lib.hid (Y1.out.below BZ.out);have R2:=Lib.hid (R1.out.below BZ.out);have B2:=Lib.hid (bt B1.out BZ.out)
 clear BZ X1 Y1 R1 B1
 have Zc0:=Z2.out.c0;have Zc1:=Z2.out.c1;have Zc2:=Z2.out.c2;have Zc3:=Z2.out.c3
 rcases k04 h with ⟨h0,h1,h2,h3,h4,h5⟩ | ⟨h0,h1,h2,h3,h4,h5⟩<;>clear h
 all_goals
  go_wp2_with (go_at_call 113;(with_reducible refine (wrong_vp (w:=_) b).mono ?_);rintro e3 w3 ⟨rfl,q3⟩;have B3:=hB B2 q3;have R3:=hF R2 q3;clear q3 B2 R2;obtain ⟨Rc0,Rc1,Rc2,Rc3,Rf0,Rf1,Rf2,Rf3⟩:=R3.out.cf)
  exact ret4 6 rfl R3 B3 LR rfl rfl rfl
theorem alike_g {w:World} (a b:V) (o:Bool) (g:¬(a.k=0∨a.k=4)) (h:¬(b.k=0∨b.k=4)):Calls Tryz.prog 63 #[av a,av b,.bool o] w (VP (if isT a=isT b then truthV (decide (a=b)==o) else badE 13) w):=by
 obtain ⟨⟨g0,g1,g2⟩,⟨g3,g4,g5⟩⟩:=kno g
 obtain ⟨⟨h0,h1,h2⟩,⟨h3,h4,h5⟩⟩:=kno h
 clear g h
 have IA:=fun w=>ist_is (w:=w) a
 have IB:=fun w=>ist_is (w:=w) b
 obtain ⟨res,E⟩:∃ r,(if isT a=isT b then truthV (decide (a=b)==o) else badE 13)=r:=⟨_,rfl⟩
 rw [E]
 generalize isT a=ta at IA E
 generalize isT b=tb at IB E
 replace E:=Lib.hid E
 have j0:∀ w,(Instr.index 136 (.agg #[.int .u8 a.k,.int .i64 a.c,.int .i64 a.s,.int .i64 a.e,.int .u8 b.k,.int .i64 b.c,.int .i64 b.s,.int .i64 b.e]) (.int .i64 0)).run Tryz.prog w=.ok (.agg #[.int .u8 a.k,.int .i64 a.c,.int .i64 a.s,.int .i64 a.e]) w:=fun w=>by kernel_rfl
 have j1:∀ w,(Instr.index 136 (.agg #[.int .u8 a.k,.int .i64 a.c,.int .i64 a.s,.int .i64 a.e,.int .u8 b.k,.int .i64 b.c,.int .i64 b.s,.int .i64 b.e]) (.int .i64 1)).run Tryz.prog w=.ok (.agg #[.int .u8 b.k,.int .i64 b.c,.int .i64 b.s,.int .i64 b.e]) w:=fun w=>by kernel_rfl
 try dsimp only [av,an,ao]
 go_enter Tryz.func63,Tryz.ntmps63
 go_upto_region 1 with fail
 obtain ⟨W0,iX,iY,iR,hW,hX,hY,hR,X0,Y0,R0,B0,LX,LY,LR,LI,LS⟩:=mkVVZ w a b
 rw [hW.out];try rw [hR.out];try rw [hY.out];try rw [hX.out]
 clear hW hX hY hR
 obtain ⟨Xc0,Xc1,Xc2,Xc3⟩:=X0.out.cs
 obtain ⟨Yc0,Yc1,Yc2,Yc3⟩:=Y0.out.cs
 go_wp2_with fail
 refine wp_loop_rounds 3 ?_
 clear Xc0 Xc1 Xc2 Xc3 Yc0 Yc1 Yc2 Yc3
 rw [rounds_succ]
 go_upto_region 4 with fail
 obtain ⟨W1,iZ1,hW,hZ,Z1,BZ,LZ1,_,_⟩:=mk1 W0 (.cells #[.int .u8 a.k,.int .i64 a.c,.int .i64 a.s,.int .i64 a.e] 33)
 rw [hW.out]
 try rw [hZ.out]
 clear hW hZ
 replace Z1:Hid (Four W1 iZ1 a):=Z1
 have X1:=Lib.hid (X0.out.below BZ.out);have Y1:=Lib.hid (Y0.out.below BZ.out);have R1:=Lib.hid (R0.out.below BZ.out);have B1:=Lib.hid (bt B0.out BZ.out)
 clear BZ X0 Y0 R0 B0
 have Zc0:=Z1.out.c0;have Zc1:=Z1.out.c1;have Zc2:=Z1.out.c2;have Zc3:=Z1.out.c3
 go_wp2_with fail
 clear Zc0 Zc1 Zc2 Zc3
 rw [rounds_succ]
 go_upto_region 4 with fail
 obtain ⟨W2,iZ2,hW,hZ,Z2,BZ,LZ2,_,_⟩:=mk1 W1 (.cells #[.int .u8 b.k,.int .i64 b.c,.int .i64 b.s,.int .i64 b.e] 33)
 rw [hW.out]
 try rw [hZ.out]
 clear hW hZ
 replace Z2:Hid (Four W2 iZ2 b):=Z2
 have X2:=Lib.hid (X1.out.below BZ.out);have Y2:=Lib.hid (Y1.out.below BZ.out);have R2:=Lib.hid (R1.out.below BZ.out);have B2:=Lib.hid (bt B1.out BZ.out)
 clear BZ X1 Y1 R1 B1
 have Zc0:=Z2.out.c0;have Zc1:=Z2.out.c1;have Zc2:=Z2.out.c2;have Zc3:=Z2.out.c3
 go_wp2_with fail
 clear Zc0 Zc1 Zc2 Zc3
 rw [rounds_succ]
 go_upto_region 7 with fail
 have Db:Hid (Below W2.heap.size W2 W2.drew):=Lib.hid ⟨rfl,rfl,rfl,Nat.le_refl _,fun _ _=>rfl⟩
 have Xd:=Lib.hid (X2.out.below Db.out);have Yd:=Lib.hid (Y2.out.below Db.out)
 have mkS:∀ {w'},Four w' iX a→Four w' iY b→w'.cell? ⟨iX,0,none⟩=some (.int .u8 a.k)∧w'.cell? ⟨iX,1,none⟩=some (.int .i64 a.c)∧w'.cell? ⟨iX,2,none⟩=some (.int .i64 a.s)∧w'.cell? ⟨iX,3,none⟩=some (.int .i64 a.e)∧w'.cell? ⟨iY,0,none⟩=some (.int .u8 b.k)∧w'.cell? ⟨iY,1,none⟩=some (.int .i64 b.c)∧w'.cell? ⟨iY,2,none⟩=some (.int .i64 b.s)∧w'.cell? ⟨iY,3,none⟩=some (.int .i64 b.e):=fun x y=>⟨x.c0,x.c1,x.c2,x.c3,y.c0,y.c1,y.c2,y.c3⟩
 have HS0:=mkS Xd.out Yd.out
 go_region_held3 (fun w'=>w'.cell? ⟨iX,0,none⟩=some (.int .u8 a.k)∧w'.cell? ⟨iX,1,none⟩=some (.int .i64 a.c)∧w'.cell? ⟨iX,2,none⟩=some (.int .i64 a.s)∧w'.cell? ⟨iX,3,none⟩=some (.int .i64 a.e)∧w'.cell? ⟨iY,0,none⟩=some (.int .u8 b.k)∧w'.cell? ⟨iY,1,none⟩=some (.int .i64 b.c)∧w'.cell? ⟨iY,2,none⟩=some (.int .i64 b.s)∧w'.cell? ⟨iY,3,none⟩=some (.int .i64 b.e))
  (first | with_reducible exact HS0 | with_reducible assumption)
  (first | (have _t:=IA;clear _t;(go_at_call 112;(with_reducible refine (IA _).mono ?_);rintro e8 w8 ⟨rfl,q8⟩;have X8:=Lib.hid (Xd.out.below q8);have Y8:=Lib.hid (Yd.out.below q8);have B8:=Lib.hid (bt B2.out.drew q8);have R8:=Lib.hid (R2.out.below (bt Db.out q8));have HS8:=mkS X8.out Y8.out;clear q8 IA Xd Yd)) | (go_at_call 112;(with_reducible refine (IB _).mono ?_);rintro e9 w9 ⟨rfl,q9⟩;have X9:=Lib.hid (X8.out.below q9);have Y9:=Lib.hid (Y8.out.below q9);have B9:=Lib.hid (bt B8.out q9);have R9:=Lib.hid (R8.out.below q9);have HS9:=mkS X9.out Y9.out;clear q9 IB X8 Y8 B8 R8))
 clear mkS
 replace E:=E.out
 by_cases ht:ta=tb
 ·subst ht
  rw [if_pos rfl] at E
  obtain ⟨e,he,hd⟩:=same4 a b
  rw [←he.out] at E
  clear HS0 HS8 Db
  obtain ⟨a0,a1,a2,a3,b0,b1,b2,b3⟩:=HS9
  rcases hd with ⟨k1,rfl⟩ | ⟨k1,⟨k2,rfl⟩ | ⟨k2,⟨k3,rfl⟩ | ⟨k3,⟨k4,rfl⟩ | ⟨k4,rfl⟩⟩⟩⟩<;>clear he<;>cases o<;>cases ta
  all_goals
   subst E
   go_wp2_with (go_at_call 34;(with_reducible refine (truth_vp (w:=_) _).mono ?_);rintro e10 w10 ⟨rfl,q10⟩;have B10:=hB B9 q10;have R10:=hF R9 q10;clear q10 B9 R9;obtain ⟨Rc0,Rc1,Rc2,Rc3,Rf0,Rf1,Rf2,Rf3⟩:=R10.out.cf)
   exact ret4 6 rfl R10 B10 LR rfl rfl rfl
 ·rw [if_neg ht] at E
  subst E
  clear HS0 HS8 HS9 Db
  cases ta<;>cases tb<;>first | exact absurd rfl ht | clear ht
  all_goals
   go_wp2_with (go_at_call 23;(with_reducible refine (bad_vp (w:=_) 13).mono ?_);rintro e10 w10 ⟨rfl,q10⟩;have B10:=hB B9 q10;have R10:=hF R9 q10;clear q10 B9 R9;obtain ⟨Rc0,Rc1,Rc2,Rc3,Rf0,Rf1,Rf2,Rf3⟩:=R10.out.cf)
   exact ret4 6 rfl R10 B10 LR rfl rfl rfl
theorem alike_o {w:World} {a b:V} (op:Int) (ha:V.fine a) (hb:V.fine b):Calls Tryz.prog 63 #[av a,av b,.bool (decide (op=8))] w (VP (sameV op a b) w):=by
 unfold sameV
 by_cases p:a.k=0∨a.k=4
 ·rw [if_pos p];exact alike_a a b _ p
 rw [if_neg p]
 by_cases q:b.k=0∨b.k=4
 ·rw [if_pos q];exact alike_b a b _ p q
 rw [if_neg q]
 have key:∀ {v:V},V.fine v→¬(v.k=0∨v.k=4)→v=⟨2,0,0,0⟩∨v=⟨3,0,0,0⟩∨v.k=1:=fun {v} hv hp=>by
  rcases may_kinds hv.may with rfl | rfl | rfl | rfl | rfl | rfl | ⟨e,_⟩
  ·exact absurd (.inl rfl) hp
  ·exact .inl rfl
  ·exact .inr (.inl rfl)
  ·exact absurd (.inr rfl) hp
  ·exact absurd (.inr rfl) hp
  ·exact absurd (.inr rfl) hp
  ·exact .inr (.inr (congrArg V.k e))
 have G:=alike_g (w:=w) a b (decide (op=8)) p q
 rcases key ha p with rfl | rfl | ka
 ·rcases key hb q with rfl | rfl | kb
  ·exact G
  ·exact G
  ·have:isT b=false:=by unfold isT;exact decide_eq_false (by omega)
   rw [this] at G
   rw [kb]
   exact G
 ·rcases key hb q with rfl | rfl | kb
  ·exact G
  ·exact G
  ·have:isT b=false:=by unfold isT;exact decide_eq_false (by omega)
   rw [this] at G
   rw [kb]
   exact G
 ·have ta:isT a=false:=by unfold isT;exact decide_eq_false (by omega)
  rw [ta] at G
  rcases key hb q with rfl | rfl | kb
  ·rw [ka];exact G
  ·rw [ka];exact G
  ·have tb:isT b=false:=by unfold isT;exact decide_eq_false (by omega)
   rw [tb,if_pos rfl] at G
   rw [ka,kb,if_neg (by simp),if_pos rfl]
   have E:decide (cmpZ (unV a) (unV b)=0)=decide (a=b):=by
    obtain ⟨na,ea,la,_,ka'⟩:=num_parts ha ka
    obtain ⟨nb,eb,lb,_,kb'⟩:=num_parts hb kb
    generalize a.c=ca at ea ka'
    generalize b.c=cb at eb kb'
    subst ea eb
    refine decide_eq_decide.2 ((cmpZ_eq _ _).trans ⟨fun e=>?_,fun e=>by rw [e]⟩)
    obtain ⟨rfl,rfl⟩:=un_inj la lb ka' kb' e
    rfl
   rw [E];exact G
theorem alike_8 {w:World} {a b:V} (ha:V.fine a) (hb:V.fine b):Calls Tryz.prog 63 #[av a,av b,.bool true] w (VP (sameV 8 a b) w):=alike_o 8 ha hb
theorem alike_9 {w:World} {a b:V} (ha:V.fine a) (hb:V.fine b):Calls Tryz.prog 63 #[av a,av b,.bool false] w (VP (sameV 9 a b) w):=alike_o 9 ha hb
end Go.Proofs.YteagpbkbdlmdiaaGreat.Ev
