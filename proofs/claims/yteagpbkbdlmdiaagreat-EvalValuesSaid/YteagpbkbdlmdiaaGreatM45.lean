/-
  EvRef3: what its functions answer; eval.node, walked.
-/
import Derived.Test.YteagpbkbdlmdiaaGreatM44
import Derived.Test.YteagpbkbdlmdiaaGreatM43
/- EvRef3: what its functions answer. -/
namespace Go.Proofs.YteagpbkbdlmdiaaGreat.Ev
open Go Go.RowKit Dt Tx Va
set_option linter.unusedSimpArgs false
set_option linter.unusedVariables false
attribute [local go_sem ↓] Go.wp_at_zero Go.wp_at_succ
theorem nodeV_other (n:Nd) (v a b d:V) (h:n.op<1∨30<n.op):nodeV n v a b d=badE 13:=by
 unfold nodeV winF
 have:∀ i:Int,1≤i→i≤30→¬n.op=i:=fun i _ _=>by omega
 have w:(decide (n.op=26∨n.op=27∨n.op=28∨n.op=29∨n.op=30))=false:=decide_eq_false (by omega)
 rw [w]
 rw [if_neg (by omega),if_neg (by omega),if_neg (by omega),if_neg (by simp;omega),if_neg (by omega),if_neg (by omega),if_neg (by omega),if_neg (by omega),if_neg (by omega),if_neg (by omega)]
set_option maxRecDepth 100000 in
set_option maxHeartbeats 4000000 in
theorem rnode_vp {w:World} (n:Nd) {v a b d:V} (hc:fits n.c) (ha:V.fine a) (hb:V.fine b):Calls Tryz.prog 25 #[an n,av v,av a,av b,av d] w (VP (nodeV n v a b d) w):=by
 obtain ⟨op,c,s,nm,k,x,y,z,p⟩:=n
 replace hc:Hid (fits c):=Lib.hid hc
 replace ha:=Lib.hid ha
 replace hb:=Lib.hid hb
 obtain ⟨res,hres⟩:∃ r,Hid (nodeV ⟨op,c,s,nm,k,x,y,z,p⟩ v a b d=r):=⟨_,Lib.hid rfl⟩
 rw [hres.out]
 try dsimp only [av,an,ao]
 go_enter Tryz.func25,Tryz.ntmps25
 go_upto_region 1 with fail
 obtain ⟨W0,iN,iU,iX,iY,iZ,iR,hW,hN,hU,hX,hY,hZ,hR,N0,U0,X0,Y0,Z0,R0,B0,LN,LU,LX,LY,LZ,LR,LI,LS⟩:=mkNVVVVZ w ⟨op,c,s,nm,k,x,y,z,p⟩ v a b d
 rw [hW.out];try rw [hR.out];try rw [hZ.out];try rw [hY.out];try rw [hX.out];try rw [hU.out];try rw [hN.out]
 clear hW hN hU hX hY hZ hR
 by_cases hop:op<1∨30<op
 ·obtain rfl:=hres.out.symm.trans (nodeV_other ⟨op,c,s,nm,k,x,y,z,p⟩ v a b d hop)
  clear hres
  have o1:decide (op=1)=false:=decide_eq_false (by omega)
  have u1:(op==1)=false:=by simp;omega
  have o2:decide (op=2)=false:=decide_eq_false (by omega)
  have u2:(op==2)=false:=by simp;omega
  have o3:decide (op=3)=false:=decide_eq_false (by omega)
  have u3:(op==3)=false:=by simp;omega
  have o4:decide (op=4)=false:=decide_eq_false (by omega)
  have u4:(op==4)=false:=by simp;omega
  have o5:decide (op=5)=false:=decide_eq_false (by omega)
  have u5:(op==5)=false:=by simp;omega
  have o6:decide (op=6)=false:=decide_eq_false (by omega)
  have u6:(op==6)=false:=by simp;omega
  have o7:decide (op=7)=false:=decide_eq_false (by omega)
  have u7:(op==7)=false:=by simp;omega
  have o8:decide (op=8)=false:=decide_eq_false (by omega)
  have u8:(op==8)=false:=by simp;omega
  have o9:decide (op=9)=false:=decide_eq_false (by omega)
  have u9:(op==9)=false:=by simp;omega
  have o10:decide (op=10)=false:=decide_eq_false (by omega)
  have u10:(op==10)=false:=by simp;omega
  have o11:decide (op=11)=false:=decide_eq_false (by omega)
  have u11:(op==11)=false:=by simp;omega
  have o12:decide (op=12)=false:=decide_eq_false (by omega)
  have u12:(op==12)=false:=by simp;omega
  have o13:decide (op=13)=false:=decide_eq_false (by omega)
  have u13:(op==13)=false:=by simp;omega
  have o14:decide (op=14)=false:=decide_eq_false (by omega)
  have u14:(op==14)=false:=by simp;omega
  have o15:decide (op=15)=false:=decide_eq_false (by omega)
  have u15:(op==15)=false:=by simp;omega
  have o16:decide (op=16)=false:=decide_eq_false (by omega)
  have u16:(op==16)=false:=by simp;omega
  have o17:decide (op=17)=false:=decide_eq_false (by omega)
  have u17:(op==17)=false:=by simp;omega
  have o18:decide (op=18)=false:=decide_eq_false (by omega)
  have u18:(op==18)=false:=by simp;omega
  have o19:decide (op=19)=false:=decide_eq_false (by omega)
  have u19:(op==19)=false:=by simp;omega
  have o20:decide (op=20)=false:=decide_eq_false (by omega)
  have u20:(op==20)=false:=by simp;omega
  have o21:decide (op=21)=false:=decide_eq_false (by omega)
  have u21:(op==21)=false:=by simp;omega
  have o22:decide (op=22)=false:=decide_eq_false (by omega)
  have u22:(op==22)=false:=by simp;omega
  have o23:decide (op=23)=false:=decide_eq_false (by omega)
  have u23:(op==23)=false:=by simp;omega
  have o24:decide (op=24)=false:=decide_eq_false (by omega)
  have u24:(op==24)=false:=by simp;omega
  have o25:decide (op=25)=false:=decide_eq_false (by omega)
  have u25:(op==25)=false:=by simp;omega
  have o26:decide (op=26)=false:=decide_eq_false (by omega)
  have u26:(op==26)=false:=by simp;omega
  have o27:decide (op=27)=false:=decide_eq_false (by omega)
  have u27:(op==27)=false:=by simp;omega
  have o28:decide (op=28)=false:=decide_eq_false (by omega)
  have u28:(op==28)=false:=by simp;omega
  have o29:decide (op=29)=false:=decide_eq_false (by omega)
  have u29:(op==29)=false:=by simp;omega
  have o30:decide (op=30)=false:=decide_eq_false (by omega)
  have u30:(op==30)=false:=by simp;omega
  clear hop
  have Nc0:=N0.out.c0
  go_wp2_with (go_at_call 15;(with_reducible refine (rbad_vp (w:=_) 13).mono ?_);rintro e1 w1 ⟨rfl,q1⟩;have B1:=hB B0 q1;have R1:=hF R0 q1;clear q1 B0 R0;obtain ⟨Rc0,Rc1,Rc2,Rc3,Rf0,Rf1,Rf2,Rf3⟩:=R1.out.cf)
  exact ret4 10 rfl R1 B1 LR rfl rfl rfl
 have hG:(op=4∨op=26∨op=27∨op=28∨op=29∨op=30)∨(op=10∨op=11∨op=12∨op=13∨op=14∨op=15∨op=16∨op=17∨op=20∨op=21)∨(op=18∨op=22∨op=23)∨(op=8∨op=9)∨(op=2∨op=3)∨op=1∨op=24∨op=25∨op=5∨op=6∨op=7∨op=19:=by omega
 clear hop
 rcases hG with hop | hop | hop | hop | hop | rfl | rfl | rfl | rfl | rfl | rfl | rfl
 ·rcases hop with rfl | rfl | rfl | rfl | rfl | rfl
  all_goals
   obtain rfl:=hres.out;clear hres
   have Nc0:=N0.out.c0
   obtain ⟨Uc0,Uc1,Uc2,Uc3⟩:=U0.out.cs
   obtain ⟨Rc0,Rc1,Rc2,Rc3,Rf0,Rf1,Rf2,Rf3⟩:=R0.out.cf
   go_wp2_with fail
   exact ret4 10 rfl R0 B0 LR rfl rfl rfl
 ·have OPC:=fun w=>rpair_vp (w:=w) op hop ha.out hb.out
  rcases hop with rfl | rfl | rfl | rfl | rfl | rfl | rfl | rfl | rfl | rfl
  all_goals
   obtain rfl:=hres.out;clear hres
   dsimp only [av] at OPC
   have Nc0:=N0.out.c0
   obtain ⟨Xc0,Xc1,Xc2,Xc3⟩:=X0.out.cs
   obtain ⟨Yc0,Yc1,Yc2,Yc3⟩:=Y0.out.cs
   go_wp2_with (go_at_call 43;(with_reducible refine (OPC _).mono ?_);rintro e1 w1 ⟨rfl,q1⟩;have B1:=hB B0 q1;have R1:=hF R0 q1;clear OPC;clear q1 B0 R0;obtain ⟨Rc0,Rc1,Rc2,Rc3,Rf0,Rf1,Rf2,Rf3⟩:=R1.out.cf)
   exact ret4 10 rfl R1 B1 LR rfl rfl rfl
 ·have OPC:=fun w=>rsingle_vp (w:=w) op c s k x y z p nm hop ha.out
  rcases hop with rfl | rfl | rfl
  all_goals
   obtain rfl:=hres.out;clear hres
   dsimp only [av,an] at OPC
   obtain ⟨Nc0,Nc1,Nc2,Nc3,Nc4,Nc5,Nc6,Nc7,Nc8⟩:=N0.out.cs
   obtain ⟨Xc0,Xc1,Xc2,Xc3⟩:=X0.out.cs
   go_wp2_with (go_at_call 42;(with_reducible refine (OPC _).mono ?_);rintro e1 w1 ⟨rfl,q1⟩;have B1:=hB B0 q1;have R1:=hF R0 q1;clear OPC;clear q1 B0 R0;obtain ⟨Rc0,Rc1,Rc2,Rc3,Rf0,Rf1,Rf2,Rf3⟩:=R1.out.cf)
   exact ret4 10 rfl R1 B1 LR rfl rfl rfl
 ·have OPC:=fun w=>rsame_vp (w:=w) op hop ha.out hb.out
  rcases hop with rfl | rfl
  all_goals
   obtain rfl:=hres.out;clear hres
   dsimp only [av] at OPC
   have Nc0:=N0.out.c0
   obtain ⟨Xc0,Xc1,Xc2,Xc3⟩:=X0.out.cs
   obtain ⟨Yc0,Yc1,Yc2,Yc3⟩:=Y0.out.cs
   go_wp2_with (go_at_call 41;(with_reducible refine (OPC _).mono ?_);rintro e1 w1 ⟨rfl,q1⟩;have B1:=hB B0 q1;have R1:=hF R0 q1;clear OPC;clear q1 B0 R0;obtain ⟨Rc0,Rc1,Rc2,Rc3,Rf0,Rf1,Rf2,Rf3⟩:=R1.out.cf)
   exact ret4 10 rfl R1 B1 LR rfl rfl rfl
 ·rcases hop with rfl | rfl
  all_goals
   obtain rfl:=hres.out;clear hres
   have Nc0:=N0.out.c0
   go_wp2_with (go_at_call 16;(with_reducible refine (rtruth_vp (w:=_) _).mono ?_);rintro e1 w1 ⟨rfl,q1⟩;have B1:=hB B0 q1;have R1:=hF R0 q1;clear q1 B0 R0;obtain ⟨Rc0,Rc1,Rc2,Rc3,Rf0,Rf1,Rf2,Rf3⟩:=R1.out.cf)
   exact ret4 10 rfl R1 B1 LR rfl rfl rfl
 ·have E0:toldV (putT c s)=res:=hres.out
  clear hres
  have IS:=fun w=>rIs_any c s w
  cases hs:isB s
  ·have E:toldV (putT c s)=badE 13:=by unfold putT;rw [hs];rfl
   rw [E] at E0
   subst E0
   rw [hs] at IS
   clear E hs hc
   obtain ⟨Nc0,Nc1,Nc2,Nc3,Nc4,Nc5,Nc6,Nc7,Nc8⟩:=N0.out.cs
   go_wp2_with (first | (go_at_call 36;(with_reducible refine (IS _).mono ?_);rintro e1 w1 ⟨rfl,q1⟩;have B1:=hB B0 q1;have R1:=hF R0 q1;clear IS;clear q1 B0 R0) | (go_at_call 15;(with_reducible refine (rbad_vp (w:=_) 13).mono ?_);rintro e2 w2 ⟨rfl,q2⟩;have B2:=hB B1 q2;have R2:=hF R1 q2;clear q2 B1 R1;obtain ⟨Rc0,Rc1,Rc2,Rc3,Rf0,Rf1,Rf2,Rf3⟩:=R2.out.cf))
   exact ret4 10 rfl R2 B2 LR rfl rfl rfl
  ·have E:toldV (putT c s)=toldV (decT c s.toNat):=by unfold putT;rw [hs];rfl
   rw [E] at E0
   rw [hs] at IS
   clear E
   obtain ⟨n,rfl,hn⟩:=isB_nat hs
   rw [Int.toNat_natCast] at E0
   clear hs
   have OPC:=fun w=>rput_t (w:=w) c n hc.out hn
   have ER:=decT_err c n
   obtain ⟨⟨p1,q1,f1⟩,ht⟩:∃ t,Hid (decT c n=t):=⟨_,Lib.hid rfl⟩
   rw [ht.out] at ER E0
   subst E0
   simp only [ht.out] at OPC
   clear ht hn hc
   have ER:=Lib.hid ER
   obtain ⟨Nc0,Nc1,Nc2,Nc3,Nc4,Nc5,Nc6,Nc7,Nc8⟩:=N0.out.cs
   go_wp2_with (first | (go_at_call 36;(with_reducible refine (IS _).mono ?_);rintro e1 w1 ⟨rfl,q1⟩;have B1:=hB B0 q1;have N1:=hN N0 q1;have R1:=hF R0 q1;clear IS;clear q1 B0 N0 R0;obtain ⟨Nc0,Nc1,Nc2,Nc3,Nc4,Nc5,Nc6,Nc7,Nc8⟩:=N1.out.cs) | (go_at_call 38;(with_reducible refine (OPC _).mono ?_);rintro e2 w2 ⟨rfl,q2⟩;have B2:=hB B1 q2;have R2:=hF R1 q2;clear OPC;clear q2 B1 R1) | (go_at_call 37;(with_reducible refine (rdec_vp (w:=_) p1 q1 f1 ER.out).mono ?_);rintro e3 w3 ⟨rfl,q3⟩;have B3:=hB B2 q3;have R3:=hF R2 q3;clear q3 B2 R2;obtain ⟨Rc0,Rc1,Rc2,Rc3,Rf0,Rf1,Rf2,Rf3⟩:=R3.out.cf))
   exact ret4 10 rfl R3 B3 LR rfl rfl rfl
 ·have E0:(if v.k=4 then v else truthV (decide (v.k ≠ 0)))=res:=hres.out
  clear hres
  by_cases g:v.k=4
  ·rw [if_pos g] at E0
   subst E0
   have g1:decide (v.k=4)=true:=decide_eq_true g
   have g2:(v.k==4)=true:=by simpa using g
   have g3:(v.k !=4)=false:=by simpa using g
   clear g
   have Nc0:=N0.out.c0
   obtain ⟨Uc0,Uc1,Uc2,Uc3⟩:=U0.out.cs
   obtain ⟨Rc0,Rc1,Rc2,Rc3,Rf0,Rf1,Rf2,Rf3⟩:=R0.out.cf
   go_wp2_with fail
   exact ret4 10 rfl R0 B0 LR rfl rfl rfl
  ·rw [if_neg g] at E0
   have g1:decide (v.k=4)=false:=decide_eq_false g
   have g2:(v.k==4)=false:=by simpa using g
   have g3:(v.k !=4)=true:=by simpa using g
   clear g
   by_cases h:v.k=0
   ·have E:decide (v.k ≠ 0)=false:=by simpa using h
    rw [E] at E0
    subst E0
    have h1:decide (v.k=0)=true:=decide_eq_true h
    have h2:(v.k==0)=true:=by simpa using h
    have h3:(v.k !=0)=false:=by simpa using h
    clear h E
    have Nc0:=N0.out.c0
    obtain ⟨Uc0,Uc1,Uc2,Uc3⟩:=U0.out.cs
    go_wp2_with (go_at_call 16;(with_reducible refine (rtruth_vp (w:=_) false).mono ?_);rintro e1 w1 ⟨rfl,q1⟩;have B1:=hB B0 q1;have R1:=hF R0 q1;clear q1 B0 R0;obtain ⟨Rc0,Rc1,Rc2,Rc3,Rf0,Rf1,Rf2,Rf3⟩:=R1.out.cf)
    exact ret4 10 rfl R1 B1 LR rfl rfl rfl
   ·have E:decide (v.k ≠ 0)=true:=by simpa using h
    rw [E] at E0
    subst E0
    have h1:decide (v.k=0)=false:=decide_eq_false h
    have h2:(v.k==0)=false:=by simpa using h
    have h3:(v.k !=0)=true:=by simpa using h
    clear h E
    have Nc0:=N0.out.c0
    obtain ⟨Uc0,Uc1,Uc2,Uc3⟩:=U0.out.cs
    go_wp2_with (go_at_call 16;(with_reducible refine (rtruth_vp (w:=_) true).mono ?_);rintro e1 w1 ⟨rfl,q1⟩;have B1:=hB B0 q1;have R1:=hF R0 q1;clear q1 B0 R0;obtain ⟨Rc0,Rc1,Rc2,Rc3,Rf0,Rf1,Rf2,Rf3⟩:=R1.out.cf)
    exact ret4 10 rfl R1 B1 LR rfl rfl rfl
 ·have E0:(if v.k ≠ 0 then v else a)=res:=hres.out
  clear hres
  by_cases h:v.k=0
  ·rw [if_neg (by simpa using h)] at E0
   subst E0
   have h1:decide (v.k=0)=true:=decide_eq_true h
   have h2:(v.k==0)=true:=by simpa using h
   have h3:(v.k !=0)=false:=by simpa using h
   clear h
   have Nc0:=N0.out.c0
   obtain ⟨Uc0,Uc1,Uc2,Uc3⟩:=U0.out.cs
   obtain ⟨Xc0,Xc1,Xc2,Xc3⟩:=X0.out.cs
   obtain ⟨Rc0,Rc1,Rc2,Rc3,Rf0,Rf1,Rf2,Rf3⟩:=R0.out.cf
   go_wp2_with fail
   exact ret4 10 rfl R0 B0 LR rfl rfl rfl
  ·rw [if_pos (by simpa using h)] at E0
   subst E0
   have h1:decide (v.k=0)=false:=decide_eq_false h
   have h2:(v.k==0)=false:=by simpa using h
   have h3:(v.k !=0)=true:=by simpa using h
   clear h
   have Nc0:=N0.out.c0
   obtain ⟨Uc0,Uc1,Uc2,Uc3⟩:=U0.out.cs
   obtain ⟨Xc0,Xc1,Xc2,Xc3⟩:=X0.out.cs
   obtain ⟨Rc0,Rc1,Rc2,Rc3,Rf0,Rf1,Rf2,Rf3⟩:=R0.out.cf
   go_wp2_with fail
   exact ret4 10 rfl R0 B0 LR rfl rfl rfl
 ·have E0:logicV 5 a b d=res:=hres.out
  clear hres
  have IA:=fun w=>rist_is (w:=w) a
  have IB:=fun w=>rist_is (w:=w) b
  cases g:isT a
  ·have E:logicV 5 a b d=wrongV a:=by unfold logicV;rw [if_pos g]
   rw [E] at E0
   subst E0
   rw [g] at IA
   clear E g
   have Nc0:=N0.out.c0
   obtain ⟨Xc0,Xc1,Xc2,Xc3⟩:=X0.out.cs
   go_wp2_with (first | (go_at_call 39;(with_reducible refine (IA _).mono ?_);rintro e1 w1 ⟨rfl,q1⟩;have B1:=hB B0 q1;have X1:=hF X0 q1;have R1:=hF R0 q1;clear IA IB;clear q1 B0 X0 R0;obtain ⟨Xc0,Xc1,Xc2,Xc3⟩:=X1.out.cs) | (go_at_call 40;(with_reducible refine (rwrong_vp (w:=_) a).mono ?_);rintro e2 w2 ⟨rfl,q2⟩;have B2:=hB B1 q2;have R2:=hF R1 q2;clear q2 B1 R1;obtain ⟨Rc0,Rc1,Rc2,Rc3,Rf0,Rf1,Rf2,Rf3⟩:=R2.out.cf))
   exact ret4 10 rfl R2 B2 LR rfl rfl rfl
  ·rw [g] at IA
   have E:logicV 5 a b d=if decide (a.k=2)=true then a else if isT b=false then wrongV b else b:=by unfold logicV;rw [if_neg (by rw [g];decide)];rfl
   rw [E] at E0
   clear E g
   by_cases h:a.k=2
   ·rw [decide_eq_true h,if_pos (by decide)] at E0
    subst E0
    have h1:decide (a.k=2)=true:=decide_eq_true h
    have h2:(a.k==2)=true:=by simpa using h
    have h3:(a.k !=2)=false:=by simpa using h
    clear h
    have Nc0:=N0.out.c0
    obtain ⟨Xc0,Xc1,Xc2,Xc3⟩:=X0.out.cs
    clear IB
    go_wp2_with (go_at_call 39;(with_reducible refine (IA _).mono ?_);rintro e1 w1 ⟨rfl,q1⟩;have B1:=hB B0 q1;have N1:=hN N0 q1;have X1:=hF X0 q1;have R1:=hF R0 q1;clear IA;clear q1 B0 N0 X0 R0;have Nc0:=N1.out.c0;obtain ⟨Xc0,Xc1,Xc2,Xc3⟩:=X1.out.cs;obtain ⟨Rc0,Rc1,Rc2,Rc3,Rf0,Rf1,Rf2,Rf3⟩:=R1.out.cf)
    exact ret4 10 rfl R1 B1 LR rfl rfl rfl
   ·rw [decide_eq_false h,if_neg (by decide)] at E0
    have h1:decide (a.k=2)=false:=decide_eq_false h
    have h2:(a.k==2)=false:=by simpa using h
    have h3:(a.k !=2)=true:=by simpa using h
    clear h
    cases j:isT b
    ·rw [if_pos j] at E0
     subst E0
     rw [j] at IB
     clear j
     have Nc0:=N0.out.c0
     obtain ⟨Xc0,Xc1,Xc2,Xc3⟩:=X0.out.cs
     go_wp2_with (first | (go_at_call 39;(with_reducible refine (IA _).mono ?_);rintro e1 w1 ⟨rfl,q1⟩;have B1:=hB B0 q1;have N1:=hN N0 q1;have X1:=hF X0 q1;have Y1:=hF Y0 q1;have R1:=hF R0 q1;clear IA;clear q1 B0 N0 X0 Y0 R0;have Nc0:=N1.out.c0;obtain ⟨Xc0,Xc1,Xc2,Xc3⟩:=X1.out.cs;obtain ⟨Yc0,Yc1,Yc2,Yc3⟩:=Y1.out.cs) | (go_at_call 39;(with_reducible refine (IB _).mono ?_);rintro e2 w2 ⟨rfl,q2⟩;have B2:=hB B1 q2;have Y2:=hF Y1 q2;have R2:=hF R1 q2;clear IB;clear q2 B1 Y1 R1;obtain ⟨Yc0,Yc1,Yc2,Yc3⟩:=Y2.out.cs) | (go_at_call 40;(with_reducible refine (rwrong_vp (w:=_) b).mono ?_);rintro e3 w3 ⟨rfl,q3⟩;have B3:=hB B2 q3;have R3:=hF R2 q3;clear q3 B2 R2;obtain ⟨Rc0,Rc1,Rc2,Rc3,Rf0,Rf1,Rf2,Rf3⟩:=R3.out.cf))
     exact ret4 10 rfl R3 B3 LR rfl rfl rfl
    ·rw [if_neg (by rw [j];decide)] at E0
     subst E0
     rw [j] at IB
     clear j
     have Nc0:=N0.out.c0
     obtain ⟨Xc0,Xc1,Xc2,Xc3⟩:=X0.out.cs
     go_wp2_with (first | (go_at_call 39;(with_reducible refine (IA _).mono ?_);rintro e1 w1 ⟨rfl,q1⟩;have B1:=hB B0 q1;have N1:=hN N0 q1;have X1:=hF X0 q1;have Y1:=hF Y0 q1;have R1:=hF R0 q1;clear IA;clear q1 B0 N0 X0 Y0 R0;have Nc0:=N1.out.c0;obtain ⟨Xc0,Xc1,Xc2,Xc3⟩:=X1.out.cs;obtain ⟨Yc0,Yc1,Yc2,Yc3⟩:=Y1.out.cs) | (go_at_call 39;(with_reducible refine (IB _).mono ?_);rintro e2 w2 ⟨rfl,q2⟩;have B2:=hB B1 q2;have Y2:=hF Y1 q2;have R2:=hF R1 q2;clear IB;clear q2 B1 Y1 R1;obtain ⟨Yc0,Yc1,Yc2,Yc3⟩:=Y2.out.cs;obtain ⟨Rc0,Rc1,Rc2,Rc3,Rf0,Rf1,Rf2,Rf3⟩:=R2.out.cf))
     exact ret4 10 rfl R2 B2 LR rfl rfl rfl
 ·have E0:logicV 6 a b d=res:=hres.out
  clear hres
  have IA:=fun w=>rist_is (w:=w) a
  have IB:=fun w=>rist_is (w:=w) b
  cases g:isT a
  ·have E:logicV 6 a b d=wrongV a:=by unfold logicV;rw [if_pos g]
   rw [E] at E0
   subst E0
   rw [g] at IA
   clear E g
   have Nc0:=N0.out.c0
   obtain ⟨Xc0,Xc1,Xc2,Xc3⟩:=X0.out.cs
   go_wp2_with (first | (go_at_call 39;(with_reducible refine (IA _).mono ?_);rintro e1 w1 ⟨rfl,q1⟩;have B1:=hB B0 q1;have X1:=hF X0 q1;have R1:=hF R0 q1;clear IA IB;clear q1 B0 X0 R0;obtain ⟨Xc0,Xc1,Xc2,Xc3⟩:=X1.out.cs) | (go_at_call 40;(with_reducible refine (rwrong_vp (w:=_) a).mono ?_);rintro e2 w2 ⟨rfl,q2⟩;have B2:=hB B1 q2;have R2:=hF R1 q2;clear q2 B1 R1;obtain ⟨Rc0,Rc1,Rc2,Rc3,Rf0,Rf1,Rf2,Rf3⟩:=R2.out.cf))
   exact ret4 10 rfl R2 B2 LR rfl rfl rfl
  ·rw [g] at IA
   have E:logicV 6 a b d=if decide (a.k=2)=false then a else if isT b=false then wrongV b else b:=by unfold logicV;rw [if_neg (by rw [g];decide)];rfl
   rw [E] at E0
   clear E g
   by_cases h:a.k=2
   ·rw [decide_eq_true h,if_neg (by decide)] at E0
    have h1:decide (a.k=2)=true:=decide_eq_true h
    have h2:(a.k==2)=true:=by simpa using h
    have h3:(a.k !=2)=false:=by simpa using h
    clear h
    cases j:isT b
    ·rw [if_pos j] at E0
     subst E0
     rw [j] at IB
     clear j
     have Nc0:=N0.out.c0
     obtain ⟨Xc0,Xc1,Xc2,Xc3⟩:=X0.out.cs
     go_wp2_with (first | (go_at_call 39;(with_reducible refine (IA _).mono ?_);rintro e1 w1 ⟨rfl,q1⟩;have B1:=hB B0 q1;have N1:=hN N0 q1;have X1:=hF X0 q1;have Y1:=hF Y0 q1;have R1:=hF R0 q1;clear IA;clear q1 B0 N0 X0 Y0 R0;have Nc0:=N1.out.c0;obtain ⟨Xc0,Xc1,Xc2,Xc3⟩:=X1.out.cs;obtain ⟨Yc0,Yc1,Yc2,Yc3⟩:=Y1.out.cs) | (go_at_call 39;(with_reducible refine (IB _).mono ?_);rintro e2 w2 ⟨rfl,q2⟩;have B2:=hB B1 q2;have Y2:=hF Y1 q2;have R2:=hF R1 q2;clear IB;clear q2 B1 Y1 R1;obtain ⟨Yc0,Yc1,Yc2,Yc3⟩:=Y2.out.cs) | (go_at_call 40;(with_reducible refine (rwrong_vp (w:=_) b).mono ?_);rintro e3 w3 ⟨rfl,q3⟩;have B3:=hB B2 q3;have R3:=hF R2 q3;clear q3 B2 R2;obtain ⟨Rc0,Rc1,Rc2,Rc3,Rf0,Rf1,Rf2,Rf3⟩:=R3.out.cf))
     exact ret4 10 rfl R3 B3 LR rfl rfl rfl
    ·rw [if_neg (by rw [j];decide)] at E0
     subst E0
     rw [j] at IB
     clear j
     have Nc0:=N0.out.c0
     obtain ⟨Xc0,Xc1,Xc2,Xc3⟩:=X0.out.cs
     go_wp2_with (first | (go_at_call 39;(with_reducible refine (IA _).mono ?_);rintro e1 w1 ⟨rfl,q1⟩;have B1:=hB B0 q1;have N1:=hN N0 q1;have X1:=hF X0 q1;have Y1:=hF Y0 q1;have R1:=hF R0 q1;clear IA;clear q1 B0 N0 X0 Y0 R0;have Nc0:=N1.out.c0;obtain ⟨Xc0,Xc1,Xc2,Xc3⟩:=X1.out.cs;obtain ⟨Yc0,Yc1,Yc2,Yc3⟩:=Y1.out.cs) | (go_at_call 39;(with_reducible refine (IB _).mono ?_);rintro e2 w2 ⟨rfl,q2⟩;have B2:=hB B1 q2;have Y2:=hF Y1 q2;have R2:=hF R1 q2;clear IB;clear q2 B1 Y1 R1;obtain ⟨Yc0,Yc1,Yc2,Yc3⟩:=Y2.out.cs;obtain ⟨Rc0,Rc1,Rc2,Rc3,Rf0,Rf1,Rf2,Rf3⟩:=R2.out.cf))
     exact ret4 10 rfl R2 B2 LR rfl rfl rfl
   ·rw [decide_eq_false h,if_pos (by decide)] at E0
    subst E0
    have h1:decide (a.k=2)=false:=decide_eq_false h
    have h2:(a.k==2)=false:=by simpa using h
    have h3:(a.k !=2)=true:=by simpa using h
    clear h
    have Nc0:=N0.out.c0
    obtain ⟨Xc0,Xc1,Xc2,Xc3⟩:=X0.out.cs
    clear IB
    go_wp2_with (go_at_call 39;(with_reducible refine (IA _).mono ?_);rintro e1 w1 ⟨rfl,q1⟩;have B1:=hB B0 q1;have N1:=hN N0 q1;have X1:=hF X0 q1;have R1:=hF R0 q1;clear IA;clear q1 B0 N0 X0 R0;have Nc0:=N1.out.c0;obtain ⟨Xc0,Xc1,Xc2,Xc3⟩:=X1.out.cs;obtain ⟨Rc0,Rc1,Rc2,Rc3,Rf0,Rf1,Rf2,Rf3⟩:=R1.out.cf)
    exact ret4 10 rfl R1 B1 LR rfl rfl rfl
 ·have E0:logicV 7 a b d=res:=hres.out
  clear hres
  have IA:=fun w=>rist_is (w:=w) a
  have IB:=fun w=>rist_is (w:=w) b
  cases g:isT a
  ·have E:logicV 7 a b d=wrongV a:=by unfold logicV;rw [if_pos g]
   rw [E] at E0
   subst E0
   rw [g] at IA
   clear E g
   have Nc0:=N0.out.c0
   obtain ⟨Xc0,Xc1,Xc2,Xc3⟩:=X0.out.cs
   go_wp2_with (first | (go_at_call 39;(with_reducible refine (IA _).mono ?_);rintro e1 w1 ⟨rfl,q1⟩;have B1:=hB B0 q1;have X1:=hF X0 q1;have R1:=hF R0 q1;clear IA IB;clear q1 B0 X0 R0;obtain ⟨Xc0,Xc1,Xc2,Xc3⟩:=X1.out.cs) | (go_at_call 40;(with_reducible refine (rwrong_vp (w:=_) a).mono ?_);rintro e2 w2 ⟨rfl,q2⟩;have B2:=hB B1 q2;have R2:=hF R1 q2;clear q2 B1 R1;obtain ⟨Rc0,Rc1,Rc2,Rc3,Rf0,Rf1,Rf2,Rf3⟩:=R2.out.cf))
   exact ret4 10 rfl R2 B2 LR rfl rfl rfl
  ·rw [g] at IA
   have E:logicV 7 a b d=truthV (decide (a.k=3)):=by unfold logicV;rw [if_neg (by rw [g];decide)];rfl
   rw [E] at E0
   clear E g
   by_cases h:a.k=3
   ·have E:decide (a.k=3)=true:=by simpa using h
    rw [E] at E0
    subst E0
    have h1:decide (a.k=3)=true:=decide_eq_true h
    have h2:(a.k==3)=true:=by simpa using h
    have h3:(a.k !=3)=false:=by simpa using h
    clear h E
    have Nc0:=N0.out.c0
    obtain ⟨Xc0,Xc1,Xc2,Xc3⟩:=X0.out.cs
    go_wp2_with (first | (go_at_call 39;(with_reducible refine (IA _).mono ?_);rintro e1 w1 ⟨rfl,q1⟩;have B1:=hB B0 q1;have N1:=hN N0 q1;have X1:=hF X0 q1;have R1:=hF R0 q1;clear IA;clear q1 B0 N0 X0 R0;have Nc0:=N1.out.c0;obtain ⟨Xc0,Xc1,Xc2,Xc3⟩:=X1.out.cs) | (go_at_call 16;(with_reducible refine (rtruth_vp (w:=_) true).mono ?_);rintro e2 w2 ⟨rfl,q2⟩;have B2:=hB B1 q2;have R2:=hF R1 q2;clear q2 B1 R1;obtain ⟨Rc0,Rc1,Rc2,Rc3,Rf0,Rf1,Rf2,Rf3⟩:=R2.out.cf))
    exact ret4 10 rfl R2 B2 LR rfl rfl rfl
   ·have E:decide (a.k=3)=false:=by simpa using h
    rw [E] at E0
    subst E0
    have h1:decide (a.k=3)=false:=decide_eq_false h
    have h2:(a.k==3)=false:=by simpa using h
    have h3:(a.k !=3)=true:=by simpa using h
    clear h E
    have Nc0:=N0.out.c0
    obtain ⟨Xc0,Xc1,Xc2,Xc3⟩:=X0.out.cs
    go_wp2_with (first | (go_at_call 39;(with_reducible refine (IA _).mono ?_);rintro e1 w1 ⟨rfl,q1⟩;have B1:=hB B0 q1;have N1:=hN N0 q1;have X1:=hF X0 q1;have R1:=hF R0 q1;clear IA;clear q1 B0 N0 X0 R0;have Nc0:=N1.out.c0;obtain ⟨Xc0,Xc1,Xc2,Xc3⟩:=X1.out.cs) | (go_at_call 16;(with_reducible refine (rtruth_vp (w:=_) false).mono ?_);rintro e2 w2 ⟨rfl,q2⟩;have B2:=hB B1 q2;have R2:=hF R1 q2;clear q2 B1 R1;obtain ⟨Rc0,Rc1,Rc2,Rc3,Rf0,Rf1,Rf2,Rf3⟩:=R2.out.cf))
    exact ret4 10 rfl R2 B2 LR rfl rfl rfl
 ·have E0:logicV 19 a b d=res:=hres.out
  clear hres
  have IA:=fun w=>rist_is (w:=w) a
  have IB:=fun w=>rist_is (w:=w) b
  cases g:isT a
  ·have E:logicV 19 a b d=wrongV a:=by unfold logicV;rw [if_pos g]
   rw [E] at E0
   subst E0
   rw [g] at IA
   clear E g
   have Nc0:=N0.out.c0
   obtain ⟨Xc0,Xc1,Xc2,Xc3⟩:=X0.out.cs
   go_wp2_with (first | (go_at_call 39;(with_reducible refine (IA _).mono ?_);rintro e1 w1 ⟨rfl,q1⟩;have B1:=hB B0 q1;have X1:=hF X0 q1;have R1:=hF R0 q1;clear IA IB;clear q1 B0 X0 R0;obtain ⟨Xc0,Xc1,Xc2,Xc3⟩:=X1.out.cs) | (go_at_call 40;(with_reducible refine (rwrong_vp (w:=_) a).mono ?_);rintro e2 w2 ⟨rfl,q2⟩;have B2:=hB B1 q2;have R2:=hF R1 q2;clear q2 B1 R1;obtain ⟨Rc0,Rc1,Rc2,Rc3,Rf0,Rf1,Rf2,Rf3⟩:=R2.out.cf))
   exact ret4 10 rfl R2 B2 LR rfl rfl rfl
  ·rw [g] at IA
   have E:logicV 19 a b d=if a.k=2 then b else d:=by unfold logicV;rw [if_neg (by rw [g];decide)];rfl
   rw [E] at E0
   clear E g
   by_cases h:a.k=2
   ·rw [if_pos h] at E0
    subst E0
    have h1:decide (a.k=2)=true:=decide_eq_true h
    have h2:(a.k==2)=true:=by simpa using h
    have h3:(a.k !=2)=false:=by simpa using h
    clear h
    have Nc0:=N0.out.c0
    obtain ⟨Xc0,Xc1,Xc2,Xc3⟩:=X0.out.cs
    go_wp2_with (go_at_call 39;(with_reducible refine (IA _).mono ?_);rintro e1 w1 ⟨rfl,q1⟩;have B1:=hB B0 q1;have N1:=hN N0 q1;have X1:=hF X0 q1;have Y1:=hF Y0 q1;have Z1:=hF Z0 q1;have R1:=hF R0 q1;clear IA;clear q1 B0 N0 X0 Y0 Z0 R0;have Nc0:=N1.out.c0;obtain ⟨Xc0,Xc1,Xc2,Xc3⟩:=X1.out.cs;obtain ⟨Yc0,Yc1,Yc2,Yc3⟩:=Y1.out.cs;obtain ⟨Zc0,Zc1,Zc2,Zc3⟩:=Z1.out.cs;obtain ⟨Rc0,Rc1,Rc2,Rc3,Rf0,Rf1,Rf2,Rf3⟩:=R1.out.cf)
    exact ret4 10 rfl R1 B1 LR rfl rfl rfl
   ·rw [if_neg h] at E0
    subst E0
    have h1:decide (a.k=2)=false:=decide_eq_false h
    have h2:(a.k==2)=false:=by simpa using h
    have h3:(a.k !=2)=true:=by simpa using h
    clear h
    have Nc0:=N0.out.c0
    obtain ⟨Xc0,Xc1,Xc2,Xc3⟩:=X0.out.cs
    go_wp2_with (go_at_call 39;(with_reducible refine (IA _).mono ?_);rintro e1 w1 ⟨rfl,q1⟩;have B1:=hB B0 q1;have N1:=hN N0 q1;have X1:=hF X0 q1;have Y1:=hF Y0 q1;have Z1:=hF Z0 q1;have R1:=hF R0 q1;clear IA;clear q1 B0 N0 X0 Y0 Z0 R0;have Nc0:=N1.out.c0;obtain ⟨Xc0,Xc1,Xc2,Xc3⟩:=X1.out.cs;obtain ⟨Yc0,Yc1,Yc2,Yc3⟩:=Y1.out.cs;obtain ⟨Zc0,Zc1,Zc2,Zc3⟩:=Z1.out.cs;obtain ⟨Rc0,Rc1,Rc2,Rc3,Rf0,Rf1,Rf2,Rf3⟩:=R1.out.cf)
    exact ret4 10 rfl R1 B1 LR rfl rfl rfl
end Go.Proofs.YteagpbkbdlmdiaaGreat.Ev
/- eval.node, walked. -/
namespace Go.Proofs.YteagpbkbdlmdiaaGreat.Ev
open Go Go.ChangeMaps Go.RowKit Dt Tx Va
set_option linter.unusedSimpArgs false
set_option linter.unusedVariables false
attribute [local go_sem ↓] Go.wp_at_zero Go.wp_at_succ
set_option maxRecDepth 100000 in
set_option maxHeartbeats 1000000 in
theorem node_other {w:World} (op:Int) (c s k x y z p:Int) (nm:List UInt8) {v a b d:V} (g:Nat) (hop:op<1∨30<op) (ho1:0≤op) (ho2:op≤255):Calls Tryz.prog 24 #[an ⟨op,c,s,nm,k,x,y,z,p⟩,av v,.slice (some ⟨g,0,none⟩) 3 3] w (VP (badE 13) w):=by
 have hno:∀ m,(op,m) ∉ opsL:=fun m h=>by
  simp only [opsL,List.mem_cons,Prod.mk.injEq,List.mem_nil_iff,or_false] at h
  omega
 have o1:decide (op=1)=false:=decide_eq_false (by omega)
 have u1:(op==1)=false:=by simp;omega
 have o2:decide (op=2)=false:=decide_eq_false (by omega)
 have u2:(op==2)=false:=by simp;omega
 have o3:decide (op=3)=false:=decide_eq_false (by omega)
 have u3:(op==3)=false:=by simp;omega
 have o4:decide (op=4)=false:=decide_eq_false (by omega)
 have u4:(op==4)=false:=by simp;omega
 have o24:decide (op=24)=false:=decide_eq_false (by omega)
 have u24:(op==24)=false:=by simp;omega
 have o25:decide (op=25)=false:=decide_eq_false (by omega)
 have u25:(op==25)=false:=by simp;omega
 have o26:decide (op=26)=false:=decide_eq_false (by omega)
 have u26:(op==26)=false:=by simp;omega
 have o27:decide (op=27)=false:=decide_eq_false (by omega)
 have u27:(op==27)=false:=by simp;omega
 have o28:decide (op=28)=false:=decide_eq_false (by omega)
 have u28:(op==28)=false:=by simp;omega
 have o29:decide (op=29)=false:=decide_eq_false (by omega)
 have u29:(op==29)=false:=by simp;omega
 have o30:decide (op=30)=false:=decide_eq_false (by omega)
 have u30:(op==30)=false:=by simp;omega
 clear hop
 try dsimp only [av,an,ao]
 go_enter Tryz.func24,Tryz.ntmps24
 go_upto_region 1 with fail
 obtain ⟨W0,iN,iU,iR,hW,hN,hU,hR,N0,U0,R0,B0,LN,LU,LR,LI,LS⟩:=mkNVZ w ⟨op,c,s,nm,k,x,y,z,p⟩ v
 rw [hW.out];try rw [hR.out];try rw [hU.out];try rw [hN.out]
 clear hW hN hU hR
 have Nc0:=N0.out.c0
 have HO1:=Lib.hid ho1;have HO2:=Lib.hid ho2;have HNO:=Lib.hid hno
 clear ho1 ho2 hno
 go_upto_region 22 with fail
 go_cut [7,8] (fun p7 ok8 wx=>ok8=.bool false∧Below W0.heap.size W0 wx)
 case first=>
  have mkS:∀ w',Below W0.heap.size W0 w'→(Below W0.heap.size W0 w'∧w'.cell? ⟨iN,0,none⟩=some (.int .u8 op)∧w'.cell? ⟨iN,4,none⟩=some (.int .i64 k)):=fun w' hb=>⟨hb,(N0.out.below hb).c0,(N0.out.below hb).c4⟩
  have HS0:=mkS _ ((Below.refl _ _).drew)
  go_region_held3 (fun w'=>Below W0.heap.size W0 w'∧w'.cell? ⟨iN,0,none⟩=some (.int .u8 op)∧w'.cell? ⟨iN,4,none⟩=some (.int .i64 k))
   (first | with_reducible exact HS0 | with_reducible assumption | (refine mkS _ ?_;(repeat (first | with_reducible exact And.left (by with_reducible assumption) | with_reducible exact Below.refl _ _ | refine Below.setCell ?_ (by first | omega | (simp only [World.size_alloc,hdrew];omega) | (simp<;>omega)) _ | refine Below.alloc ?_ (by first | omega | (simp only [World.size_alloc,hdrew];omega) | (simp<;>omega)) _ | refine Below.drew ?_))))
   (first | (go_at_call 35;(with_reducible refine (ops_is (w:=_) k).mono ?_);rintro e20 w20 ⟨bm,T,rfl,hM,hT,b20⟩;have HS20:=mkS _ (bt (And.left (by assumption)) b20);have T20:=Lib.hid (HS20.1);have zz20:=Below.size T20.out;have hlk:=look_none HNO.out HO1.out HO2.out hM hT;clear hM hT;have lk0:=hlk _ (Below.refl _ _);have lk1:=hlk _ (ba _ (.cells #[.int .i64 0,.nilFunc] 72));clear hlk;(try replace b20:=undrew b20);(first | (have QA:=DB.below (DB.new _ _ _) b20;(try simp only [World.size_alloc,hdrew] at QA);have QA:=Lib.hid QA;have qa0:=QA.out.c0;have qa1:=QA.out.c1;have qf0:=QA.out.f 0;have qf1:=QA.out.f 1;clear b20) | clear b20)))
  all_goals
   dsimp only [Exit.then]
   refine ‹∀ (a':Act) (w':World),Met _ a' w'→_› _ _ ?_
   go_meet
   case rel=>exact ⟨rfl,by (repeat (first | with_reducible exact And.left (by with_reducible assumption) | with_reducible exact Below.refl _ _ | refine Below.setCell ?_ (by first | omega | (simp only [World.size_alloc,hdrew];omega) | (simp<;>omega)) _ | refine Below.alloc ?_ (by first | omega | (simp only [World.size_alloc,hdrew];omega) | (simp<;>omega)) _ | refine Below.drew ?_))⟩
 case rest=>
  obtain ⟨rfl,hbw⟩:=hcut
  have B1:=Lib.hid (bt B0.out hbw);have R1:=Lib.hid (R0.out.below hbw)
  clear hbw Nc0
  go_wp2_with (go_at_call 23;(with_reducible refine (bad_vp (w:=_) 13).mono ?_);rintro e8 w8 ⟨rfl,q8⟩;have B8:=Lib.hid (bt B1.out q8);have R8:=Lib.hid (R1.out.below q8);have Rc0:=R8.out.c0;have Rf0:=R8.out.f 0;have Rc1:=R8.out.c1;have Rf1:=R8.out.f 1;have Rc2:=R8.out.c2;have Rf2:=R8.out.f 2;have Rc3:=R8.out.c3;have Rf3:=R8.out.f 3;clear q8)
  exact ret4 6 rfl R8 B8 LR rfl rfl rfl
theorem node_vp {w:World} (n:Nd) {v a b d:V} (g:Nat) (hn:n.ok) (ha:V.fine a) (hb:V.fine b) (hk:K3 w g a b d):Calls Tryz.prog 24 #[an n,av v,.slice (some ⟨g,0,none⟩) 3 3] w (VP (nodeV n v a b d) w):=by
 have hc:=hn.2.1
 have ho:=hn.1
 by_cases h:n.op<1∨30<n.op
 ·rw [nodeV_other n v a b d h]
  obtain ⟨op,c,s,nm,k,x,y,z,p⟩:=n
  exact node_other (a:=a) (b:=b) (d:=d) op c s k x y z p nm g h ho.1 ho.2
 ·obtain ⟨op,c,s,nm,k,x,y,z,p⟩:=n
  simp only at h hc⊢
  have h1:1≤op∧op≤30:=by omega
  have:op=1∨op=2∨op=3∨op=4∨op=5∨op=6∨op=7∨op=8∨op=9∨op=10∨op=11∨op=12∨op=13∨op=14∨op=15∨op=16∨op=17∨op=18∨op=19∨op=20∨op=21∨op=22∨op=23∨op=24∨op=25∨op=26∨op=27∨op=28∨op=29∨op=30:=by omega
  clear h h1 ho hn
  rcases this with rfl | rfl | rfl | rfl | rfl | rfl | rfl | rfl | rfl | rfl | rfl | rfl | rfl | rfl | rfl | rfl | rfl | rfl | rfl | rfl | rfl | rfl | rfl | rfl | rfl | rfl | rfl | rfl | rfl | rfl
  ·exact node_1 (v:=v) (a:=a) (b:=b) (d:=d) c s k x y z p nm g hc
  ·exact node_2 (v:=v) (a:=a) (b:=b) (d:=d) c s k x y z p nm g
  ·exact node_3 (v:=v) (a:=a) (b:=b) (d:=d) c s k x y z p nm g
  ·exact node_4 (v:=v) (a:=a) (b:=b) (d:=d) c s k x y z p nm g
  ·exact node_map 5 2 (by decide) c s k x y z p nm g ha hb hk
  ·exact node_map 6 2 (by decide) c s k x y z p nm g ha hb hk
  ·exact node_map 7 1 (by decide) c s k x y z p nm g ha hb hk
  ·exact node_map 8 2 (by decide) c s k x y z p nm g ha hb hk
  ·exact node_map 9 2 (by decide) c s k x y z p nm g ha hb hk
  ·exact node_map 10 2 (by decide) c s k x y z p nm g ha hb hk
  ·exact node_map 11 2 (by decide) c s k x y z p nm g ha hb hk
  ·exact node_map 12 2 (by decide) c s k x y z p nm g ha hb hk
  ·exact node_map 13 2 (by decide) c s k x y z p nm g ha hb hk
  ·exact node_map 14 2 (by decide) c s k x y z p nm g ha hb hk
  ·exact node_map 15 2 (by decide) c s k x y z p nm g ha hb hk
  ·exact node_map 16 2 (by decide) c s k x y z p nm g ha hb hk
  ·exact node_map 17 2 (by decide) c s k x y z p nm g ha hb hk
  ·exact node_map 18 1 (by decide) c s k x y z p nm g ha hb hk
  ·exact node_map 19 3 (by decide) c s k x y z p nm g ha hb hk
  ·exact node_map 20 2 (by decide) c s k x y z p nm g ha hb hk
  ·exact node_map 21 2 (by decide) c s k x y z p nm g ha hb hk
  ·exact node_map 22 1 (by decide) c s k x y z p nm g ha hb hk
  ·exact node_map 23 1 (by decide) c s k x y z p nm g ha hb hk
  ·exact node_24 (v:=v) (a:=a) (b:=b) (d:=d) c s k x y z p nm g
  ·exact node_25 c s k x y z p nm g hk
  ·exact node_26 (v:=v) (a:=a) (b:=b) (d:=d) c s k x y z p nm g
  ·exact node_27 (v:=v) (a:=a) (b:=b) (d:=d) c s k x y z p nm g
  ·exact node_28 (v:=v) (a:=a) (b:=b) (d:=d) c s k x y z p nm g
  ·exact node_29 (v:=v) (a:=a) (b:=b) (d:=d) c s k x y z p nm g
  ·exact node_30 (v:=v) (a:=a) (b:=b) (d:=d) c s k x y z p nm g
end Go.Proofs.YteagpbkbdlmdiaaGreat.Ev
