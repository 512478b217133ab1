/-
  eval.Value, walked; value.Parse, walked: a range over a map, in whatever order; The document's values: May, Text, Parse, walked; Eval: a text's value, by the document's parser: num, of; the four texts; Eval: the four known texts' values; The law of kinds: what its walk stands on.
-/
import Derived.Test.YteagpbkbdlmdiaaGreatQ26
import Derived.Test.YteagpbkbdlmdiaaGreatQ46
import Derived.Test.YteagpbkbdlmdiaaGreatQ22
import Derived.Test.YteagpbkbdlmdiaaGreatQ27
import Derived.Test.YteagpbkbdlmdiaaGreatQ32
import Derived.Test.YteagpbkbdlmdiaaGreatQ41
set_option linter.unusedSimpArgs false
set_option linter.unusedVariables false
namespace Go.Proofs.YteagpbkbdlmdiaaGreat.Ev
open Go Go.ChangeMaps Go.RowKit Dt Tx Va
attribute [local go_sem ↓] Go.wp_at_zero Go.wp_at_succ
set_option maxRecDepth 100000 in
set_option maxHeartbeats 8000000 in
theorem value_is {w:World} {vt vv:Value} {t:List Nd} {vals:List V} (ht:ndE.Arg w vt t) (hv:vaE.Arg w vv vals) (hl:t.length≤300) (hok:∀ v ∈ vals,v.ok) (hno:∀ n ∈ t,n.ok):Calls Tryz.prog 9 #[vt,vv] w (VP (valueV t vals) w):=by
 obtain ⟨aa,ca,rfl,h1⟩:=argN ht
 obtain ⟨avl,cv,rfl,h2⟩:=argV hv
 have HA:=Lib.hid h1;have HV:=Lib.hid h2;have HL:=Lib.hid hl;have HOK:=Lib.hid hok;have HNO:=Lib.hid hno;have HT:=Lib.hid ht
 clear ht hv h1 h2 hl hok hno
 obtain ⟨N,hN⟩:∃ N,Hid (t.length=N):=⟨_,Lib.hid rfl⟩
 obtain ⟨M,hM⟩:∃ N,Hid (vals.length=N):=⟨_,Lib.hid rfl⟩
 rw [hM.out]
 have HT':Hid (ndE.Arg w (.slice aa N ca) t):=by rw [←hN.out];exact HT
 rw [hN.out]
 clear HT
 have mk:=make_vals N (by have:=HL.out;have:=hN.out;omega)
 obtain ⟨res,hres⟩:∃ r,Hid (valueV t vals=r):=⟨_,Lib.hid rfl⟩
 rw [hres.out]
 try dsimp only [av,an,ao]
 go_enter Tryz.func9,Tryz.ntmps9
 go_upto_region 1 with fail
 obtain ⟨W0,iR,hW,hR,R0,B0,LRR,LI0,LS0⟩:=mkZ w
 rw [hW.out];try rw [hR.out]
 clear hW hR
 have OSC:=operands_is (HT'.out.below B0.out) HL.out
 go_upto_region 2 with (go_at_call 7;(with_reducible refine OSC.mono ?_);rintro e1 w1 ⟨v5,rfl,a5,q1⟩;have O1:=Lib.hid a5;have B1:=Lib.hid (bt B0.out q1);have R1:=Lib.hid (R0.out.below q1);clear a5 q1 B0 R0 OSC)
 obtain ⟨l,hl⟩:∃ l,Hid (opds t=l):=⟨_,Lib.hid rfl⟩
 rw [hl.out] at O1
 go_upto_region 3 with fail
 have A2:=Lib.hid (madeV_at w1 N)
 have B2:=Lib.hid (madeV_below w1 N)
 have Z2:=Lib.hid (madeV_size w1 N)
 obtain ⟨gA,hgA⟩:∃ g,Hid (w1.heap.size=g):=⟨_,Lib.hid rfl⟩
 obtain ⟨W2,hW2⟩:∃ W,Hid (madeV w1 N=W):=⟨_,Lib.hid rfl⟩
 rw [hW2.out] at A2 B2 Z2
 rw [hW2.out]
 rw [hgA.out] at A2
 try rw [hgA.out]
 have LA:Hid (w1.heap.size≤gA):=Lib.hid (Nat.le_of_eq hgA.out)
 clear hW2 mk
 go_upto_region 4 with fail
 obtain ⟨W3,iL,hW,hX,L3,BL,LL,_,_⟩:=mk1 W2 (.cells #[.int .u8 0,.int .i64 0,.int .i64 0,.int .i64 0] 33)
 rw [hW.out]
 try rw [hX.out]
 clear hW hX
 replace L3:Hid (Four W3 iL noV):=L3
 have A3:=Lib.hid (A2.out.below BL.out)
 have B3:=Lib.hid (bt B2.out BL.out)
 have LAL:Hid (¬gA=iL):=Lib.hid (by have:=A2.out.lt;have:=LL.out;omega)
 have LL1:Hid (w1.heap.size≤iL):=Lib.hid (by have:=LL.out;have:=B2.out.size;omega)
 clear A2 B2 BL LL
 clear Z2 hgA
 go_wp2_with fail
 go_loopw [24] (fun i wr=>∃ (k:Nat) (A:List V),i=.int .i64 (k:Int)∧k≤N∧Hid (A=upV l vals t k)∧Hid (AllR 33 wr gA N (rowF A))∧Hid (Four wr iL ((A.getLast?).getD noV))∧Hid (Below w1.heap.size w1 wr)) (fun i _=>N - (intOf i).toNat)
 case atStart=>exact ⟨0,[],rfl,by omega,rfl,A3.out.congr (fun j _=>rfl),L3.out,B3.out⟩
 case round=>
  clear A3 B3 L3
  obtain ⟨wo,rfl⟩:∃ wo:World,wo=wr:=⟨_,rfl⟩
  obtain ⟨k,A,rfl,hk,HE,AR,LR,B⟩:=hrel
  have HKN:=Lib.hid hk
  have HLen:Hid (A.length=k):=Lib.hid (by rw [HE.out];exact upV_len (by rw [hN.out];exact hk))
  by_cases hkl:k<N
  ·obtain ⟨n,hn⟩:∃ n,t[k]?=some n:=⟨_,List.getElem?_eq_getElem (by rw [hN.out];exact hkl)⟩
   obtain ⟨ba',oa,rfl,l1,c0,c1,c2,c3,c4,c5,c6,c7,c8⟩:=HA.out k n hn
   have i0:(0:Int)≤(k:Int):=by omega
   have i1:(k:Int)<(N:Int):=by omega
   have i2:decide ((k:Int)<(N:Int))=true:=by simp;omega
   have i3:decide (k<N)=true:=by simpa using hkl
   have HB:=Lib.hid (Nat.lt_of_lt_of_le l1 B1.out.size)
   have kc:=fun {o:Nat} {u:Value} (h:w.cell? ⟨ba',o,none⟩=some u)=>(B.out.cell (p:=⟨ba',o,none⟩) HB.out).trans ((B1.out.cell (p:=⟨ba',o,none⟩) l1).trans h)
   replace c0:=kc c0;replace c1:=kc c1;replace c2:=kc c2;replace c3:=kc c3;replace c4:=kc c4;replace c5:=kc c5;replace c6:=kc c6;replace c7:=kc c7;replace c8:=kc c8
   have HC:Hid (wo.cell? ⟨ba',oa+k*9,none⟩=some (.int .u8 n.op)∧wo.cell? ⟨ba',oa+k*9+1,none⟩=some (.int .i64 n.c)∧wo.cell? ⟨ba',oa+k*9+2,none⟩=some (.int .i64 n.s)∧wo.cell? ⟨ba',oa+k*9+3,none⟩=some (.string (bs n.n))∧wo.cell? ⟨ba',oa+k*9+4,none⟩=some (.int .i64 n.k)∧wo.cell? ⟨ba',oa+k*9+5,none⟩=some (.int .i64 n.x)∧wo.cell? ⟨ba',oa+k*9+6,none⟩=some (.int .i64 n.y)∧wo.cell? ⟨ba',oa+k*9+7,none⟩=some (.int .i64 n.z)∧wo.cell? ⟨ba',oa+k*9+8,none⟩=some (.int .i64 n.p)):=⟨c0,c1,c2,c3,c4,c5,c6,c7,c8⟩
   have kw:IntKind.i64.wrap ((k:Int)+1)=(k:Int)+1:=wrap1 k (by have:=HL.out;have:=hN.out;omega)
   have HS:=Lib.hid (upV_step (l:=l) (vals:=vals) hn)
   rw [←HE.out] at HS
   have HK:=Lib.hid hkl
   have NOK:=Lib.hid (HNO.out n (List.mem_of_getElem? hn))
   have HIN:Hid (∀ q,opdOf n=some q→q ∈ l):=Lib.hid (fun q h=>by rw [←hl.out];exact opds_has (List.mem_of_getElem? hn) h)
   have AF:Hid (∀ v ∈ A,V.fine v):=Lib.hid (by rw [HE.out];exact upV_fine HOK.out k)
   have OC:=fun w=>opd_is (w:=w) n
   clear kc hkl hk hn
   go_upto_region 7 with fail
   obtain ⟨W4,iN,hW,hX,N4,BN,LN,_,_⟩:=mk1 wo (.cells #[.int .u8 n.op,.int .i64 n.c,.int .i64 n.s,.string (bs n.n),.int .i64 n.k,.int .i64 n.x,.int .i64 n.y,.int .i64 n.z,.int .i64 n.p] 39)
   rw [hW.out]
   try rw [hX.out]
   clear hW hX c0 c1 c2 c3 c4 c5 c6 c7 c8
   replace N4:Hid (Nine W4 iN n):=N4
   go_upto_region 8 with fail
   obtain ⟨W5,iU,hW,hX,U5,BU,LU,_,_⟩:=mk1 W4 (.cells #[.int .u8 0,.int .i64 0,.int .i64 0,.int .i64 0] 33)
   rw [hW.out]
   try rw [hX.out]
   clear hW hX
   replace U5:Hid (Four W5 iU noV):=U5
   have Q5:=Lib.hid (bt BN.out BU.out)
   have LU0:Hid (wo.heap.size≤iU):=Lib.hid (by have:=LU.out;have:=BN.out.size;omega)
   have N5:=Lib.hid (N4.out.below BU.out)
   have HNU:Hid (¬iN=iU):=Lib.hid (by have:=N4.out.lt;have:=LU.out;omega)
   have LN0:=LN
   have c0:=N5.out.c0;have c1:=N5.out.c1;have c2:=N5.out.c2;have c3:=N5.out.c3;have c4:=N5.out.c4;have c5:=N5.out.c5;have c6:=N5.out.c6;have c7:=N5.out.c7;have c8:=N5.out.c8
   clear BN BU LU
   go_upto_region 9 with (go_at_call 17;(with_reducible refine (OC _).mono ?_);rintro e6 w6 ⟨rfl,q6⟩;have N6:=Lib.hid (N5.out.below q6);have U6:=Lib.hid (U5.out.below q6);have Q6:=Lib.hid (bt Q5.out q6);clear q6 OC U5 Q5 N5)
   clear c0 c1 c2 c3 c4 c5 c6 c7 c8
   obtain ⟨ro,hro⟩:∃ r,Hid (opdOf n=r):=⟨_,Lib.hid rfl⟩
   rw [hro.out]
   obtain ⟨W7,iO,hW,hX,O7,BO,LO,_,_⟩:=mk1 w6 (.cells #[.int .u8 (ro.getD noO).op,.string (bs (ro.getD noO).n),.int .i64 (ro.getD noO).k] 43)
   rw [hW.out]
   try rw [hX.out]
   clear hW hX
   replace O7:Hid (OpdB W7 iO (ro.getD noO)):=O7
   have N7:=Lib.hid (N6.out.below BO.out)
   have U7:=Lib.hid (U6.out.below BO.out)
   have Q7:=Lib.hid (bt Q6.out BO.out)
   clear U6 Q6 BO LO N6
   go_upto_if 34 with fail
   go_cut [] (fun wx=>Four wx iU (ownV l vals n)∧Nine wx iN n∧Below wo.heap.size wo wx)
   case first=>
    cases ro with
    | none=>
     have EO:=Lib.hid (own_none (l:=l) (vals:=vals) hro.out)
     go_wp2_with fail
     go_meet
     case rel=>exact ⟨by rw [EO.out];exact U7.out,N7.out,Q7.out⟩
    | some q=>
     have O1x:=(O1.out.below B.out).below Q7.out
     have PC:=index_is q O1x (by have:=opdsF_len t [];rw [←hl.out];have:=HL.out;unfold opds;simp at*;omega)
     rw [placeP_in (HIN.out q hro.out)] at PC
     clear O1x
     obtain ⟨p,hp⟩:∃ p,Hid (l.idxOf q=p):=⟨_,Lib.hid rfl⟩
     rw [hp.out] at PC
     have e0:W7.cell? ⟨iO,0,none⟩=some (.int .u8 q.op):=O7.out.c0
     have e1:W7.cell? ⟨iO,1,none⟩=some (.string (bs q.n)):=O7.out.c1
     have e2:W7.cell? ⟨iO,2,none⟩=some (.int .i64 q.k):=O7.out.c2
     by_cases hpm:p<M
     ·obtain ⟨u,hu⟩:∃ u,vals[p]?=some u:=⟨_,List.getElem?_eq_getElem (by rw [hM.out];exact hpm)⟩
      obtain ⟨bb,ob,rfl,l2,d0,d1,d2,d3⟩:=HV.out p u hu
      have UOK:=HOK.out u (List.mem_of_getElem? hu)
      have MC:=fun w=>may_is (w:=w) u UOK
      have HU:Hid ((vals[l.idxOf q]?).getD noV=u):=Lib.hid (by rw [hp.out,hu];rfl)
      clear UOK hu
      have j0:(0:Int)≤(p:Int):=by omega
      have j1:(p:Int)<(M:Int):=by omega
      have j2:decide ((p:Int)<(M:Int))=true:=by simp;omega
      have j3:decide (p<M)=true:=by simpa using hpm
      clear hpm
      have kd:=fun {o:Nat} {u:Value} (h:w.cell? ⟨bb,o,none⟩=some u)=>(B.out.cell (p:=⟨bb,o,none⟩) (Nat.lt_of_lt_of_le l2 B1.out.size)).trans ((B1.out.cell (p:=⟨bb,o,none⟩) l2).trans h)
      replace d0:=kd d0;replace d1:=kd d1;replace d2:=kd d2;replace d3:=kd d3
      have HD:Hid (∀ w',Below wo.heap.size wo w'→w'.cell? ⟨bb,ob+p*4,none⟩=some (.int .u8 u.k)∧w'.cell? ⟨bb,ob+p*4+1,none⟩=some (.int .i64 u.c)∧w'.cell? ⟨bb,ob+p*4+2,none⟩=some (.int .i64 u.s)∧w'.cell? ⟨bb,ob+p*4+3,none⟩=some (.int .i64 u.e)):=Lib.hid (fun w' h=>by
       have lt:bb<wo.heap.size:=Nat.lt_of_lt_of_le (Nat.lt_of_lt_of_le l2 B1.out.size) B.out.size
       exact ⟨(h.cell (p:=⟨bb,_,none⟩) lt).trans d0,(h.cell (p:=⟨bb,_,none⟩) lt).trans d1,(h.cell (p:=⟨bb,_,none⟩) lt).trans d2,(h.cell (p:=⟨bb,_,none⟩) lt).trans d3⟩)
      clear kd d0 d1 d2 d3 l2
      go_upto_region 11 with (go_at_call 21;(with_reducible refine PC.mono ?_);rintro e8 w8 ⟨rfl,q8⟩;have N8:=Lib.hid (N7.out.below q8);have U8:=Lib.hid (U7.out.below q8);have Q8:=Lib.hid (bt Q7.out q8);clear q8 PC U7 Q7 N7 e0 e1 e2)
      obtain ⟨d0,d1,d2,d3⟩:=HD.out w8 Q8.out
      have f0:=U8.out.f 0;have f1:=U8.out.f 1;have f2:=U8.out.f 2;have f3:=U8.out.f 3;have g0:=U8.out.c0;have g1:=U8.out.c1;have g2:=U8.out.c2;have g3:=U8.out.c3
      go_upto_region 13 with fail
      obtain ⟨W9,hW9⟩:∃ W,Hid ((((w8.setCell ⟨iU,0,none⟩ (.int .u8 u.k)).setCell ⟨iU,1,none⟩ (.int .i64 u.c)).setCell ⟨iU,2,none⟩ (.int .i64 u.s)).setCell ⟨iU,3,none⟩ (.int .i64 u.e)=W):=⟨_,Lib.hid rfl⟩
      rw [hW9.out]
      have U9:Hid (Four W9 iU u):=Lib.hid (by rw [←hW9.out];exact U8.out.set _ _ _ _)
      have Q9:Hid (Below wo.heap.size wo W9):=Lib.hid (by rw [←hW9.out];exact below_set4o Q8.out LU0.out _ _ _ _ _ _ _ _)
      have N9:Hid (Nine W9 iN n):=Lib.hid (by rw [←hW9.out];exact (heap_set4 HNU.out _ _ _ _ _ _ _ _).trans N8.out)
      clear hW9 d0 d1 d2 d3 f0 f1 f2 f3 g0 g1 g2 g3 U8 Q8 N8
      have g0:=U9.out.c0;have g1:=U9.out.c1;have g2:=U9.out.c2;have g3:=U9.out.c3
      cases hm:mayV u
      ·rw [hm] at MC
       have EO:=Lib.hid (own_bad hro.out HU.out hm)
       clear hm
       go_wp2_with (first | (go_at_call 22;(with_reducible refine (MC _).mono ?_);rintro e10 w10 ⟨rfl,q10⟩;have N10:=Lib.hid (N9.out.below q10);have U10:=Lib.hid (U9.out.below q10);have Q10:=Lib.hid (bt Q9.out q10);clear q10 MC U9 Q9 N9;clear g0 g1 g2 g3) | (go_at_call 23;(with_reducible refine (bad_vp (w:=_) 13).mono ?_);rintro e11 w11 ⟨rfl,q11⟩;have N11:=Lib.hid (N10.out.below q11);have U11:=Lib.hid (U10.out.below q11);have Q11:=Lib.hid (bt Q10.out q11);clear q11 U10 Q10 N10;have f0:=U11.out.f 0;have f1:=U11.out.f 1;have f2:=U11.out.f 2;have f3:=U11.out.f 3;have h0:=U11.out.c0;have h1:=U11.out.c1;have h2:=U11.out.c2;have h3:=U11.out.c3))
       go_meet
       case rel=>exact ⟨by rw [EO.out];exact U11.out.set _ _ _ _,(heap_set4 HNU.out _ _ _ _ _ _ _ _).trans N11.out,below_set4o Q11.out LU0.out _ _ _ _ _ _ _ _⟩
      ·rw [hm] at MC
       have EO:=Lib.hid (own_may hro.out HU.out hm)
       clear hm
       go_wp2_with (go_at_call 22;(with_reducible refine (MC _).mono ?_);rintro e10 w10 ⟨rfl,q10⟩;have N10:=Lib.hid (N9.out.below q10);have U10:=Lib.hid (U9.out.below q10);have Q10:=Lib.hid (bt Q9.out q10);clear q10 MC U9 Q9 N9;clear g0 g1 g2 g3)
       go_meet
       case rel=>exact ⟨by rw [EO.out];exact U10.out,N10.out,Q10.out⟩
     ·have HU:Hid ((vals[l.idxOf q]?).getD noV=noV):=Lib.hid (by rw [hp.out,List.getElem?_eq_none (by rw [hM.out];omega)];rfl)
      have EO:=Lib.hid (own_may hro.out HU.out may_noV)
      have MC:∀ w,Calls Tryz.prog 22 #[.agg #[.int .u8 0,.int .i64 0,.int .i64 0,.int .i64 0]] w fun e w'=>e=.returned (.bool true)∧Below w.heap.size w w':=fun w=>may_is (w:=w) noV fine_no.ok
      have j2:decide ((p:Int)<(M:Int))=false:=by simp;omega
      have j3:decide (p<M)=false:=by simpa using hpm
      clear hpm
      go_wp2_with (first | (go_at_call 21;(with_reducible refine PC.mono ?_);rintro e8 w8 ⟨rfl,q8⟩;have N8:=Lib.hid (N7.out.below q8);have U8:=Lib.hid (U7.out.below q8);have Q8:=Lib.hid (bt Q7.out q8);clear q8 PC U7 Q7 N7 e0 e1 e2;have g0:w8.cell? ⟨iU,0,none⟩=some (.int .u8 0):=U8.out.c0;have g1:w8.cell? ⟨iU,1,none⟩=some (.int .i64 0):=U8.out.c1;have g2:w8.cell? ⟨iU,2,none⟩=some (.int .i64 0):=U8.out.c2;have g3:w8.cell? ⟨iU,3,none⟩=some (.int .i64 0):=U8.out.c3) | (go_at_call 22;(with_reducible refine (MC _).mono ?_);rintro e10 w10 ⟨rfl,q10⟩;have N10:=Lib.hid (N8.out.below q10);have U10:=Lib.hid (U8.out.below q10);have Q10:=Lib.hid (bt Q8.out q10);clear q10 MC U8 Q8 N8;clear g0 g1 g2 g3))
      go_meet
      case rel=>exact ⟨by rw [EO.out];exact U10.out,N10.out,Q10.out⟩
   case rest=>
    obtain ⟨hU,hN9,hQ⟩:=hcut
    have Uc:=Lib.hid hU;have Qc:=Lib.hid hQ;have Nc:=Lib.hid hN9
    clear hU hQ U7 Q7 O7 hro hN9 N7
    obtain ⟨u,hu⟩:∃ u,Hid (ownV l vals n=u):=⟨_,Lib.hid rfl⟩
    rw [hu.out] at Uc HS
    have FU:Hid (V.fine u):=Lib.hid (by rw [←hu.out];exact own_fine HOK.out n)
    go_upto_region 16 with fail
    obtain ⟨W8,iK,hW,hX,_,BK,LK,_,_⟩:=mk1 wc (.cells #[.int .u8 0,.int .i64 0,.int .i64 0,.int .i64 0,.int .u8 0,.int .i64 0,.int .i64 0,.int .i64 0,.int .u8 0,.int .i64 0,.int .i64 0,.int .i64 0] 54)
    have K8:Hid (AllR 54 W8 iK 3 (fun _=>noV)):=Lib.hid (by rw [←hW.out,←hX.out];exact AllR.kids wc)
    rw [hW.out]
    try rw [hX.out]
    clear hW hX
    have N8:=Lib.hid (Nc.out.below BK.out)
    have x0:=N8.out.c5;have x1:=N8.out.c6;have x2:=N8.out.c7
    go_wp2_with fail
    clear x0 x1 x2 N8
    go_loopw [52] (fun i wr=>∃ (j:Nat),i=.int .i64 (j:Int)∧j≤3∧Hid (AllR 54 wr iK 3 (fun r=>if r<j then kidV A (kidX n r) else noV))∧Hid (Below wc.heap.size wc wr)) (fun i _=>3 - (intOf i).toNat)
    case atStart=>exact ⟨0,rfl,by omega,K8.out.congr (fun j _=>by simp),BK.out⟩
    case round=>
     clear K8 BK
     obtain ⟨wi,rfl⟩:∃ wi:World,wi=wr:=⟨_,rfl⟩
     obtain ⟨j,rfl,hj,KR,BI⟩:=hrel
     have AW:=Lib.hid ((AR.out.below Qc.out).below BI.out)
     have QI:=Lib.hid (bt Qc.out BI.out)
     by_cases hj3:j<3
     ·obtain ⟨xj,hxj⟩:∃ x,Hid (kidX n j=x):=⟨_,Lib.hid rfl⟩
      have ixf0:∀ w,(Instr.index 37 (.agg #[.int .i64 n.x,.int .i64 n.y,.int .i64 n.z]) (.int .i64 0)).run Tryz.prog w=.ok (.int .i64 n.x) w:=fun w=>by kernel_rfl
      have ixf1:∀ w,(Instr.index 37 (.agg #[.int .i64 n.x,.int .i64 n.y,.int .i64 n.z]) (.int .i64 1)).run Tryz.prog w=.ok (.int .i64 n.y) w:=fun w=>by kernel_rfl
      have ixf2:∀ w,(Instr.index 37 (.agg #[.int .i64 n.x,.int .i64 n.y,.int .i64 n.z]) (.int .i64 2)).run Tryz.prog w=.ok (.int .i64 n.z) w:=fun w=>by kernel_rfl
      have ixf:∀ w,(Instr.index 37 (.agg #[.int .i64 n.x,.int .i64 n.y,.int .i64 n.z]) (.int .i64 (j:Int))).run Tryz.prog w=.ok (.int .i64 xj) w:=by
       intro w
       rw [←hxj.out]
       match j,hj3 with
       | 0,_=>exact ixf0 w
       | 1,_=>exact ixf1 w
       | 2,_=>exact ixf2 w
      clear ixf0 ixf1 ixf2
      have y0:(0:Int)≤(j:Int):=by omega
      have y1:(j:Int)<3:=by omega
      have y2:decide ((j:Int)<3)=true:=by simp;omega
      have y3:decide (j<3)=true:=by simpa using hj3
      have yw:IntKind.i64.wrap ((j:Int)+1)=(j:Int)+1:=wrap1 j (by omega)
      have HJ:=Lib.hid hj3
      clear hj3 hj
      by_cases hx0:0≤xj
      ·obtain ⟨m,rfl⟩:∃ m:Nat,xj=(m:Int):=⟨xj.toNat,by omega⟩
       have z0:decide ((0:Int)≤(m:Int))=true:=by simp
       have z1:decide ((m:Int) ≥ 0)=true:=by simp
       have z2:(0:Int)≤(m:Int):=by omega
       by_cases hmk:m<k
       ·obtain ⟨v,hv⟩:∃ v,Hid (kidV A (m:Int)=v):=⟨_,Lib.hid rfl⟩
        have hmN:m<N:=by have:=HK.out;omega
        obtain ⟨a0,a1,a2,a3⟩:=AW.out.at hmN ((kid_in (x:=(m:Int)) HLen.out rfl).symm.trans hv.out)
        have s0:decide ((m:Int)<(k:Int))=true:=by simp;omega
        have s1:decide (m<k)=true:=by simpa using hmk
        have s2:(m:Int)<(N:Int):=by omega
        have KS:=Lib.hid ((KR.out.set HJ.out v).congr (G:=fun r=>if r<j+1 then kidV A (kidX n r) else noV) (fun r _=>by have h:=kids_done (A:=A) hxj.out r;rw [hv.out] at h;exact h))
        obtain ⟨b0,b1,b2,b3⟩:=KR.out.at HJ.out rfl
        have f0:=KR.out.f (j*4);have f1:=KR.out.f (j*4+1);have f2:=KR.out.f (j*4+2);have f3:=KR.out.f (j*4+3)
        have BS:=Lib.hid (below_set4o BI.out LK.out (j*4) (j*4+1) (j*4+2) (j*4+3) (.int .u8 v.k) (.int .i64 v.c) (.int .i64 v.s) (.int .i64 v.e))
        clear hmk hmN hx0 KR BI
        go_wp2_with fail
        refine ⟨⟨j+1,rfl,HJ.out,KS.out,BS.out⟩,?_⟩
        show 3 - ((j:Int)+1).toNat<3 - (j:Int).toNat;have:=HJ.out;omega
       ·have KS:=Lib.hid (KR.out.congr (fun r _=>kids_skip hxj.out (kid_out HLen.out (by omega)) r))
        have s0:decide ((m:Int)<(k:Int))=false:=by simp;omega
        have s1:decide (m<k)=false:=by simpa using hmk
        clear hmk hx0 KR
        go_wp2_with fail
        refine ⟨⟨j+1,rfl,HJ.out,KS.out,BI.out⟩,?_⟩
        show 3 - ((j:Int)+1).toNat<3 - (j:Int).toNat;have:=HJ.out;omega
      ·have KS:=Lib.hid (KR.out.congr (fun r _=>kids_skip hxj.out (kid_neg hx0) r))
       have z0:decide ((0:Int)≤xj)=false:=decide_eq_false hx0
       have z1:decide (xj ≥ 0)=false:=decide_eq_false hx0
       clear hx0 KR
       go_wp2_with fail
       refine ⟨⟨j+1,rfl,HJ.out,KS.out,BI.out⟩,?_⟩
       show 3 - ((j:Int)+1).toNat<3 - (j:Int).toNat;have:=HJ.out;omega
     ·obtain rfl:j=3:=by omega
      obtain ⟨a,ha⟩:∃ v,Hid (kidV A n.x=v):=⟨_,Lib.hid rfl⟩
      obtain ⟨b,hb⟩:∃ v,Hid (kidV A n.y=v):=⟨_,Lib.hid rfl⟩
      obtain ⟨d,hd⟩:∃ v,Hid (kidV A n.z=v):=⟨_,Lib.hid rfl⟩
      have K3':=Lib.hid (KR.out.k3 ha.out hb.out hd.out)
      have FA:Hid (V.fine a):=Lib.hid (by rw [←ha.out];exact kid_fine AF.out _)
      have FB:Hid (V.fine b):=Lib.hid (by rw [←hb.out];exact kid_fine AF.out _)
      rw [ha.out,hb.out,hd.out] at HS
      obtain ⟨r,hr⟩:∃ r,Hid (nodeV n u a b d=r):=⟨_,Lib.hid rfl⟩
      rw [hr.out] at HS
      have HS2:Hid (A++[r]=upV l vals t (k+1)):=Lib.hid HS.out.symm
      have y2:decide ((3:Int)<3)=false:=by decide
      have UI:=Lib.hid (Uc.out.below BI.out);have NI:=Lib.hid (Nc.out.below BI.out)
      clear KR hj hj3 HS
      have LI:Hid (Four wi iL ((A.getLast?).getD noV)):=Lib.hid ((LR.out.below Qc.out).below BI.out)
      go_upto_region 22 with fail
      have ND:=fun w (h:K3 w iK a b d)=>node_vp (w:=w) (v:=u) n iK NOK.out FA.out FB.out h
      simp only [hr.out] at ND
      have ND2:=ND wi.drew (K3'.out.below (drb wi))
      clear ND
      have Nd:=Lib.hid (NI.out.below (drb wi));have Ud:=Lib.hid (UI.out.below (drb wi));have Ld:=Lib.hid (LI.out.below (drb wi));have Ad:=Lib.hid (AW.out.below (drb wi))
      have HNL:Hid (¬iN=iL):=Lib.hid (by have:=LN0.out;have:=LR.out.lt;omega)
      have HUL:Hid (¬iU=iL):=Lib.hid (by have:=LU0.out;have:=LR.out.lt;omega)
      have _s:=True.intro
      have HS0:(fun w':World=>w'.cell? ⟨iN,0,none⟩=some (.int .u8 n.op)∧w'.cell? ⟨iN,1,none⟩=some (.int .i64 n.c)∧w'.cell? ⟨iN,2,none⟩=some (.int .i64 n.s)∧w'.cell? ⟨iN,3,none⟩=some (.string (bs n.n))∧w'.cell? ⟨iN,4,none⟩=some (.int .i64 n.k)∧w'.cell? ⟨iN,5,none⟩=some (.int .i64 n.x)∧w'.cell? ⟨iN,6,none⟩=some (.int .i64 n.y)∧w'.cell? ⟨iN,7,none⟩=some (.int .i64 n.z)∧w'.cell? ⟨iN,8,none⟩=some (.int .i64 n.p)∧w'.cell? ⟨iU,0,none⟩=some (.int .u8 u.k)∧w'.cell? ⟨iU,1,none⟩=some (.int .i64 u.c)∧w'.cell? ⟨iU,2,none⟩=some (.int .i64 u.s)∧w'.cell? ⟨iU,3,none⟩=some (.int .i64 u.e)) wi.drew:=⟨Nd.out.c0,Nd.out.c1,Nd.out.c2,Nd.out.c3,Nd.out.c4,Nd.out.c5,Nd.out.c6,Nd.out.c7,Nd.out.c8,Ud.out.c0,Ud.out.c1,Ud.out.c2,Ud.out.c3⟩
      go_region_held3 (fun w'=>w'.cell? ⟨iN,0,none⟩=some (.int .u8 n.op)∧w'.cell? ⟨iN,1,none⟩=some (.int .i64 n.c)∧w'.cell? ⟨iN,2,none⟩=some (.int .i64 n.s)∧w'.cell? ⟨iN,3,none⟩=some (.string (bs n.n))∧w'.cell? ⟨iN,4,none⟩=some (.int .i64 n.k)∧w'.cell? ⟨iN,5,none⟩=some (.int .i64 n.x)∧w'.cell? ⟨iN,6,none⟩=some (.int .i64 n.y)∧w'.cell? ⟨iN,7,none⟩=some (.int .i64 n.z)∧w'.cell? ⟨iN,8,none⟩=some (.int .i64 n.p)∧w'.cell? ⟨iU,0,none⟩=some (.int .u8 u.k)∧w'.cell? ⟨iU,1,none⟩=some (.int .i64 u.c)∧w'.cell? ⟨iU,2,none⟩=some (.int .i64 u.s)∧w'.cell? ⟨iU,3,none⟩=some (.int .i64 u.e))
       (first | with_reducible exact HS0 | with_reducible assumption | with_reducible exact HS8 _ _ _ _)
       (first | (go_at_call 24;(with_reducible refine ND2.mono ?_);rintro e8 w8 ⟨rfl,q8⟩;have N8:=Lib.hid (Nd.out.below q8);have U8:=Lib.hid (Ud.out.below q8);have L8:=Lib.hid (Ld.out.below q8);have A8:=Lib.hid (Ad.out.below q8);have Q8:=Lib.hid (bt (QI.out.drew) q8);have HS7:w8.cell? ⟨iN,0,none⟩=some (.int .u8 n.op)∧w8.cell? ⟨iN,1,none⟩=some (.int .i64 n.c)∧w8.cell? ⟨iN,2,none⟩=some (.int .i64 n.s)∧w8.cell? ⟨iN,3,none⟩=some (.string (bs n.n))∧w8.cell? ⟨iN,4,none⟩=some (.int .i64 n.k)∧w8.cell? ⟨iN,5,none⟩=some (.int .i64 n.x)∧w8.cell? ⟨iN,6,none⟩=some (.int .i64 n.y)∧w8.cell? ⟨iN,7,none⟩=some (.int .i64 n.z)∧w8.cell? ⟨iN,8,none⟩=some (.int .i64 n.p)∧w8.cell? ⟨iU,0,none⟩=some (.int .u8 u.k)∧w8.cell? ⟨iU,1,none⟩=some (.int .i64 u.c)∧w8.cell? ⟨iU,2,none⟩=some (.int .i64 u.s)∧w8.cell? ⟨iU,3,none⟩=some (.int .i64 u.e):=⟨N8.out.c0,N8.out.c1,N8.out.c2,N8.out.c3,N8.out.c4,N8.out.c5,N8.out.c6,N8.out.c7,N8.out.c8,U8.out.c0,U8.out.c1,U8.out.c2,U8.out.c3⟩;have HS8:∀ x0 x1 x2 x3,(fun w':World=>w'.cell? ⟨iN,0,none⟩=some (.int .u8 n.op)∧w'.cell? ⟨iN,1,none⟩=some (.int .i64 n.c)∧w'.cell? ⟨iN,2,none⟩=some (.int .i64 n.s)∧w'.cell? ⟨iN,3,none⟩=some (.string (bs n.n))∧w'.cell? ⟨iN,4,none⟩=some (.int .i64 n.k)∧w'.cell? ⟨iN,5,none⟩=some (.int .i64 n.x)∧w'.cell? ⟨iN,6,none⟩=some (.int .i64 n.y)∧w'.cell? ⟨iN,7,none⟩=some (.int .i64 n.z)∧w'.cell? ⟨iN,8,none⟩=some (.int .i64 n.p)∧w'.cell? ⟨iU,0,none⟩=some (.int .u8 u.k)∧w'.cell? ⟨iU,1,none⟩=some (.int .i64 u.c)∧w'.cell? ⟨iU,2,none⟩=some (.int .i64 u.s)∧w'.cell? ⟨iU,3,none⟩=some (.int .i64 u.e)) ((((w8.setCell ⟨iL,0,none⟩ x0).setCell ⟨iL,1,none⟩ x1).setCell ⟨iL,2,none⟩ x2).setCell ⟨iL,3,none⟩ x3):=fun x0 x1 x2 x3=>(fun (Nx:Nine ((((w8.setCell ⟨iL,0,none⟩ x0).setCell ⟨iL,1,none⟩ x1).setCell ⟨iL,2,none⟩ x2).setCell ⟨iL,3,none⟩ x3) iN n) (Ux:Four ((((w8.setCell ⟨iL,0,none⟩ x0).setCell ⟨iL,1,none⟩ x1).setCell ⟨iL,2,none⟩ x2).setCell ⟨iL,3,none⟩ x3) iU u)=>⟨Nx.c0,Nx.c1,Nx.c2,Nx.c3,Nx.c4,Nx.c5,Nx.c6,Nx.c7,Nx.c8,Ux.c0,Ux.c1,Ux.c2,Ux.c3⟩) ((heap_set4 HNL.out _ _ _ _ _ _ _ _).trans N8.out) ((heap_set4 HUL.out _ _ _ _ _ _ _ _).trans U8.out);have Lc0:=L8.out.c0;have Lf0:=L8.out.f 0;have Lc1:=L8.out.c1;have Lf1:=L8.out.f 1;have Lc2:=L8.out.c2;have Lf2:=L8.out.f 2;have Lc3:=L8.out.c3;have Lf3:=L8.out.f 3;clear q8 ND2 N8 U8))
      clear Lc0 Lc1 Lc2 Lc3 Lf0 Lf1 Lf2 Lf3 HS0 HS7 HS8
      go_upto_region 23 with fail
      obtain ⟨W9,hW9⟩:∃ W,Hid ((((w8.setCell ⟨iL,0,none⟩ (.int .u8 r.k)).setCell ⟨iL,1,none⟩ (.int .i64 r.c)).setCell ⟨iL,2,none⟩ (.int .i64 r.s)).setCell ⟨iL,3,none⟩ (.int .i64 r.e)=W):=⟨_,Lib.hid rfl⟩
      rw [hW9.out]
      have L9:Hid (Four W9 iL r):=Lib.hid (by rw [←hW9.out];exact L8.out.set _ _ _ _)
      have A9:Hid (AllR 33 W9 gA N (rowF A)):=Lib.hid (A8.out.keep (by rw [←hW9.out];exact heap_set4 LAL.out _ _ _ _ _ _ _ _))
      have B8:Hid (Below w1.heap.size w1 w8):=Lib.hid (bt B.out Q8.out)
      have B9:Hid (Below w1.heap.size w1 W9):=Lib.hid (by rw [←hW9.out];exact below_set4o B8.out LL1.out _ _ _ _ _ _ _ _)
      clear hW9 L8 A8 Q8 B8
      have g0:=L9.out.c0;have g1:=L9.out.c1;have g2:=L9.out.c2;have g3:=L9.out.c3
      obtain ⟨a0,a1,a2,a3⟩:=A9.out.at HK.out rfl
      have f0:=A9.out.f (k*4);have f1:=A9.out.f (k*4+1);have f2:=A9.out.f (k*4+2);have f3:=A9.out.f (k*4+3)
      go_wp2_with fail
      refine ⟨⟨k+1,A++[r],rfl,HK.out,HS2.out,(A9.out.set HK.out r).congr (fun q _=>rowF_snoc HLen.out r q),?_,below_set4o B9.out LA.out _ _ _ _ _ _ _ _⟩,?_⟩
      ·show Four _ iL (((A++[r]).getLast?).getD noV)
       rw [last_snoc]
       exact (heap_set4 (fun e=>LAL.out e.symm) _ _ _ _ _ _ _ _).trans L9.out
      ·show N - ((k:Int)+1).toNat<N - (k:Int).toNat;have:=HK.out;omega
  ·obtain rfl:k=N:=by omega
   have i2:decide ((k:Int)<(k:Int))=false:=by simp
   have RW:=Lib.hid (R1.out.below B.out)
   have f0:=RW.out.f 0;have f1:=RW.out.f 1;have f2:=RW.out.f 2;have f3:=RW.out.f 3;have b0:=RW.out.c0;have b1:=RW.out.c1;have b2:=RW.out.c2;have b3:=RW.out.c3
   have EV:(A.getLast?).getD noV=res:=by rw [HE.out,←hl.out,upV_all (by rw [hN.out];exact Nat.le_refl _)];exact hres.out
   rw [EV] at LR
   have g0:=LR.out.c0;have g1:=LR.out.c1;have g2:=LR.out.c2;have g3:=LR.out.c3
   clear EV hk hkl HE
   go_wp2_with fail
   refine bodyPost_ret (v:=.agg #[.int .u8 _,.int .i64 _,.int .i64 _,.int .i64 _]) (results_cell_row (fn:=Tryz.f9) (p:=4) rfl _ _ iR _ _ (0,0) _ rfl (RW.out.set _ _ _ _) Tryz.underlying33 rfl (by kernel_rfl)) rfl ?_
   exact ⟨rfl,below_set4 (bt B1.out B.out) LRR.out _ _ _ _⟩
end Go.Proofs.YteagpbkbdlmdiaaGreat.Ev
namespace Go.Proofs.YteagpbkbdlmdiaaGreat.Va
open Go Go.RowKit Dt Tx
open Go.ChangeMaps (setBlock)
attribute [local go_sem ↓] Go.wp_at_zero Go.wp_at_succ
theorem below_setBlock {B r:Nat} {w0 w:World} (h:Below B w0 w) (hr:B≤r) (o:Obj):Below B w0 (setBlock w r o):=by
 refine ⟨h.1,h.2,h.3,by have:=h.size;simpa [setBlock] using this,fun i hi=>?_⟩
 show (w.heap.setIfInBounds r o)[i]?=_
 rw [Array.getElem?_setIfInBounds_ne (by omega)]
 exact h.block i hi
structure Rng (w:World) (b r:Nat) (es:Array MapEntry) (clk:Nat) (L:List UInt8):Prop where
 mp:w.heap[b]?=some (.map es clk)
 it:∃ seen,w.heap[r]?=some (.mapIter (some b) clk seen clk)∧∀ x ∈ es.toList,seen.contains x.born=true→x.val ≠ .string (bs L)
def leftM (w:World) (b r:Nat):Nat:=
 match w.heap[b]?,w.heap[r]? with
 | some (.map es _),some (.mapIter _ _ seen _)=>(leftOf es seen).size
 | _,_=>0
structure Six (es:Array MapEntry) (clk:Nat):Prop where
 born:∀ x ∈ es.toList,x.born<clk
 nd:(es.toList.map (·.born)).Nodup
 perm:(es.toList.map kv).Perm sixT
theorem bs_inj {a b:List UInt8} (h:bs a=bs b):a=b:=by
 have:=congrArg (fun x:ByteArray=>x.data.toList) h
 simpa [bs_list] using this
theorem Six.entry {es:Array MapEntry} {clk:Nat} (h:Six es clk) {e:MapEntry} (he:e ∈ es.toList):∃ v l,(v,l) ∈ six∧e.key=vv v∧e.val=.string (bs l):=by
 have m:kv e ∈ sixT:=h.perm.mem_iff.1 (List.mem_map.2 ⟨e,he,rfl⟩)
 obtain ⟨⟨v,l⟩,hm,e1⟩:=List.mem_map.1 m
 exact ⟨v,l,hm,(congrArg Prod.fst e1).symm,(congrArg Prod.snd e1).symm⟩
theorem Rng.over {w:World} {b r:Nat} {es:Array MapEntry} {clk:Nat} {L:List UInt8} (h6:Six es clk) (hall:∀ x ∈ es.toList,x.val ≠ .string (bs L)):lookW L six=none:=by
 cases hl:lookW L six with
 | none=>rfl
 | some v=>
  exfalso
  have m:(vv v,Value.string (bs L)) ∈ sixT:=List.mem_map.2 ⟨(v,L),lookW_six hl,rfl⟩
  obtain ⟨e,he,e1⟩:=List.mem_map.1 (h6.perm.mem_iff.2 m)
  exact hall e he (congrArg Prod.snd e1)
theorem Rng.step {w:World} {b r:Nat} {es:Array MapEntry} {clk:Nat} {L:List UInt8} (h6:Six es clk) (h:Rng w b r es clk L) (hbr:b<r) :
  ((∀ ty,(Instr.next (.pointer (some ⟨r,0,none⟩)) false ty).run Tryz.prog w=.ok (.tuple #[.bool false]) w)∧lookW L six=none)∨
  ∃ v l wn,(v,l) ∈ six∧(∀ ty,(Instr.next (.pointer (some ⟨r,0,none⟩)) false ty).run Tryz.prog w=.ok (.tuple #[.bool true,vv v,.string (bs l)]) wn)∧(Instr.entry (.pointer (some ⟨r,0,none⟩))).run Tryz.prog wn=.ok (.tuple #[vv v,.string (bs l)]) wn∧
   (∀ B,B≤r→∀ w0,Below B w0 w→Below B w0 wn)∧(l ≠ L→Rng wn b r es clk L)∧leftM wn b r<leftM w b r∧(∀ i,i ≠ r→wn.heap[i]?=w.heap[i]?):=by
 obtain ⟨seen,hr,hs⟩:=h.it
 have hb:=h.mp
 rcases run_next_at (P:=Tryz.prog) w 0 r b clk clk seen es clk hr hb h6.born (Nat.le_refl _) with ⟨h0,hrun⟩ | ⟨e,he,w1,hw1,hrun⟩
 ·exact .inl ⟨fun _=>hrun,Rng.over (w:=w) (b:=b) (r:=r) h6 fun x hx=>hs x hx (all_seen es seen h0 x hx)⟩
 ·obtain ⟨hem,hns⟩:=mem_left he
  obtain ⟨v,l,hm,hk,hv⟩:=h6.entry hem
  have hh:w1.heap=w.heap:=by rcases hw1 with rfl | rfl<;>rfl
  have hlt:r<w.heap.size:=(Array.getElem?_eq_some_iff.1 hr).1
  have hn:(setBlock w1 r (.mapIter (some b) clk (seen.push e.born) clk)).heap[r]?=some (.mapIter (some b) clk (seen.push e.born) clk):=by
   show (w1.heap.setIfInBounds r _)[r]?=_
   rw [hh];simp [hlt]
  have ho:∀ i,i ≠ r→(setBlock w1 r (.mapIter (some b) clk (seen.push e.born) clk)).heap[i]?=w.heap[i]?:=fun i hi=>by
   show (w1.heap.setIfInBounds r _)[i]?=_
   rw [hh,Array.getElem?_setIfInBounds_ne (by omega)]
  have hbn:=(ho b (by omega)).trans hb
  refine .inr ⟨v,l,_,hm,fun _=>by rw [←hk,←hv];exact hrun,?_,?_,?_,?_,ho⟩
  ·rw [←hk,←hv]
   exact run_entry_at _ r b clk seen es clk e hn hbn hem h6.nd
  ·intro B hB w0 hw
   refine below_setBlock ?_ hB _
   rcases hw1 with rfl | rfl
   ·exact hw
   ·exact hw.drew
  ·intro hne
   refine ⟨hbn,_,hn,fun x hx hc hxv=>?_⟩
   rw [contains_push] at hc
   rcases Bool.or_eq_true_iff.1 hc with hc | hc
   ·exact hs x hx hc hxv
   ·have:x=e:=born_inj h6.nd hx hem (by simpa using hc)
    subst this
    rw [hv] at hxv
    exact hne (bs_inj (Value.string.inj hxv))
  ·unfold leftM
   rw [hbn,hn,hb,hr]
   exact left_shrinks es seen e he
theorem Rng.below {w w':World} {b r:Nat} {es:Array MapEntry} {clk:Nat} {L:List UInt8} (h:Rng w b r es clk L) (k:Below w.heap.size w w'):Rng w' b r es clk L:=by
 obtain ⟨seen,hr,hs⟩:=h.it
 exact ⟨(k.block b (Array.getElem?_eq_some_iff.1 h.mp).1).trans h.mp,seen,(k.block r (Array.getElem?_eq_some_iff.1 hr).1).trans hr,hs⟩
theorem Rng.lt {w:World} {b r:Nat} {es:Array MapEntry} {clk:Nat} {L:List UInt8} (h:Rng w b r es clk L):r<w.heap.size:=by
 obtain ⟨seen,hr,hs⟩:=h.it
 exact (Array.getElem?_eq_some_iff.1 hr).1
end Go.Proofs.YteagpbkbdlmdiaaGreat.Va
namespace Go.Proofs.YteagpbkbdlmdiaaGreat.Va
open Go Go.RowKit Dt Tx
attribute [local go_sem ↓] Go.wp_at_zero Go.wp_at_succ
def rmay (v:V):Bool:=
 if v.k=0∨v.k=2∨v.k=3 then decide (v.c=0∧v.s=0) && decide (v.e=0)
 else if v.k=1 then mayB v.c v.s && decide (v.e=0)
 else if v.k=4 then decide (v.c=0∧v.s=0) && (decide (v.e=11) || decide (v.e=12) || decide (v.e=13))
 else false
theorem rmay_eq (v:V):rmay v=mayV v:=by
 obtain ⟨k,c,s,e⟩:=v
 unfold rmay mayV isNum
 simp only [six,lookV,V.mk.injEq]
 by_cases k0:k=0
 ·subst k0;by_cases hc:c=0<;>by_cases hs:s=0<;>by_cases he:e=0<;>simp [hc,hs,he]
 by_cases k1:k=1
 ·subst k1;by_cases he:e=0<;>simp [he]
 by_cases k2:k=2
 ·subst k2;by_cases hc:c=0<;>by_cases hs:s=0<;>by_cases he:e=0<;>simp [hc,hs,he]
 by_cases k3:k=3
 ·subst k3;by_cases hc:c=0<;>by_cases hs:s=0<;>by_cases he:e=0<;>simp [hc,hs,he]
 by_cases k4:k=4
 ·subst k4;by_cases hc:c=0<;>by_cases hs:s=0<;>by_cases h1:e=11<;>by_cases h2:e=12<;>by_cases h3:e=13<;>simp [hc,hs,h1,h2,h3]
 ·simp [k0,k1,k2,k3,k4]
set_option maxRecDepth 100000 in
set_option maxHeartbeats 1000000 in
theorem rmay_is {w:World} (v:V) (hv:v.ok):Calls Tryz.prog 12 #[.agg #[.int .u8 v.k,.int .i64 v.c,.int .i64 v.s,.int .i64 v.e]] w fun e w'=>e=.returned (.bool (mayV v))∧Below w.heap.size w w':=by
 rw [←rmay_eq]
 have D:=fun w=>rMay_any v.c v.s w hv.2.1
 have X:=Lib.hid ((Four.new w v).below (ba _ (.cells #[.int .i64 0,.int .i64 0] 30)))
 have T:=Lib.hid (Two.new (w.alloc (.cells #[.int .u8 v.k,.int .i64 v.c,.int .i64 v.s,.int .i64 v.e] 33)) 0 0)
 have B:=Lib.hid (bt (ba w (.cells #[.int .u8 v.k,.int .i64 v.c,.int .i64 v.s,.int .i64 v.e] 33)) (ba _ (.cells #[.int .i64 0,.int .i64 0] 30)))
 obtain ⟨k,c,s,e⟩:=v
 simp only at D X T B⊢
 unfold rmay
 simp only
 obtain ⟨MB,hMB⟩:∃ b,Hid (mayB c s=b):=⟨_,rfl⟩
 rw [hMB.out] at D⊢
 clear hv hMB
 go_enter Tryz.func12,Tryz.ntmps12
 go_upto_region 2 with fail
 obtain ⟨w1,hw1⟩:∃ v,Hid (v=w.alloc (.cells #[.int .u8 k,.int .i64 c,.int .i64 s,.int .i64 e] 33)):=⟨_,rfl⟩
 obtain ⟨i0,hi0⟩:∃ v,Hid (w.heap.size=v):=⟨_,rfl⟩
 have hs1:w1.heap.size=w.heap.size+1:=by rw [hw1.out];simp
 rw [←hw1.out] at B X T⊢
 obtain ⟨ia,hia⟩:∃ v,Hid (w1.heap.size=v):=⟨_,rfl⟩
 obtain ⟨wa,hwa⟩:∃ v,Hid (v=w1.alloc (.cells #[.int .i64 0,.int .i64 0] 30)):=⟨_,rfl⟩
 rw [←hwa.out] at B X T⊢
 have hs2:w.heap.size+1=ia:=by rw [←hs1];exact hia.out
 rw [hia.out] at T
 first | rw [hs2] | rw [hia.out]
 rw [hi0.out] at X
 clear hw1 hwa hs1
 try rw [hi0.out]
 clear hs2 hi0 hia
 have c0:=X.out.c0;have c1:=X.out.c1;have c2:=X.out.c2;have c3:=X.out.c3
 have d0:=T.out.c0;have d1:=T.out.c1
 simp only at c0 c1 c2 c3
 by_cases k0:k=0
 ·subst k0
  go_wp2_with fail
  all_goals
   go_ret
   exact ⟨by first | rfl | (simp [*];done),B.out⟩
 by_cases k2:k=2
 ·subst k2
  go_wp2_with fail
  all_goals
   go_ret
   exact ⟨by first | rfl | (simp [*];done),B.out⟩
 by_cases k3:k=3
 ·subst k3
  go_wp2_with fail
  all_goals
   go_ret
   exact ⟨by first | rfl | (simp [*];done),B.out⟩
 by_cases k1:k=1
 ·subst k1
  go_wp2_with (go_at_call 28;(with_reducible refine (D _).mono ?_);rintro e7 w7 ⟨rfl,q7⟩;have B7:=Lib.hid (bt B.out q7);have X7:=X.out.below q7;have d0:=X7.c0;have d1:=X7.c1;have d2:=X7.c2;have d3:=X7.c3;simp only at d0 d1 d2 d3;clear q7 D X7)
  all_goals
   go_ret
   exact ⟨by first | rfl | (simp [*];done),B7.out⟩
 by_cases k4:k=4
 ·subst k4
  have key:e=11∨(¬e=11∧e=12)∨(¬e=11∧¬e=12):=by by_cases h:e=11<;>by_cases h':e=12<;>simp [h,h']
  rcases key with h | ⟨h,h'⟩ | ⟨h,h'⟩
  ·subst h
   go_wp2_with fail
   all_goals
    go_ret
    exact ⟨by first | rfl | (simp [*];done),B.out⟩
  ·subst h'
   clear h
   go_wp2_with fail
   all_goals
    go_ret
    exact ⟨by first | rfl | (simp [*];done),B.out⟩
  ·have e1:(e==11)=false:=by simpa using h
   have e2:(e==12)=false:=by simpa using h'
   go_wp2_with fail
   all_goals
    go_ret
    exact ⟨by first | rfl | (simp [*];done),B.out⟩
 go_wp2_with fail
 go_ret
 exact ⟨by first | rfl | (simp [*];done),B.out⟩
end Go.Proofs.YteagpbkbdlmdiaaGreat.Va
namespace Go.Proofs.YteagpbkbdlmdiaaGreat.Ps
open Go Go.RowKit Dt Tx Va Ev Lx
attribute [local go_sem ↓] Go.wp_at_zero Go.wp_at_succ
theorem num_vp {w:World} (n:Int):Calls Tryz.prog 14 #[.int .i64 n] w (VP ⟨1,n,0,0⟩ w):=by
 go_enter Tryz.func14,Tryz.ntmps14
 go_upto_region 1 with fail
 obtain ⟨W0,iR,hW,hR,R0,B0,LR,LI,LS⟩:=mk1 w (.cells #[.int .u8 0,.int .i64 0,.int .i64 0,.int .i64 0] 33)
 rw [hW.out]
 try rw [hR.out]
 clear hW hR
 replace R0:Hid (Four W0 iR noV):=R0
 have Rc0:=R0.out.c0;have Rc1:=R0.out.c1;have Rc2:=R0.out.c2;have Rc3:=R0.out.c3;have Rf0:=R0.out.f 0;have Rf1:=R0.out.f 1;have Rf2:=R0.out.f 2;have Rf3:=R0.out.f 3
 go_wp2_with fail
 refine bodyPost_ret (v:=.agg #[.int .u8 _,.int .i64 _,.int .i64 _,.int .i64 _]) (results_cell_row (fn:=Tryz.f14) (p:=2) rfl _ _ iR _ _ (0,0) _ rfl (R0.out.set _ _ _ _) Tryz.underlying33 rfl (by kernel_rfl)) rfl ?_
 exact ⟨rfl,below_set4 B0.out LR.out _ _ _ _⟩
theorem of_vp {w:World} {vv:Value} {vals:List V} (l:List UInt8) (hl:l.length≤1000) (hL:(lexP l).1.length≤1000) (hT:∀ x ∈ (lexP l).1,x.t.length≤1000) (hv:vaE.Arg w vv vals) (hok:∀ v ∈ vals,v.ok) (hn:(parseR l).1.length≤300) (hno:∀ n ∈ (parseR l).1,n.ok):Calls Tryz.prog 13 #[.string (bs l),vv] w (VP (valueV (parseR l).1 vals) w):=by
 have PC:=fun w=>psdoc_is (w:=w) l hl hL hT
 unfold PaPost at PC
 have VC:=fun (w:World) vt (ht:ndE.Arg w vt (parseR l).1) (ha:vaE.Arg w vv vals)=>value_is (w:=w) ht ha hn hok hno
 obtain ⟨S,hS⟩:∃ S,Hid (bs l=S):=⟨_,Lib.hid rfl⟩
 rw [hS.out] at PC⊢
 obtain ⟨⟨T,e1,e2⟩,hr⟩:∃ r,Hid (parseR l=r):=⟨_,Lib.hid rfl⟩
 rw [hr.out] at PC VC⊢
 obtain ⟨z,hz⟩:∃ z,Hid (valueV T vals=z):=⟨_,Lib.hid rfl⟩
 simp only at PC VC⊢
 rw [hz.out] at VC⊢
 have HV:=Lib.hid hv
 clear hl hL hT hv hok hn hno hS hr hz
 go_enter Tryz.func13,Tryz.ntmps13
 go_upto_region 1 with fail
 obtain ⟨W0,iR,hW,hR,R0,B0,LR,LI,LS⟩:=mk1 w (.cells #[.int .u8 0,.int .i64 0,.int .i64 0,.int .i64 0] 33)
 rw [hW.out]
 try rw [hR.out]
 clear hW hR
 replace R0:Hid (Four W0 iR noV):=R0
 have PC0:=PC W0
 clear PC
 go_upto_region 2 with (go_at_call 29;(with_reducible refine PC0.mono ?_);rintro x1 w1 ⟨v1,rfl,a1,q1⟩;have A1:=Lib.hid a1;have R1:=Lib.hid (R0.out.below q1);have B1:=Lib.hid (bt B0.out q1);clear a1 q1 PC0)
 have VC1:=VC w1 v1 A1.out (HV.out.below B1.out)
 clear VC
 have Rc0:=R1.out.c0;have Rf0:=R1.out.f 0
 clear Rc0 Rf0
 go_wp2_with (go_at_call 9;(with_reducible refine VC1.mono ?_);rintro x2 w2 ⟨rfl,q2⟩;have R2:=Lib.hid (R1.out.below q2);have B2:=Lib.hid (bt B1.out q2);clear q2 VC1;have Rc0:=R2.out.c0;have Rc1:=R2.out.c1;have Rc2:=R2.out.c2;have Rc3:=R2.out.c3;have Rf0:=R2.out.f 0;have Rf1:=R2.out.f 1;have Rf2:=R2.out.f 2;have Rf3:=R2.out.f 3)
 refine bodyPost_ret (v:=.agg #[.int .u8 _,.int .i64 _,.int .i64 _,.int .i64 _]) (results_cell_row (fn:=Tryz.f13) (p:=4) rfl _ _ iR _ _ (0,0) _ rfl (R2.out.set _ _ _ _) Tryz.underlying33 rfl (by kernel_rfl)) rfl ?_
 exact ⟨rfl,below_set4 B2.out LR.out _ _ _ _⟩
def tDiv:List UInt8:=[97,32,47,32,98]
def tAdd:List UInt8:=[97,32,43,32,98]
def tOre:List UInt8:=[111,114,101,108,115,101,40,97,44,32,50,41]
def tOr:List UInt8:=[112,32,111,114,32,113]
def fineB (l:List UInt8):Bool:=decide ((lexP l).1.length≤1000) && (lexP l).1.all (fun x=>decide (x.t.length≤1000)) && decide ((parseR l).1.length≤300) && (parseR l).1.all (fun n=>decide ((0≤n.op∧n.op≤255)∧fits n.c∧fits n.s∧fits n.k∧fits n.x∧fits n.y∧fits n.z∧fits n.p))
theorem fine_div:fineB tDiv=true:=by kernel_rfl
theorem fine_add:fineB tAdd=true:=by kernel_rfl
theorem fine_ore:fineB tOre=true:=by kernel_rfl
theorem fine_or:fineB tOr=true:=by kernel_rfl
theorem val_div:valueV (parseR tDiv).1 [⟨1,1,0,0⟩,⟨1,0,0,0⟩]=badE 12:=by kernel_rfl
theorem val_add:valueV (parseR tAdd).1 [noV,badE 12]=badE 13:=by kernel_rfl
theorem val_ore:valueV (parseR tOre).1 [noV]=⟨1,2,0,0⟩:=by kernel_rfl
theorem val_or:valueV (parseR tOr).1 [truthV true,noV]=truthV true:=by kernel_rfl
theorem of_fine {w:World} {vv:Value} {vals:List V} {l:List UInt8} {z:V} (h:fineB l=true) (hl:l.length≤1000) (hv:vaE.Arg w vv vals) (hok:∀ v ∈ vals,v.ok) (hz:valueV (parseR l).1 vals=z):Calls Tryz.prog 13 #[.string (bs l),vv] w (VP z w):=by
 unfold fineB at h
 simp only [Bool.and_eq_true,decide_eq_true_eq,List.all_eq_true] at h
 rw [←hz]
 exact of_vp l hl h.1.1.1 h.1.1.2 hv hok h.1.2 (fun n hn=>h.2 n hn)
end Go.Proofs.YteagpbkbdlmdiaaGreat.Ps
namespace Go.Proofs.YteagpbkbdlmdiaaGreat.Ps
open Go Go.RowKit Dt Tx Va Ev Lx
attribute [local go_sem ↓] Go.wp_at_zero Go.wp_at_succ
theorem of_tDiv (w:World):Calls Tryz.prog 13 #[.string ⟨#[97,32,47,32,98]⟩,.slice (some ⟨w.heap.size,0,none⟩) 2 2] (w.alloc (.cells #[.int .u8 1,.int .i64 1,.int .i64 0,.int .i64 0,.int .u8 1,.int .i64 0,.int .i64 0,.int .i64 0] 33)) (fun e w'=>e=.returned (.agg #[.int .u8 4,.int .i64 0,.int .i64 0,.int .i64 12])∧Below (w.alloc (.cells #[.int .u8 1,.int .i64 1,.int .i64 0,.int .i64 0,.int .u8 1,.int .i64 0,.int .i64 0,.int .i64 0] 33)).heap.size (w.alloc (.cells #[.int .u8 1,.int .i64 1,.int .i64 0,.int .i64 0,.int .u8 1,.int .i64 0,.int .i64 0,.int .i64 0] 33)) w'):=
 of_fine (l:=tDiv) (vals:=[⟨1,1,0,0⟩,⟨1,0,0,0⟩]) (z:=⟨4,0,0,12⟩) fine_div (by decide) (Elem.arg_lit (E:=vaE) (w:=w) [(⟨1,1,0,0⟩:V),(⟨1,0,0,0⟩:V)] 2 rfl 33) (by intro v hv;simp only [List.mem_cons,List.not_mem_nil,or_false] at hv;rcases hv with rfl | rfl<;>(unfold V.ok fits;decide)) val_div
theorem of_tAdd (w:World):Calls Tryz.prog 13 #[.string ⟨#[97,32,43,32,98]⟩,.slice (some ⟨w.heap.size,0,none⟩) 2 2] (w.alloc (.cells #[.int .u8 0,.int .i64 0,.int .i64 0,.int .i64 0,.int .u8 4,.int .i64 0,.int .i64 0,.int .i64 12] 33)) (fun e w'=>e=.returned (.agg #[.int .u8 4,.int .i64 0,.int .i64 0,.int .i64 13])∧Below (w.alloc (.cells #[.int .u8 0,.int .i64 0,.int .i64 0,.int .i64 0,.int .u8 4,.int .i64 0,.int .i64 0,.int .i64 12] 33)).heap.size (w.alloc (.cells #[.int .u8 0,.int .i64 0,.int .i64 0,.int .i64 0,.int .u8 4,.int .i64 0,.int .i64 0,.int .i64 12] 33)) w'):=
 of_fine (l:=tAdd) (vals:=[⟨0,0,0,0⟩,⟨4,0,0,12⟩]) (z:=⟨4,0,0,13⟩) fine_add (by decide) (Elem.arg_lit (E:=vaE) (w:=w) [(⟨0,0,0,0⟩:V),(⟨4,0,0,12⟩:V)] 2 rfl 33) (by intro v hv;simp only [List.mem_cons,List.not_mem_nil,or_false] at hv;rcases hv with rfl | rfl<;>(unfold V.ok fits;decide)) val_add
theorem of_tOre (w:World):Calls Tryz.prog 13 #[.string ⟨#[111,114,101,108,115,101,40,97,44,32,50,41]⟩,.slice (some ⟨w.heap.size,0,none⟩) 1 1] (w.alloc (.cells #[.int .u8 0,.int .i64 0,.int .i64 0,.int .i64 0] 33)) (fun e w'=>e=.returned (.agg #[.int .u8 1,.int .i64 2,.int .i64 0,.int .i64 0])∧Below (w.alloc (.cells #[.int .u8 0,.int .i64 0,.int .i64 0,.int .i64 0] 33)).heap.size (w.alloc (.cells #[.int .u8 0,.int .i64 0,.int .i64 0,.int .i64 0] 33)) w'):=
 of_fine (l:=tOre) (vals:=[⟨0,0,0,0⟩]) (z:=⟨1,2,0,0⟩) fine_ore (by decide) (Elem.arg_lit (E:=vaE) (w:=w) [(⟨0,0,0,0⟩:V)] 1 rfl 33) (by intro v hv;simp only [List.mem_cons,List.not_mem_nil,or_false] at hv;rcases hv with rfl<;>(unfold V.ok fits;decide)) val_ore
theorem of_tOr (w:World):Calls Tryz.prog 13 #[.string ⟨#[112,32,111,114,32,113]⟩,.slice (some ⟨w.heap.size,0,none⟩) 2 2] (w.alloc (.cells #[.int .u8 2,.int .i64 0,.int .i64 0,.int .i64 0,.int .u8 0,.int .i64 0,.int .i64 0,.int .i64 0] 33)) (fun e w'=>e=.returned (.agg #[.int .u8 2,.int .i64 0,.int .i64 0,.int .i64 0])∧Below (w.alloc (.cells #[.int .u8 2,.int .i64 0,.int .i64 0,.int .i64 0,.int .u8 0,.int .i64 0,.int .i64 0,.int .i64 0] 33)).heap.size (w.alloc (.cells #[.int .u8 2,.int .i64 0,.int .i64 0,.int .i64 0,.int .u8 0,.int .i64 0,.int .i64 0,.int .i64 0] 33)) w'):=
 of_fine (l:=tOr) (vals:=[⟨2,0,0,0⟩,⟨0,0,0,0⟩]) (z:=⟨2,0,0,0⟩) fine_or (by decide) (Elem.arg_lit (E:=vaE) (w:=w) [(⟨2,0,0,0⟩:V),(⟨0,0,0,0⟩:V)] 2 rfl 33) (by intro v hv;simp only [List.mem_cons,List.not_mem_nil,or_false] at hv;rcases hv with rfl | rfl<;>(unfold V.ok fits;decide)) val_or
set_option maxRecDepth 100000 in
set_option maxHeartbeats 4000000 in
theorem evKnown_vp {w:World}:Calls Tryz.prog 5 #[] w (BP true w):=by
 have C1:∀ w,Calls Tryz.prog 14 #[.int .i64 1] w (fun e w'=>e=.returned (.agg #[.int .u8 1,.int .i64 1,.int .i64 0,.int .i64 0])∧Below w.heap.size w w'):=fun w=>num_vp (w:=w) 1
 have C2:∀ w,Calls Tryz.prog 14 #[.int .i64 0] w (fun e w'=>e=.returned (.agg #[.int .u8 1,.int .i64 0,.int .i64 0,.int .i64 0])∧Below w.heap.size w w'):=fun w=>num_vp (w:=w) 0
 have C3:=of_tDiv
 have C4:∀ w,Calls Tryz.prog 15 #[.int .i64 12] w (fun e w'=>e=.returned (.agg #[.int .u8 4,.int .i64 0,.int .i64 0,.int .i64 12])∧Below w.heap.size w w'):=fun w=>rbad_vp (w:=w) 12
 have C5:∀ w,Calls Tryz.prog 15 #[.int .i64 12] w (fun e w'=>e=.returned (.agg #[.int .u8 4,.int .i64 0,.int .i64 0,.int .i64 12])∧Below w.heap.size w w'):=fun w=>rbad_vp (w:=w) 12
 have C6:=of_tAdd
 have C7:∀ w,Calls Tryz.prog 15 #[.int .i64 13] w (fun e w'=>e=.returned (.agg #[.int .u8 4,.int .i64 0,.int .i64 0,.int .i64 13])∧Below w.heap.size w w'):=fun w=>rbad_vp (w:=w) 13
 have C8:=of_tOre
 have C9:∀ w,Calls Tryz.prog 14 #[.int .i64 2] w (fun e w'=>e=.returned (.agg #[.int .u8 1,.int .i64 2,.int .i64 0,.int .i64 0])∧Below w.heap.size w w'):=fun w=>num_vp (w:=w) 2
 have C10:∀ w,Calls Tryz.prog 16 #[.bool true] w (fun e w'=>e=.returned (.agg #[.int .u8 2,.int .i64 0,.int .i64 0,.int .i64 0])∧Below w.heap.size w w'):=fun w=>rtruth_vp (w:=w) true
 have C11:=of_tOr
 have C12:∀ w,Calls Tryz.prog 16 #[.bool true] w (fun e w'=>e=.returned (.agg #[.int .u8 2,.int .i64 0,.int .i64 0,.int .i64 0])∧Below w.heap.size w w'):=fun w=>rtruth_vp (w:=w) true
 go_enter Tryz.func5,Tryz.ntmps5
 go_upto_region 2 with fail
 obtain ⟨W0,iA,hW,hR,R0,BB,LR,LI,LS⟩:=mk1 w (.cells #[.int .u8 0,.int .i64 0,.int .i64 0,.int .i64 0] 33)
 rw [hW.out]
 try rw [hR.out]
 clear hW hR
 replace R0:Hid (Four W0 iA noV):=R0
 have mk:∀ w',Below W0.heap.size W0 w'→w'.cell? ⟨iA,0,none⟩=some (.int .u8 0)∧w'.cell? ⟨iA,1,none⟩=some (.int .i64 0)∧w'.cell? ⟨iA,2,none⟩=some (.int .i64 0)∧w'.cell? ⟨iA,3,none⟩=some (.int .i64 0):=fun w' h=>⟨(R0.out.below h).c0,(R0.out.below h).c1,(R0.out.below h).c2,(R0.out.below h).c3⟩
 have B0:Hid (Below W0.heap.size W0 W0.drew):=Lib.hid ((Below.refl _ _).drew)
 have HS0:=mk W0.drew B0.out
 have HA0:=fun ob=>mk (W0.drew.alloc ob) (bt B0.out (ba W0.drew ob))
 go_region_held3 (fun w':World=>w'.cell? ⟨iA,0,none⟩=some (.int .u8 0)∧w'.cell? ⟨iA,1,none⟩=some (.int .i64 0)∧w'.cell? ⟨iA,2,none⟩=some (.int .i64 0)∧w'.cell? ⟨iA,3,none⟩=some (.int .i64 0))
  (first | with_reducible assumption | with_reducible exact HA0 _ | with_reducible exact HA1 _ | with_reducible exact HA2 _ | with_reducible exact HA3 _ | with_reducible exact HA4 _ | with_reducible exact HA5 _ | with_reducible exact HA6 _ | with_reducible exact HA7 _ | with_reducible exact HA8 _ | with_reducible exact HA9 _ | with_reducible exact HA10 _ | with_reducible exact HA11 _ | with_reducible exact HA12 _)
  (first
   | (have _t:=B11;clear _t;(go_at_call 16;(with_reducible refine (C12 _).mono ?_);rintro e12 w12 ⟨rfl,q12⟩;have B12:Hid (Below W0.heap.size W0 w12):=Lib.hid (bt B11.out q12);clear q12;have HS12:=mk w12 B12.out;have HA12:=fun ob=>mk (w12.alloc ob) (bt B12.out (ba w12 ob))))
   | (have _t:=B10;clear _t;(go_at_call 13;(with_reducible refine (C11 _).mono ?_);rintro e11 w11 ⟨rfl,q11⟩;have B11:Hid (Below W0.heap.size W0 w11):=Lib.hid (bt (bt B10.out (ba _ _)) q11);clear q11;have HS11:=mk w11 B11.out;have HA11:=fun ob=>mk (w11.alloc ob) (bt B11.out (ba w11 ob))))
   | (have _t:=B9;clear _t;(go_at_call 16;(with_reducible refine (C10 _).mono ?_);rintro e10 w10 ⟨rfl,q10⟩;have B10:Hid (Below W0.heap.size W0 w10):=Lib.hid (bt B9.out q10);clear q10;have HS10:=mk w10 B10.out;have HA10:=fun ob=>mk (w10.alloc ob) (bt B10.out (ba w10 ob))))
   | (have _t:=B8;clear _t;(go_at_call 14;(with_reducible refine (C9 _).mono ?_);rintro e9 w9 ⟨rfl,q9⟩;have B9:Hid (Below W0.heap.size W0 w9):=Lib.hid (bt B8.out q9);clear q9;have HS9:=mk w9 B9.out;have HA9:=fun ob=>mk (w9.alloc ob) (bt B9.out (ba w9 ob))))
   | (have _t:=B7;clear _t;(go_at_call 13;(with_reducible refine (C8 _).mono ?_);rintro e8 w8 ⟨rfl,q8⟩;have B8:Hid (Below W0.heap.size W0 w8):=Lib.hid (bt (bt B7.out (ba _ _)) q8);clear q8;have HS8:=mk w8 B8.out;have HA8:=fun ob=>mk (w8.alloc ob) (bt B8.out (ba w8 ob))))
   | (have _t:=B6;clear _t;(go_at_call 15;(with_reducible refine (C7 _).mono ?_);rintro e7 w7 ⟨rfl,q7⟩;have B7:Hid (Below W0.heap.size W0 w7):=Lib.hid (bt B6.out q7);clear q7;have HS7:=mk w7 B7.out;have HA7:=fun ob=>mk (w7.alloc ob) (bt B7.out (ba w7 ob))))
   | (have _t:=B5;clear _t;(go_at_call 13;(with_reducible refine (C6 _).mono ?_);rintro e6 w6 ⟨rfl,q6⟩;have B6:Hid (Below W0.heap.size W0 w6):=Lib.hid (bt (bt B5.out (ba _ _)) q6);clear q6;have HS6:=mk w6 B6.out;have HA6:=fun ob=>mk (w6.alloc ob) (bt B6.out (ba w6 ob))))
   | (have _t:=B4;clear _t;(go_at_call 15;(with_reducible refine (C5 _).mono ?_);rintro e5 w5 ⟨rfl,q5⟩;have B5:Hid (Below W0.heap.size W0 w5):=Lib.hid (bt B4.out q5);clear q5;have HS5:=mk w5 B5.out;have HA5:=fun ob=>mk (w5.alloc ob) (bt B5.out (ba w5 ob))))
   | (have _t:=B3;clear _t;(go_at_call 15;(with_reducible refine (C4 _).mono ?_);rintro e4 w4 ⟨rfl,q4⟩;have B4:Hid (Below W0.heap.size W0 w4):=Lib.hid (bt B3.out q4);clear q4;have HS4:=mk w4 B4.out;have HA4:=fun ob=>mk (w4.alloc ob) (bt B4.out (ba w4 ob))))
   | (have _t:=B2;clear _t;(go_at_call 13;(with_reducible refine (C3 _).mono ?_);rintro e3 w3 ⟨rfl,q3⟩;have B3:Hid (Below W0.heap.size W0 w3):=Lib.hid (bt (bt B2.out (ba _ _)) q3);clear q3;have HS3:=mk w3 B3.out;have HA3:=fun ob=>mk (w3.alloc ob) (bt B3.out (ba w3 ob))))
   | (have _t:=B1;clear _t;(go_at_call 14;(with_reducible refine (C2 _).mono ?_);rintro e2 w2 ⟨rfl,q2⟩;have B2:Hid (Below W0.heap.size W0 w2):=Lib.hid (bt B1.out q2);clear q2;have HS2:=mk w2 B2.out;have HA2:=fun ob=>mk (w2.alloc ob) (bt B2.out (ba w2 ob))))
   | (have _t:=B0;clear _t;(go_at_call 14;(with_reducible refine (C1 _).mono ?_);rintro e1 w1 ⟨rfl,q1⟩;have B1:Hid (Below W0.heap.size W0 w1):=Lib.hid (bt B0.out q1);clear q1;have HS1:=mk w1 B1.out;have HA1:=fun ob=>mk (w1.alloc ob) (bt B1.out (ba w1 ob)))))
 go_wp2_with fail
 go_ret
 exact ⟨rfl,bt BB.out B12.out⟩
end Go.Proofs.YteagpbkbdlmdiaaGreat.Ps
namespace Go.Proofs.YteagpbkbdlmdiaaGreat.Ek
open Go Go.RowKit Dt Tx Va Ev
theorem stepG {P:Program} {α:Type} (E:Elem P α) {w:World} {ops:Array Oper} {o:Oper} {a:Act} {K:Act→World→Prop} {Q:Exit→Act→World→Prop} {G:Prop} (hw:Region.wanted o (yielded ops a.tmps)=true) (s x:Operand)
  (ho:o.op=.call {callee:=.builtin .append,args:=#[s,x],argTypes:=#[E.sl,E.sl]}) (B:Nat) (v:Value) (xs:List α) (vs:Value) (rs:List α) (hs:a.eval s=v) (hx:a.eval x=vs)
  (hown:E.Row w B v xs) (hsrc:E.Arg w vs rs) (h1:xs.length+rs.length≤1000001) (h2:(1000001:Nat)*E.bytes≤140737488355328) (hB:B≤w.heap.size)
  (h:∀ v' w',E.Row w' B v' (xs++rs)→w.grownBy w' v.ownBlock→(v'.ownBlock=v.ownBlock∨v'.ownBlock=some w.heap.size)→K (a.put o.dst v') w') :
  if Region.wanted o (yielded ops a.tmps)=true then Oper.wp P o a w K Q else G:=by
 rw [if_pos hw]
 obtain ⟨v',w',hr,k2,k3,k4⟩:=Elem.run_app o.type hown hsrc h1 h2 hB
 unfold Oper.wp execOp
 simp only [ho,resolve,invoke,builtin,Sem.run_bind,Sem.run_pure,Result.andThen_ok,List.map_toArray,List.map_cons,List.map_nil,hs,hx,hr]
 exact h v' w' k2 k3 k4
theorem arg_grown {w w':World} {v:Value} {xs:List V} {row:Option Nat} (h:vaE.Arg w v xs) (q:w.grownBy w' row) (hne:∀ g,Elem.argBlock v g→some g ≠ row):vaE.Arg w' v xs:=
 h.block q.size (fun g hg _ hl=>q.block g hl (fun e=>hne g hg e))
theorem vals_arg {w:World} {g n:Nat} {A:List V} (h:AllR 33 w g n (rowF A)) (hl:A.length=n):vaE.Arg w (.slice (some ⟨g,0,none⟩) n n) A:=by
 refine ⟨some ⟨g,0,none⟩,n,by rw [hl],⟨by omega,fun e=>by cases e⟩,fun i x hx=>⟨g,0,rfl,h.lt,fun j u hu=>?_⟩⟩
 have hi:i<n:=by have:=(List.getElem?_eq_some_iff.1 hx).1;omega
 obtain ⟨c0,c1,c2,c3⟩:=h.at (v:=x) hi (by unfold rowF;rw [hx];rfl)
 rw [Nat.zero_add]
 have jl:j<4:=by have:=(List.getElem?_eq_some_iff.1 hu).1;rw [vaE.len] at this;exact this
 match j,jl with
 | 0,_=>cases hu;exact c0
 | 1,_=>cases hu;exact c1
 | 2,_=>cases hu;exact c2
 | 3,_=>cases hu;exact c3
def fieldN (nm:List UInt8):Nd:=⟨4,0,0,nm,0, -1, -1, -1,0⟩
theorem one_field {fs:List Fd} {nm:List UInt8} {k:Int} (h:OfOK fs [fieldN nm] k):k=(fieldK fs nm).1:=by
 obtain ⟨_,_,h2,h3⟩:=h
 have h2:=h2 0 (by show (0:Nat)<1;decide)
 have e:kindAt fs [fieldN nm] 0=wrongN fs [] (fieldN nm):=kindAt_step (i:=0) (n:=fieldN nm) rfl
 change k=(kindAt fs [fieldN nm] 0).1 at h3
 rw [e] at h2 h3
 unfold wrongN at h2 h3
 rw [h3]
 split
 ·rename_i hh;rw [if_pos hh] at h2;exact absurd h2 hh
 ·rw [if_pos (show (kindOf (fieldN nm).op (fieldK fs (fieldN nm).n).1 (kidK [] (fieldN nm).x) (kidK [] (fieldN nm).y) (kidK [] (fieldN nm).z)).2=true from rfl)]
  rfl
theorem field_ok (nm:List UInt8):(fieldN nm).ok:=by
 have f0:fits 0:=by decide
 have f1:fits (-1):=by decide
 exact ⟨⟨by show (0:Int)≤4;decide,by show (4:Int)≤255;decide⟩,f0,f0,f0,f1,f1,f1,f0⟩
def Fitl (fs:List Fd) (l:List Opd) (A:List V):Prop:=A.length=l.length∧(∀ (j:Nat) (o:Opd),l[j]?=some o→InOK fs o ((A[j]?).getD noV))∧∀ v ∈ A,v.ok
theorem noV_ok:V.ok noV:=fine_no.ok
theorem Fitl.start (fs:List Fd) (l:List Opd) :Fitl fs l (List.replicate l.length noV):=by
 refine ⟨List.length_replicate,fun j o _=>?_,fun v hv=>by rw [List.eq_of_mem_replicate hv];exact noV_ok⟩
 unfold InOK
 rw [List.getElem?_replicate]
 split<;>exact .inl rfl
theorem Fitl.put {fs:List Fd} {l:List Opd} {A:List V} (h:Fitl fs l A) {k:Nat} {o:Opd} (hk:l[k]?=some o) {v:V} (hv:InOK fs o v) (hok:v.ok) :Fitl fs l (A.set k v):=by
 obtain ⟨h1,h2,h3⟩:=h
 refine ⟨by rw [List.length_set,h1],fun j o' hj=>?_,fun u hu=>?_⟩
 ·rw [List.getElem?_set]
  by_cases e:k=j
  ·subst e
   rw [hk] at hj;cases hj
   have:k<A.length:=by rw [h1];exact (List.getElem?_eq_some_iff.1 hk).1
   simp [this,hv]
  ·rw [if_neg e];exact h2 j o' hj
 ·rcases List.mem_or_eq_of_mem_set hu with h | rfl
  ·exact h3 u h
  ·exact hok
theorem rowF_set {A:List V} {k n:Nat} (hA:A.length=n) (hk:k<n) (v:V) (j:Nat):(if j=k then v else rowF A j)=rowF (A.set k v) j:=by
 unfold rowF
 rw [List.getElem?_set]
 by_cases e:j=k
 ·subst e;simp [hA,hk]
 ·rw [if_neg e,if_neg (fun h=>e h.symm)]
theorem val_fine {t:List Nd} {A:List V} (h:∀ v ∈ A,v.ok):V.fine (valueV t A):=by
 unfold valueV
 cases e:(allV (opds t) A t).getLast? with
 | none=>exact fine_no
 | some v=>exact all_fine h t [] (fun v h=>by cases h) v (List.mem_of_getLast? e)
theorem kinds_end {fs:List Fd} {t:List Nd} {k:Int} {A:List V} (h:OfOK fs t k) (hA:Fitl fs (opds t) A):KindOK k (valueV t A):=by
 rw [h.2.2.2]
 exact value_kind h.2.1 h.2.2.1 (fun j o hj=>hA.2.1 j o hj)
end Go.Proofs.YteagpbkbdlmdiaaGreat.Ek
