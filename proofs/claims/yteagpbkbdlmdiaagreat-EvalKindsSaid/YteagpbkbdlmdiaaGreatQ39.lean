/-
  The document's parser: atom, by what its callees do.
-/
import Derived.Test.YteagpbkbdlmdiaaGreatQ38
set_option linter.unusedSimpArgs false
set_option linter.unusedVariables false
namespace Go.Proofs.YteagpbkbdlmdiaaGreat.Ps
set_option maxRecDepth 100000
set_option maxHeartbeats 4000000
open Go Go.RowKit Dt Tx Va Ev Lx
attribute [local go_sem ↓] Go.wp_at_zero Go.wp_at_succ
section
variable {L:List Tok} {En:Int} {B b N lc:Nat} {ao:Option Addr} {tv:Value} {w:World} {s:Rd}
theorem inv_t {N:Nat} {s:Rd} (i:Inv N s) (hl:N≤1000):s.t.length≤10000:=(inv_ok i hl).2.1
theorem at_num (f:Nat) (hN:L.length=N) (hl:N≤1000) (hT:∀ x ∈ L,x.t.length≤1000) {x:Tok} (hx:L[s.a]?=some x) (hk:x.k=2) (hi:Inv N s) (h0:s.e=0) (h:St L En B b (.slice ao N lc) w tv s):Calls Tryz.prog 100 #[.pointer (some ⟨b,0,none⟩)] w (RI L En B b (.slice ao N lc) (runR L En (f+1) .atm s) w tv):=by
 have E:runR L En (f+1) .atm s=addR ⟨1,x.c,x.s,[],0, -1, -1, -1,x.p⟩ (upR s):=by simp only [runR];rw [hx];simp only;rw [if_pos hk]
 have EP:placeR L En s=x.p:=by unfold placeR;rw [hx]
 rw [E]
 have HN:=Lib.hid hN;have HL:=Lib.hid hl;have HTX:=Lib.hid hT;have HI:=Lib.hid hi
 have HD:Hid (-1000≤s.d∧s.d≤1000):=Lib.hid ⟨by have:=hi.dl;have:=hi.a;omega,by have:=hi.dh;omega⟩
 have hbw:=h.lt;have hbB:=h.bB;have hrow:=h.row
 have S0:=Lib.hid h;have K0:=Lib.hid (KX.refl (b:=b) (tv:=tv) (w:=w));have F0:=Lib.hid (Fr.refl tv w)
 have C0:=place_is S0.out HN.out
 obtain ⟨P,hP⟩:∃ z,Hid (placeR L En s=z):=⟨_,Lib.hid rfl⟩
 rw [hP.out] at C0
 obtain ⟨nd,hnd⟩:∃ m,Hid (nodeAt L En s=m):=⟨_,Lib.hid rfl⟩
 have lt:s.a<N:=by rw [←hN];exact (List.getElem?_eq_some_iff.1 hx).1
 have d0:(0:Int)≤(s.a:Int):=by omega
 have d1:decide ((s.a:Int)<(N:Int))=true:=by simp;omega
 have d2:decide (s.a<N)=true:=by simp;omega
 have d3:(s.a:Int)<(N:Int):=by omega
 have HXX:=Lib.hid hx
 have HLT:=Lib.hid lt
 have kw:IntKind.i64.wrap ((s.a:Int)+1)=(s.a:Int)+1:=Ev.wrap1 s.a (by omega)
 have e1:decide (x.k=2)=true:=decide_eq_true hk
 have e2:(x.k !=2)=false:=by simpa using hk
 have e3:(x.k==2)=true:=by simpa using hk
 clear lt
 have HEP:=Lib.hid EP
 clear E EP h0
 clear h hN hl hT hi hx hk
 go_enter Tryz.func100,Tryz.ntmps100
 go_upto_region 2 with (go_at_call 102;(with_reducible refine (C0).mono ?_);rintro e1 w1 ⟨rfl,q1⟩;have S1:=Lib.hid (S0.out.below q1);have K1:=Lib.hid (K0.out.trans (KX.of_below (b:=b) q1) F0.out);have F1:=F0;clear C0;clear q1)
 obtain ⟨W2,iN,hW,hX,N2,B2,LN,_,_⟩:=mk1 w1 (.cells #[.int .u8 0,.int .i64 0,.int .i64 0,.string ⟨#[]⟩,.int .i64 0,.int .i64 (-1),.int .i64 (-1),.int .i64 (-1),.int .i64 P] 39)
 rw [hW.out]
 try rw [hX.out]
 have hni:iN=w1.heap.size:=hX.out.symm
 clear hW hX
 replace N2:Hid (Nine W2 iN nd):=Lib.hid (by rw [←hnd.out];unfold nodeAt;rw [hP.out];exact N2.out)
 have HW1:=K1.out.size
 have HNB:Hid (iN ≠ b):=Lib.hid (by omega)
 have T2:Hid (some iN ≠ tv.ownBlock):=Lib.hid (fun e=>by have:=(hrow.lt iN e.symm).2;omega)
 have HBN:Hid (B≤iN):=Lib.hid (by omega)
 have S2:=Lib.hid (S1.out.below B2.out)
 have K2:=Lib.hid (K1.out.trans (KX.of_below (b:=b) B2.out) F1.out)
 have F2:=F1
 replace LN:Hid (w.heap.size≤iN):=Lib.hid (by omega)
 clear hni hbw hbB hrow S1 K1 F1 HW1 B2 S0 K0 F0
 have b0:=S2.out.c0;have b1:=S2.out.c1
 obtain ⟨g,go_,H⟩:=here S2.out.toks HXX.out
 obtain rfl:=H.e
 have c0:=H.c0;have c2:=H.c2;have c3:=H.c3
 clear H
 go_quiet (fail)
 rename Nat=>nq0
 obtain ⟨nq,rfl⟩:∃ n:Nat,n=nq0:=⟨_,rfl⟩
 have BQ:=drewN_below W2 nq
 obtain ⟨W3,hwq⟩:∃ V,Hid (W2.drewN nq=V):=⟨_,Lib.hid rfl⟩
 rw [hwq.out] at BQ⊢
 have S3:=Lib.hid (S2.out.below BQ)
 have K3:=Lib.hid (K2.out.trans (KX.of_below (b:=b) BQ) F2.out)
 have F3:=F2
 have N3:=Lib.hid (N2.out.below BQ)
 have T3:=T2
 clear hwq BQ S2 K2 N2 T2 F2 b0 b1 c0 c2 c3
 have b0:=S3.out.c0;have b1:=S3.out.c1
 obtain ⟨g2,go2,H⟩:=here S3.out.toks HXX.out
 obtain ⟨rfl,rfl⟩:g2=g∧go2=go_:=by have:=H.e;cases this;exact ⟨rfl,rfl⟩
 have c0:=H.c0;have c2:=H.c2;have c3:=H.c3
 clear H
 have n0:=N3.out.c0;have n1:=N3.out.c1;have n2:=N3.out.c2;have g0:=N3.out.f 0;have g1:=N3.out.f 1;have g2_:=N3.out.f 2
 have HNI:=HNB.out
 go_upto_region 3 with fail
 go_region_law (fail)
 all_goals
  have S4:Hid (St L En B b (.slice (some ⟨g2,go2,none⟩) N lc) (((W3.setCell ⟨iN,0,none⟩ (.int .u8 1)).setCell ⟨iN,1,none⟩ (.int .i64 x.c)).setCell ⟨iN,2,none⟩ (.int .i64 x.s)).drew tv s):=Lib.hid ((((S3.out.setN HNB.out T3.out HBN.out 0 (.int .u8 1)).setN HNB.out T3.out HBN.out 1 (.int .i64 x.c)).setN HNB.out T3.out HBN.out 2 (.int .i64 x.s)).below ((Below.refl _ _).drew))
  have K4:Hid (KX b tv w (((W3.setCell ⟨iN,0,none⟩ (.int .u8 1)).setCell ⟨iN,1,none⟩ (.int .i64 x.c)).setCell ⟨iN,2,none⟩ (.int .i64 x.s)).drew):=Lib.hid ((((K3.out.setN LN.out 0 (.int .u8 1)).setN LN.out 1 (.int .i64 x.c)).setN LN.out 2 (.int .i64 x.s)).trans (KX.of_below (b:=b) ((Below.refl _ _).drew)) F3.out)
  have N4:Hid (Nine (((W3.setCell ⟨iN,0,none⟩ (.int .u8 1)).setCell ⟨iN,1,none⟩ (.int .i64 x.c)).setCell ⟨iN,2,none⟩ (.int .i64 x.s)).drew iN ⟨1,x.c,x.s,nd.n,nd.k,nd.x,nd.y,nd.z,nd.p⟩):=Lib.hid (Nine.below (Nine.setC (n':=⟨1,x.c,x.s,nd.n,nd.k,nd.x,nd.y,nd.z,nd.p⟩) (Nine.setC (n':=⟨1,x.c,nd.s,nd.n,nd.k,nd.x,nd.y,nd.z,nd.p⟩) (Nine.setC (n':=⟨1,nd.c,nd.s,nd.n,nd.k,nd.x,nd.y,nd.z,nd.p⟩) N3.out 0 _ rfl) 1 _ rfl) 2 _ rfl) ((Below.refl _ _).drew))
  have T4:=T3;have F4:=F3
  obtain ⟨W4,hWn⟩:∃ W,Hid ((((W3.setCell ⟨iN,0,none⟩ (.int .u8 1)).setCell ⟨iN,1,none⟩ (.int .i64 x.c)).setCell ⟨iN,2,none⟩ (.int .i64 x.s)).drew=W):=⟨_,Lib.hid rfl⟩
  rw [hWn.out] at S4 K4 N4
  rw [hWn.out]
  clear hWn S3 K3 N3 b0 b1 c0 c2 c3 n0 n1 n2 g0 g1 g2_
  obtain ⟨n_4,hn_4⟩:∃ m:Nd,Hid (⟨1,x.c,x.s,nd.n,nd.k,nd.x,nd.y,nd.z,nd.p⟩=m):=⟨_,Lib.hid rfl⟩
  rw [hn_4.out] at N4
  have b1:=S4.out.c1;have f1:=S4.out.f 1
  go_upto_region 5 with fail
  have S5:Hid (St L En B b (.slice (some ⟨g2,go2,none⟩) N lc) (W4.setCell ⟨b,1,none⟩ (.int .i64 ((s.a:Int)+1))) tv (upR s)):=Lib.hid (S4.out.setA (s.a+1))
  have K5:=Lib.hid (K4.out.set 1 (.int .i64 ((s.a:Int)+1)))
  have F5:=F4;have T5:=T4
  have N5:=Lib.hid (Nine.setB N4.out HNB.out 1 (.int .i64 ((s.a:Int)+1)))
  obtain ⟨W5,hWn⟩:∃ W,Hid (W4.setCell ⟨b,1,none⟩ (.int .i64 ((s.a:Int)+1))=W):=⟨_,Lib.hid rfl⟩
  rw [hWn.out] at S5 K5 N5
  rw [hWn.out]
  clear hWn S4 K4 N4
  clear b1 f1
  obtain ⟨sq,hsq⟩:∃ q,Hid (upR s=q):=⟨_,Lib.hid rfl⟩
  replace S5:Hid (St L En B b (.slice (some ⟨g2,go2,none⟩) N lc) W5 tv sq):=Lib.hid (by rw [←hsq.out];exact S5.out)
  have HTL:Hid (sq.t.length≤10000):=Lib.hid (by rw [←hsq.out];show s.t.length≤_;exact inv_t HI.out HL.out)
  obtain ⟨av,cv,hv,_,_⟩:=S5.out.row.form
  obtain ⟨tn,htn⟩:∃ k:Nat,Hid (sq.t.length=k):=⟨_,Lib.hid rfl⟩
  have SD:=Lib.hid (S5.out.below ((Below.refl _ _).drew))
  have SA:=Lib.hid (S5.out.below (bt ((Below.refl _ _).drew) (ba W5.drew (.cells #[.int .u8 n_4.op,.int .i64 n_4.c,.int .i64 n_4.s,.string (bs n_4.n),.int .i64 n_4.k,.int .i64 n_4.x,.int .i64 n_4.y,.int .i64 n_4.z,.int .i64 n_4.p] 39))))
  have KA:=Lib.hid (K5.out.trans (KX.of_below (b:=b) (bt ((Below.refl _ _).drew) (ba W5.drew (.cells #[.int .u8 n_4.op,.int .i64 n_4.c,.int .i64 n_4.s,.string (bs n_4.n),.int .i64 n_4.k,.int .i64 n_4.x,.int .i64 n_4.y,.int .i64 n_4.z,.int .i64 n_4.p] 39)))) F5.out)
  have RT:Hid (ndT.Row (W5.drew.alloc (.cells #[.int .u8 n_4.op,.int .i64 n_4.c,.int .i64 n_4.s,.string (bs n_4.n),.int .i64 n_4.k,.int .i64 n_4.x,.int .i64 n_4.y,.int .i64 n_4.z,.int .i64 n_4.p] 39)) B _ sq.t):=Lib.hid SA.out.row
  have SRT:Hid (ndT.Arg (W5.drew.alloc (.cells #[.int .u8 n_4.op,.int .i64 n_4.c,.int .i64 n_4.s,.string (bs n_4.n),.int .i64 n_4.k,.int .i64 n_4.x,.int .i64 n_4.y,.int .i64 n_4.z,.int .i64 n_4.p] 39)) (.slice (some ⟨W5.heap.size,0,none⟩) 1 1) [n_4]):=Lib.hid (Elem.arg_one (E:=ndT) (w:=W5.drew) n_4 39)
  have HFL:Hid (sq.t.length+[n_4].length≤1000001):=Lib.hid (by rw [List.length_singleton];have:=HTL.out;omega)
  have HB:Hid (B≤(W5.drew.alloc (.cells #[.int .u8 n_4.op,.int .i64 n_4.c,.int .i64 n_4.s,.string (bs n_4.n),.int .i64 n_4.k,.int .i64 n_4.x,.int .i64 n_4.y,.int .i64 n_4.z,.int .i64 n_4.p] 39)).heap.size):=Lib.hid (by have:=SA.out.bB;have:=SA.out.lt;omega)
  have NA:=Lib.hid (N5.out.below (bt ((Below.refl _ _).drew) (ba W5.drew (.cells #[.int .u8 n_4.op,.int .i64 n_4.c,.int .i64 n_4.s,.string (bs n_4.n),.int .i64 n_4.k,.int .i64 n_4.x,.int .i64 n_4.y,.int .i64 n_4.z,.int .i64 n_4.p] 39))))
  have c4:=S5.out.c4
  have c4a:(W5.alloc (.cells #[.int .u8 n_4.op,.int .i64 n_4.c,.int .i64 n_4.s,.string (bs n_4.n),.int .i64 n_4.k,.int .i64 n_4.x,.int .i64 n_4.y,.int .i64 n_4.z,.int .i64 n_4.p] 39)).cell? ⟨b,4,none⟩=some _:=SA.out.c4
  have n0:=N5.out.c0
  have m0:(W5.alloc (.cells #[.int .u8 n_4.op,.int .i64 n_4.c,.int .i64 n_4.s,.string (bs n_4.n),.int .i64 n_4.k,.int .i64 n_4.x,.int .i64 n_4.y,.int .i64 n_4.z,.int .i64 n_4.p] 39)).cell? ⟨iN,0,none⟩=some (.int .u8 n_4.op):=NA.out.c0
  have n1:=N5.out.c1
  have m1:(W5.alloc (.cells #[.int .u8 n_4.op,.int .i64 n_4.c,.int .i64 n_4.s,.string (bs n_4.n),.int .i64 n_4.k,.int .i64 n_4.x,.int .i64 n_4.y,.int .i64 n_4.z,.int .i64 n_4.p] 39)).cell? ⟨iN,1,none⟩=some (.int .i64 n_4.c):=NA.out.c1
  have n2:=N5.out.c2
  have m2:(W5.alloc (.cells #[.int .u8 n_4.op,.int .i64 n_4.c,.int .i64 n_4.s,.string (bs n_4.n),.int .i64 n_4.k,.int .i64 n_4.x,.int .i64 n_4.y,.int .i64 n_4.z,.int .i64 n_4.p] 39)).cell? ⟨iN,2,none⟩=some (.int .i64 n_4.s):=NA.out.c2
  have n3:=N5.out.c3
  have m3:(W5.alloc (.cells #[.int .u8 n_4.op,.int .i64 n_4.c,.int .i64 n_4.s,.string (bs n_4.n),.int .i64 n_4.k,.int .i64 n_4.x,.int .i64 n_4.y,.int .i64 n_4.z,.int .i64 n_4.p] 39)).cell? ⟨iN,3,none⟩=some (.string (bs n_4.n)):=NA.out.c3
  have n4:=N5.out.c4
  have m4:(W5.alloc (.cells #[.int .u8 n_4.op,.int .i64 n_4.c,.int .i64 n_4.s,.string (bs n_4.n),.int .i64 n_4.k,.int .i64 n_4.x,.int .i64 n_4.y,.int .i64 n_4.z,.int .i64 n_4.p] 39)).cell? ⟨iN,4,none⟩=some (.int .i64 n_4.k):=NA.out.c4
  have n5:=N5.out.c5
  have m5:(W5.alloc (.cells #[.int .u8 n_4.op,.int .i64 n_4.c,.int .i64 n_4.s,.string (bs n_4.n),.int .i64 n_4.k,.int .i64 n_4.x,.int .i64 n_4.y,.int .i64 n_4.z,.int .i64 n_4.p] 39)).cell? ⟨iN,5,none⟩=some (.int .i64 n_4.x):=NA.out.c5
  have n6:=N5.out.c6
  have m6:(W5.alloc (.cells #[.int .u8 n_4.op,.int .i64 n_4.c,.int .i64 n_4.s,.string (bs n_4.n),.int .i64 n_4.k,.int .i64 n_4.x,.int .i64 n_4.y,.int .i64 n_4.z,.int .i64 n_4.p] 39)).cell? ⟨iN,6,none⟩=some (.int .i64 n_4.y):=NA.out.c6
  have n7:=N5.out.c7
  have m7:(W5.alloc (.cells #[.int .u8 n_4.op,.int .i64 n_4.c,.int .i64 n_4.s,.string (bs n_4.n),.int .i64 n_4.k,.int .i64 n_4.x,.int .i64 n_4.y,.int .i64 n_4.z,.int .i64 n_4.p] 39)).cell? ⟨iN,7,none⟩=some (.int .i64 n_4.z):=NA.out.c7
  have n8:=N5.out.c8
  have m8:(W5.alloc (.cells #[.int .u8 n_4.op,.int .i64 n_4.c,.int .i64 n_4.s,.string (bs n_4.n),.int .i64 n_4.k,.int .i64 n_4.x,.int .i64 n_4.y,.int .i64 n_4.z,.int .i64 n_4.p] 39)).cell? ⟨iN,8,none⟩=some (.int .i64 n_4.p):=NA.out.c8
  have kw:=wrapL tn (by have:=HTL.out;have:=htn.out;omega)
  have kw2:IntKind.i64.wrap (tn:Int)=(tn:Int):=wrapI (by omega) (by have:=HTL.out;have:=htn.out;omega)
  rw [htn.out] at hv
  subst hv
  go_region_law (first | (go_loud (refine Elem.step (E:=ndT) rfl _ _ rfl B (.slice av tn cv) sq.t (.slice (some ⟨W5.heap.size,0,none⟩) 1 1) [n_4] rfl rfl RT.out SRT.out HFL.out (by decide) HB.out ?_;intro v6 w6 r6 g6 f6;have Y:=SA.out.more KA.out F5.out r6 g6 f6;have d4:=Y.1.1;have f4:=Y.1.2;have SX:=Lib.hid Y.2.1;have KK:=Lib.hid Y.2.2.1;have FF:=Lib.hid Y.2.2.2;clear Y;obtain ⟨a6,q6,e6,_,_⟩:=r6.form;clear r6 g6 f6;obtain ⟨n6,hn6⟩:∃ k:Nat,Hid ((sq.t++[n_4]).length=k):=⟨_,Lib.hid rfl⟩;rw [hn6.out] at e6;subst e6)))
  all_goals
   have h6:n6=tn+1:=by have:=hn6.out;rw [List.length_append,List.length_singleton,htn.out] at this;exact this.symm
   subst h6
   have FX:=Lib.hid FF.out
   obtain ⟨WX,hWX⟩:∃ W,Hid (w6.setCell ⟨b,4,none⟩ (.slice a6 (tn+1) q6)=W):=⟨_,Lib.hid rfl⟩
   rw [hWX.out] at SX KK
   try rw [hWX.out]
   clear hWX d4 f4 SA KA SRT RT HFL HB c4 c4a n0 m0 n1 m1 n2 m2 n3 m3 n4 m4 n5 m5 n6 m6 n7 m7 n8 m8 SD NA FF
   have c4:=SX.out.c4
   go_wp2_with fail
   go_ret
   have FIN:addR ⟨1,x.c,x.s,[],0, -1, -1, -1,x.p⟩ (upR s)=addR n_4 sq:=by rw [hsq.out,←hn_4.out,←hnd.out,←HEP.out];rfl
   rw [FIN]
   refine ⟨?_,_,SX.out,KK.out,FX.out⟩
   show Ending.returned _=.returned (.int .i64 ((sq.t.length:Nat):Int))
   rw [htn.out];simp
theorem at_true (f:Nat) (hN:L.length=N) (hl:N≤1000) (hT:∀ x ∈ L,x.t.length≤1000) {x:Tok} (hx:L[s.a]?=some x) (hk:¬x.k=2) (hw:x.t=wTrue) (hi:Inv N s) (h0:s.e=0) (h:St L En B b (.slice ao N lc) w tv s):Calls Tryz.prog 100 #[.pointer (some ⟨b,0,none⟩)] w (RI L En B b (.slice ao N lc) (runR L En (f+1) .atm s) w tv):=by
 have E:runR L En (f+1) .atm s=addR {nodeAt L En s with op:=2} (upR s):=by simp only [runR];rw [hx];simp only;rw [if_neg hk,if_pos hw]
 rw [E]
 have HN:=Lib.hid hN;have HL:=Lib.hid hl;have HTX:=Lib.hid hT;have HI:=Lib.hid hi
 have HD:Hid (-1000≤s.d∧s.d≤1000):=Lib.hid ⟨by have:=hi.dl;have:=hi.a;omega,by have:=hi.dh;omega⟩
 have hbw:=h.lt;have hbB:=h.bB;have hrow:=h.row
 have S0:=Lib.hid h;have K0:=Lib.hid (KX.refl (b:=b) (tv:=tv) (w:=w));have F0:=Lib.hid (Fr.refl tv w)
 have C0:=place_is S0.out HN.out
 obtain ⟨P,hP⟩:∃ z,Hid (placeR L En s=z):=⟨_,Lib.hid rfl⟩
 rw [hP.out] at C0
 obtain ⟨nd,hnd⟩:∃ m,Hid (nodeAt L En s=m):=⟨_,Lib.hid rfl⟩
 have lt:s.a<N:=by rw [←hN];exact (List.getElem?_eq_some_iff.1 hx).1
 have d0:(0:Int)≤(s.a:Int):=by omega
 have d1:decide ((s.a:Int)<(N:Int))=true:=by simp;omega
 have d2:decide (s.a<N)=true:=by simp;omega
 have d3:(s.a:Int)<(N:Int):=by omega
 have HXX:=Lib.hid hx
 have HLT:=Lib.hid lt
 have kw:IntKind.i64.wrap ((s.a:Int)+1)=(s.a:Int)+1:=Ev.wrap1 s.a (by omega)
 have e1:decide (x.k=2)=false:=decide_eq_false hk
 have e2:(x.k !=2)=true:=by simpa using hk
 have e3:(x.k==2)=false:=by simpa using hk
 have hnx:nextR L s=x.t:=by unfold nextR;rw [hx];exact if_neg hk
 clear lt
 obtain ⟨S,hS⟩:∃ S,Hid (bs wTrue=S):=⟨_,Lib.hid rfl⟩
 have s0:(S.toList==[116,114,117,101])=true:=by rw [←hS.out,bs_toList];decide
 have s1:(S.toList==[102,97,108,115,101])=false:=by rw [←hS.out,bs_toList];decide
 have s2:(S.toList==[40])=false:=by rw [←hS.out,bs_toList];decide
 have s3:(S.toList==[105,102])=false:=by rw [←hS.out,bs_toList];decide
 have s4:(S.toList==[109,105,110])=false:=by rw [←hS.out,bs_toList];decide
 have s5:(S.toList==[109,97,120])=false:=by rw [←hS.out,bs_toList];decide
 have s6:(S.toList==[97,98,115])=false:=by rw [←hS.out,bs_toList];decide
 have s7:(S.toList==[114,111,117,110,100])=false:=by rw [←hS.out,bs_toList];decide
 have s8:(S.toList==[104,97,115])=false:=by rw [←hS.out,bs_toList];decide
 have s9:(S.toList==[111,114,101,108,115,101])=false:=by rw [←hS.out,bs_toList];decide
 clear E h0
 clear h hN hl hT hi hx hk
 go_enter Tryz.func100,Tryz.ntmps100
 go_upto_region 2 with (go_at_call 102;(with_reducible refine (C0).mono ?_);rintro e1 w1 ⟨rfl,q1⟩;have S1:=Lib.hid (S0.out.below q1);have K1:=Lib.hid (K0.out.trans (KX.of_below (b:=b) q1) F0.out);have F1:=F0;clear C0;clear q1)
 obtain ⟨W2,iN,hW,hX,N2,B2,LN,_,_⟩:=mk1 w1 (.cells #[.int .u8 0,.int .i64 0,.int .i64 0,.string ⟨#[]⟩,.int .i64 0,.int .i64 (-1),.int .i64 (-1),.int .i64 (-1),.int .i64 P] 39)
 rw [hW.out]
 try rw [hX.out]
 have hni:iN=w1.heap.size:=hX.out.symm
 clear hW hX
 replace N2:Hid (Nine W2 iN nd):=Lib.hid (by rw [←hnd.out];unfold nodeAt;rw [hP.out];exact N2.out)
 have HW1:=K1.out.size
 have HNB:Hid (iN ≠ b):=Lib.hid (by omega)
 have T2:Hid (some iN ≠ tv.ownBlock):=Lib.hid (fun e=>by have:=(hrow.lt iN e.symm).2;omega)
 have HBN:Hid (B≤iN):=Lib.hid (by omega)
 have S2:=Lib.hid (S1.out.below B2.out)
 have K2:=Lib.hid (K1.out.trans (KX.of_below (b:=b) B2.out) F1.out)
 have F2:=F1
 replace LN:Hid (w.heap.size≤iN):=Lib.hid (by omega)
 clear hni hbw hbB hrow S1 K1 F1 HW1 B2 S0 K0 F0
 have b0:=S2.out.c0;have b1:=S2.out.c1
 obtain ⟨g,go_,H⟩:=here S2.out.toks HXX.out
 obtain rfl:=H.e
 have c0:=H.c0;have c2:=H.c2;have c3:=H.c3
 clear H
 go_quiet (fail)
 rename Nat=>nq0
 obtain ⟨nq,rfl⟩:∃ n:Nat,n=nq0:=⟨_,rfl⟩
 have BQ:=drewN_below W2 nq
 obtain ⟨W3,hwq⟩:∃ V,Hid (W2.drewN nq=V):=⟨_,Lib.hid rfl⟩
 rw [hwq.out] at BQ⊢
 have S3:=Lib.hid (S2.out.below BQ)
 have K3:=Lib.hid (K2.out.trans (KX.of_below (b:=b) BQ) F2.out)
 have F3:=F2
 have N3:=Lib.hid (N2.out.below BQ)
 have T3:=T2
 clear hwq BQ S2 K2 N2 T2 F2 b0 b1 c0 c2 c3
 have C3:=next_is S3.out HN.out
 unfold SP at C3
 rw [hnx,hw] at C3
 rw [hS.out] at C3
 go_upto_region 11 with (go_at_call 101;(with_reducible refine (C3).mono ?_);rintro e4 w4 ⟨rfl,q4⟩;have S4:=Lib.hid (S3.out.below q4);have K4:=Lib.hid (K3.out.trans (KX.of_below (b:=b) q4) F3.out);have F4:=F3;have N4:=Lib.hid (N3.out.below q4);have T4:=T3;clear C3;clear q4)
 clear hnx
 have n0:=N4.out.c0;have g0:=N4.out.f 0
 go_upto_region 12 with fail
 have S5:=Lib.hid (S4.out.setN HNB.out T4.out HBN.out 0 (.int .u8 (2)))
 have K5:=Lib.hid (K4.out.setN LN.out 0 (.int .u8 (2)))
 have F5:=F4;have T5:=T4
 have N5:Hid (Nine (w4.setCell ⟨iN,0,none⟩ (.int .u8 (2))) iN {nd with op:=2}):=Lib.hid (Nine.setC N4.out 0 _ rfl)
 obtain ⟨W5,hWn⟩:∃ W,Hid (w4.setCell ⟨iN,0,none⟩ (.int .u8 (2))=W):=⟨_,Lib.hid rfl⟩
 rw [hWn.out] at S5 K5 N5
 rw [hWn.out]
 clear hWn n0 g0 S4 K4 N4
 obtain ⟨n_5,hn_5⟩:∃ m,Hid ({nd with op:=2}=m):=⟨_,Lib.hid rfl⟩
 rw [hn_5.out] at N5
 go_upto_region 14 with fail
 have b1:=S5.out.c1;have f1:=S5.out.f 1
 go_upto_region 15 with fail
 have S6:Hid (St L En B b (.slice (some ⟨g,go_,none⟩) N lc) (W5.setCell ⟨b,1,none⟩ (.int .i64 ((s.a:Int)+1))) tv (upR s)):=Lib.hid (S5.out.setA (s.a+1))
 have K6:=Lib.hid (K5.out.set 1 (.int .i64 ((s.a:Int)+1)))
 have F6:=F5;have T6:=T5
 have N6:=Lib.hid (Nine.setB N5.out HNB.out 1 (.int .i64 ((s.a:Int)+1)))
 obtain ⟨W6,hWn⟩:∃ W,Hid (W5.setCell ⟨b,1,none⟩ (.int .i64 ((s.a:Int)+1))=W):=⟨_,Lib.hid rfl⟩
 rw [hWn.out] at S6 K6 N6
 rw [hWn.out]
 clear hWn S5 K5 N5
 clear b1 f1
 obtain ⟨sq,hsq⟩:∃ q,Hid (upR s=q):=⟨_,Lib.hid rfl⟩
 replace S6:Hid (St L En B b (.slice (some ⟨g,go_,none⟩) N lc) W6 tv sq):=Lib.hid (by rw [←hsq.out];exact S6.out)
 have HTL:Hid (sq.t.length≤10000):=Lib.hid (by rw [←hsq.out];show s.t.length≤_;exact inv_t HI.out HL.out)
 obtain ⟨av,cv,hv,_,_⟩:=S6.out.row.form
 obtain ⟨tn,htn⟩:∃ k:Nat,Hid (sq.t.length=k):=⟨_,Lib.hid rfl⟩
 have SD:=Lib.hid (S6.out.below ((Below.refl _ _).drew))
 have SA:=Lib.hid (S6.out.below (bt ((Below.refl _ _).drew) (ba W6.drew (.cells #[.int .u8 n_5.op,.int .i64 n_5.c,.int .i64 n_5.s,.string (bs n_5.n),.int .i64 n_5.k,.int .i64 n_5.x,.int .i64 n_5.y,.int .i64 n_5.z,.int .i64 n_5.p] 39))))
 have KA:=Lib.hid (K6.out.trans (KX.of_below (b:=b) (bt ((Below.refl _ _).drew) (ba W6.drew (.cells #[.int .u8 n_5.op,.int .i64 n_5.c,.int .i64 n_5.s,.string (bs n_5.n),.int .i64 n_5.k,.int .i64 n_5.x,.int .i64 n_5.y,.int .i64 n_5.z,.int .i64 n_5.p] 39)))) F6.out)
 have RT:Hid (ndT.Row (W6.drew.alloc (.cells #[.int .u8 n_5.op,.int .i64 n_5.c,.int .i64 n_5.s,.string (bs n_5.n),.int .i64 n_5.k,.int .i64 n_5.x,.int .i64 n_5.y,.int .i64 n_5.z,.int .i64 n_5.p] 39)) B _ sq.t):=Lib.hid SA.out.row
 have SRT:Hid (ndT.Arg (W6.drew.alloc (.cells #[.int .u8 n_5.op,.int .i64 n_5.c,.int .i64 n_5.s,.string (bs n_5.n),.int .i64 n_5.k,.int .i64 n_5.x,.int .i64 n_5.y,.int .i64 n_5.z,.int .i64 n_5.p] 39)) (.slice (some ⟨W6.heap.size,0,none⟩) 1 1) [n_5]):=Lib.hid (Elem.arg_one (E:=ndT) (w:=W6.drew) n_5 39)
 have HFL:Hid (sq.t.length+[n_5].length≤1000001):=Lib.hid (by rw [List.length_singleton];have:=HTL.out;omega)
 have HB:Hid (B≤(W6.drew.alloc (.cells #[.int .u8 n_5.op,.int .i64 n_5.c,.int .i64 n_5.s,.string (bs n_5.n),.int .i64 n_5.k,.int .i64 n_5.x,.int .i64 n_5.y,.int .i64 n_5.z,.int .i64 n_5.p] 39)).heap.size):=Lib.hid (by have:=SA.out.bB;have:=SA.out.lt;omega)
 have NA:=Lib.hid (N6.out.below (bt ((Below.refl _ _).drew) (ba W6.drew (.cells #[.int .u8 n_5.op,.int .i64 n_5.c,.int .i64 n_5.s,.string (bs n_5.n),.int .i64 n_5.k,.int .i64 n_5.x,.int .i64 n_5.y,.int .i64 n_5.z,.int .i64 n_5.p] 39))))
 have c4:=S6.out.c4
 have c4a:(W6.alloc (.cells #[.int .u8 n_5.op,.int .i64 n_5.c,.int .i64 n_5.s,.string (bs n_5.n),.int .i64 n_5.k,.int .i64 n_5.x,.int .i64 n_5.y,.int .i64 n_5.z,.int .i64 n_5.p] 39)).cell? ⟨b,4,none⟩=some _:=SA.out.c4
 have n0:=N6.out.c0
 have m0:(W6.alloc (.cells #[.int .u8 n_5.op,.int .i64 n_5.c,.int .i64 n_5.s,.string (bs n_5.n),.int .i64 n_5.k,.int .i64 n_5.x,.int .i64 n_5.y,.int .i64 n_5.z,.int .i64 n_5.p] 39)).cell? ⟨iN,0,none⟩=some (.int .u8 n_5.op):=NA.out.c0
 have n1:=N6.out.c1
 have m1:(W6.alloc (.cells #[.int .u8 n_5.op,.int .i64 n_5.c,.int .i64 n_5.s,.string (bs n_5.n),.int .i64 n_5.k,.int .i64 n_5.x,.int .i64 n_5.y,.int .i64 n_5.z,.int .i64 n_5.p] 39)).cell? ⟨iN,1,none⟩=some (.int .i64 n_5.c):=NA.out.c1
 have n2:=N6.out.c2
 have m2:(W6.alloc (.cells #[.int .u8 n_5.op,.int .i64 n_5.c,.int .i64 n_5.s,.string (bs n_5.n),.int .i64 n_5.k,.int .i64 n_5.x,.int .i64 n_5.y,.int .i64 n_5.z,.int .i64 n_5.p] 39)).cell? ⟨iN,2,none⟩=some (.int .i64 n_5.s):=NA.out.c2
 have n3:=N6.out.c3
 have m3:(W6.alloc (.cells #[.int .u8 n_5.op,.int .i64 n_5.c,.int .i64 n_5.s,.string (bs n_5.n),.int .i64 n_5.k,.int .i64 n_5.x,.int .i64 n_5.y,.int .i64 n_5.z,.int .i64 n_5.p] 39)).cell? ⟨iN,3,none⟩=some (.string (bs n_5.n)):=NA.out.c3
 have n4:=N6.out.c4
 have m4:(W6.alloc (.cells #[.int .u8 n_5.op,.int .i64 n_5.c,.int .i64 n_5.s,.string (bs n_5.n),.int .i64 n_5.k,.int .i64 n_5.x,.int .i64 n_5.y,.int .i64 n_5.z,.int .i64 n_5.p] 39)).cell? ⟨iN,4,none⟩=some (.int .i64 n_5.k):=NA.out.c4
 have n5:=N6.out.c5
 have m5:(W6.alloc (.cells #[.int .u8 n_5.op,.int .i64 n_5.c,.int .i64 n_5.s,.string (bs n_5.n),.int .i64 n_5.k,.int .i64 n_5.x,.int .i64 n_5.y,.int .i64 n_5.z,.int .i64 n_5.p] 39)).cell? ⟨iN,5,none⟩=some (.int .i64 n_5.x):=NA.out.c5
 have n6:=N6.out.c6
 have m6:(W6.alloc (.cells #[.int .u8 n_5.op,.int .i64 n_5.c,.int .i64 n_5.s,.string (bs n_5.n),.int .i64 n_5.k,.int .i64 n_5.x,.int .i64 n_5.y,.int .i64 n_5.z,.int .i64 n_5.p] 39)).cell? ⟨iN,6,none⟩=some (.int .i64 n_5.y):=NA.out.c6
 have n7:=N6.out.c7
 have m7:(W6.alloc (.cells #[.int .u8 n_5.op,.int .i64 n_5.c,.int .i64 n_5.s,.string (bs n_5.n),.int .i64 n_5.k,.int .i64 n_5.x,.int .i64 n_5.y,.int .i64 n_5.z,.int .i64 n_5.p] 39)).cell? ⟨iN,7,none⟩=some (.int .i64 n_5.z):=NA.out.c7
 have n8:=N6.out.c8
 have m8:(W6.alloc (.cells #[.int .u8 n_5.op,.int .i64 n_5.c,.int .i64 n_5.s,.string (bs n_5.n),.int .i64 n_5.k,.int .i64 n_5.x,.int .i64 n_5.y,.int .i64 n_5.z,.int .i64 n_5.p] 39)).cell? ⟨iN,8,none⟩=some (.int .i64 n_5.p):=NA.out.c8
 have kw:=wrapL tn (by have:=HTL.out;have:=htn.out;omega)
 have kw2:IntKind.i64.wrap (tn:Int)=(tn:Int):=wrapI (by omega) (by have:=HTL.out;have:=htn.out;omega)
 rw [htn.out] at hv
 subst hv
 go_region_law (first | (go_loud (refine Elem.step (E:=ndT) rfl _ _ rfl B (.slice av tn cv) sq.t (.slice (some ⟨W6.heap.size,0,none⟩) 1 1) [n_5] rfl rfl RT.out SRT.out HFL.out (by decide) HB.out ?_;intro v6 w6 r6 g6 f6;have Y:=SA.out.more KA.out F6.out r6 g6 f6;have d4:=Y.1.1;have f4:=Y.1.2;have SX:=Lib.hid Y.2.1;have KK:=Lib.hid Y.2.2.1;have FF:=Lib.hid Y.2.2.2;clear Y;obtain ⟨a6,q6,e6,_,_⟩:=r6.form;clear r6 g6 f6;obtain ⟨n6,hn6⟩:∃ k:Nat,Hid ((sq.t++[n_5]).length=k):=⟨_,Lib.hid rfl⟩;rw [hn6.out] at e6;subst e6)))
 all_goals
  have h6:n6=tn+1:=by have:=hn6.out;rw [List.length_append,List.length_singleton,htn.out] at this;exact this.symm
  subst h6
  have FX:=Lib.hid FF.out
  obtain ⟨WX,hWX⟩:∃ W,Hid (w6.setCell ⟨b,4,none⟩ (.slice a6 (tn+1) q6)=W):=⟨_,Lib.hid rfl⟩
  rw [hWX.out] at SX KK
  try rw [hWX.out]
  clear hWX d4 f4 SA KA SRT RT HFL HB c4 c4a n0 m0 n1 m1 n2 m2 n3 m3 n4 m4 n5 m5 n6 m6 n7 m7 n8 m8 SD NA FF
  have c4:=SX.out.c4
  go_wp2_with fail
  go_ret
  have FIN:addR {nodeAt L En s with op:=2} (upR s)=addR n_5 sq:=by rw [hsq.out,←hn_5,hnd.out]
  rw [FIN]
  refine ⟨?_,_,SX.out,KK.out,FX.out⟩
  show Ending.returned _=.returned (.int .i64 ((sq.t.length:Nat):Int))
  rw [htn.out];simp
theorem at_false (f:Nat) (hN:L.length=N) (hl:N≤1000) (hT:∀ x ∈ L,x.t.length≤1000) {x:Tok} (hx:L[s.a]?=some x) (hk:¬x.k=2) (hw:x.t=wFalse) (hi:Inv N s) (h0:s.e=0) (h:St L En B b (.slice ao N lc) w tv s):Calls Tryz.prog 100 #[.pointer (some ⟨b,0,none⟩)] w (RI L En B b (.slice ao N lc) (runR L En (f+1) .atm s) w tv):=by
 have E:runR L En (f+1) .atm s=addR {nodeAt L En s with op:=3} (upR s):=by simp only [runR];rw [hx];simp only;rw [if_neg hk,if_neg (by rw [hw];decide),if_pos hw]
 rw [E]
 have HN:=Lib.hid hN;have HL:=Lib.hid hl;have HTX:=Lib.hid hT;have HI:=Lib.hid hi
 have HD:Hid (-1000≤s.d∧s.d≤1000):=Lib.hid ⟨by have:=hi.dl;have:=hi.a;omega,by have:=hi.dh;omega⟩
 have hbw:=h.lt;have hbB:=h.bB;have hrow:=h.row
 have S0:=Lib.hid h;have K0:=Lib.hid (KX.refl (b:=b) (tv:=tv) (w:=w));have F0:=Lib.hid (Fr.refl tv w)
 have C0:=place_is S0.out HN.out
 obtain ⟨P,hP⟩:∃ z,Hid (placeR L En s=z):=⟨_,Lib.hid rfl⟩
 rw [hP.out] at C0
 obtain ⟨nd,hnd⟩:∃ m,Hid (nodeAt L En s=m):=⟨_,Lib.hid rfl⟩
 have lt:s.a<N:=by rw [←hN];exact (List.getElem?_eq_some_iff.1 hx).1
 have d0:(0:Int)≤(s.a:Int):=by omega
 have d1:decide ((s.a:Int)<(N:Int))=true:=by simp;omega
 have d2:decide (s.a<N)=true:=by simp;omega
 have d3:(s.a:Int)<(N:Int):=by omega
 have HXX:=Lib.hid hx
 have HLT:=Lib.hid lt
 have kw:IntKind.i64.wrap ((s.a:Int)+1)=(s.a:Int)+1:=Ev.wrap1 s.a (by omega)
 have e1:decide (x.k=2)=false:=decide_eq_false hk
 have e2:(x.k !=2)=true:=by simpa using hk
 have e3:(x.k==2)=false:=by simpa using hk
 have hnx:nextR L s=x.t:=by unfold nextR;rw [hx];exact if_neg hk
 clear lt
 obtain ⟨S,hS⟩:∃ S,Hid (bs wFalse=S):=⟨_,Lib.hid rfl⟩
 have s0:(S.toList==[116,114,117,101])=false:=by rw [←hS.out,bs_toList];decide
 have s1:(S.toList==[102,97,108,115,101])=true:=by rw [←hS.out,bs_toList];decide
 have s2:(S.toList==[40])=false:=by rw [←hS.out,bs_toList];decide
 have s3:(S.toList==[105,102])=false:=by rw [←hS.out,bs_toList];decide
 have s4:(S.toList==[109,105,110])=false:=by rw [←hS.out,bs_toList];decide
 have s5:(S.toList==[109,97,120])=false:=by rw [←hS.out,bs_toList];decide
 have s6:(S.toList==[97,98,115])=false:=by rw [←hS.out,bs_toList];decide
 have s7:(S.toList==[114,111,117,110,100])=false:=by rw [←hS.out,bs_toList];decide
 have s8:(S.toList==[104,97,115])=false:=by rw [←hS.out,bs_toList];decide
 have s9:(S.toList==[111,114,101,108,115,101])=false:=by rw [←hS.out,bs_toList];decide
 clear E h0
 clear h hN hl hT hi hx hk
 go_enter Tryz.func100,Tryz.ntmps100
 go_upto_region 2 with (go_at_call 102;(with_reducible refine (C0).mono ?_);rintro e1 w1 ⟨rfl,q1⟩;have S1:=Lib.hid (S0.out.below q1);have K1:=Lib.hid (K0.out.trans (KX.of_below (b:=b) q1) F0.out);have F1:=F0;clear C0;clear q1)
 obtain ⟨W2,iN,hW,hX,N2,B2,LN,_,_⟩:=mk1 w1 (.cells #[.int .u8 0,.int .i64 0,.int .i64 0,.string ⟨#[]⟩,.int .i64 0,.int .i64 (-1),.int .i64 (-1),.int .i64 (-1),.int .i64 P] 39)
 rw [hW.out]
 try rw [hX.out]
 have hni:iN=w1.heap.size:=hX.out.symm
 clear hW hX
 replace N2:Hid (Nine W2 iN nd):=Lib.hid (by rw [←hnd.out];unfold nodeAt;rw [hP.out];exact N2.out)
 have HW1:=K1.out.size
 have HNB:Hid (iN ≠ b):=Lib.hid (by omega)
 have T2:Hid (some iN ≠ tv.ownBlock):=Lib.hid (fun e=>by have:=(hrow.lt iN e.symm).2;omega)
 have HBN:Hid (B≤iN):=Lib.hid (by omega)
 have S2:=Lib.hid (S1.out.below B2.out)
 have K2:=Lib.hid (K1.out.trans (KX.of_below (b:=b) B2.out) F1.out)
 have F2:=F1
 replace LN:Hid (w.heap.size≤iN):=Lib.hid (by omega)
 clear hni hbw hbB hrow S1 K1 F1 HW1 B2 S0 K0 F0
 have b0:=S2.out.c0;have b1:=S2.out.c1
 obtain ⟨g,go_,H⟩:=here S2.out.toks HXX.out
 obtain rfl:=H.e
 have c0:=H.c0;have c2:=H.c2;have c3:=H.c3
 clear H
 go_quiet (fail)
 rename Nat=>nq0
 obtain ⟨nq,rfl⟩:∃ n:Nat,n=nq0:=⟨_,rfl⟩
 have BQ:=drewN_below W2 nq
 obtain ⟨W3,hwq⟩:∃ V,Hid (W2.drewN nq=V):=⟨_,Lib.hid rfl⟩
 rw [hwq.out] at BQ⊢
 have S3:=Lib.hid (S2.out.below BQ)
 have K3:=Lib.hid (K2.out.trans (KX.of_below (b:=b) BQ) F2.out)
 have F3:=F2
 have N3:=Lib.hid (N2.out.below BQ)
 have T3:=T2
 clear hwq BQ S2 K2 N2 T2 F2 b0 b1 c0 c2 c3
 have C3:=next_is S3.out HN.out
 unfold SP at C3
 rw [hnx,hw] at C3
 rw [hS.out] at C3
 go_upto_region 11 with (go_at_call 101;(with_reducible refine (C3).mono ?_);rintro e4 w4 ⟨rfl,q4⟩;have S4:=Lib.hid (S3.out.below q4);have K4:=Lib.hid (K3.out.trans (KX.of_below (b:=b) q4) F3.out);have F4:=F3;have N4:=Lib.hid (N3.out.below q4);have T4:=T3;clear C3;clear q4)
 clear hnx
 have n0:=N4.out.c0;have g0:=N4.out.f 0
 go_upto_region 12 with fail
 have S5:=Lib.hid (S4.out.setN HNB.out T4.out HBN.out 0 (.int .u8 (2)))
 have K5:=Lib.hid (K4.out.setN LN.out 0 (.int .u8 (2)))
 have F5:=F4;have T5:=T4
 have N5:Hid (Nine (w4.setCell ⟨iN,0,none⟩ (.int .u8 (2))) iN {nd with op:=2}):=Lib.hid (Nine.setC N4.out 0 _ rfl)
 obtain ⟨W5,hWn⟩:∃ W,Hid (w4.setCell ⟨iN,0,none⟩ (.int .u8 (2))=W):=⟨_,Lib.hid rfl⟩
 rw [hWn.out] at S5 K5 N5
 rw [hWn.out]
 clear hWn n0 g0 S4 K4 N4
 obtain ⟨n_5,hn_5⟩:∃ m,Hid ({nd with op:=2}=m):=⟨_,Lib.hid rfl⟩
 rw [hn_5.out] at N5
 have n0:=N5.out.c0;have g0:=N5.out.f 0
 go_upto_region 13 with fail
 go_upto_region 14 with fail
 have S6:=Lib.hid (S5.out.setN HNB.out T5.out HBN.out 0 (.int .u8 (3)))
 have K6:=Lib.hid (K5.out.setN LN.out 0 (.int .u8 (3)))
 have F6:=F5;have T6:=T5
 have N6:Hid (Nine (W5.setCell ⟨iN,0,none⟩ (.int .u8 (3))) iN {n_5 with op:=3}):=Lib.hid (Nine.setC N5.out 0 _ rfl)
 obtain ⟨W6,hWn⟩:∃ W,Hid (W5.setCell ⟨iN,0,none⟩ (.int .u8 (3))=W):=⟨_,Lib.hid rfl⟩
 rw [hWn.out] at S6 K6 N6
 rw [hWn.out]
 clear hWn n0 g0 S5 K5 N5
 obtain ⟨n_6,hn_6⟩:∃ m,Hid ({n_5 with op:=3}=m):=⟨_,Lib.hid rfl⟩
 rw [hn_6.out] at N6
 have b1:=S6.out.c1;have f1:=S6.out.f 1
 go_upto_region 15 with fail
 have S7:Hid (St L En B b (.slice (some ⟨g,go_,none⟩) N lc) (W6.setCell ⟨b,1,none⟩ (.int .i64 ((s.a:Int)+1))) tv (upR s)):=Lib.hid (S6.out.setA (s.a+1))
 have K7:=Lib.hid (K6.out.set 1 (.int .i64 ((s.a:Int)+1)))
 have F7:=F6;have T7:=T6
 have N7:=Lib.hid (Nine.setB N6.out HNB.out 1 (.int .i64 ((s.a:Int)+1)))
 obtain ⟨W7,hWn⟩:∃ W,Hid (W6.setCell ⟨b,1,none⟩ (.int .i64 ((s.a:Int)+1))=W):=⟨_,Lib.hid rfl⟩
 rw [hWn.out] at S7 K7 N7
 rw [hWn.out]
 clear hWn S6 K6 N6
 clear b1 f1
 obtain ⟨sq,hsq⟩:∃ q,Hid (upR s=q):=⟨_,Lib.hid rfl⟩
 replace S7:Hid (St L En B b (.slice (some ⟨g,go_,none⟩) N lc) W7 tv sq):=Lib.hid (by rw [←hsq.out];exact S7.out)
 have HTL:Hid (sq.t.length≤10000):=Lib.hid (by rw [←hsq.out];show s.t.length≤_;exact inv_t HI.out HL.out)
 obtain ⟨av,cv,hv,_,_⟩:=S7.out.row.form
 obtain ⟨tn,htn⟩:∃ k:Nat,Hid (sq.t.length=k):=⟨_,Lib.hid rfl⟩
 have SD:=Lib.hid (S7.out.below ((Below.refl _ _).drew))
 have SA:=Lib.hid (S7.out.below (bt ((Below.refl _ _).drew) (ba W7.drew (.cells #[.int .u8 n_6.op,.int .i64 n_6.c,.int .i64 n_6.s,.string (bs n_6.n),.int .i64 n_6.k,.int .i64 n_6.x,.int .i64 n_6.y,.int .i64 n_6.z,.int .i64 n_6.p] 39))))
 have KA:=Lib.hid (K7.out.trans (KX.of_below (b:=b) (bt ((Below.refl _ _).drew) (ba W7.drew (.cells #[.int .u8 n_6.op,.int .i64 n_6.c,.int .i64 n_6.s,.string (bs n_6.n),.int .i64 n_6.k,.int .i64 n_6.x,.int .i64 n_6.y,.int .i64 n_6.z,.int .i64 n_6.p] 39)))) F7.out)
 have RT:Hid (ndT.Row (W7.drew.alloc (.cells #[.int .u8 n_6.op,.int .i64 n_6.c,.int .i64 n_6.s,.string (bs n_6.n),.int .i64 n_6.k,.int .i64 n_6.x,.int .i64 n_6.y,.int .i64 n_6.z,.int .i64 n_6.p] 39)) B _ sq.t):=Lib.hid SA.out.row
 have SRT:Hid (ndT.Arg (W7.drew.alloc (.cells #[.int .u8 n_6.op,.int .i64 n_6.c,.int .i64 n_6.s,.string (bs n_6.n),.int .i64 n_6.k,.int .i64 n_6.x,.int .i64 n_6.y,.int .i64 n_6.z,.int .i64 n_6.p] 39)) (.slice (some ⟨W7.heap.size,0,none⟩) 1 1) [n_6]):=Lib.hid (Elem.arg_one (E:=ndT) (w:=W7.drew) n_6 39)
 have HFL:Hid (sq.t.length+[n_6].length≤1000001):=Lib.hid (by rw [List.length_singleton];have:=HTL.out;omega)
 have HB:Hid (B≤(W7.drew.alloc (.cells #[.int .u8 n_6.op,.int .i64 n_6.c,.int .i64 n_6.s,.string (bs n_6.n),.int .i64 n_6.k,.int .i64 n_6.x,.int .i64 n_6.y,.int .i64 n_6.z,.int .i64 n_6.p] 39)).heap.size):=Lib.hid (by have:=SA.out.bB;have:=SA.out.lt;omega)
 have NA:=Lib.hid (N7.out.below (bt ((Below.refl _ _).drew) (ba W7.drew (.cells #[.int .u8 n_6.op,.int .i64 n_6.c,.int .i64 n_6.s,.string (bs n_6.n),.int .i64 n_6.k,.int .i64 n_6.x,.int .i64 n_6.y,.int .i64 n_6.z,.int .i64 n_6.p] 39))))
 have c4:=S7.out.c4
 have c4a:(W7.alloc (.cells #[.int .u8 n_6.op,.int .i64 n_6.c,.int .i64 n_6.s,.string (bs n_6.n),.int .i64 n_6.k,.int .i64 n_6.x,.int .i64 n_6.y,.int .i64 n_6.z,.int .i64 n_6.p] 39)).cell? ⟨b,4,none⟩=some _:=SA.out.c4
 have n0:=N7.out.c0
 have m0:(W7.alloc (.cells #[.int .u8 n_6.op,.int .i64 n_6.c,.int .i64 n_6.s,.string (bs n_6.n),.int .i64 n_6.k,.int .i64 n_6.x,.int .i64 n_6.y,.int .i64 n_6.z,.int .i64 n_6.p] 39)).cell? ⟨iN,0,none⟩=some (.int .u8 n_6.op):=NA.out.c0
 have n1:=N7.out.c1
 have m1:(W7.alloc (.cells #[.int .u8 n_6.op,.int .i64 n_6.c,.int .i64 n_6.s,.string (bs n_6.n),.int .i64 n_6.k,.int .i64 n_6.x,.int .i64 n_6.y,.int .i64 n_6.z,.int .i64 n_6.p] 39)).cell? ⟨iN,1,none⟩=some (.int .i64 n_6.c):=NA.out.c1
 have n2:=N7.out.c2
 have m2:(W7.alloc (.cells #[.int .u8 n_6.op,.int .i64 n_6.c,.int .i64 n_6.s,.string (bs n_6.n),.int .i64 n_6.k,.int .i64 n_6.x,.int .i64 n_6.y,.int .i64 n_6.z,.int .i64 n_6.p] 39)).cell? ⟨iN,2,none⟩=some (.int .i64 n_6.s):=NA.out.c2
 have n3:=N7.out.c3
 have m3:(W7.alloc (.cells #[.int .u8 n_6.op,.int .i64 n_6.c,.int .i64 n_6.s,.string (bs n_6.n),.int .i64 n_6.k,.int .i64 n_6.x,.int .i64 n_6.y,.int .i64 n_6.z,.int .i64 n_6.p] 39)).cell? ⟨iN,3,none⟩=some (.string (bs n_6.n)):=NA.out.c3
 have n4:=N7.out.c4
 have m4:(W7.alloc (.cells #[.int .u8 n_6.op,.int .i64 n_6.c,.int .i64 n_6.s,.string (bs n_6.n),.int .i64 n_6.k,.int .i64 n_6.x,.int .i64 n_6.y,.int .i64 n_6.z,.int .i64 n_6.p] 39)).cell? ⟨iN,4,none⟩=some (.int .i64 n_6.k):=NA.out.c4
 have n5:=N7.out.c5
 have m5:(W7.alloc (.cells #[.int .u8 n_6.op,.int .i64 n_6.c,.int .i64 n_6.s,.string (bs n_6.n),.int .i64 n_6.k,.int .i64 n_6.x,.int .i64 n_6.y,.int .i64 n_6.z,.int .i64 n_6.p] 39)).cell? ⟨iN,5,none⟩=some (.int .i64 n_6.x):=NA.out.c5
 have n6:=N7.out.c6
 have m6:(W7.alloc (.cells #[.int .u8 n_6.op,.int .i64 n_6.c,.int .i64 n_6.s,.string (bs n_6.n),.int .i64 n_6.k,.int .i64 n_6.x,.int .i64 n_6.y,.int .i64 n_6.z,.int .i64 n_6.p] 39)).cell? ⟨iN,6,none⟩=some (.int .i64 n_6.y):=NA.out.c6
 have n7:=N7.out.c7
 have m7:(W7.alloc (.cells #[.int .u8 n_6.op,.int .i64 n_6.c,.int .i64 n_6.s,.string (bs n_6.n),.int .i64 n_6.k,.int .i64 n_6.x,.int .i64 n_6.y,.int .i64 n_6.z,.int .i64 n_6.p] 39)).cell? ⟨iN,7,none⟩=some (.int .i64 n_6.z):=NA.out.c7
 have n8:=N7.out.c8
 have m8:(W7.alloc (.cells #[.int .u8 n_6.op,.int .i64 n_6.c,.int .i64 n_6.s,.string (bs n_6.n),.int .i64 n_6.k,.int .i64 n_6.x,.int .i64 n_6.y,.int .i64 n_6.z,.int .i64 n_6.p] 39)).cell? ⟨iN,8,none⟩=some (.int .i64 n_6.p):=NA.out.c8
 have kw:=wrapL tn (by have:=HTL.out;have:=htn.out;omega)
 have kw2:IntKind.i64.wrap (tn:Int)=(tn:Int):=wrapI (by omega) (by have:=HTL.out;have:=htn.out;omega)
 rw [htn.out] at hv
 subst hv
 go_region_law (first | (go_loud (refine Elem.step (E:=ndT) rfl _ _ rfl B (.slice av tn cv) sq.t (.slice (some ⟨W7.heap.size,0,none⟩) 1 1) [n_6] rfl rfl RT.out SRT.out HFL.out (by decide) HB.out ?_;intro v6 w6 r6 g6 f6;have Y:=SA.out.more KA.out F7.out r6 g6 f6;have d4:=Y.1.1;have f4:=Y.1.2;have SX:=Lib.hid Y.2.1;have KK:=Lib.hid Y.2.2.1;have FF:=Lib.hid Y.2.2.2;clear Y;obtain ⟨a6,q6,e6,_,_⟩:=r6.form;clear r6 g6 f6;obtain ⟨n6,hn6⟩:∃ k:Nat,Hid ((sq.t++[n_6]).length=k):=⟨_,Lib.hid rfl⟩;rw [hn6.out] at e6;subst e6)))
 all_goals
  have h6:n6=tn+1:=by have:=hn6.out;rw [List.length_append,List.length_singleton,htn.out] at this;exact this.symm
  subst h6
  have FX:=Lib.hid FF.out
  obtain ⟨WX,hWX⟩:∃ W,Hid (w6.setCell ⟨b,4,none⟩ (.slice a6 (tn+1) q6)=W):=⟨_,Lib.hid rfl⟩
  rw [hWX.out] at SX KK
  try rw [hWX.out]
  clear hWX d4 f4 SA KA SRT RT HFL HB c4 c4a n0 m0 n1 m1 n2 m2 n3 m3 n4 m4 n5 m5 n6 m6 n7 m7 n8 m8 SD NA FF
  have c4:=SX.out.c4
  go_wp2_with fail
  go_ret
  have FIN:addR {nodeAt L En s with op:=3} (upR s)=addR n_6 sq:=by rw [hsq.out,←hn_6.out,←hn_5,hnd.out]
  rw [FIN]
  refine ⟨?_,_,SX.out,KK.out,FX.out⟩
  show Ending.returned _=.returned (.int .i64 ((sq.t.length:Nat):Int))
  rw [htn.out];simp
end
end Go.Proofs.YteagpbkbdlmdiaaGreat.Ps
