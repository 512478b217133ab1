/-
  The document's parser: atom, brackets, calls, windows, fields; The document's parser: atom, brackets, calls, windows, fields; The document's parser: atom, brackets, calls, windows, fields.
-/
import Derived.Test.YteagpbkbdlmdiaaGreatQ39
set_option linter.unusedSimpArgs false
set_option linter.unusedVariables false
namespace Go.Proofs.YteagpbkbdlmdiaaGreat.Ps
open Go Go.RowKit Dt Tx Va Ev Lx
attribute [local go_sem ↓] Go.wp_at_zero Go.wp_at_succ
section
variable {L:List Tok} {En:Int} {B b N lc:Nat} {ao:Option Addr} {tv:Value} {w:World} {s:Rd}
set_option maxRecDepth 100000 in
set_option maxHeartbeats 4000000 in
theorem at_lp (f:Nat) (hN:L.length=N) (hl:N≤1000) (hT:∀ x ∈ L,x.t.length≤1000) {x:Tok} (hx:L[s.a]?=some x) (hk:¬x.k=2) (hw:x.t=wLp) (HE:ExC L En B b N (.slice ao N lc) f) (hm:muR N .atm s.a≤f+1) (hi:Inv N s) (h0:s.e=0) (h:St L En B b (.slice ao N lc) w tv s):Calls Tryz.prog 100 #[.pointer (some ⟨b,0,none⟩)] w (RI L En B b (.slice ao N lc) (runR L En (f+1) .atm s) w tv):=by
 have E:runR L En (f+1) .atm s=(outR (mustR L En wRp (runR L En f (.ex 0) (upR (deeperR L En s))).1),(runR L En f (.ex 0) (upR (deeperR L En s))).2):=by simp only [runR];rw [hx];simp only;rw [if_neg hk,if_neg (by rw [hw];decide),if_neg (by rw [hw];decide),if_pos hw]
 rw [E]
 have HN:=Lib.hid hN;have HL:=Lib.hid hl;have HTX:=Lib.hid hT;have HI:=Lib.hid hi
 have HD:Hid (-1000≤s.d∧s.d≤1000):=Lib.hid ⟨by have:=hi.dl;have:=hi.a;omega,by have:=hi.dh;omega⟩
 have hbw:=h.lt;have hbB:=h.bB;have hrow:=h.row
 have S0:=Lib.hid h;have K0:=Lib.hid (KX.refl (b:=b) (tv:=tv) (w:=w));have F0:=Lib.hid (Fr.refl tv w)
 have C0:=place_is S0.out HN.out
 obtain ⟨P,hP⟩:∃ z,Hid (placeR L En s=z):=⟨_,Lib.hid rfl⟩
 rw [hP.out] at C0
 obtain ⟨nd,hnd⟩:∃ m,Hid (nodeAt L En s=m):=⟨_,Lib.hid rfl⟩
 have lt:s.a<N:=by rw [←hN];exact (List.getElem?_eq_some_iff.1 hx).1
 have d0:(0:Int)≤(s.a:Int):=by omega
 have d1:decide ((s.a:Int)<(N:Int))=true:=by simp;omega
 have d2:decide (s.a<N)=true:=by simp;omega
 have d3:(s.a:Int)<(N:Int):=by omega
 have HXX:=Lib.hid hx
 have HLT:=Lib.hid lt
 have kw:IntKind.i64.wrap ((s.a:Int)+1)=(s.a:Int)+1:=Ev.wrap1 s.a (by omega)
 have e1:decide (x.k=2)=false:=decide_eq_false hk
 have e2:(x.k !=2)=true:=by simpa using hk
 have e3:(x.k==2)=false:=by simpa using hk
 have hnx:nextR L s=x.t:=by unfold nextR;rw [hx];exact if_neg hk
 clear lt
 obtain ⟨S,hS⟩:∃ S,Hid (bs wLp=S):=⟨_,Lib.hid rfl⟩
 have s0:(S.toList==[116,114,117,101])=false:=by rw [←hS.out,bs_toList];decide
 have s1:(S.toList==[102,97,108,115,101])=false:=by rw [←hS.out,bs_toList];decide
 have s2:(S.toList==[40])=true:=by rw [←hS.out,bs_toList];decide
 have s3:(S.toList==[105,102])=false:=by rw [←hS.out,bs_toList];decide
 have s4:(S.toList==[109,105,110])=false:=by rw [←hS.out,bs_toList];decide
 have s5:(S.toList==[109,97,120])=false:=by rw [←hS.out,bs_toList];decide
 have s6:(S.toList==[97,98,115])=false:=by rw [←hS.out,bs_toList];decide
 have s7:(S.toList==[114,111,117,110,100])=false:=by rw [←hS.out,bs_toList];decide
 have s8:(S.toList==[104,97,115])=false:=by rw [←hS.out,bs_toList];decide
 have s9:(S.toList==[111,114,101,108,115,101])=false:=by rw [←hS.out,bs_toList];decide
 have IV:=Lib.hid (inv_deep (L:=L) (En:=En) hi HLT.out h0)
 have IG:=Lib.hid (run_gt (L:=L) (En:=En) f (.ex 0) (upR (deeperR L En s)) (by rw [hN];exact IV.out.a) trivial)
 rw [hN] at IG
 have IV2:=Lib.hid (IV.out.of IG.out)
 have DA:Hid ((deeperR L En s).a=s.a):=Lib.hid (full_a (L:=L) (En:=En) (s:=s)).1
 have EXC:=HE 0 0 (upR (deeperR L En s))
 have HMU:Hid (muR N (.ex 0) (upR (deeperR L En s)).a≤f):=Lib.hid (by simp only [muR] at hm⊢;show 24*(N - ((deeperR L En s).a+1))+_≤_;rw [DA.out];have:=HLT.out;omega)
 obtain ⟨⟨s7,x7⟩,hr7⟩:∃ r,Hid (runR L En f (.ex 0) (upR (deeperR L En s))=r):=⟨_,Lib.hid rfl⟩
 rw [hr7.out] at EXC IV2⊢
 simp only at IV2⊢
 clear E h0 hm HE hr7 IG
 clear h hN hl hT hi hx hk
 go_enter Tryz.func100,Tryz.ntmps100
 go_upto_region 2 with (go_at_call 102;(with_reducible refine (C0).mono ?_);rintro e1 w1 ⟨rfl,q1⟩;have S1:=Lib.hid (S0.out.below q1);have K1:=Lib.hid (K0.out.trans (KX.of_below (b:=b) q1) F0.out);have F1:=F0;clear C0;clear q1)
 obtain ⟨W2,iN,hW,hX,N2,B2,LN,_,_⟩:=mk1 w1 (.cells #[.int .u8 0,.int .i64 0,.int .i64 0,.string ⟨#[]⟩,.int .i64 0,.int .i64 (-1),.int .i64 (-1),.int .i64 (-1),.int .i64 P] 39)
 rw [hW.out]
 try rw [hX.out]
 have hni:iN=w1.heap.size:=hX.out.symm
 clear hW hX
 replace N2:Hid (Nine W2 iN nd):=Lib.hid (by rw [←hnd.out];unfold nodeAt;rw [hP.out];exact N2.out)
 have HW1:=K1.out.size
 have HNB:Hid (iN ≠ b):=Lib.hid (by omega)
 have T2:Hid (some iN ≠ tv.ownBlock):=Lib.hid (fun e=>by have:=(hrow.lt iN e.symm).2;omega)
 have HBN:Hid (B≤iN):=Lib.hid (by omega)
 have S2:=Lib.hid (S1.out.below B2.out)
 have K2:=Lib.hid (K1.out.trans (KX.of_below (b:=b) B2.out) F1.out)
 have F2:=F1
 replace LN:Hid (w.heap.size≤iN):=Lib.hid (by omega)
 clear hni hbw hbB hrow S1 K1 F1 HW1 B2 S0 K0 F0
 have b0:=S2.out.c0;have b1:=S2.out.c1
 obtain ⟨g,go_,H⟩:=here S2.out.toks HXX.out
 obtain rfl:=H.e
 have c0:=H.c0;have c2:=H.c2;have c3:=H.c3
 clear H
 go_quiet (fail)
 rename Nat=>nq0
 obtain ⟨nq,rfl⟩:∃ n:Nat,n=nq0:=⟨_,rfl⟩
 have BQ:=drewN_below W2 nq
 obtain ⟨W3,hwq⟩:∃ V,Hid (W2.drewN nq=V):=⟨_,Lib.hid rfl⟩
 rw [hwq.out] at BQ⊢
 have S3:=Lib.hid (S2.out.below BQ)
 have K3:=Lib.hid (K2.out.trans (KX.of_below (b:=b) BQ) F2.out)
 have F3:=F2
 have N3:=Lib.hid (N2.out.below BQ)
 have T3:=T2
 clear hwq BQ S2 K2 N2 T2 F2 b0 b1 c0 c2 c3
 have C3:=next_is S3.out HN.out
 unfold SP at C3
 rw [hnx,hw] at C3
 rw [hS.out] at C3
 go_upto_region 17 with (go_at_call 101;(with_reducible refine (C3).mono ?_);rintro e4 w4 ⟨rfl,q4⟩;have S4:=Lib.hid (S3.out.below q4);have K4:=Lib.hid (K3.out.trans (KX.of_below (b:=b) q4) F3.out);have F4:=F3;have N4:=Lib.hid (N3.out.below q4);have T4:=T3;clear C3;clear q4)
 have C4:=deeper_is S4.out HN.out (by have:=HD.out.1;omega) (by have:=HD.out.2;omega)
 clear hnx
 go_upto_region 19 with (go_at_call 103;(with_reducible refine (C4).mono ?_);rintro e5 w5 ⟨⟨u5,rfl⟩,tv5,s5,k5,fr5⟩;have K5:=Lib.hid (K4.out.trans k5 F4.out);have F5:=Lib.hid (F4.out.trans fr5 K4.out.size);have S5:=Lib.hid s5;have N5:=Lib.hid (k5.nine N4.out HNB.out T4.out);have T5:=Lib.hid (fr5.ne T4.out N4.out.lt);clear C4;clear s5 k5 fr5)
 have b1:=S5.out.c1;have f1:=S5.out.f 1
 rw [DA.out] at b1
 go_upto_region 20 with fail
 have S6:Hid (St L En B b (.slice (some ⟨g,go_,none⟩) N lc) (w5.setCell ⟨b,1,none⟩ (.int .i64 ((s.a:Int)+1))) tv5 (upR (deeperR L En s))):=Lib.hid (by have:=S5.out.setA (s.a+1);have e:upR (deeperR L En s)={deeperR L En s with a:=s.a+1}:=(by unfold upR;rw [DA.out]);rw [e];exact this)
 have K6:=Lib.hid (K5.out.set 1 (.int .i64 ((s.a:Int)+1)))
 have F6:=F5;have T6:=T5
 have N6:=Lib.hid (Nine.setB N5.out HNB.out 1 (.int .i64 ((s.a:Int)+1)))
 obtain ⟨W6,hWn⟩:∃ W,Hid (w5.setCell ⟨b,1,none⟩ (.int .i64 ((s.a:Int)+1))=W):=⟨_,Lib.hid rfl⟩
 rw [hWn.out] at S6 K6 N6
 rw [hWn.out]
 clear hWn S5 K5 N5
 clear b1 f1
 have C6:=EXC W6 tv5 (by decide) rfl IV.out HMU.out S6.out
 go_upto_region 22 with (first | (go_at_call 49;(with_reducible refine (C6).mono ?_);rintro e7 w7 ⟨rfl,tv7,sq7,k7,fr7⟩;have K7:=Lib.hid (K6.out.trans k7 F6.out);have F7:=Lib.hid (F6.out.trans fr7 K6.out.size);have S7:=Lib.hid sq7;have N7:=Lib.hid (k7.nine N6.out HNB.out T6.out);have T7:=Lib.hid (fr7.ne T6.out N6.out.lt);clear C6 EXC;have C7:=must_is S7.out HN.out HL.out IV2.out.a wRp ⟨#[41]⟩ rfl;clear sq7 k7 fr7) | (go_at_call 143;(with_reducible refine (C7).mono ?_);rintro e8 w8 ⟨⟨u8,rfl⟩,tv8,s8,k8,fr8⟩;have K8:=Lib.hid (K7.out.trans k8 F7.out);have F8:=Lib.hid (F7.out.trans fr8 K7.out.size);have S8:=Lib.hid s8;have N8:=Lib.hid (k8.nine N7.out HNB.out T7.out);have T8:=Lib.hid (fr8.ne T7.out N7.out.lt);clear C7;clear s8 k8 fr8))
 have HDD:Hid ((mustR L En wRp s7).d=s7.d):=Lib.hid (must_dt wRp).1
 have b3:=S8.out.c3;have f3:=S8.out.f 3
 rw [HDD.out] at b3
 have kd:IntKind.i64.wrap (s7.d - 1)=s7.d - 1:=wrapI (by have:=IV2.out.dl;have:=IV2.out.a;have:=HL.out;omega) (by have:=IV2.out.dh;omega)
 go_upto_region 23 with fail
 have S9:Hid (St L En B b (.slice (some ⟨g,go_,none⟩) N lc) (w8.setCell ⟨b,3,none⟩ (.int .i64 (s7.d - 1))) tv8 (outR (mustR L En wRp s7))):=Lib.hid (by have:=S8.out.setD (s7.d - 1);rw [←HDD.out] at this⊢;exact this)
 have K9:=Lib.hid (K8.out.set 3 (.int .i64 (s7.d - 1)))
 have F9:=F8;have T9:=T8
 have N9:=Lib.hid (Nine.setB N8.out HNB.out 3 (.int .i64 (s7.d - 1)))
 obtain ⟨W9,hWn⟩:∃ W,Hid (w8.setCell ⟨b,3,none⟩ (.int .i64 (s7.d - 1))=W):=⟨_,Lib.hid rfl⟩
 rw [hWn.out] at S9 K9 N9
 rw [hWn.out]
 clear hWn S8 K8 N8
 go_wp2_with fail
 go_ret
 exact ⟨rfl,_,S9.out,K9.out,F9.out⟩
end
end Go.Proofs.YteagpbkbdlmdiaaGreat.Ps
namespace Go.Proofs.YteagpbkbdlmdiaaGreat.Ps
open Go Go.RowKit Dt Tx Va Ev Lx
attribute [local go_sem ↓] Go.wp_at_zero Go.wp_at_succ
section
variable {L:List Tok} {En:Int} {B b N lc:Nat} {ao:Option Addr} {tv:Value} {w:World} {s:Rd}
set_option maxRecDepth 100000 in
set_option maxHeartbeats 40000000 in
theorem at_calls (f:Nat) (hN:L.length=N) (hl:N≤1000) (hT:∀ x ∈ L,x.t.length≤1000) {x:Tok} (hx:L[s.a]?=some x) (hk:¬x.k=2) (wd:List UInt8) (hcw:wd=wIf∨wd=wMin∨wd=wMax∨wd=wAbs∨wd=wRound∨wd=wHas∨wd=wOrelse) (hw:x.t=wd) (HC:CaC L En B b N (.slice ao N lc) f) (hm:muR N .atm s.a≤f+1) (hi:Inv N s) (h0:s.e=0) (h:St L En B b (.slice ao N lc) w tv s):Calls Tryz.prog 100 #[.pointer (some ⟨b,0,none⟩)] w (RI L En B b (.slice ao N lc) (runR L En (f+1) .atm s) w tv):=by
 rcases hcw with rfl | rfl | rfl | rfl | rfl | rfl | rfl
 all_goals
  have E:runR L En (f+1) .atm s=runR L En f (.ca x.t (nodeAt L En s)) s:=by simp only [runR];rw [hx];simp only;rw [if_neg hk,if_neg (by rw [hw];decide),if_neg (by rw [hw];decide),if_neg (by rw [hw];decide),if_pos (by rw [hw];decide)]
  rw [E]
  have HN:=Lib.hid hN;have HL:=Lib.hid hl;have HTX:=Lib.hid hT;have HI:=Lib.hid hi
  have HD:Hid (-1000≤s.d∧s.d≤1000):=Lib.hid ⟨by have:=hi.dl;have:=hi.a;omega,by have:=hi.dh;omega⟩
  have hbw:=h.lt;have hbB:=h.bB;have hrow:=h.row
  have S0:=Lib.hid h;have K0:=Lib.hid (KX.refl (b:=b) (tv:=tv) (w:=w));have F0:=Lib.hid (Fr.refl tv w)
  have C0:=place_is S0.out HN.out
  obtain ⟨P,hP⟩:∃ z,Hid (placeR L En s=z):=⟨_,Lib.hid rfl⟩
  rw [hP.out] at C0
  obtain ⟨nd,hnd⟩:∃ m,Hid (nodeAt L En s=m):=⟨_,Lib.hid rfl⟩
  have lt:s.a<N:=by rw [←hN];exact (List.getElem?_eq_some_iff.1 hx).1
  have d0:(0:Int)≤(s.a:Int):=by omega
  have d1:decide ((s.a:Int)<(N:Int))=true:=by simp;omega
  have d2:decide (s.a<N)=true:=by simp;omega
  have d3:(s.a:Int)<(N:Int):=by omega
  have HXX:=Lib.hid hx
  have HLT:=Lib.hid lt
  have kw:IntKind.i64.wrap ((s.a:Int)+1)=(s.a:Int)+1:=Ev.wrap1 s.a (by omega)
  have e1:decide (x.k=2)=false:=decide_eq_false hk
  have e2:(x.k !=2)=true:=by simpa using hk
  have e3:(x.k==2)=false:=by simpa using hk
  have hnx:nextR L s=x.t:=by unfold nextR;rw [hx];exact if_neg hk
  clear lt
  obtain ⟨S,hS⟩:∃ S,Hid (bs x.t=S):=⟨_,Lib.hid rfl⟩
  have hS1:=hS.out
  rw [hw] at hS1
  first | (have s0:(S.toList==[116,114,117,101])=false:=by rw [←hS1,bs_toList];decide) | (have s0:(S.toList==[116,114,117,101])=true:=by rw [←hS1,bs_toList];decide)
  first | (have s1:(S.toList==[102,97,108,115,101])=false:=by rw [←hS1,bs_toList];decide) | (have s1:(S.toList==[102,97,108,115,101])=true:=by rw [←hS1,bs_toList];decide)
  first | (have s2:(S.toList==[40])=false:=by rw [←hS1,bs_toList];decide) | (have s2:(S.toList==[40])=true:=by rw [←hS1,bs_toList];decide)
  first | (have s3:(S.toList==[105,102])=false:=by rw [←hS1,bs_toList];decide) | (have s3:(S.toList==[105,102])=true:=by rw [←hS1,bs_toList];decide)
  first | (have s4:(S.toList==[109,105,110])=false:=by rw [←hS1,bs_toList];decide) | (have s4:(S.toList==[109,105,110])=true:=by rw [←hS1,bs_toList];decide)
  first | (have s5:(S.toList==[109,97,120])=false:=by rw [←hS1,bs_toList];decide) | (have s5:(S.toList==[109,97,120])=true:=by rw [←hS1,bs_toList];decide)
  first | (have s6:(S.toList==[97,98,115])=false:=by rw [←hS1,bs_toList];decide) | (have s6:(S.toList==[97,98,115])=true:=by rw [←hS1,bs_toList];decide)
  first | (have s7:(S.toList==[114,111,117,110,100])=false:=by rw [←hS1,bs_toList];decide) | (have s7:(S.toList==[114,111,117,110,100])=true:=by rw [←hS1,bs_toList];decide)
  first | (have s8:(S.toList==[104,97,115])=false:=by rw [←hS1,bs_toList];decide) | (have s8:(S.toList==[104,97,115])=true:=by rw [←hS1,bs_toList];decide)
  first | (have s9:(S.toList==[111,114,101,108,115,101])=false:=by rw [←hS1,bs_toList];decide) | (have s9:(S.toList==[111,114,101,108,115,101])=true:=by rw [←hS1,bs_toList];decide)
  clear hS1
  have HCC:=Lib.hid (fun w tv=>HC x.t (nodeAt L En s) s w tv (by rw [hw];decide) hi h0 HLT.out (by simp only [muR] at hm⊢;omega))
  rw [hS.out,hnd.out] at HCC
  rw [hnd.out]
  obtain ⟨res,hres⟩:∃ r,Hid (runR L En f (.ca x.t nd) s=r):=⟨_,Lib.hid rfl⟩
  rw [hres.out] at HCC⊢
  clear E h0 hm HC hres
  clear h hN hl hT hi hx hk
  go_enter Tryz.func100,Tryz.ntmps100
  go_upto_region 2 with (go_at_call 102;(with_reducible refine (C0).mono ?_);rintro e1 w1 ⟨rfl,q1⟩;have S1:=Lib.hid (S0.out.below q1);have K1:=Lib.hid (K0.out.trans (KX.of_below (b:=b) q1) F0.out);have F1:=F0;clear C0;clear q1)
  obtain ⟨W2,iN,hW,hX,N2,B2,LN,_,_⟩:=mk1 w1 (.cells #[.int .u8 0,.int .i64 0,.int .i64 0,.string ⟨#[]⟩,.int .i64 0,.int .i64 (-1),.int .i64 (-1),.int .i64 (-1),.int .i64 P] 39)
  rw [hW.out]
  try rw [hX.out]
  have hni:iN=w1.heap.size:=hX.out.symm
  clear hW hX
  replace N2:Hid (Nine W2 iN nd):=Lib.hid (by rw [←hnd.out];unfold nodeAt;rw [hP.out];exact N2.out)
  have HW1:=K1.out.size
  have HNB:Hid (iN ≠ b):=Lib.hid (by omega)
  have T2:Hid (some iN ≠ tv.ownBlock):=Lib.hid (fun e=>by have:=(hrow.lt iN e.symm).2;omega)
  have HBN:Hid (B≤iN):=Lib.hid (by omega)
  have S2:=Lib.hid (S1.out.below B2.out)
  have K2:=Lib.hid (K1.out.trans (KX.of_below (b:=b) B2.out) F1.out)
  have F2:=F1
  replace LN:Hid (w.heap.size≤iN):=Lib.hid (by omega)
  clear hni hbw hbB hrow S1 K1 F1 HW1 B2 S0 K0 F0
  have b0:=S2.out.c0;have b1:=S2.out.c1
  obtain ⟨g,go_,H⟩:=here S2.out.toks HXX.out
  obtain rfl:=H.e
  have c0:=H.c0;have c2:=H.c2;have c3:=H.c3
  clear H
  go_quiet (fail)
  rename Nat=>nq0
  obtain ⟨nq,rfl⟩:∃ n:Nat,n=nq0:=⟨_,rfl⟩
  have BQ:=drewN_below W2 nq
  obtain ⟨W3,hwq⟩:∃ V,Hid (W2.drewN nq=V):=⟨_,Lib.hid rfl⟩
  rw [hwq.out] at BQ⊢
  have S3:=Lib.hid (S2.out.below BQ)
  have K3:=Lib.hid (K2.out.trans (KX.of_below (b:=b) BQ) F2.out)
  have F3:=F2
  have N3:=Lib.hid (N2.out.below BQ)
  have T3:=T2
  clear hwq BQ S2 K2 N2 T2 F2 b0 b1 c0 c2 c3
  have C3:=next_is S3.out HN.out
  unfold SP at C3
  rw [hnx] at C3
  rw [hS.out] at C3
  go_upto_region 31 with (go_at_call 101;(with_reducible refine (C3).mono ?_);rintro e4 w4 ⟨rfl,q4⟩;have S4:=Lib.hid (S3.out.below q4);have K4:=Lib.hid (K3.out.trans (KX.of_below (b:=b) q4) F3.out);have F4:=F3;have N4:=Lib.hid (N3.out.below q4);have T4:=T3;clear C3;clear q4)
  clear hnx
  have C4:=HCC.out w4 tv S4.out
  have n0:=N4.out.c0;have n1:=N4.out.c1;have n2:=N4.out.c2;have n3:=N4.out.c3;have n4:=N4.out.c4;have n5:=N4.out.c5;have n6:=N4.out.c6;have n7:=N4.out.c7;have n8:=N4.out.c8
  go_wp2_with (go_at_call 144;(with_reducible refine (C4).mono ?_);rintro e5 w5 ⟨rfl,tv5,s5,k5,fr5⟩;have K5:=Lib.hid (K4.out.trans k5 F4.out);have F5:=Lib.hid (F4.out.trans fr5 K4.out.size);have S5:=Lib.hid s5;clear C4;clear s5 k5 fr5)
  go_ret
  exact ⟨rfl,_,S5.out,K5.out,F5.out⟩
end
end Go.Proofs.YteagpbkbdlmdiaaGreat.Ps
namespace Go.Proofs.YteagpbkbdlmdiaaGreat.Ps
open Go Go.RowKit Dt Tx Va Ev Lx
attribute [local go_sem ↓] Go.wp_at_zero Go.wp_at_succ
section
variable {L:List Tok} {En:Int} {B b N lc:Nat} {ao:Option Addr} {tv:Value} {w:World} {s:Rd}
set_option maxRecDepth 100000 in
set_option maxHeartbeats 4000000 in
theorem at_window (f:Nat) (hN:L.length=N) (hl:N≤1000) (hT:∀ x ∈ L,x.t.length≤1000) {x:Tok} (hx:L[s.a]?=some x) (hk:¬x.k=2) (hw0:¬x.t=wTrue) (hw1:¬x.t=wFalse) (hw2:¬x.t=wLp) (hw3:¬x.t=wIf) (hw4:¬x.t=wMin) (hw5:¬x.t=wMax) (hw6:¬x.t=wAbs) (hw7:¬x.t=wRound) (hw8:¬x.t=wHas) (hw9:¬x.t=wOrelse) (hwin:windowR x.t ≠ 0) (hi:Inv N s) (h0:s.e=0) (h:St L En B b (.slice ao N lc) w tv s):Calls Tryz.prog 100 #[.pointer (some ⟨b,0,none⟩)] w (RI L En B b (.slice ao N lc) (runR L En (f+1) .atm s) w tv):=by
 have E:runR L En (f+1) .atm s=endR L En {nodeAt L En s with op:=windowR x.t,n:=(fieldR L En (beginR L En s)).2,k:=(wholeR L En 3660 (mustR L En wCm (fieldR L En (beginR L En s)).1)).2} (wholeR L En 3660 (mustR L En wCm (fieldR L En (beginR L En s)).1)).1:=by simp only [runR];rw [hx];simp only;rw [if_neg hk,if_neg hw0,if_neg hw1,if_neg hw2,if_neg (by unfold callW;simp only [decide_eq_true_eq,not_or];exact ⟨hw3,hw4,hw5,hw6,hw7,hw8,hw9⟩),if_pos hwin]
 rw [E]
 have HN:=Lib.hid hN;have HL:=Lib.hid hl;have HTX:=Lib.hid hT;have HI:=Lib.hid hi
 have HD:Hid (-1000≤s.d∧s.d≤1000):=Lib.hid ⟨by have:=hi.dl;have:=hi.a;omega,by have:=hi.dh;omega⟩
 have hbw:=h.lt;have hbB:=h.bB;have hrow:=h.row
 have S0:=Lib.hid h;have K0:=Lib.hid (KX.refl (b:=b) (tv:=tv) (w:=w));have F0:=Lib.hid (Fr.refl tv w)
 have C0:=place_is S0.out HN.out
 obtain ⟨P,hP⟩:∃ z,Hid (placeR L En s=z):=⟨_,Lib.hid rfl⟩
 rw [hP.out] at C0
 obtain ⟨nd,hnd⟩:∃ m,Hid (nodeAt L En s=m):=⟨_,Lib.hid rfl⟩
 have lt:s.a<N:=by rw [←hN];exact (List.getElem?_eq_some_iff.1 hx).1
 have d0:(0:Int)≤(s.a:Int):=by omega
 have d1:decide ((s.a:Int)<(N:Int))=true:=by simp;omega
 have d2:decide (s.a<N)=true:=by simp;omega
 have d3:(s.a:Int)<(N:Int):=by omega
 have HXX:=Lib.hid hx
 have HLT:=Lib.hid lt
 have kw:IntKind.i64.wrap ((s.a:Int)+1)=(s.a:Int)+1:=Ev.wrap1 s.a (by omega)
 have e1:decide (x.k=2)=false:=decide_eq_false hk
 have e2:(x.k !=2)=true:=by simpa using hk
 have e3:(x.k==2)=false:=by simpa using hk
 have hnx:nextR L s=x.t:=by unfold nextR;rw [hx];exact if_neg hk
 clear lt
 obtain ⟨S,hS⟩:∃ S,Hid (bs x.t=S):=⟨_,Lib.hid rfl⟩
 have s0:(S.toList==[116,114,117,101])=false:=by rw [←hS.out,bs_toList];have:=hw0;simpa [wTrue] using this
 have s1:(S.toList==[102,97,108,115,101])=false:=by rw [←hS.out,bs_toList];have:=hw1;simpa [wFalse] using this
 have s2:(S.toList==[40])=false:=by rw [←hS.out,bs_toList];have:=hw2;simpa [wLp] using this
 have s3:(S.toList==[105,102])=false:=by rw [←hS.out,bs_toList];have:=hw3;simpa [wIf] using this
 have s4:(S.toList==[109,105,110])=false:=by rw [←hS.out,bs_toList];have:=hw4;simpa [wMin] using this
 have s5:(S.toList==[109,97,120])=false:=by rw [←hS.out,bs_toList];have:=hw5;simpa [wMax] using this
 have s6:(S.toList==[97,98,115])=false:=by rw [←hS.out,bs_toList];have:=hw6;simpa [wAbs] using this
 have s7:(S.toList==[114,111,117,110,100])=false:=by rw [←hS.out,bs_toList];have:=hw7;simpa [wRound] using this
 have s8:(S.toList==[104,97,115])=false:=by rw [←hS.out,bs_toList];have:=hw8;simpa [wHas] using this
 have s9:(S.toList==[111,114,101,108,115,101])=false:=by rw [←hS.out,bs_toList];have:=hw9;simpa [wOrelse] using this
 have WC:=Lib.hid (fun w=>window_is (w:=w) x.t)
 unfold U8P at WC
 rw [hS.out] at WC
 obtain ⟨z,hz⟩:∃ z,Hid (windowR x.t=z):=⟨_,Lib.hid rfl⟩
 rw [hz.out] at WC hwin⊢
 have z1:decide (z=0)=false:=decide_eq_false hwin
 have z2:(z !=0)=true:=by simpa using hwin
 have z3:(z==0)=false:=by simpa using hwin
 have IV1:=Lib.hid (inv_begin (L:=L) (En:=En) hN hi HLT.out h0)
 have IF:=Lib.hid (gt_field (L:=L) (En:=En) (s:=beginR L En s) (by rw [hN];exact IV1.out.a))
 rw [hN] at IF
 have IVf:=Lib.hid (IV1.out.of IF.out)
 have IM:=Lib.hid (gt_must (L:=L) (En:=En) (s:=(fieldR L En (beginR L En s)).1) (w:=wCm) (by decide) (by rw [hN];exact IVf.out.a))
 rw [hN] at IM
 have IVm:=Lib.hid (IVf.out.of IM.out)
 have IW:=Lib.hid (gt_whole (L:=L) (En:=En) (s:=mustR L En wCm (fieldR L En (beginR L En s)).1) 3660 (by rw [hN];exact IVm.out.a))
 rw [hN] at IW
 have IVw:=Lib.hid (IVm.out.of IW.out)
 obtain ⟨⟨t2,k2⟩,hw2_⟩:∃ r,Hid (wholeR L En 3660 (mustR L En wCm (fieldR L En (beginR L En s)).1)=r):=⟨_,Lib.hid rfl⟩
 rw [hw2_.out] at IVw⊢
 obtain ⟨⟨t1,m1⟩,hf1⟩:∃ r,Hid (fieldR L En (beginR L En s)=r):=⟨_,Lib.hid rfl⟩
 rw [hf1.out] at IVf IVm hw2_⊢
 simp only at IVf IVm IVw hw2_⊢
 rw [hnd.out]
 clear E h0 hwin IF IM IW hw0 hw1 hw2 hw3 hw4 hw5 hw6 hw7 hw8 hw9
 clear h hN hl hT hi hx hk
 go_enter Tryz.func100,Tryz.ntmps100
 go_upto_region 2 with (go_at_call 102;(with_reducible refine (C0).mono ?_);rintro e1 w1 ⟨rfl,q1⟩;have S1:=Lib.hid (S0.out.below q1);have K1:=Lib.hid (K0.out.trans (KX.of_below (b:=b) q1) F0.out);have F1:=F0;clear C0;clear q1)
 obtain ⟨W2,iN,hW,hX,N2,B2,LN,_,_⟩:=mk1 w1 (.cells #[.int .u8 0,.int .i64 0,.int .i64 0,.string ⟨#[]⟩,.int .i64 0,.int .i64 (-1),.int .i64 (-1),.int .i64 (-1),.int .i64 P] 39)
 rw [hW.out]
 try rw [hX.out]
 have hni:iN=w1.heap.size:=hX.out.symm
 clear hW hX
 replace N2:Hid (Nine W2 iN nd):=Lib.hid (by rw [←hnd.out];unfold nodeAt;rw [hP.out];exact N2.out)
 have HW1:=K1.out.size
 have HNB:Hid (iN ≠ b):=Lib.hid (by omega)
 have T2:Hid (some iN ≠ tv.ownBlock):=Lib.hid (fun e=>by have:=(hrow.lt iN e.symm).2;omega)
 have HBN:Hid (B≤iN):=Lib.hid (by omega)
 have S2:=Lib.hid (S1.out.below B2.out)
 have K2:=Lib.hid (K1.out.trans (KX.of_below (b:=b) B2.out) F1.out)
 have F2:=F1
 replace LN:Hid (w.heap.size≤iN):=Lib.hid (by omega)
 clear hni hbw hbB hrow S1 K1 F1 HW1 B2 S0 K0 F0
 have b0:=S2.out.c0;have b1:=S2.out.c1
 obtain ⟨g,go_,H⟩:=here S2.out.toks HXX.out
 obtain rfl:=H.e
 have c0:=H.c0;have c2:=H.c2;have c3:=H.c3
 clear H
 go_quiet (fail)
 rename Nat=>nq0
 obtain ⟨nq,rfl⟩:∃ n:Nat,n=nq0:=⟨_,rfl⟩
 have BQ:=drewN_below W2 nq
 obtain ⟨W3,hwq⟩:∃ V,Hid (W2.drewN nq=V):=⟨_,Lib.hid rfl⟩
 rw [hwq.out] at BQ⊢
 have S3:=Lib.hid (S2.out.below BQ)
 have K3:=Lib.hid (K2.out.trans (KX.of_below (b:=b) BQ) F2.out)
 have F3:=F2
 have N3:=Lib.hid (N2.out.below BQ)
 have T3:=T2
 clear hwq BQ S2 K2 N2 T2 F2 b0 b1 c0 c2 c3
 have C3:=next_is S3.out HN.out
 unfold SP at C3
 rw [hnx] at C3
 rw [hS.out] at C3
 go_upto_region 32 with (go_at_call 101;(with_reducible refine (C3).mono ?_);rintro e4 w4 ⟨rfl,q4⟩;have S4:=Lib.hid (S3.out.below q4);have K4:=Lib.hid (K3.out.trans (KX.of_below (b:=b) q4) F3.out);have F4:=F3;have N4:=Lib.hid (N3.out.below q4);have T4:=T3;clear C3;clear q4)
 clear hnx
 have C4:=WC.out w4
 go_upto_region 33 with (go_at_call 145;(with_reducible refine (C4).mono ?_);rintro e5 w5 ⟨rfl,q5⟩;have S5:=Lib.hid (S4.out.below q5);have K5:=Lib.hid (K4.out.trans (KX.of_below (b:=b) q5) F4.out);have F5:=F4;have N5:=Lib.hid (N4.out.below q5);have T5:=T4;clear C4;have C5:=WC.out w5;clear q5)
 go_upto_region 34 with (go_at_call 145;(with_reducible refine (C5).mono ?_);rintro e6 w6 ⟨rfl,q6⟩;have S6:=Lib.hid (S5.out.below q6);have K6:=Lib.hid (K5.out.trans (KX.of_below (b:=b) q6) F5.out);have F6:=F5;have N6:=Lib.hid (N5.out.below q6);have T6:=T5;clear C5;have n0:=N6.out.c0;have g0:=N6.out.f 0;clear q6)
 have S7:=Lib.hid (S6.out.setN HNB.out T6.out HBN.out 0 (.int .u8 (z)))
 have K7:=Lib.hid (K6.out.setN LN.out 0 (.int .u8 (z)))
 have F7:=F6;have T7:=T6
 have N7:Hid (Nine (w6.setCell ⟨iN,0,none⟩ (.int .u8 (z))) iN {nd with op:=z}):=Lib.hid (Nine.setC N6.out 0 _ rfl)
 obtain ⟨W7,hWn⟩:∃ W,Hid (w6.setCell ⟨iN,0,none⟩ (.int .u8 (z))=W):=⟨_,Lib.hid rfl⟩
 rw [hWn.out] at S7 K7 N7
 rw [hWn.out]
 clear hWn n0 g0 S6 K6 N6
 obtain ⟨n_7,hn_7⟩:∃ m,Hid ({nd with op:=z}=m):=⟨_,Lib.hid rfl⟩
 rw [hn_7.out] at N7
 have C7:=begin_is S7.out HN.out HL.out HLT.out HD.out.1 HD.out.2
 go_upto_region 35 with (go_at_call 146;(with_reducible refine (C7).mono ?_);rintro e8 w8 ⟨⟨u8,rfl⟩,tv8,s8,k8,fr8⟩;have K8:=Lib.hid (K7.out.trans k8 F7.out);have F8:=Lib.hid (F7.out.trans fr8 K7.out.size);have S8:=Lib.hid s8;have N8:=Lib.hid (k8.nine N7.out HNB.out T7.out);have T8:=Lib.hid (fr8.ne T7.out N7.out.lt);clear C7;have C8:=field_is S8.out HN.out HL.out IV1.out.a HTX.out;rw [hf1.out] at C8;clear s8 k8 fr8)
 go_upto_region 36 with (go_at_call 147;(with_reducible refine (C8).mono ?_);rintro e9 w9 ⟨rfl,tv9,s9,k9,fr9⟩;have K9:=Lib.hid (K8.out.trans k9 F8.out);have F9:=Lib.hid (F8.out.trans fr9 K8.out.size);have S9:=Lib.hid s9;have N9:=Lib.hid (k9.nine N8.out HNB.out T8.out);have T9:=Lib.hid (fr9.ne T8.out N8.out.lt);clear C8;have n3:=N9.out.c3;have g3:=N9.out.f 3;clear s9 k9 fr9)
 have S10:=Lib.hid (S9.out.setN HNB.out T9.out HBN.out 3 (.string (bs m1)))
 have K10:=Lib.hid (K9.out.setN LN.out 3 (.string (bs m1)))
 have F10:=F9;have T10:=T9
 have N10:Hid (Nine (w9.setCell ⟨iN,3,none⟩ (.string (bs m1))) iN {n_7 with n:=m1}):=Lib.hid (Nine.setC N9.out 3 _ rfl)
 obtain ⟨W10,hWn⟩:∃ W,Hid (w9.setCell ⟨iN,3,none⟩ (.string (bs m1))=W):=⟨_,Lib.hid rfl⟩
 rw [hWn.out] at S10 K10 N10
 rw [hWn.out]
 clear hWn n3 g3 S9 K9 N9
 obtain ⟨n_10,hn_10⟩:∃ m,Hid ({n_7 with n:=m1}=m):=⟨_,Lib.hid rfl⟩
 rw [hn_10.out] at N10
 have C10:=must_is S10.out HN.out HL.out IVf.out.a wCm ⟨#[44]⟩ rfl
 go_upto_region 37 with (go_at_call 143;(with_reducible refine (C10).mono ?_);rintro e11 w11 ⟨⟨u11,rfl⟩,tv11,s11,k11,fr11⟩;have K11:=Lib.hid (K10.out.trans k11 F10.out);have F11:=Lib.hid (F10.out.trans fr11 K10.out.size);have S11:=Lib.hid s11;have N11:=Lib.hid (k11.nine N10.out HNB.out T10.out);have T11:=Lib.hid (fr11.ne T10.out N10.out.lt);clear C10;have C11:=whole_is S11.out HN.out HL.out 3660;rw [hw2_.out] at C11;clear s11 k11 fr11)
 go_upto_region 38 with (go_at_call 148;(with_reducible refine (C11).mono ?_);rintro e12 w12 ⟨rfl,tv12,s12,k12,fr12⟩;have K12:=Lib.hid (K11.out.trans k12 F11.out);have F12:=Lib.hid (F11.out.trans fr12 K11.out.size);have S12:=Lib.hid s12;have N12:=Lib.hid (k12.nine N11.out HNB.out T11.out);have T12:=Lib.hid (fr12.ne T11.out N11.out.lt);clear C11;have n4:=N12.out.c4;have g4:=N12.out.f 4;clear s12 k12 fr12)
 have S13:=Lib.hid (S12.out.setN HNB.out T12.out HBN.out 4 (.int .i64 k2))
 have K13:=Lib.hid (K12.out.setN LN.out 4 (.int .i64 k2))
 have F13:=F12;have T13:=T12
 have N13:Hid (Nine (w12.setCell ⟨iN,4,none⟩ (.int .i64 k2)) iN {n_10 with k:=k2}):=Lib.hid (Nine.setC N12.out 4 _ rfl)
 obtain ⟨W13,hWn⟩:∃ W,Hid (w12.setCell ⟨iN,4,none⟩ (.int .i64 k2)=W):=⟨_,Lib.hid rfl⟩
 rw [hWn.out] at S13 K13 N13
 rw [hWn.out]
 clear hWn n4 g4 S12 K12 N12
 obtain ⟨n_13,hn_13⟩:∃ m,Hid ({n_10 with k:=k2}=m):=⟨_,Lib.hid rfl⟩
 rw [hn_13.out] at N13
 have C13:=end_is S13.out HN.out HL.out (inv_ok IVw.out HL.out).1 (inv_ok IVw.out HL.out).2.2.1 (inv_ok IVw.out HL.out).2.2.2 (inv_ok IVw.out HL.out).2.1 n_13
 have n0:=N13.out.c0;have n1:=N13.out.c1;have n2:=N13.out.c2;have n3:=N13.out.c3;have n4:=N13.out.c4;have n5:=N13.out.c5;have n6:=N13.out.c6;have n7:=N13.out.c7;have n8:=N13.out.c8
 go_wp2_with (go_at_call 149;(with_reducible refine (C13).mono ?_);rintro e14 w14 ⟨rfl,tv14,s14,k14,fr14⟩;have K14:=Lib.hid (K13.out.trans k14 F13.out);have F14:=Lib.hid (F13.out.trans fr14 K13.out.size);have S14:=Lib.hid s14;have N14:=Lib.hid (k14.nine N13.out HNB.out T13.out);have T14:=Lib.hid (fr14.ne T13.out N13.out.lt);clear C13;clear s14 k14 fr14)
 go_ret
 have FIN:{nd with op:=z,n:=m1,k:=k2}=n_13:=by rw [←hn_13.out,←hn_10.out,←hn_7.out]
 rw [FIN]
 exact ⟨rfl,_,S14.out,K14.out,F14.out⟩
end
end Go.Proofs.YteagpbkbdlmdiaaGreat.Ps
