/-
  The document's parser: atom, brackets, calls, windows, fields; The document's parser: expr, atom, call for every fuel; The document's parser: Parse, by what its callees do; The document's parser of any text: it answers; The document's printer: Text, walked: where it answers no error, the list is a tree as it is read; The document's types: Of, walked: where it answers no error, the list is a tree, each node is right, and the kind is the last one's.
-/
import Derived.Test.YteagpbkbdlmdiaaGreatQ39
import Derived.Test.YteagpbkbdlmdiaaGreatQ40
import Derived.Test.YteagpbkbdlmdiaaGreatQ33
import Derived.Test.YteagpbkbdlmdiaaGreatQ49
import Derived.Test.YteagpbkbdlmdiaaGreatQ30
import Derived.Test.YteagpbkbdlmdiaaGreatQ29
set_option linter.unusedSimpArgs false
set_option linter.unusedVariables false
namespace Go.Proofs.YteagpbkbdlmdiaaGreat.Ps
set_option maxRecDepth 100000
set_option maxHeartbeats 4000000
open Go Go.RowKit Dt Tx Va Ev Lx
attribute [local go_sem ↓] Go.wp_at_zero Go.wp_at_succ
section
variable {L:List Tok} {En:Int} {B b N lc:Nat} {ao:Option Addr} {tv:Value} {w:World} {s:Rd}
theorem at_field (f:Nat) (hN:L.length=N) (hl:N≤1000) (hT:∀ x ∈ L,x.t.length≤1000) {x:Tok} (hx:L[s.a]?=some x) (hk:¬x.k=2) (hw0:¬x.t=wTrue) (hw1:¬x.t=wFalse) (hw2:¬x.t=wLp) (hw3:¬x.t=wIf) (hw4:¬x.t=wMin) (hw5:¬x.t=wMax) (hw6:¬x.t=wAbs) (hw7:¬x.t=wRound) (hw8:¬x.t=wHas) (hw9:¬x.t=wOrelse) (hwin:windowR x.t=0) (hi:Inv N s) (h0:s.e=0) (h:St L En B b (.slice ao N lc) w tv s):Calls Tryz.prog 100 #[.pointer (some ⟨b,0,none⟩)] w (RI L En B b (.slice ao N lc) (runR L En (f+1) .atm s) w tv):=by
 have E:runR L En (f+1) .atm s=addR {nodeAt L En s with op:=4,n:=(fieldR L En s).2} (fieldR L En s).1:=by simp only [runR];rw [hx];simp only;rw [if_neg hk,if_neg hw0,if_neg hw1,if_neg hw2,if_neg (by unfold callW;simp only [decide_eq_true_eq,not_or];exact ⟨hw3,hw4,hw5,hw6,hw7,hw8,hw9⟩),if_neg (by rw [hwin];decide)]
 rw [E]
 have HN:=Lib.hid hN;have HL:=Lib.hid hl;have HTX:=Lib.hid hT;have HI:=Lib.hid hi
 have HD:Hid (-1000≤s.d∧s.d≤1000):=Lib.hid ⟨by have:=hi.dl;have:=hi.a;omega,by have:=hi.dh;omega⟩
 have hbw:=h.lt;have hbB:=h.bB;have hrow:=h.row
 have S0:=Lib.hid h;have K0:=Lib.hid (KX.refl (b:=b) (tv:=tv) (w:=w));have F0:=Lib.hid (Fr.refl tv w)
 have C0:=place_is S0.out HN.out
 obtain ⟨P,hP⟩:∃ z,Hid (placeR L En s=z):=⟨_,Lib.hid rfl⟩
 rw [hP.out] at C0
 obtain ⟨nd,hnd⟩:∃ m,Hid (nodeAt L En s=m):=⟨_,Lib.hid rfl⟩
 have lt:s.a<N:=by rw [←hN];exact (List.getElem?_eq_some_iff.1 hx).1
 have d0:(0:Int)≤(s.a:Int):=by omega
 have d1:decide ((s.a:Int)<(N:Int))=true:=by simp;omega
 have d2:decide (s.a<N)=true:=by simp;omega
 have d3:(s.a:Int)<(N:Int):=by omega
 have HXX:=Lib.hid hx
 have HLT:=Lib.hid lt
 have kw:IntKind.i64.wrap ((s.a:Int)+1)=(s.a:Int)+1:=Ev.wrap1 s.a (by omega)
 have e1:decide (x.k=2)=false:=decide_eq_false hk
 have e2:(x.k !=2)=true:=by simpa using hk
 have e3:(x.k==2)=false:=by simpa using hk
 have hnx:nextR L s=x.t:=by unfold nextR;rw [hx];exact if_neg hk
 clear lt
 obtain ⟨S,hS⟩:∃ S,Hid (bs x.t=S):=⟨_,Lib.hid rfl⟩
 have s0:(S.toList==[116,114,117,101])=false:=by rw [←hS.out,bs_toList];have:=hw0;simpa [wTrue] using this
 have s1:(S.toList==[102,97,108,115,101])=false:=by rw [←hS.out,bs_toList];have:=hw1;simpa [wFalse] using this
 have s2:(S.toList==[40])=false:=by rw [←hS.out,bs_toList];have:=hw2;simpa [wLp] using this
 have s3:(S.toList==[105,102])=false:=by rw [←hS.out,bs_toList];have:=hw3;simpa [wIf] using this
 have s4:(S.toList==[109,105,110])=false:=by rw [←hS.out,bs_toList];have:=hw4;simpa [wMin] using this
 have s5:(S.toList==[109,97,120])=false:=by rw [←hS.out,bs_toList];have:=hw5;simpa [wMax] using this
 have s6:(S.toList==[97,98,115])=false:=by rw [←hS.out,bs_toList];have:=hw6;simpa [wAbs] using this
 have s7:(S.toList==[114,111,117,110,100])=false:=by rw [←hS.out,bs_toList];have:=hw7;simpa [wRound] using this
 have s8:(S.toList==[104,97,115])=false:=by rw [←hS.out,bs_toList];have:=hw8;simpa [wHas] using this
 have s9:(S.toList==[111,114,101,108,115,101])=false:=by rw [←hS.out,bs_toList];have:=hw9;simpa [wOrelse] using this
 have C4a:=Lib.hid (fun w=>window_is (w:=w) x.t)
 unfold U8P at C4a
 rw [hS.out,hwin] at C4a
 have IF:=Lib.hid (gt_field (L:=L) (En:=En) (s:=s) (by rw [hN];exact hi.a))
 rw [hN] at IF
 have IVf:=Lib.hid (hi.of IF.out)
 obtain ⟨⟨t1,m1⟩,hf1⟩:∃ r,Hid (fieldR L En s=r):=⟨_,Lib.hid rfl⟩
 rw [hf1.out] at IVf⊢
 simp only at IVf⊢
 rw [hnd.out]
 clear E h0 hwin IF hw0 hw1 hw2 hw3 hw4 hw5 hw6 hw7 hw8 hw9
 clear h hN hl hT hi hx hk
 go_enter Tryz.func100,Tryz.ntmps100
 go_upto_region 2 with (go_at_call 102;(with_reducible refine (C0).mono ?_);rintro e1 w1 ⟨rfl,q1⟩;have S1:=Lib.hid (S0.out.below q1);have K1:=Lib.hid (K0.out.trans (KX.of_below (b:=b) q1) F0.out);have F1:=F0;clear C0;clear q1)
 obtain ⟨W2,iN,hW,hX,N2,B2,LN,_,_⟩:=mk1 w1 (.cells #[.int .u8 0,.int .i64 0,.int .i64 0,.string ⟨#[]⟩,.int .i64 0,.int .i64 (-1),.int .i64 (-1),.int .i64 (-1),.int .i64 P] 39)
 rw [hW.out]
 try rw [hX.out]
 have hni:iN=w1.heap.size:=hX.out.symm
 clear hW hX
 replace N2:Hid (Nine W2 iN nd):=Lib.hid (by rw [←hnd.out];unfold nodeAt;rw [hP.out];exact N2.out)
 have HW1:=K1.out.size
 have HNB:Hid (iN ≠ b):=Lib.hid (by omega)
 have T2:Hid (some iN ≠ tv.ownBlock):=Lib.hid (fun e=>by have:=(hrow.lt iN e.symm).2;omega)
 have HBN:Hid (B≤iN):=Lib.hid (by omega)
 have S2:=Lib.hid (S1.out.below B2.out)
 have K2:=Lib.hid (K1.out.trans (KX.of_below (b:=b) B2.out) F1.out)
 have F2:=F1
 replace LN:Hid (w.heap.size≤iN):=Lib.hid (by omega)
 clear hni hbw hbB hrow S1 K1 F1 HW1 B2 S0 K0 F0
 have b0:=S2.out.c0;have b1:=S2.out.c1
 obtain ⟨g,go_,H⟩:=here S2.out.toks HXX.out
 obtain rfl:=H.e
 have c0:=H.c0;have c2:=H.c2;have c3:=H.c3
 clear H
 go_quiet (fail)
 rename Nat=>nq0
 obtain ⟨nq,rfl⟩:∃ n:Nat,n=nq0:=⟨_,rfl⟩
 have BQ:=drewN_below W2 nq
 obtain ⟨W3,hwq⟩:∃ V,Hid (W2.drewN nq=V):=⟨_,Lib.hid rfl⟩
 rw [hwq.out] at BQ⊢
 have S3:=Lib.hid (S2.out.below BQ)
 have K3:=Lib.hid (K2.out.trans (KX.of_below (b:=b) BQ) F2.out)
 have F3:=F2
 have N3:=Lib.hid (N2.out.below BQ)
 have T3:=T2
 clear hwq BQ S2 K2 N2 T2 F2 b0 b1 c0 c2 c3
 have C3:=next_is S3.out HN.out
 unfold SP at C3
 rw [hnx] at C3
 rw [hS.out] at C3
 go_upto_region 32 with (go_at_call 101;(with_reducible refine (C3).mono ?_);rintro e4 w4 ⟨rfl,q4⟩;have S4:=Lib.hid (S3.out.below q4);have K4:=Lib.hid (K3.out.trans (KX.of_below (b:=b) q4) F3.out);have F4:=F3;have N4:=Lib.hid (N3.out.below q4);have T4:=T3;clear C3;clear q4)
 clear hnx
 have C4:=C4a.out w4
 go_upto_region 39 with (go_at_call 145;(with_reducible refine (C4).mono ?_);rintro e5 w5 ⟨rfl,q5⟩;have S5:=Lib.hid (S4.out.below q5);have K5:=Lib.hid (K4.out.trans (KX.of_below (b:=b) q5) F4.out);have F5:=F4;have N5:=Lib.hid (N4.out.below q5);have T5:=T4;clear C4;clear q5)
 have n0:=N5.out.c0;have g0:=N5.out.f 0
 go_upto_region 40 with fail
 have S6:=Lib.hid (S5.out.setN HNB.out T5.out HBN.out 0 (.int .u8 (4)))
 have K6:=Lib.hid (K5.out.setN LN.out 0 (.int .u8 (4)))
 have F6:=F5;have T6:=T5
 have N6:Hid (Nine (w5.setCell ⟨iN,0,none⟩ (.int .u8 (4))) iN {nd with op:=4}):=Lib.hid (Nine.setC N5.out 0 _ rfl)
 obtain ⟨W6,hWn⟩:∃ W,Hid (w5.setCell ⟨iN,0,none⟩ (.int .u8 (4))=W):=⟨_,Lib.hid rfl⟩
 rw [hWn.out] at S6 K6 N6
 rw [hWn.out]
 clear hWn n0 g0 S5 K5 N5
 obtain ⟨n_6,hn_6⟩:∃ m,Hid ({nd with op:=4}=m):=⟨_,Lib.hid rfl⟩
 rw [hn_6.out] at N6
 have C6:=field_is S6.out HN.out HL.out HI.out.a HTX.out
 rw [hf1.out] at C6
 go_upto_region 41 with (go_at_call 147;(with_reducible refine (C6).mono ?_);rintro e7 w7 ⟨rfl,tv7,s7,k7,fr7⟩;have K7:=Lib.hid (K6.out.trans k7 F6.out);have F7:=Lib.hid (F6.out.trans fr7 K6.out.size);have S7:=Lib.hid s7;have N7:=Lib.hid (k7.nine N6.out HNB.out T6.out);have T7:=Lib.hid (fr7.ne T6.out N6.out.lt);clear C6;have n3:=N7.out.c3;have g3:=N7.out.f 3;clear s7 k7 fr7)
 have S8:=Lib.hid (S7.out.setN HNB.out T7.out HBN.out 3 (.string (bs m1)))
 have K8:=Lib.hid (K7.out.setN LN.out 3 (.string (bs m1)))
 have F8:=F7;have T8:=T7
 have N8:Hid (Nine (w7.setCell ⟨iN,3,none⟩ (.string (bs m1))) iN {n_6 with n:=m1}):=Lib.hid (Nine.setC N7.out 3 _ rfl)
 obtain ⟨W8,hWn⟩:∃ W,Hid (w7.setCell ⟨iN,3,none⟩ (.string (bs m1))=W):=⟨_,Lib.hid rfl⟩
 rw [hWn.out] at S8 K8 N8
 rw [hWn.out]
 clear hWn n3 g3 S7 K7 N7
 obtain ⟨n_8,hn_8⟩:∃ m,Hid ({n_6 with n:=m1}=m):=⟨_,Lib.hid rfl⟩
 rw [hn_8.out] at N8
 have HTL:Hid (t1.t.length≤10000):=Lib.hid (inv_t IVf.out HL.out)
 obtain ⟨av,cv,hv,_,_⟩:=S8.out.row.form
 obtain ⟨tn,htn⟩:∃ k:Nat,Hid (t1.t.length=k):=⟨_,Lib.hid rfl⟩
 have SD:=Lib.hid (S8.out.below ((Below.refl _ _).drew))
 have SA:=Lib.hid (S8.out.below (bt ((Below.refl _ _).drew) (ba W8.drew (.cells #[.int .u8 n_8.op,.int .i64 n_8.c,.int .i64 n_8.s,.string (bs n_8.n),.int .i64 n_8.k,.int .i64 n_8.x,.int .i64 n_8.y,.int .i64 n_8.z,.int .i64 n_8.p] 39))))
 have KA:=Lib.hid (K8.out.trans (KX.of_below (b:=b) (bt ((Below.refl _ _).drew) (ba W8.drew (.cells #[.int .u8 n_8.op,.int .i64 n_8.c,.int .i64 n_8.s,.string (bs n_8.n),.int .i64 n_8.k,.int .i64 n_8.x,.int .i64 n_8.y,.int .i64 n_8.z,.int .i64 n_8.p] 39)))) F8.out)
 have RT:Hid (ndT.Row (W8.drew.alloc (.cells #[.int .u8 n_8.op,.int .i64 n_8.c,.int .i64 n_8.s,.string (bs n_8.n),.int .i64 n_8.k,.int .i64 n_8.x,.int .i64 n_8.y,.int .i64 n_8.z,.int .i64 n_8.p] 39)) B _ t1.t):=Lib.hid SA.out.row
 have SRT:Hid (ndT.Arg (W8.drew.alloc (.cells #[.int .u8 n_8.op,.int .i64 n_8.c,.int .i64 n_8.s,.string (bs n_8.n),.int .i64 n_8.k,.int .i64 n_8.x,.int .i64 n_8.y,.int .i64 n_8.z,.int .i64 n_8.p] 39)) (.slice (some ⟨W8.heap.size,0,none⟩) 1 1) [n_8]):=Lib.hid (Elem.arg_one (E:=ndT) (w:=W8.drew) n_8 39)
 have HFL:Hid (t1.t.length+[n_8].length≤1000001):=Lib.hid (by rw [List.length_singleton];have:=HTL.out;omega)
 have HB:Hid (B≤(W8.drew.alloc (.cells #[.int .u8 n_8.op,.int .i64 n_8.c,.int .i64 n_8.s,.string (bs n_8.n),.int .i64 n_8.k,.int .i64 n_8.x,.int .i64 n_8.y,.int .i64 n_8.z,.int .i64 n_8.p] 39)).heap.size):=Lib.hid (by have:=SA.out.bB;have:=SA.out.lt;omega)
 have NA:=Lib.hid (N8.out.below (bt ((Below.refl _ _).drew) (ba W8.drew (.cells #[.int .u8 n_8.op,.int .i64 n_8.c,.int .i64 n_8.s,.string (bs n_8.n),.int .i64 n_8.k,.int .i64 n_8.x,.int .i64 n_8.y,.int .i64 n_8.z,.int .i64 n_8.p] 39))))
 have c4:=S8.out.c4
 have c4a:(W8.alloc (.cells #[.int .u8 n_8.op,.int .i64 n_8.c,.int .i64 n_8.s,.string (bs n_8.n),.int .i64 n_8.k,.int .i64 n_8.x,.int .i64 n_8.y,.int .i64 n_8.z,.int .i64 n_8.p] 39)).cell? ⟨b,4,none⟩=some _:=SA.out.c4
 have n0:=N8.out.c0
 have m0:(W8.alloc (.cells #[.int .u8 n_8.op,.int .i64 n_8.c,.int .i64 n_8.s,.string (bs n_8.n),.int .i64 n_8.k,.int .i64 n_8.x,.int .i64 n_8.y,.int .i64 n_8.z,.int .i64 n_8.p] 39)).cell? ⟨iN,0,none⟩=some (.int .u8 n_8.op):=NA.out.c0
 have n1:=N8.out.c1
 have m1:(W8.alloc (.cells #[.int .u8 n_8.op,.int .i64 n_8.c,.int .i64 n_8.s,.string (bs n_8.n),.int .i64 n_8.k,.int .i64 n_8.x,.int .i64 n_8.y,.int .i64 n_8.z,.int .i64 n_8.p] 39)).cell? ⟨iN,1,none⟩=some (.int .i64 n_8.c):=NA.out.c1
 have n2:=N8.out.c2
 have m2:(W8.alloc (.cells #[.int .u8 n_8.op,.int .i64 n_8.c,.int .i64 n_8.s,.string (bs n_8.n),.int .i64 n_8.k,.int .i64 n_8.x,.int .i64 n_8.y,.int .i64 n_8.z,.int .i64 n_8.p] 39)).cell? ⟨iN,2,none⟩=some (.int .i64 n_8.s):=NA.out.c2
 have n3:=N8.out.c3
 have m3:(W8.alloc (.cells #[.int .u8 n_8.op,.int .i64 n_8.c,.int .i64 n_8.s,.string (bs n_8.n),.int .i64 n_8.k,.int .i64 n_8.x,.int .i64 n_8.y,.int .i64 n_8.z,.int .i64 n_8.p] 39)).cell? ⟨iN,3,none⟩=some (.string (bs n_8.n)):=NA.out.c3
 have n4:=N8.out.c4
 have m4:(W8.alloc (.cells #[.int .u8 n_8.op,.int .i64 n_8.c,.int .i64 n_8.s,.string (bs n_8.n),.int .i64 n_8.k,.int .i64 n_8.x,.int .i64 n_8.y,.int .i64 n_8.z,.int .i64 n_8.p] 39)).cell? ⟨iN,4,none⟩=some (.int .i64 n_8.k):=NA.out.c4
 have n5:=N8.out.c5
 have m5:(W8.alloc (.cells #[.int .u8 n_8.op,.int .i64 n_8.c,.int .i64 n_8.s,.string (bs n_8.n),.int .i64 n_8.k,.int .i64 n_8.x,.int .i64 n_8.y,.int .i64 n_8.z,.int .i64 n_8.p] 39)).cell? ⟨iN,5,none⟩=some (.int .i64 n_8.x):=NA.out.c5
 have n6:=N8.out.c6
 have m6:(W8.alloc (.cells #[.int .u8 n_8.op,.int .i64 n_8.c,.int .i64 n_8.s,.string (bs n_8.n),.int .i64 n_8.k,.int .i64 n_8.x,.int .i64 n_8.y,.int .i64 n_8.z,.int .i64 n_8.p] 39)).cell? ⟨iN,6,none⟩=some (.int .i64 n_8.y):=NA.out.c6
 have n7:=N8.out.c7
 have m7:(W8.alloc (.cells #[.int .u8 n_8.op,.int .i64 n_8.c,.int .i64 n_8.s,.string (bs n_8.n),.int .i64 n_8.k,.int .i64 n_8.x,.int .i64 n_8.y,.int .i64 n_8.z,.int .i64 n_8.p] 39)).cell? ⟨iN,7,none⟩=some (.int .i64 n_8.z):=NA.out.c7
 have n8:=N8.out.c8
 have m8:(W8.alloc (.cells #[.int .u8 n_8.op,.int .i64 n_8.c,.int .i64 n_8.s,.string (bs n_8.n),.int .i64 n_8.k,.int .i64 n_8.x,.int .i64 n_8.y,.int .i64 n_8.z,.int .i64 n_8.p] 39)).cell? ⟨iN,8,none⟩=some (.int .i64 n_8.p):=NA.out.c8
 have kw:=wrapL tn (by have:=HTL.out;have:=htn.out;omega)
 have kw2:IntKind.i64.wrap (tn:Int)=(tn:Int):=wrapI (by omega) (by have:=HTL.out;have:=htn.out;omega)
 rw [htn.out] at hv
 subst hv
 go_region_law (first | (go_loud (refine Elem.step (E:=ndT) rfl _ _ rfl B (.slice av tn cv) t1.t (.slice (some ⟨W8.heap.size,0,none⟩) 1 1) [n_8] rfl rfl RT.out SRT.out HFL.out (by decide) HB.out ?_;intro v6 w6 r6 g6 f6;have Y:=SA.out.more KA.out F8.out r6 g6 f6;have d4:=Y.1.1;have f4:=Y.1.2;have SX:=Lib.hid Y.2.1;have KK:=Lib.hid Y.2.2.1;have FF:=Lib.hid Y.2.2.2;clear Y;obtain ⟨a6,q6,e6,_,_⟩:=r6.form;clear r6 g6 f6;obtain ⟨n6,hn6⟩:∃ k:Nat,Hid ((t1.t++[n_8]).length=k):=⟨_,Lib.hid rfl⟩;rw [hn6.out] at e6;subst e6)))
 all_goals
  have h6:n6=tn+1:=by have:=hn6.out;rw [List.length_append,List.length_singleton,htn.out] at this;exact this.symm
  subst h6
  have FX:=Lib.hid FF.out
  obtain ⟨WX,hWX⟩:∃ W,Hid (w6.setCell ⟨b,4,none⟩ (.slice a6 (tn+1) q6)=W):=⟨_,Lib.hid rfl⟩
  rw [hWX.out] at SX KK
  try rw [hWX.out]
  clear hWX d4 f4 SA KA SRT RT HFL HB c4 c4a n0 m0 n1 m1 n2 m2 n3 m3 n4 m4 n5 m5 n6 m6 n7 m7 n8 m8 SD NA FF
  have c4:=SX.out.c4
  go_wp2_with fail
  go_ret
  have FIN:addR {nd with op:=4,n:=m1} t1=addR n_8 t1:=by rw [←hn_8.out,←hn_6.out]
  rw [FIN]
  refine ⟨?_,_,SX.out,KK.out,FX.out⟩
  show Ending.returned _=.returned (.int .i64 ((t1.t.length:Nat):Int))
  rw [htn.out];simp
theorem at_none (f:Nat) (hN:L.length=N) (hl:N≤1000) (hT:∀ x ∈ L,x.t.length≤1000) (hx:L[s.a]?=none) (hi:Inv N s) (h0:s.e=0) (h:St L En B b (.slice ao N lc) w tv s):Calls Tryz.prog 100 #[.pointer (some ⟨b,0,none⟩)] w (RI L En B b (.slice ao N lc) (runR L En (f+1) .atm s) w tv):=by
 have E:runR L En (f+1) .atm s=addR {nodeAt L En s with op:=4,n:=(fieldR L En s).2} (fieldR L En s).1:=by simp only [runR];rw [hx]
 rw [E]
 have HN:=Lib.hid hN;have HL:=Lib.hid hl;have HTX:=Lib.hid hT;have HI:=Lib.hid hi
 have HD:Hid (-1000≤s.d∧s.d≤1000):=Lib.hid ⟨by have:=hi.dl;have:=hi.a;omega,by have:=hi.dh;omega⟩
 have hbw:=h.lt;have hbB:=h.bB;have hrow:=h.row
 have S0:=Lib.hid h;have K0:=Lib.hid (KX.refl (b:=b) (tv:=tv) (w:=w));have F0:=Lib.hid (Fr.refl tv w)
 have C0:=place_is S0.out HN.out
 obtain ⟨P,hP⟩:∃ z,Hid (placeR L En s=z):=⟨_,Lib.hid rfl⟩
 rw [hP.out] at C0
 obtain ⟨nd,hnd⟩:∃ m,Hid (nodeAt L En s=m):=⟨_,Lib.hid rfl⟩
 have ge:N≤s.a:=by rw [←hN];exact List.getElem?_eq_none_iff.1 hx
 have d1:decide ((s.a:Int)<(N:Int))=false:=by simp;omega
 have d2:decide (s.a<N)=false:=by simp;omega
 have hnx:nextR L s=[]:=by unfold nextR;rw [hx]
 clear ge
 have hwin:windowR []=0:=rfl
 obtain ⟨S,hS⟩:∃ S,Hid (bs []=S):=⟨_,Lib.hid rfl⟩
 have s0:(S.toList==[116,114,117,101])=false:=by rw [←hS.out,bs_toList];decide
 have s1:(S.toList==[102,97,108,115,101])=false:=by rw [←hS.out,bs_toList];decide
 have s2:(S.toList==[40])=false:=by rw [←hS.out,bs_toList];decide
 have s3:(S.toList==[105,102])=false:=by rw [←hS.out,bs_toList];decide
 have s4:(S.toList==[109,105,110])=false:=by rw [←hS.out,bs_toList];decide
 have s5:(S.toList==[109,97,120])=false:=by rw [←hS.out,bs_toList];decide
 have s6:(S.toList==[97,98,115])=false:=by rw [←hS.out,bs_toList];decide
 have s7:(S.toList==[114,111,117,110,100])=false:=by rw [←hS.out,bs_toList];decide
 have s8:(S.toList==[104,97,115])=false:=by rw [←hS.out,bs_toList];decide
 have s9:(S.toList==[111,114,101,108,115,101])=false:=by rw [←hS.out,bs_toList];decide
 have C4a:=Lib.hid (fun w=>window_is (w:=w) [])
 unfold U8P at C4a
 rw [hS.out,hwin] at C4a
 have IF:=Lib.hid (gt_field (L:=L) (En:=En) (s:=s) (by rw [hN];exact hi.a))
 rw [hN] at IF
 have IVf:=Lib.hid (hi.of IF.out)
 obtain ⟨⟨t1,m1⟩,hf1⟩:∃ r,Hid (fieldR L En s=r):=⟨_,Lib.hid rfl⟩
 rw [hf1.out] at IVf⊢
 simp only at IVf⊢
 rw [hnd.out]
 clear E h0 hwin IF
 clear h hN hl hT hi hx
 go_enter Tryz.func100,Tryz.ntmps100
 go_upto_region 2 with (go_at_call 102;(with_reducible refine (C0).mono ?_);rintro e1 w1 ⟨rfl,q1⟩;have S1:=Lib.hid (S0.out.below q1);have K1:=Lib.hid (K0.out.trans (KX.of_below (b:=b) q1) F0.out);have F1:=F0;clear C0;clear q1)
 obtain ⟨W2,iN,hW,hX,N2,B2,LN,_,_⟩:=mk1 w1 (.cells #[.int .u8 0,.int .i64 0,.int .i64 0,.string ⟨#[]⟩,.int .i64 0,.int .i64 (-1),.int .i64 (-1),.int .i64 (-1),.int .i64 P] 39)
 rw [hW.out]
 try rw [hX.out]
 have hni:iN=w1.heap.size:=hX.out.symm
 clear hW hX
 replace N2:Hid (Nine W2 iN nd):=Lib.hid (by rw [←hnd.out];unfold nodeAt;rw [hP.out];exact N2.out)
 have HW1:=K1.out.size
 have HNB:Hid (iN ≠ b):=Lib.hid (by omega)
 have T2:Hid (some iN ≠ tv.ownBlock):=Lib.hid (fun e=>by have:=(hrow.lt iN e.symm).2;omega)
 have HBN:Hid (B≤iN):=Lib.hid (by omega)
 have S2:=Lib.hid (S1.out.below B2.out)
 have K2:=Lib.hid (K1.out.trans (KX.of_below (b:=b) B2.out) F1.out)
 have F2:=F1
 replace LN:Hid (w.heap.size≤iN):=Lib.hid (by omega)
 clear hni hbw hbB hrow S1 K1 F1 HW1 B2 S0 K0 F0
 have b0:=S2.out.c0;have b1:=S2.out.c1
 go_quiet (fail)
 rename Nat=>nq0
 obtain ⟨nq,rfl⟩:∃ n:Nat,n=nq0:=⟨_,rfl⟩
 have BQ:=drewN_below W2 nq
 obtain ⟨W3,hwq⟩:∃ V,Hid (W2.drewN nq=V):=⟨_,Lib.hid rfl⟩
 rw [hwq.out] at BQ⊢
 have S3:=Lib.hid (S2.out.below BQ)
 have K3:=Lib.hid (K2.out.trans (KX.of_below (b:=b) BQ) F2.out)
 have F3:=F2
 have N3:=Lib.hid (N2.out.below BQ)
 have T3:=T2
 clear hwq BQ S2 K2 N2 T2 F2 b0 b1
 have C3:=next_is S3.out HN.out
 unfold SP at C3
 rw [hnx] at C3
 rw [hS.out] at C3
 go_upto_region 32 with (go_at_call 101;(with_reducible refine (C3).mono ?_);rintro e4 w4 ⟨rfl,q4⟩;have S4:=Lib.hid (S3.out.below q4);have K4:=Lib.hid (K3.out.trans (KX.of_below (b:=b) q4) F3.out);have F4:=F3;have N4:=Lib.hid (N3.out.below q4);have T4:=T3;clear C3;clear q4)
 clear hnx
 have C4:=C4a.out w4
 go_upto_region 39 with (go_at_call 145;(with_reducible refine (C4).mono ?_);rintro e5 w5 ⟨rfl,q5⟩;have S5:=Lib.hid (S4.out.below q5);have K5:=Lib.hid (K4.out.trans (KX.of_below (b:=b) q5) F4.out);have F5:=F4;have N5:=Lib.hid (N4.out.below q5);have T5:=T4;clear C4;clear q5)
 have n0:=N5.out.c0;have g0:=N5.out.f 0
 go_upto_region 40 with fail
 have S6:=Lib.hid (S5.out.setN HNB.out T5.out HBN.out 0 (.int .u8 (4)))
 have K6:=Lib.hid (K5.out.setN LN.out 0 (.int .u8 (4)))
 have F6:=F5;have T6:=T5
 have N6:Hid (Nine (w5.setCell ⟨iN,0,none⟩ (.int .u8 (4))) iN {nd with op:=4}):=Lib.hid (Nine.setC N5.out 0 _ rfl)
 obtain ⟨W6,hWn⟩:∃ W,Hid (w5.setCell ⟨iN,0,none⟩ (.int .u8 (4))=W):=⟨_,Lib.hid rfl⟩
 rw [hWn.out] at S6 K6 N6
 rw [hWn.out]
 clear hWn n0 g0 S5 K5 N5
 obtain ⟨n_6,hn_6⟩:∃ m,Hid ({nd with op:=4}=m):=⟨_,Lib.hid rfl⟩
 rw [hn_6.out] at N6
 have C6:=field_is S6.out HN.out HL.out HI.out.a HTX.out
 rw [hf1.out] at C6
 go_upto_region 41 with (go_at_call 147;(with_reducible refine (C6).mono ?_);rintro e7 w7 ⟨rfl,tv7,s7,k7,fr7⟩;have K7:=Lib.hid (K6.out.trans k7 F6.out);have F7:=Lib.hid (F6.out.trans fr7 K6.out.size);have S7:=Lib.hid s7;have N7:=Lib.hid (k7.nine N6.out HNB.out T6.out);have T7:=Lib.hid (fr7.ne T6.out N6.out.lt);clear C6;have n3:=N7.out.c3;have g3:=N7.out.f 3;clear s7 k7 fr7)
 have S8:=Lib.hid (S7.out.setN HNB.out T7.out HBN.out 3 (.string (bs m1)))
 have K8:=Lib.hid (K7.out.setN LN.out 3 (.string (bs m1)))
 have F8:=F7;have T8:=T7
 have N8:Hid (Nine (w7.setCell ⟨iN,3,none⟩ (.string (bs m1))) iN {n_6 with n:=m1}):=Lib.hid (Nine.setC N7.out 3 _ rfl)
 obtain ⟨W8,hWn⟩:∃ W,Hid (w7.setCell ⟨iN,3,none⟩ (.string (bs m1))=W):=⟨_,Lib.hid rfl⟩
 rw [hWn.out] at S8 K8 N8
 rw [hWn.out]
 clear hWn n3 g3 S7 K7 N7
 obtain ⟨n_8,hn_8⟩:∃ m,Hid ({n_6 with n:=m1}=m):=⟨_,Lib.hid rfl⟩
 rw [hn_8.out] at N8
 have HTL:Hid (t1.t.length≤10000):=Lib.hid (inv_t IVf.out HL.out)
 obtain ⟨av,cv,hv,_,_⟩:=S8.out.row.form
 obtain ⟨tn,htn⟩:∃ k:Nat,Hid (t1.t.length=k):=⟨_,Lib.hid rfl⟩
 have SD:=Lib.hid (S8.out.below ((Below.refl _ _).drew))
 have SA:=Lib.hid (S8.out.below (bt ((Below.refl _ _).drew) (ba W8.drew (.cells #[.int .u8 n_8.op,.int .i64 n_8.c,.int .i64 n_8.s,.string (bs n_8.n),.int .i64 n_8.k,.int .i64 n_8.x,.int .i64 n_8.y,.int .i64 n_8.z,.int .i64 n_8.p] 39))))
 have KA:=Lib.hid (K8.out.trans (KX.of_below (b:=b) (bt ((Below.refl _ _).drew) (ba W8.drew (.cells #[.int .u8 n_8.op,.int .i64 n_8.c,.int .i64 n_8.s,.string (bs n_8.n),.int .i64 n_8.k,.int .i64 n_8.x,.int .i64 n_8.y,.int .i64 n_8.z,.int .i64 n_8.p] 39)))) F8.out)
 have RT:Hid (ndT.Row (W8.drew.alloc (.cells #[.int .u8 n_8.op,.int .i64 n_8.c,.int .i64 n_8.s,.string (bs n_8.n),.int .i64 n_8.k,.int .i64 n_8.x,.int .i64 n_8.y,.int .i64 n_8.z,.int .i64 n_8.p] 39)) B _ t1.t):=Lib.hid SA.out.row
 have SRT:Hid (ndT.Arg (W8.drew.alloc (.cells #[.int .u8 n_8.op,.int .i64 n_8.c,.int .i64 n_8.s,.string (bs n_8.n),.int .i64 n_8.k,.int .i64 n_8.x,.int .i64 n_8.y,.int .i64 n_8.z,.int .i64 n_8.p] 39)) (.slice (some ⟨W8.heap.size,0,none⟩) 1 1) [n_8]):=Lib.hid (Elem.arg_one (E:=ndT) (w:=W8.drew) n_8 39)
 have HFL:Hid (t1.t.length+[n_8].length≤1000001):=Lib.hid (by rw [List.length_singleton];have:=HTL.out;omega)
 have HB:Hid (B≤(W8.drew.alloc (.cells #[.int .u8 n_8.op,.int .i64 n_8.c,.int .i64 n_8.s,.string (bs n_8.n),.int .i64 n_8.k,.int .i64 n_8.x,.int .i64 n_8.y,.int .i64 n_8.z,.int .i64 n_8.p] 39)).heap.size):=Lib.hid (by have:=SA.out.bB;have:=SA.out.lt;omega)
 have NA:=Lib.hid (N8.out.below (bt ((Below.refl _ _).drew) (ba W8.drew (.cells #[.int .u8 n_8.op,.int .i64 n_8.c,.int .i64 n_8.s,.string (bs n_8.n),.int .i64 n_8.k,.int .i64 n_8.x,.int .i64 n_8.y,.int .i64 n_8.z,.int .i64 n_8.p] 39))))
 have c4:=S8.out.c4
 have c4a:(W8.alloc (.cells #[.int .u8 n_8.op,.int .i64 n_8.c,.int .i64 n_8.s,.string (bs n_8.n),.int .i64 n_8.k,.int .i64 n_8.x,.int .i64 n_8.y,.int .i64 n_8.z,.int .i64 n_8.p] 39)).cell? ⟨b,4,none⟩=some _:=SA.out.c4
 have n0:=N8.out.c0
 have m0:(W8.alloc (.cells #[.int .u8 n_8.op,.int .i64 n_8.c,.int .i64 n_8.s,.string (bs n_8.n),.int .i64 n_8.k,.int .i64 n_8.x,.int .i64 n_8.y,.int .i64 n_8.z,.int .i64 n_8.p] 39)).cell? ⟨iN,0,none⟩=some (.int .u8 n_8.op):=NA.out.c0
 have n1:=N8.out.c1
 have m1:(W8.alloc (.cells #[.int .u8 n_8.op,.int .i64 n_8.c,.int .i64 n_8.s,.string (bs n_8.n),.int .i64 n_8.k,.int .i64 n_8.x,.int .i64 n_8.y,.int .i64 n_8.z,.int .i64 n_8.p] 39)).cell? ⟨iN,1,none⟩=some (.int .i64 n_8.c):=NA.out.c1
 have n2:=N8.out.c2
 have m2:(W8.alloc (.cells #[.int .u8 n_8.op,.int .i64 n_8.c,.int .i64 n_8.s,.string (bs n_8.n),.int .i64 n_8.k,.int .i64 n_8.x,.int .i64 n_8.y,.int .i64 n_8.z,.int .i64 n_8.p] 39)).cell? ⟨iN,2,none⟩=some (.int .i64 n_8.s):=NA.out.c2
 have n3:=N8.out.c3
 have m3:(W8.alloc (.cells #[.int .u8 n_8.op,.int .i64 n_8.c,.int .i64 n_8.s,.string (bs n_8.n),.int .i64 n_8.k,.int .i64 n_8.x,.int .i64 n_8.y,.int .i64 n_8.z,.int .i64 n_8.p] 39)).cell? ⟨iN,3,none⟩=some (.string (bs n_8.n)):=NA.out.c3
 have n4:=N8.out.c4
 have m4:(W8.alloc (.cells #[.int .u8 n_8.op,.int .i64 n_8.c,.int .i64 n_8.s,.string (bs n_8.n),.int .i64 n_8.k,.int .i64 n_8.x,.int .i64 n_8.y,.int .i64 n_8.z,.int .i64 n_8.p] 39)).cell? ⟨iN,4,none⟩=some (.int .i64 n_8.k):=NA.out.c4
 have n5:=N8.out.c5
 have m5:(W8.alloc (.cells #[.int .u8 n_8.op,.int .i64 n_8.c,.int .i64 n_8.s,.string (bs n_8.n),.int .i64 n_8.k,.int .i64 n_8.x,.int .i64 n_8.y,.int .i64 n_8.z,.int .i64 n_8.p] 39)).cell? ⟨iN,5,none⟩=some (.int .i64 n_8.x):=NA.out.c5
 have n6:=N8.out.c6
 have m6:(W8.alloc (.cells #[.int .u8 n_8.op,.int .i64 n_8.c,.int .i64 n_8.s,.string (bs n_8.n),.int .i64 n_8.k,.int .i64 n_8.x,.int .i64 n_8.y,.int .i64 n_8.z,.int .i64 n_8.p] 39)).cell? ⟨iN,6,none⟩=some (.int .i64 n_8.y):=NA.out.c6
 have n7:=N8.out.c7
 have m7:(W8.alloc (.cells #[.int .u8 n_8.op,.int .i64 n_8.c,.int .i64 n_8.s,.string (bs n_8.n),.int .i64 n_8.k,.int .i64 n_8.x,.int .i64 n_8.y,.int .i64 n_8.z,.int .i64 n_8.p] 39)).cell? ⟨iN,7,none⟩=some (.int .i64 n_8.z):=NA.out.c7
 have n8:=N8.out.c8
 have m8:(W8.alloc (.cells #[.int .u8 n_8.op,.int .i64 n_8.c,.int .i64 n_8.s,.string (bs n_8.n),.int .i64 n_8.k,.int .i64 n_8.x,.int .i64 n_8.y,.int .i64 n_8.z,.int .i64 n_8.p] 39)).cell? ⟨iN,8,none⟩=some (.int .i64 n_8.p):=NA.out.c8
 have kw:=wrapL tn (by have:=HTL.out;have:=htn.out;omega)
 have kw2:IntKind.i64.wrap (tn:Int)=(tn:Int):=wrapI (by omega) (by have:=HTL.out;have:=htn.out;omega)
 rw [htn.out] at hv
 subst hv
 go_region_law (first | (go_loud (refine Elem.step (E:=ndT) rfl _ _ rfl B (.slice av tn cv) t1.t (.slice (some ⟨W8.heap.size,0,none⟩) 1 1) [n_8] rfl rfl RT.out SRT.out HFL.out (by decide) HB.out ?_;intro v6 w6 r6 g6 f6;have Y:=SA.out.more KA.out F8.out r6 g6 f6;have d4:=Y.1.1;have f4:=Y.1.2;have SX:=Lib.hid Y.2.1;have KK:=Lib.hid Y.2.2.1;have FF:=Lib.hid Y.2.2.2;clear Y;obtain ⟨a6,q6,e6,_,_⟩:=r6.form;clear r6 g6 f6;obtain ⟨n6,hn6⟩:∃ k:Nat,Hid ((t1.t++[n_8]).length=k):=⟨_,Lib.hid rfl⟩;rw [hn6.out] at e6;subst e6)))
 all_goals
  have h6:n6=tn+1:=by have:=hn6.out;rw [List.length_append,List.length_singleton,htn.out] at this;exact this.symm
  subst h6
  have FX:=Lib.hid FF.out
  obtain ⟨WX,hWX⟩:∃ W,Hid (w6.setCell ⟨b,4,none⟩ (.slice a6 (tn+1) q6)=W):=⟨_,Lib.hid rfl⟩
  rw [hWX.out] at SX KK
  try rw [hWX.out]
  clear hWX d4 f4 SA KA SRT RT HFL HB c4 c4a n0 m0 n1 m1 n2 m2 n3 m3 n4 m4 n5 m5 n6 m6 n7 m7 n8 m8 SD NA FF
  have c4:=SX.out.c4
  go_wp2_with fail
  go_ret
  have FIN:addR {nd with op:=4,n:=m1} t1=addR n_8 t1:=by rw [←hn_8.out,←hn_6.out]
  rw [FIN]
  refine ⟨?_,_,SX.out,KK.out,FX.out⟩
  show Ending.returned _=.returned (.int .i64 ((t1.t.length:Nat):Int))
  rw [htn.out];simp
end
end Go.Proofs.YteagpbkbdlmdiaaGreat.Ps
namespace Go.Proofs.YteagpbkbdlmdiaaGreat.Ps
open Go Go.RowKit Dt Tx Va Ev Lx
section
variable {L:List Tok} {En:Int} {B b N lc:Nat} {ao:Option Addr} {tv:Value} {w:World} {s:Rd}
theorem at_step (f:Nat) (hN:L.length=N) (hl:N≤1000) (hT:∀ x ∈ L,x.t.length≤1000) (HE:ExC L En B b N (.slice ao N lc) f) (HC:CaC L En B b N (.slice ao N lc) f):AtC L En B b N (.slice ao N lc) (f+1):=by
 intro s w tv hi h0 hm h
 cases hx:L[s.a]? with
 | none=>exact at_none f hN hl hT hx hi h0 h
 | some x=>
  by_cases hk:x.k=2
  ·exact at_num f hN hl hT hx hk hi h0 h
  by_cases h1:x.t=wTrue
  ·exact at_true f hN hl hT hx hk h1 hi h0 h
  by_cases h2:x.t=wFalse
  ·exact at_false f hN hl hT hx hk h2 hi h0 h
  by_cases h3:x.t=wLp
  ·exact at_lp f hN hl hT hx hk h3 HE hm hi h0 h
  by_cases h4:x.t=wIf
  ·exact at_calls f hN hl hT hx hk _ (by simp) h4 HC hm hi h0 h
  by_cases h5:x.t=wMin
  ·exact at_calls f hN hl hT hx hk _ (by simp) h5 HC hm hi h0 h
  by_cases h6:x.t=wMax
  ·exact at_calls f hN hl hT hx hk _ (by simp) h6 HC hm hi h0 h
  by_cases h7:x.t=wAbs
  ·exact at_calls f hN hl hT hx hk _ (by simp) h7 HC hm hi h0 h
  by_cases h8:x.t=wRound
  ·exact at_calls f hN hl hT hx hk _ (by simp) h8 HC hm hi h0 h
  by_cases h9:x.t=wHas
  ·exact at_calls f hN hl hT hx hk _ (by simp) h9 HC hm hi h0 h
  by_cases h10:x.t=wOrelse
  ·exact at_calls f hN hl hT hx hk _ (by simp) h10 HC hm hi h0 h
  by_cases hw:windowR x.t=0
  ·exact at_field f hN hl hT hx hk h1 h2 h3 h4 h5 h6 h7 h8 h9 h10 hw hi h0 h
  ·exact at_window f hN hl hT hx hk h1 h2 h3 h4 h5 h6 h7 h8 h9 h10 hw hi h0 h
theorem all_steps (hN:L.length=N) (hl:N≤1000) (hT:∀ x ∈ L,x.t.length≤1000):∀ f:Nat,(∀ g,g≤f→ExC L En B b N (.slice ao N lc) g)∧AtC L En B b N (.slice ao N lc) f∧CaC L En B b N (.slice ao N lc) f:=by
 intro f
 induction f with
 | zero=>
  have hE:ExC L En B b N (.slice ao N lc) 0:=by
   intro l z s w tv hl7 hz hi hm h
   simp only [muR] at hm;omega
  refine ⟨fun g hg=>by obtain rfl:g=0:=by omega
                       exact hE,?_,?_⟩
  ·intro s w tv hi h0 hm h
   simp only [muR] at hm;omega
  ·intro wd n s w tv hw hi h0 ha hm h
   simp only [muR] at hm;omega
 | succ f ih=>
  obtain ⟨HE,HA,HC⟩:=ih
  have hE:=ex_step f hN hl HE HA
  refine ⟨fun g hg=>?_,at_step f hN hl hT (HE f (Nat.le_refl _)) HC,ca_step f hN hl hT (HE f (Nat.le_refl _))⟩
  by_cases e:g=f+1
  ·subst e;exact hE
  ·exact HE g (by omega)
end
end Go.Proofs.YteagpbkbdlmdiaaGreat.Ps
namespace Go.Proofs.YteagpbkbdlmdiaaGreat.Ps
open Go Go.RowKit Dt Tx Va Ev Lx
attribute [local go_sem ↓] Go.wp_at_zero Go.wp_at_succ
def rd0:Rd:=⟨0,0,[],0,0⟩
def runP (L:List Tok) (En:Int):Rd:=(runR L En (24*L.length+16) (.ex 0) rd0).1
def endP (L:List Tok) (En:Int):Rd:=if (runP L En).a<L.length then stopR L En 4 (runP L En) else runP L En
def parseR (l:List UInt8):List Nd × Int × Int:=
 if (lexP l).2.2 ≠ 0 then ([],(lexP l).2.1,(lexP l).2.2)
 else if (endP (lexP l).1 (l.length:Int)).e ≠ 0 then ([],(endP (lexP l).1 (l.length:Int)).b,(endP (lexP l).1 (l.length:Int)).e)
 else if 100<(endP (lexP l).1 (l.length:Int)).t.length then ([],0,7) else ((endP (lexP l).1 (l.length:Int)).t,0,0)
def PaPost (r:List Nd × Int × Int) (w:World) (e:Ending) (w':World):Prop:=∃ v,e=.returned (.tuple #[v,.int .i64 r.2.1,.int .i64 r.2.2])∧ndE.Arg w' v r.1∧Below w.heap.size w w'
theorem inv0 (N:Nat):Inv N rd0:=⟨Nat.zero_le _,Nat.zero_le _,by show -(0:Int)≤0;omega,by show (0:Int)≤17;omega,fun _=>by show (0:Int)≤16;omega⟩
theorem nil_arg {w:World}:ndE.Arg w (.slice none 0 0) []:=Elem.Row.arg (Elem.Row.nil (E:=ndE) w 0)
set_option maxRecDepth 100000 in
set_option maxHeartbeats 4000000 in
theorem psdoc_is {w:World} (l:List UInt8) (hl:l.length≤1000) (hL:(lexP l).1.length≤1000) (hT:∀ x ∈ (lexP l).1,x.t.length≤1000):Calls Tryz.prog 29 #[.string (bs l)] w (PaPost (parseR l) w):=by
 have LX:=rlex_is (w:=w) l (by omega)
 unfold LexPost at LX
 have hz:(bs l).size=l.length:=bs_size l
 obtain ⟨En,hEn⟩:∃ k:Nat,Hid (l.length=k):=⟨_,Lib.hid rfl⟩
 obtain ⟨res,hres⟩:∃ r,Hid (parseR l=r):=⟨_,Lib.hid rfl⟩
 rw [hres.out]
 have RES:=hres.out
 unfold parseR at RES
 obtain ⟨L,eb,ee,hlx⟩:∃ L b e,Hid (lexP l=(L,b,e)):=⟨_,_,_,Lib.hid rfl⟩
 rw [hlx.out] at LX hL hT RES
 rw [hEn.out] at hz RES
 simp only at LX hL hT RES
 obtain ⟨S,hS⟩:∃ S,Hid (bs l=S):=⟨_,Lib.hid rfl⟩
 rw [hS.out] at LX hz⊢
 have hEl:En≤1000:=by rw [←hEn.out];exact hl
 by_cases h0:ee=0
 ·have d1:decide (ee=0)=true:=decide_eq_true h0
  have d2:(ee !=0)=false:=by simpa using h0
  have d3:(ee==0)=true:=by simpa using h0
  rw [if_neg (fun k=>k h0)] at RES
  have HRES:=Lib.hid RES
  obtain ⟨N,hN⟩:∃ N,Hid (L.length=N):=⟨_,Lib.hid rfl⟩
  have HL:Hid (N≤1000):=Lib.hid (by rw [←hN.out];exact hL)
  have HT:=Lib.hid hT
  clear hres RES hEn hS h0 hL hT hlx hl
  go_enter Tryz.func29,Tryz.ntmps29
  go_upto_region 4 with (go_at_call 48;(with_reducible refine LX.mono ?_);rintro e1 w1 ⟨v1,rfl,a1,q1⟩;have A1:=Lib.hid a1;have Q1:=Lib.hid q1;clear a1 q1 LX)
  obtain ⟨ao,lc,rfl,_⟩:=argT A1.out
  rw [hN.out] at A1
  rw [hN.out]
  go_upto_region 5 with fail
  obtain ⟨W0,b,hW,hX,X0,B0,LB,_,_⟩:=mk1 w1 (.cells #[.slice ao N lc,.int .i64 0,.int .i64 (En:Int),.int .i64 0,.slice none 0 0,.int .i64 0,.int .i64 0] 90)
  rw [hW.out]
  try rw [hX.out]
  have hni:b=w1.heap.size:=hX.out.symm
  clear hW hX
  have S0:Hid (St L (En:Int) w1.heap.size b (.slice ao N lc) W0 (.slice none 0 0) rd0):=Lib.hid ⟨X0.out,A1.out.below B0.out,Elem.Row.nil _ _,by omega,fun g hg hl=>A1.out.lt hg hl⟩
  have K0:=Lib.hid (KX.refl (b:=b) (tv:=.slice none 0 0) (w:=W0));have F0:=Lib.hid (Fr.refl (.slice none 0 0) W0)
  have FIN:Hid (∀ w',KX b (.slice none 0 0) W0 w'→Below w.heap.size w w'):=Lib.hid (fun w' k=>Below.trans (Below.trans Q1.out (B0.out.mono Q1.out.size)) (k.below (by have:=Q1.out.size;omega) (fun g hg=>by cases hg) (by have:=Q1.out.size;have:=B0.out.size;omega)))
  clear hni X0 B0 LB A1 Q1
  have ALL:=all_steps (L:=L) (En:=(En:Int)) (B:=w1.heap.size) (b:=b) (N:=N) (lc:=lc) (ao:=ao) hN.out HL.out HT.out (24*N+16)
  have C0:=ALL.1 (24*N+16) (Nat.le_refl _) 0 0 rd0 W0 (.slice none 0 0) (by decide) rfl (inv0 N) (by simp only [muR];show 24*(N - 0)+_≤_;omega) S0.out
  have IG:=Lib.hid (run_gt (L:=L) (En:=(En:Int)) (24*N+16) (.ex 0) rd0 (Nat.zero_le _) trivial)
  rw [hN.out] at IG
  have IV:=Lib.hid ((inv0 N).of IG.out)
  have ER:Hid (runP L (En:Int)=(runR L (En:Int) (24*N+16) (.ex 0) rd0).1):=Lib.hid (by unfold runP;rw [hN.out])
  obtain ⟨⟨r,x⟩,hr⟩:∃ r,Hid (runR L (En:Int) (24*N+16) (.ex 0) rd0=r):=⟨_,Lib.hid rfl⟩
  rw [hr.out] at C0 IV ER
  simp only at IV ER
  clear ALL IG hr
  go_upto_region 6 with (go_at_call 49;(with_reducible refine (C0).mono ?_);rintro e1 w1 ⟨rfl,tv1,s1,k1,fr1⟩;have K1:=Lib.hid (K0.out.trans k1 F0.out);have F1:=Lib.hid (F0.out.trans fr1 K0.out.size);have S1:=Lib.hid s1;clear C0;clear s1 k1 fr1)
  have b1:=S1.out.c1
  by_cases ha:r.a<N
  ·have g1:decide ((r.a:Int)<(N:Int))=true:=by simp;omega
   have g2:decide (r.a<N)=true:=by simp;omega
   have g3:(r.a:Int)<(N:Int):=by omega
   have END:Hid (endP L (En:Int)=stopR L (En:Int) 4 r):=Lib.hid (by unfold endP;rw [ER.out,hN.out,if_pos ha])
   have C1:=stop_is S1.out hN.out 4
   obtain ⟨q,hq⟩:∃ q,Hid (stopR L (En:Int) 4 r=q):=⟨_,Lib.hid rfl⟩
   rw [hq.out] at C1 END
   clear ha IV ER hq
   go_upto_region 8 with (go_at_call 50;(with_reducible refine (C1).mono ?_);rintro e2 w2 ⟨⟨u2,rfl⟩,tv2,s2,k2,fr2⟩;have K2:=Lib.hid (K1.out.trans k2 F1.out);have F2:=Lib.hid (F1.out.trans fr2 K1.out.size);have S2:=Lib.hid s2;clear C1;clear s2 k2 fr2)
   have b5:=S2.out.c5
   by_cases he:q.e=0
   ·have z1:decide (q.e=0)=true:=decide_eq_true he
    have z2:(q.e !=0)=false:=by simpa using he
    have z3:(q.e==0)=true:=by simpa using he
    have T:=S2.out.row.arg
    have TB:=Lib.hid T
    have c4:=S2.out.c4
    obtain ⟨tao,tcap,htv,_,_⟩:=S2.out.row.form
    subst htv
    obtain ⟨m,hm⟩:∃ m:Nat,Hid (q.t.length=m):=⟨_,Lib.hid rfl⟩
    rw [hm.out] at c4 TB
    by_cases hg:100<m
    ·have y1:decide ((100:Int)<(m:Int))=true:=by simp;omega
     have y2:decide (100<m)=true:=by simp;omega
     have y3:decide ((m:Int)>(100:Int))=true:=by simp;omega
     have E:=HRES.out;rw [END.out,if_neg (fun k=>k he),hm.out,if_pos hg] at E
     have HE:=Lib.hid E
     clear E he hg T
     go_wp2_with fail
     go_ret3
     rw [←HE.out]
     exact ⟨_,rfl,nil_arg,FIN.out _ K2.out⟩
    ·have y1:decide ((100:Int)<(m:Int))=false:=by simp;omega
     have y2:decide (100<m)=false:=by simp;omega
     have y3:decide ((m:Int)>(100:Int))=false:=by simp;omega
     have E:=HRES.out;rw [END.out,if_neg (fun k=>k he),hm.out,if_neg hg] at E
     have HE:=Lib.hid E
     clear E he hg T
     go_wp2_with fail
     go_ret3
     rw [←HE.out]
     exact ⟨_,rfl,TB.out,FIN.out _ K2.out⟩
   ·have z1:decide (q.e=0)=false:=decide_eq_false he
    have z2:(q.e !=0)=true:=by simpa using he
    have z3:(q.e==0)=false:=by simpa using he
    have E:=HRES.out;rw [END.out,if_pos he] at E
    have HE:=Lib.hid E
    clear E he
    go_upto_region 9 with fail
    have b6:=S2.out.c6
    go_quiet (fail)
    go_wp2_with fail
    go_ret3
    rw [←HE.out]
    exact ⟨_,rfl,nil_arg,FIN.out _ (K2.out.trans (KX.of_below (below_drewN (Below.refl _ _) _)) F2.out)⟩
  ·have g1:decide ((r.a:Int)<(N:Int))=false:=by simp;omega
   have g2:decide (r.a<N)=false:=by simp;omega
   have END:Hid (endP L (En:Int)=r):=Lib.hid (by unfold endP;rw [ER.out,hN.out,if_neg ha])
   clear ha IV ER
   go_upto_region 8 with fail
   have b5:=S1.out.c5
   by_cases he:r.e=0
   ·have z1:decide (r.e=0)=true:=decide_eq_true he
    have z2:(r.e !=0)=false:=by simpa using he
    have z3:(r.e==0)=true:=by simpa using he
    have T:=S1.out.row.arg
    have TB:=Lib.hid T
    have c4:=S1.out.c4
    obtain ⟨tao,tcap,htv,_,_⟩:=S1.out.row.form
    subst htv
    obtain ⟨m,hm⟩:∃ m:Nat,Hid (r.t.length=m):=⟨_,Lib.hid rfl⟩
    rw [hm.out] at c4 TB
    by_cases hg:100<m
    ·have y1:decide ((100:Int)<(m:Int))=true:=by simp;omega
     have y2:decide (100<m)=true:=by simp;omega
     have y3:decide ((m:Int)>(100:Int))=true:=by simp;omega
     have E:=HRES.out;rw [END.out,if_neg (fun k=>k he),hm.out,if_pos hg] at E
     have HE:=Lib.hid E
     clear E he hg T
     go_wp2_with fail
     go_ret3
     rw [←HE.out]
     exact ⟨_,rfl,nil_arg,FIN.out _ K1.out⟩
    ·have y1:decide ((100:Int)<(m:Int))=false:=by simp;omega
     have y2:decide (100<m)=false:=by simp;omega
     have y3:decide ((m:Int)>(100:Int))=false:=by simp;omega
     have E:=HRES.out;rw [END.out,if_neg (fun k=>k he),hm.out,if_neg hg] at E
     have HE:=Lib.hid E
     clear E he hg T
     go_wp2_with fail
     go_ret3
     rw [←HE.out]
     exact ⟨_,rfl,TB.out,FIN.out _ K1.out⟩
   ·have z1:decide (r.e=0)=false:=decide_eq_false he
    have z2:(r.e !=0)=true:=by simpa using he
    have z3:(r.e==0)=false:=by simpa using he
    have E:=HRES.out;rw [END.out,if_pos he] at E
    have HE:=Lib.hid E
    clear E he
    go_upto_region 9 with fail
    have b6:=S1.out.c6
    go_quiet (fail)
    go_wp2_with fail
    go_ret3
    rw [←HE.out]
    exact ⟨_,rfl,nil_arg,FIN.out _ (K1.out.trans (KX.of_below (below_drewN (Below.refl _ _) _)) F1.out)⟩
 ·have d1:decide (ee=0)=false:=decide_eq_false h0
  have d2:(ee !=0)=true:=by simpa using h0
  have d3:(ee==0)=false:=by simpa using h0
  rw [if_pos h0] at RES
  have HRES:=Lib.hid RES
  clear hres RES hEn hS h0 hL hT hlx hl
  go_enter Tryz.func29,Tryz.ntmps29
  go_wp2_with (go_at_call 48;(with_reducible refine LX.mono ?_);rintro e1 w1 ⟨v1,rfl,a1,q1⟩;have A1:=Lib.hid a1;have Q1:=Lib.hid q1;clear a1 q1 LX)
  go_ret3
  rw [←HRES.out]
  exact ⟨_,rfl,nil_arg,Q1.out⟩
end Go.Proofs.YteagpbkbdlmdiaaGreat.Ps
namespace Go.Proofs.YteagpbkbdlmdiaaGreat.Ek
open Go Go.RowKit Dt Tx Va Ev Lx Ps
attribute [local go_sem ↓] Go.wp_at_zero Go.wp_at_succ
theorem lexF_bound (l:List UInt8):∀ (n p:Nat) (acc:List Tok),(∀ x ∈ acc,x.t.length≤l.length)→(lexF l n p acc).1.length≤acc.length+n∧(∀ x ∈ (lexF l n p acc).1,x.t.length≤l.length)
 | 0,_,acc,h=>⟨Nat.le_refl _,h⟩
 | n+1,p,acc,h=>by
  unfold lexF
  split
  ·exact ⟨by show acc.length≤_;omega,h⟩
  ·split
   ·have:=lexF_bound l n (p+1) acc h
    exact ⟨by omega,this.2⟩
   ·split
    ·rename_i hw
     have wl:=(word_len hw).2.2
     rw [List.length_drop] at wl
     have:=lexF_bound l n (p+(wordP (l.drop p) (p:Int)).1.t.length) (acc++[(wordP (l.drop p) (p:Int)).1]) (fun x hx=>by
      rcases List.mem_append.1 hx with h' | h'
      ·exact h x h'
      ·rw [List.mem_singleton] at h';subst h';omega)
     rw [List.length_append] at this
     exact ⟨by have:=this.1;simp at this;omega,this.2⟩
    ·exact ⟨by show ([]:List Tok).length≤_;exact Nat.zero_le _,fun x hx=>by cases hx⟩
theorem lexP_bound (l:List UInt8):(lexP l).1.length≤1000∧∀ x ∈ (lexP l).1,x.t.length≤1000:=by
 unfold lexP
 split
 ·exact ⟨Nat.zero_le _,fun x hx=>by cases hx⟩
 ·have h:=lexF_bound l l.length 0 [] (fun x hx=>by cases hx)
  exact ⟨by have:=h.1;simp at this;omega,fun x hx=>by have:=h.2 x hx;omega⟩
def AnyP (w:World) (e:Ending) (w':World):Prop:=∃ (v:Value) (u:List Nd) (p r:Int),e=.returned (.tuple #[v,.int .i64 p,.int .i64 r])∧ndE.Arg w' v u∧Below w.heap.size w w'
set_option maxRecDepth 100000 in
set_option maxHeartbeats 2000000 in
theorem parse_any {w:World} (l:List UInt8) (hl:l.length≤1000000):Calls Tryz.prog 29 #[.string (bs l)] w (AnyP w):=by
 by_cases h:l.length≤1000
 ·exact (psdoc_is (w:=w) l h (lexP_bound l).1 (lexP_bound l).2).mono (fun e w' ⟨v,h1,h2,h3⟩=>⟨v,_,_,_,h1,h2,h3⟩)
 ·have LX:=rlex_is (w:=w) l hl
  rw [show lexP l=([],0,3) by unfold lexP;rw [if_pos (by omega)]] at LX
  unfold LexPost at LX
  dsimp only at LX
  clear h hl
  go_enter Tryz.func29,Tryz.ntmps29
  go_wp2_with (go_at_call 48;(with_reducible refine LX.mono ?_);rintro e1 w1 ⟨v1,rfl,a1,q1⟩;have Q1:=Lib.hid q1;clear a1 q1 LX)
  go_ret3
  exact ⟨_,[],_,_,rfl,nil_arg,Q1.out⟩
end Go.Proofs.YteagpbkbdlmdiaaGreat.Ek
namespace Go.Proofs.YteagpbkbdlmdiaaGreat.Ek
open Go Go.RowKit Dt Tx Va Ev
attribute [local go_sem ↓] Go.wp_at_zero Go.wp_at_succ
theorem bs_of (S:ByteArray):∃ l:List UInt8,bs l=S∧l.length=S.size:=⟨S.data.toList,rfl,rfl⟩
def TxP (t:List Nd) (w:World) (e:Ending) (w':World):Prop:=∃ (S:ByteArray) (r:Int),e=.returned (.tuple #[.string S,.int .i64 r])∧(r=0→t.length≤100∧WholeT t)∧Below w.heap.size w w'
set_option maxRecDepth 100000 in
set_option maxHeartbeats 4000000 in
theorem ptext_any {w:World} {vt:Value} {t:List Nd} (ht:ndE.Arg w vt t) (hl:t.length≤300) (hno:∀ n ∈ t,n.ok) (hnm:∀ n ∈ t,n.n.length≤2000):Calls Tryz.prog 26 #[vt] w (TxP t w):=by
 have WC:=whole_is (w:=w) ht hl hno
 have TC:WholeT t→∀ w',Below w.heap.size w w'→Calls Tryz.prog 45 #[vt,.int .i64 ((t.length - 1:Nat):Int)] w' (StrP (3000*szAt t (t.length - 1)) w'):=fun hW w' h=>by
  have:=List.length_pos_iff.2 hW.2
  exact ektext_is hW hl hno hnm t.length (t.length - 1) (by omega) (by omega) w' vt (ht.below h)
 have SB:WholeT t→3000*szAt t (t.length - 1)≤1000000:=fun hW=>by
  have h0:=List.length_pos_iff.2 hW.2
  obtain ⟨n,hn⟩:∃ n,t[t.length - 1]?=some n:=⟨_,List.getElem?_eq_getElem (by omega)⟩
  have:=(hW.1 _ n hn).2;omega
 have LP:WholeT t→0<t.length:=fun hW=>List.length_pos_iff.2 hW.2
 have HT:=Lib.hid ht
 obtain ⟨aa,ca,rfl,_⟩:=argN ht
 obtain ⟨N,hN⟩:∃ N,Hid (t.length=N):=⟨_,Lib.hid rfl⟩
 rw [hN.out] at WC LP hl⊢
 simp only [hN.out] at TC SB
 have HT2:Hid (ndE.Arg w (.slice aa N ca) t):=by rw [←hN.out];exact HT
 by_cases h100:100<N
 ·have d1:decide ((100:Int)<(N:Int))=true:=by simp;omega
  have d2:decide ((N:Int)>100)=true:=by simp;omega
  have d3:decide (100<N)=true:=decide_eq_true h100
  clear WC TC SB LP HT HT2 ht hl hno hnm h100
  go_enter Tryz.func26,Tryz.ntmps26
  go_wp2_with fail
  go_ret2
  exact ⟨_,4,rfl,fun e=>absurd e (by decide),Below.refl _ _⟩
 ·have d1:decide ((100:Int)<(N:Int))=false:=by simp;omega
  have d2:decide ((N:Int)>100)=false:=by simp;omega
  have d3:decide (100<N)=false:=decide_eq_false h100
  have H100:Hid (t.length≤100):=Lib.hid (by rw [hN.out];omega)
  have HTC:=Lib.hid TC;have HSB:=Lib.hid SB;have HLP:=Lib.hid LP
  clear TC SB LP HT ht hl hno hnm h100
  go_enter Tryz.func26,Tryz.ntmps26
  go_upto_region 1 with fail
  go_cut [15] (fun p wx=>∃ b:Bool,p=.bool (!b)∧Hid (b=true→WholeT t)∧Hid (Below w.heap.size w wx))
  case first=>
   go_wp2_with (go_at_call 44;(with_reducible refine WC.mono ?_);rintro e1 w1 ⟨b,rfl,hb,q1⟩;clear WC)
   go_meet
   case rel=>exact ⟨b,rfl,hb,q1⟩
  case rest=>
   obtain ⟨b,rfl,HB,B1⟩:=hcut
   cases b
   ·go_wp2_with fail
    go_ret2
    exact ⟨_,4,rfl,fun e=>absurd e (by decide),B1.out⟩
   ·have HW:=Lib.hid (HB.out rfl)
    have kw:IntKind.i64.wrap ((N:Int) - 1)=((N - 1:Nat):Int):=by
     have:=HLP.out HW.out;have h:=H100.out
     rw [show (N:Int) - 1=((N - 1:Nat):Int) by omega];exact wrapN _ (by have:=hN.out;omega)
    have TX:=HTC.out HW.out wc B1.out
    have HSB2:=Lib.hid (HSB.out HW.out)
    clear HB HTC HSB HLP
    go_upto_region 4 with (go_at_call 45;(with_reducible refine TX.mono ?_);rintro e2 w2 ⟨S2,rfl,l2,q2⟩;clear TX)
    obtain ⟨l,hl,hlen⟩:=bs_of S2
    subst hl
    have B2:=Lib.hid (bt B1.out q2)
    have PC:=parse_any (w:=w2) l (by have:=HSB2.out;omega)
    obtain ⟨SL,hSL⟩:∃ S,Hid (bs l=S):=⟨_,Lib.hid rfl⟩
    rw [hSL.out] at PC⊢
    clear q2 l2 hlen HSB2
    go_upto_region 5 with (go_at_call 29;(with_reducible refine PC.mono ?_);rintro e3 w3 ⟨v,u,p,r,rfl,au,q3⟩;clear PC)
    have B3:=Lib.hid (bt B2.out q3)
    by_cases hr:r=0
    ·have z1:decide (r=0)=true:=decide_eq_true hr
     have z2:(r !=0)=false:=by simpa using hr
     have z3:(r==0)=true:=by simpa using hr
     have SC:=tsame_any (HT2.out.below B3.out) au (by have:=H100.out;omega)
     obtain ⟨ub,uc,rfl,_⟩:=argN au
     clear au q3 hr
     go_wp2_with (go_at_call 46;(with_reducible refine SC.mono ?_);rintro e4 w4 ⟨b2,rfl,q4⟩;have B4:=Lib.hid (bt B3.out q4);clear q4 SC;cases b2)
     ·go_ret2
      exact ⟨_,4,rfl,fun e=>absurd e (by decide),B4.out⟩
     ·go_ret2
      exact ⟨_,0,rfl,fun _=>⟨H100.out,HW.out⟩,B4.out⟩
    ·have z1:decide (r=0)=false:=decide_eq_false hr
     have z2:(r !=0)=true:=by simpa using hr
     have z3:(r==0)=false:=by simpa using hr
     obtain ⟨ub,uc,rfl,_⟩:=argN au
     clear au q3 hr
     go_wp2_with fail
     go_ret2
     exact ⟨_,4,rfl,fun e=>absurd e (by decide),B3.out⟩
end Go.Proofs.YteagpbkbdlmdiaaGreat.Ek
namespace Go.Proofs.YteagpbkbdlmdiaaGreat.Ek
open Go Go.RowKit Dt Tx Va Ev
attribute [local go_sem ↓] Go.wp_at_zero Go.wp_at_succ
def OfOK (fs:List Fd) (t:List Nd) (k:Int):Prop:=t.length≤100∧WholeT t∧(∀ i,i<t.length→(kindAt fs t i).2=0)∧k=(kindAt fs t (t.length - 1)).1
def OfP (fs:List Fd) (t:List Nd) (w:World) (e:Ending) (w':World):Prop:=∃ k p r:Int,e=.returned (.tuple #[.int .u8 k,.int .i64 p,.int .i64 r])∧(r=0→OfOK fs t k)∧Below w.heap.size w w'
set_option maxRecDepth 100000 in
set_option maxHeartbeats 4000000 in
theorem of_any {w:World} {vt vf:Value} {t:List Nd} {fs:List Fd} (ht:ndE.Arg w vt t) (hf:fdE.Arg w vf fs) (hl:t.length≤300) (hlf:fs.length≤1000) (hno:∀ n ∈ t,n.ok) (hnm:∀ n ∈ t,n.n.length≤2000):Calls Tryz.prog 11 #[vt,vf] w (OfP fs t w):=by
 have TX:=ptext_any ht hl hno hnm
 have WX:WholeT t→∀ i,i<t.length→∀ w',Below w.heap.size w w'→Calls Tryz.prog 27 #[vt,.int .i64 (i:Int),vf] w' (WrP (kindAt fs t i) w'):=fun hW i hi w' h=>kwrong_is hW hl hlf hno (i+1) i (by omega) hi w' vt vf (ht.below h) (hf.below h)
 obtain ⟨aa,ca,rfl,h1⟩:=argN ht
 obtain ⟨af,cf,rfl,_⟩:=argF hf
 have HA:=Lib.hid h1;have HL:=Lib.hid hl
 obtain ⟨N,hN⟩:∃ N,Hid (t.length=N):=⟨_,Lib.hid rfl⟩
 rw [hN.out] at TX⊢
 simp only [hN.out] at WX
 have HWX:=Lib.hid WX
 clear ht hf h1 hl hlf hno hnm WX
 go_enter Tryz.func11,Tryz.ntmps11
 go_upto_region 2 with (go_at_call 26;(with_reducible refine TX.mono ?_);rintro e1 w1 ⟨S,r,rfl,hr,q1⟩;clear TX)
 have B1:=Lib.hid q1
 clear q1
 by_cases h0:r=0
 ·have HW:=Lib.hid (hr h0)
  subst h0
  clear hr
  have HWX2:=Lib.hid (HWX.out HW.out.2)
  clear HWX
  go_wp2_with fail
  go_loopw [9,10] (fun kd i wr=>∃ (k:Nat) (kv:Int),kd=.int .u8 kv∧i=.int .i64 (k:Int)∧k≤N∧Hid (∀ j,j<k→(kindAt fs t j).2=0)∧Hid (0<k→kv=(kindAt fs t (k - 1)).1)∧Hid (Below w.heap.size w wr)) (fun _ i _=>N - (intOf i).toNat)
  case atStart=>exact ⟨0,0,rfl,rfl,by omega,(fun j h=>absurd h (by omega)),(fun h=>absurd h (by omega)),B1.out⟩
  case round=>
   clear B1
   obtain ⟨wo,rfl⟩:∃ wo:World,wo=wr:=⟨_,rfl⟩
   obtain ⟨k,kv,rfl,rfl,hk,HJ,HV,B⟩:=hrel
   by_cases hkl:k<N
   ·obtain ⟨x,hx⟩:∃ n,t[k]?=some n:=⟨_,List.getElem?_eq_getElem (by rw [hN.out];exact hkl)⟩
    obtain ⟨ba,oa,rfl,la,c0,c1,c2,c3,c4,c5,c6,c7,c8⟩:=HA.out k x hx
    have i0:(0:Int)≤(k:Int):=by omega
    have i1:(k:Int)<(N:Int):=by omega
    have i2:decide ((k:Int)<(N:Int))=true:=by simp;omega
    have i3:decide (k<N)=true:=by simpa using hkl
    have kw:IntKind.i64.wrap ((k:Int)+1)=(k:Int)+1:=wrap1 k (by have:=HL.out;have:=hN.out;omega)
    have HK:=Lib.hid hkl
    have WC:=HWX2.out k hkl wo B.out
    obtain ⟨⟨ka,ke⟩,hka⟩:∃ r,Hid (kindAt fs t k=r):=⟨_,Lib.hid rfl⟩
    rw [hka.out] at WC
    have C8:Hid (∀ w',Below w.heap.size w w'→w'.cell? ⟨ba,oa+k*9+8,none⟩=some (.int .i64 x.p)):=Lib.hid (fun w' h=>(h.cell (p:=⟨ba,_,none⟩) la).trans c8)
    clear hk hkl hx la c0 c1 c2 c3 c4 c5 c6 c7 c8
    go_upto_region 9 with (go_at_call 27;(with_reducible refine WC.mono ?_);rintro e2 w2 ⟨rfl,q2⟩;have B2:=Lib.hid (bt B.out q2);clear q2 WC B)
    by_cases he:ke=0
    ·subst he
     go_wp2_with fail
     go_roundw
     case rel=>exact ⟨k+1,ka,rfl,rfl,by have:=HK.out;omega,(fun j hj=>by
      by_cases e:j<k
      ·exact HJ.out j e
      ·obtain rfl:j=k:=by omega
       rw [hka.out]),(fun _=>by show ka=(kindAt fs t k).1;rw [hka.out]),B2.out⟩
     case measure=>show N - ((k:Int)+1).toNat<N - ((k:Int)).toNat;have:=HK.out;omega
    ·have z1:decide (ke=0)=false:=decide_eq_false he
     have z2:(ke !=0)=true:=by simpa using he
     have z3:(ke==0)=false:=by simpa using he
     have HE:=Lib.hid he
     clear he
     go_upto_region 10 with fail
     have cc:=C8.out w2 B2.out
     go_quiet (fail)
     go_wp2_with fail
     go_ret3
     exact ⟨_,_,_,rfl,(fun e=>absurd e HE.out),below_drewN B2.out _⟩
   ·have hke:k=N:=by omega
    subst hke
    have i2:decide ((k:Int)<(k:Int))=false:=by simp
    have FIN:Hid (OfOK fs t kv):=Lib.hid ⟨by have:=HW.out.1;exact this,HW.out.2,(fun i hi=>HJ.out i (by have:=hN.out;omega)),by rw [hN.out];exact HV.out (by have:=List.length_pos_iff.2 HW.out.2.2;have:=hN.out;omega)⟩
    clear hkl hk HJ HV
    go_wp2_with fail
    go_ret3
    exact ⟨_,_,_,rfl,(fun _=>FIN.out),B.out⟩
 ·have z1:decide (r=0)=false:=decide_eq_false h0
  have z2:(r !=0)=true:=by simpa using h0
  have z3:(r==0)=false:=by simpa using h0
  clear h0 hr HWX
  go_wp2_with fail
  go_ret3
  exact ⟨_,_,4,rfl,(fun e=>absurd e (by decide)),B1.out⟩
end Go.Proofs.YteagpbkbdlmdiaaGreat.Ek
