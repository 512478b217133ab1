/-
  The document's parser: call, by what its callees do.
-/
import Derived.Test.YteagpbkbdlmdiaaGreatQ37
set_option linter.unusedSimpArgs false
set_option linter.unusedVariables false
namespace Go.Proofs.YteagpbkbdlmdiaaGreat.Ps
set_option maxRecDepth 100000
set_option maxHeartbeats 4000000
open Go Go.RowKit Dt Tx Va Ev Lx
attribute [local go_sem ↓] Go.wp_at_zero Go.wp_at_succ
section
variable {L:List Tok} {En:Int} {B b N lc:Nat} {ao:Option Addr} {tv:Value} {w:World} {s:Rd}
theorem inv_begin {N:Nat} {s:Rd} (hN:L.length=N) (i:Inv N s) (h:s.a<N) (h0:s.e=0):Inv N (beginR L En s):=by
 have g:=gt_begin (L:=L) (En:=En) (s:=s) (by rw [hN];exact h)
 rw [hN] at g
 have f0:fl s=0:=if_pos h0
 have ht:=i.t;have h1:=i.dl;have h2:=i.d0 f0
 refine ⟨g.n,?_,?_,?_,fun k=>?_⟩
 ·have:=g.t;omega
 ·have:=g.dl;omega
 ·have:=g.dh;omega
 ·have he:(beginR L En s).e=0:=by
   unfold fl at k;split at k
   ·assumption
   ·omega
  by_cases hw:nextR L (upR s)=wLp
  ·have E:beginR L En s=mustR L En wLp (deeperR L En (upR s)):=by unfold beginR;rw [if_pos hw]
   have hd:(beginR L En s).d=s.d+1:=by rw [E,(must_dt wLp).1];rfl
   rcases Int.lt_or_le s.d 16 with q | q
   ·omega
   ·exfalso
    have e1:(deeperR L En (upR s)).e ≠ 0:=deeper_e q
    have e2:beginR L En s=deeperR L En (upR s):=by rw [E];unfold mustR;rw [if_neg e1]
    rw [e2] at he;exact e1 he
  ·have E:beginR L En s=mustR L En wLp (upR s):=by unfold beginR;rw [if_neg hw]
   have hd:(beginR L En s).d=s.d:=by rw [E,(must_dt wLp).1];rfl
   omega
theorem begin_a {N:Nat} {s:Rd} (hN:L.length=N) (h:s.a<N):s.a+1≤(beginR L En s).a:=by
 have h':s.a<L.length:=by rw [hN];exact h
 by_cases hw:nextR L (upR s)=wLp
 ·have E:beginR L En s=mustR L En wLp (deeperR L En (upR s)):=by unfold beginR;rw [if_pos hw]
  have e:(deeperR L En (upR s)).a=s.a+1:=by
   exact (full_a (L:=L) (En:=En) (s:=upR s)).1
  rw [E]
  have k:=(gt_must (L:=L) (En:=En) (s:=deeperR L En (upR s)) (w:=wLp) (by decide) (by omega)).a
  omega
 ·have E:beginR L En s=mustR L En wLp (upR s):=by unfold beginR;rw [if_neg hw]
  rw [E]
  exact (gt_must (L:=L) (En:=En) (s:=upR s) (w:=wLp) (by decide) h').a
theorem St.setN {lv:Value} {i:Nat} (h:St L En B b lv w tv s) (hb:i ≠ b) (ht:some i ≠ tv.ownBlock) (hB:B≤i) (o:Nat) (v:Value):St L En B b lv (w.setCell ⟨i,o,none⟩ v) tv s:=by
 refine ⟨(heap_setCell_other _ ⟨i,o,none⟩ b _ (fun e=>hb e.symm)).trans h.box,h.toks.block (by simp) (fun g hg hl hlt=>?_),h.row.block fun g hg=>heap_setCell_other _ ⟨i,o,none⟩ g _ (fun e=>ht (by rw [hg];exact congrArg some e.symm)),h.bB,h.tb⟩
 have:=h.tb g hg hl
 exact heap_setCell_other _ ⟨i,o,none⟩ g _ (show ¬g=i by omega)
theorem KX.setN {tv0:Value} {w1:World} {i:Nat} (k:KX b tv0 w w1) (hi:w.heap.size≤i) (o:Nat) (v:Value):KX b tv0 w (w1.setCell ⟨i,o,none⟩ v):=by
 refine ⟨k.low.setCell (Nat.zero_le _) _,by have:=k.size;simpa using this,fun j hj hb ht=>?_⟩
 rw [heap_setCell_other _ ⟨i,o,none⟩ j _ (show ¬j=i by omega)];exact k.block j hj hb ht
theorem Nine.setC {i:Nat} {n n':Nd} (h:Nine w i n) (o:Nat) (v:Value) (hb:(#[(.int .u8 n.op:Value),.int .i64 n.c,.int .i64 n.s,.string (bs n.n),.int .i64 n.k,.int .i64 n.x,.int .i64 n.y,.int .i64 n.z,.int .i64 n.p].setIfInBounds o v)=#[(.int .u8 n'.op:Value),.int .i64 n'.c,.int .i64 n'.s,.string (bs n'.n),.int .i64 n'.k,.int .i64 n'.x,.int .i64 n'.y,.int .i64 n'.z,.int .i64 n'.p]):Nine (w.setCell ⟨i,o,none⟩ v) i n':=by
 show _=_
 rw [heap_setCell_same w i o _ _ _ h,hb]
theorem inv_ok {N:Nat} {s:Rd} (i:Inv N s) (hl:N≤1000):s.a≤N∧s.t.length≤10000∧ -100000≤s.d∧s.d≤100000:=by
 have h1:=i.a;have h2:=i.t;have h3:=i.dl;have h4:=i.dh
 have:fl s≤1:=by unfold fl;split<;>omega
 refine ⟨h1,?_,?_,?_⟩<;>omega
theorem ca_has (f:Nat) (hN:L.length=N) (hl:N≤1000) (hT:∀ x ∈ L,x.t.length≤1000) (HE:ExC L En B b N (.slice ao N lc) f) (n:Nd) (hi:Inv N s) (h0:s.e=0) (ha:s.a<N) (hm:muR N (.ca wHas n) s.a≤f+1) (h:St L En B b (.slice ao N lc) w tv s):Calls Tryz.prog 144 #[.pointer (some ⟨b,0,none⟩),.string (bs wHas),.agg #[.int .u8 n.op,.int .i64 n.c,.int .i64 n.s,.string (bs n.n),.int .i64 n.k,.int .i64 n.x,.int .i64 n.y,.int .i64 n.z,.int .i64 n.p]] w (RI L En B b (.slice ao N lc) (runR L En (f+1) (.ca wHas n) s) w tv):=by
 obtain ⟨S,hS⟩:∃ S,Hid (bs wHas=S):=⟨_,Lib.hid rfl⟩
 rw [hS.out]
 have s0:(S.toList==[104,97,115])=true:=by rw [←hS.out,bs_toList];decide
 have s1:(S.toList==[111,114,101,108,115,101])=false:=by rw [←hS.out,bs_toList];decide
 have s2:(S.toList==[97,98,115])=false:=by rw [←hS.out,bs_toList];decide
 have s3:(S.toList==[114,111,117,110,100])=false:=by rw [←hS.out,bs_toList];decide
 have s4:(S.toList==[109,97,120])=false:=by rw [←hS.out,bs_toList];decide
 have s5:(S.toList==[105,102])=false:=by rw [←hS.out,bs_toList];decide
 have IV1:=Lib.hid (inv_begin (En:=En) hN hi ha h0)
 have GB:Hid (s.a+1≤(beginR L En s).a):=Lib.hid (begin_a hN ha)
 simp only [muR] at hm
 have MUX:Hid (∀ q:Rd,(beginR L En s).a≤q.a→muR N (.ex 0) q.a≤f):=Lib.hid (fun q hq=>by have:=GB.out;simp only [muR];omega)
 have HN:=Lib.hid hN;have HL:=Lib.hid hl;have HTX:=Lib.hid hT;have HX:=Lib.hid HE
 have hdl:=hi.dl;have hdh:=hi.dh
 have IF:=Lib.hid (gt_field (L:=L) (En:=En) (s:=beginR L En s) (by rw [hN];exact IV1.out.a))
 rw [hN] at IF
 have IVf:=Lib.hid (IV1.out.of IF.out)
 obtain ⟨⟨t1,m1⟩,hf1⟩:∃ r,Hid (fieldR L En (beginR L En s)=r):=⟨_,Lib.hid rfl⟩
 rw [hf1.out] at IF IVf
 simp only at IF IVf
 have E:runR L En (f+1) (.ca wHas n) s=endR L En {n with op:=24,n:=m1} t1:=by
  simp only [runR,if_true];rw [hf1.out]
 rw [E]
 clear E
 have HSA:Hid (s.a<N):=Lib.hid ha;have HD:Hid (-1000≤s.d∧s.d≤1000):=Lib.hid ⟨by have:=hi.a;omega,by omega⟩
 have hbw:=h.lt;have hbB:=h.bB;have hrow:=h.row
 have S00:=Lib.hid h
 clear h hN hl hT HE hi h0 ha hm hS hdl hdh
 go_enter Tryz.func144,Tryz.ntmps144
 go_upto_region 1 with fail
 obtain ⟨W0,iN,hW,hX,N0,B0,LN,_,_⟩:=mk1 w (.cells #[.int .u8 n.op,.int .i64 n.c,.int .i64 n.s,.string (bs n.n),.int .i64 n.k,.int .i64 n.x,.int .i64 n.y,.int .i64 n.z,.int .i64 n.p] 39)
 rw [hW.out]
 try rw [hX.out]
 have hni:iN=w.heap.size:=hX.out.symm
 clear hW hX
 replace N0:Hid (Nine W0 iN n):=N0
 have HNB:Hid (iN ≠ b):=Lib.hid (by omega)
 have T0:Hid (some iN ≠ tv.ownBlock):=Lib.hid (fun e=>by have:=(hrow.lt iN e.symm).2;omega)
 have HBN:Hid (B≤iN):=Lib.hid (by omega)
 have S0:=Lib.hid (S00.out.below B0.out)
 have K0:=Lib.hid (KX.of_below (b:=b) (tv:=tv) B0.out)
 have F0:=Lib.hid (Fr.refl tv w)
 have C0:=begin_is S0.out HN.out HL.out HSA.out HD.out.1 HD.out.2
 clear hni hbw hbB hrow S00
 go_upto_region 4 with (first | (go_at_call 146;(with_reducible refine (C0).mono ?_);rintro e1 w1 ⟨⟨u1,rfl⟩,tv1,s1,k1,fr1⟩;have K1:=Lib.hid (K0.out.trans k1 F0.out);have F1:=Lib.hid (F0.out.trans fr1 K0.out.size);have S1:=Lib.hid s1;have N1:=Lib.hid (k1.nine N0.out HNB.out T0.out);have T1:=Lib.hid (fr1.ne T0.out N0.out.lt);clear C0;clear s1 k1 fr1))
 have n0:=N1.out.c0;have g0:=N1.out.f 0
 go_upto_region 5 with fail
 have S2:=Lib.hid (S1.out.setN HNB.out T1.out HBN.out 0 (.int .u8 (24)))
 have K2:=Lib.hid (K1.out.setN LN.out 0 (.int .u8 (24)))
 have F2:=F1;have T2:=T1
 have N2:Hid (Nine (w1.setCell ⟨iN,0,none⟩ (.int .u8 (24))) iN {n with op:=24}):=Lib.hid (Nine.setC N1.out 0 _ rfl)
 obtain ⟨W2,hWn⟩:∃ W,Hid (w1.setCell ⟨iN,0,none⟩ (.int .u8 (24))=W):=⟨_,Lib.hid rfl⟩
 rw [hWn.out] at S2 K2 N2
 rw [hWn.out]
 clear hWn n0 g0 S1 K1 N1
 obtain ⟨n_2,hn_2⟩:∃ m,Hid ({n with op:=24}=m):=⟨_,Lib.hid rfl⟩
 rw [hn_2.out] at N2
 have C2:=field_is S2.out HN.out HL.out IV1.out.a HTX.out;rw [hf1.out] at C2
 go_upto_region 6 with (first | (go_at_call 147;(with_reducible refine (C2).mono ?_);rintro e3 w3 ⟨rfl,tv3,s3,k3,fr3⟩;have K3:=Lib.hid (K2.out.trans k3 F2.out);have F3:=Lib.hid (F2.out.trans fr3 K2.out.size);have S3:=Lib.hid s3;have N3:=Lib.hid (k3.nine N2.out HNB.out T2.out);have T3:=Lib.hid (fr3.ne T2.out N2.out.lt);clear C2;have n3:=(k3.nine N2.out HNB.out T2.out).c3;have g3:=(k3.nine N2.out HNB.out T2.out).f 3;clear s3 k3 fr3))
 have S4:=Lib.hid (S3.out.setN HNB.out T3.out HBN.out 3 (.string (bs m1)))
 have K4:=Lib.hid (K3.out.setN LN.out 3 (.string (bs m1)))
 have F4:=F3;have T4:=T3
 have N4:Hid (Nine (w3.setCell ⟨iN,3,none⟩ (.string (bs m1))) iN {n_2 with n:=m1}):=Lib.hid (Nine.setC N3.out 3 _ rfl)
 obtain ⟨W4,hWn⟩:∃ W,Hid (w3.setCell ⟨iN,3,none⟩ (.string (bs m1))=W):=⟨_,Lib.hid rfl⟩
 rw [hWn.out] at S4 K4 N4
 rw [hWn.out]
 clear hWn n3 g3 S3 K3 N3
 obtain ⟨n_4,hn_4⟩:∃ m,Hid ({n_2 with n:=m1}=m):=⟨_,Lib.hid rfl⟩
 rw [hn_4.out] at N4
 have C4:=end_is S4.out HN.out HL.out (inv_ok IVf.out HL.out).1 (inv_ok IVf.out HL.out).2.2.1 (inv_ok IVf.out HL.out).2.2.2 (inv_ok IVf.out HL.out).2.1 n_4
 have n0:=N4.out.c0;have n1:=N4.out.c1;have n2:=N4.out.c2;have n3:=N4.out.c3;have n4:=N4.out.c4;have n5:=N4.out.c5;have n6:=N4.out.c6;have n7:=N4.out.c7;have n8:=N4.out.c8
 go_wp2_with (go_at_call 149;(with_reducible refine (C4).mono ?_);rintro e5 w5 ⟨rfl,tv5,s5,k5,fr5⟩;have K5:=Lib.hid (K4.out.trans k5 F4.out);have F5:=Lib.hid (F4.out.trans fr5 K4.out.size);have S5:=Lib.hid s5;have N5:=Lib.hid (k5.nine N4.out HNB.out T4.out);have T5:=Lib.hid (fr5.ne T4.out N4.out.lt);clear C4;clear s5 k5 fr5)
 go_ret
 skip
 refine ⟨?_,_,?_,K5.out,F5.out⟩
 ·first | rfl | (simp only [endR,addR])
 ·have:=S5.out
  rw [←hn_4.out] at this
  rw [←hn_2.out] at this
  exact this
theorem ca_orelse (f:Nat) (hN:L.length=N) (hl:N≤1000) (hT:∀ x ∈ L,x.t.length≤1000) (HE:ExC L En B b N (.slice ao N lc) f) (n:Nd) (hi:Inv N s) (h0:s.e=0) (ha:s.a<N) (hm:muR N (.ca wOrelse n) s.a≤f+1) (h:St L En B b (.slice ao N lc) w tv s):Calls Tryz.prog 144 #[.pointer (some ⟨b,0,none⟩),.string (bs wOrelse),.agg #[.int .u8 n.op,.int .i64 n.c,.int .i64 n.s,.string (bs n.n),.int .i64 n.k,.int .i64 n.x,.int .i64 n.y,.int .i64 n.z,.int .i64 n.p]] w (RI L En B b (.slice ao N lc) (runR L En (f+1) (.ca wOrelse n) s) w tv):=by
 obtain ⟨S,hS⟩:∃ S,Hid (bs wOrelse=S):=⟨_,Lib.hid rfl⟩
 rw [hS.out]
 have s0:(S.toList==[104,97,115])=false:=by rw [←hS.out,bs_toList];decide
 have s1:(S.toList==[111,114,101,108,115,101])=true:=by rw [←hS.out,bs_toList];decide
 have s2:(S.toList==[97,98,115])=false:=by rw [←hS.out,bs_toList];decide
 have s3:(S.toList==[114,111,117,110,100])=false:=by rw [←hS.out,bs_toList];decide
 have s4:(S.toList==[109,97,120])=false:=by rw [←hS.out,bs_toList];decide
 have s5:(S.toList==[105,102])=false:=by rw [←hS.out,bs_toList];decide
 have IV1:=Lib.hid (inv_begin (En:=En) hN hi ha h0)
 have GB:Hid (s.a+1≤(beginR L En s).a):=Lib.hid (begin_a hN ha)
 simp only [muR] at hm
 have MUX:Hid (∀ q:Rd,(beginR L En s).a≤q.a→muR N (.ex 0) q.a≤f):=Lib.hid (fun q hq=>by have:=GB.out;simp only [muR];omega)
 have HN:=Lib.hid hN;have HL:=Lib.hid hl;have HTX:=Lib.hid hT;have HX:=Lib.hid HE
 have hdl:=hi.dl;have hdh:=hi.dh
 have IF:=Lib.hid (gt_field (L:=L) (En:=En) (s:=beginR L En s) (by rw [hN];exact IV1.out.a))
 rw [hN] at IF
 have IVf:=Lib.hid (IV1.out.of IF.out)
 obtain ⟨⟨t1,m1⟩,hf1⟩:∃ r,Hid (fieldR L En (beginR L En s)=r):=⟨_,Lib.hid rfl⟩
 rw [hf1.out] at IF IVf
 simp only at IF IVf
 have IM1:=Lib.hid (gt_must (L:=L) (En:=En) (s:=t1) (w:=wCm) (by decide) (by rw [hN];exact IVf.out.a))
 rw [hN] at IM1
 have IVm1:=Lib.hid (IVf.out.of IM1.out)
 have IVx1:=Lib.hid (run_gt (L:=L) (En:=En) f (.ex 0) (mustR L En wCm t1) (by rw [hN];exact IVm1.out.a) trivial)
 rw [hN] at IVx1
 have IVq1:=Lib.hid (IVm1.out.of IVx1.out)
 have X1:=fun w tv=>HX.out 0 0 (mustR L En wCm t1) w tv (by decide) rfl IVm1.out
 obtain ⟨⟨q1,x1⟩,hq1⟩:∃ r,Hid (runR L En f (.ex 0) (mustR L En wCm t1)=r):=⟨_,Lib.hid rfl⟩
 rw [hq1.out] at IVx1 IVq1
 simp only [hq1.out] at X1
 simp only at IVx1 IVq1
 have E:runR L En (f+1) (.ca wOrelse n) s=endR L En {n with op:=25,n:=m1,x:=x1} q1:=by
  simp only [runR,if_true];rw [if_neg (show ¬wOrelse=wHas by decide),hf1.out];simp only;rw [hq1.out]
 rw [E]
 clear E
 have HSA:Hid (s.a<N):=Lib.hid ha;have HD:Hid (-1000≤s.d∧s.d≤1000):=Lib.hid ⟨by have:=hi.a;omega,by omega⟩
 have hbw:=h.lt;have hbB:=h.bB;have hrow:=h.row
 have S00:=Lib.hid h
 clear h hN hl hT HE hi h0 ha hm hS hdl hdh
 go_enter Tryz.func144,Tryz.ntmps144
 go_upto_region 1 with fail
 obtain ⟨W0,iN,hW,hX,N0,B0,LN,_,_⟩:=mk1 w (.cells #[.int .u8 n.op,.int .i64 n.c,.int .i64 n.s,.string (bs n.n),.int .i64 n.k,.int .i64 n.x,.int .i64 n.y,.int .i64 n.z,.int .i64 n.p] 39)
 rw [hW.out]
 try rw [hX.out]
 have hni:iN=w.heap.size:=hX.out.symm
 clear hW hX
 replace N0:Hid (Nine W0 iN n):=N0
 have HNB:Hid (iN ≠ b):=Lib.hid (by omega)
 have T0:Hid (some iN ≠ tv.ownBlock):=Lib.hid (fun e=>by have:=(hrow.lt iN e.symm).2;omega)
 have HBN:Hid (B≤iN):=Lib.hid (by omega)
 have S0:=Lib.hid (S00.out.below B0.out)
 have K0:=Lib.hid (KX.of_below (b:=b) (tv:=tv) B0.out)
 have F0:=Lib.hid (Fr.refl tv w)
 have C0:=begin_is S0.out HN.out HL.out HSA.out HD.out.1 HD.out.2
 clear hni hbw hbB hrow S00
 go_upto_region 8 with (first | (go_at_call 146;(with_reducible refine (C0).mono ?_);rintro e1 w1 ⟨⟨u1,rfl⟩,tv1,s1,k1,fr1⟩;have K1:=Lib.hid (K0.out.trans k1 F0.out);have F1:=Lib.hid (F0.out.trans fr1 K0.out.size);have S1:=Lib.hid s1;have N1:=Lib.hid (k1.nine N0.out HNB.out T0.out);have T1:=Lib.hid (fr1.ne T0.out N0.out.lt);clear C0;clear s1 k1 fr1))
 have n0:=N1.out.c0;have g0:=N1.out.f 0
 go_upto_region 9 with fail
 have S2:=Lib.hid (S1.out.setN HNB.out T1.out HBN.out 0 (.int .u8 (25)))
 have K2:=Lib.hid (K1.out.setN LN.out 0 (.int .u8 (25)))
 have F2:=F1;have T2:=T1
 have N2:Hid (Nine (w1.setCell ⟨iN,0,none⟩ (.int .u8 (25))) iN {n with op:=25}):=Lib.hid (Nine.setC N1.out 0 _ rfl)
 obtain ⟨W2,hWn⟩:∃ W,Hid (w1.setCell ⟨iN,0,none⟩ (.int .u8 (25))=W):=⟨_,Lib.hid rfl⟩
 rw [hWn.out] at S2 K2 N2
 rw [hWn.out]
 clear hWn n0 g0 S1 K1 N1
 obtain ⟨n_2,hn_2⟩:∃ m,Hid ({n with op:=25}=m):=⟨_,Lib.hid rfl⟩
 rw [hn_2.out] at N2
 have C2:=field_is S2.out HN.out HL.out IV1.out.a HTX.out;rw [hf1.out] at C2
 go_upto_region 10 with (first | (go_at_call 147;(with_reducible refine (C2).mono ?_);rintro e3 w3 ⟨rfl,tv3,s3,k3,fr3⟩;have K3:=Lib.hid (K2.out.trans k3 F2.out);have F3:=Lib.hid (F2.out.trans fr3 K2.out.size);have S3:=Lib.hid s3;have N3:=Lib.hid (k3.nine N2.out HNB.out T2.out);have T3:=Lib.hid (fr3.ne T2.out N2.out.lt);clear C2;have n3:=(k3.nine N2.out HNB.out T2.out).c3;have g3:=(k3.nine N2.out HNB.out T2.out).f 3;clear s3 k3 fr3))
 have S4:=Lib.hid (S3.out.setN HNB.out T3.out HBN.out 3 (.string (bs m1)))
 have K4:=Lib.hid (K3.out.setN LN.out 3 (.string (bs m1)))
 have F4:=F3;have T4:=T3
 have N4:Hid (Nine (w3.setCell ⟨iN,3,none⟩ (.string (bs m1))) iN {n_2 with n:=m1}):=Lib.hid (Nine.setC N3.out 3 _ rfl)
 obtain ⟨W4,hWn⟩:∃ W,Hid (w3.setCell ⟨iN,3,none⟩ (.string (bs m1))=W):=⟨_,Lib.hid rfl⟩
 rw [hWn.out] at S4 K4 N4
 rw [hWn.out]
 clear hWn n3 g3 S3 K3 N3
 obtain ⟨n_4,hn_4⟩:∃ m,Hid ({n_2 with n:=m1}=m):=⟨_,Lib.hid rfl⟩
 rw [hn_4.out] at N4
 have C4:=must_is S4.out HN.out HL.out IVf.out.a wCm ⟨#[44]⟩ rfl
 go_upto_region 11 with (first | (go_at_call 143;(with_reducible refine (C4).mono ?_);rintro e5 w5 ⟨⟨u5,rfl⟩,tv5,s5,k5,fr5⟩;have K5:=Lib.hid (K4.out.trans k5 F4.out);have F5:=Lib.hid (F4.out.trans fr5 K4.out.size);have S5:=Lib.hid s5;have N5:=Lib.hid (k5.nine N4.out HNB.out T4.out);have T5:=Lib.hid (fr5.ne T4.out N4.out.lt);clear C4;clear s5 k5 fr5))
 have C5:=X1 w5 _ (MUX.out _ (Nat.le_trans IF.out.a IM1.out.a)) S5.out
 go_upto_region 12 with (first | (go_at_call 49;(with_reducible refine (C5).mono ?_);rintro e6 w6 ⟨rfl,tv6,s6,k6,fr6⟩;have K6:=Lib.hid (K5.out.trans k6 F5.out);have F6:=Lib.hid (F5.out.trans fr6 K5.out.size);have S6:=Lib.hid s6;have N6:=Lib.hid (k6.nine N5.out HNB.out T5.out);have T6:=Lib.hid (fr6.ne T5.out N5.out.lt);clear C5;have n5:=(k6.nine N5.out HNB.out T5.out).c5;have g5:=(k6.nine N5.out HNB.out T5.out).f 5;clear s6 k6 fr6))
 have S7:=Lib.hid (S6.out.setN HNB.out T6.out HBN.out 5 (.int .i64 x1))
 have K7:=Lib.hid (K6.out.setN LN.out 5 (.int .i64 x1))
 have F7:=F6;have T7:=T6
 have N7:Hid (Nine (w6.setCell ⟨iN,5,none⟩ (.int .i64 x1)) iN {n_4 with x:=x1}):=Lib.hid (Nine.setC N6.out 5 _ rfl)
 obtain ⟨W7,hWn⟩:∃ W,Hid (w6.setCell ⟨iN,5,none⟩ (.int .i64 x1)=W):=⟨_,Lib.hid rfl⟩
 rw [hWn.out] at S7 K7 N7
 rw [hWn.out]
 clear hWn n5 g5 S6 K6 N6
 obtain ⟨n_7,hn_7⟩:∃ m,Hid ({n_4 with x:=x1}=m):=⟨_,Lib.hid rfl⟩
 rw [hn_7.out] at N7
 have C7:=end_is S7.out HN.out HL.out (inv_ok IVq1.out HL.out).1 (inv_ok IVq1.out HL.out).2.2.1 (inv_ok IVq1.out HL.out).2.2.2 (inv_ok IVq1.out HL.out).2.1 n_7
 have n0:=N7.out.c0;have n1:=N7.out.c1;have n2:=N7.out.c2;have n3:=N7.out.c3;have n4:=N7.out.c4;have n5:=N7.out.c5;have n6:=N7.out.c6;have n7:=N7.out.c7;have n8:=N7.out.c8
 go_wp2_with (go_at_call 149;(with_reducible refine (C7).mono ?_);rintro e8 w8 ⟨rfl,tv8,s8,k8,fr8⟩;have K8:=Lib.hid (K7.out.trans k8 F7.out);have F8:=Lib.hid (F7.out.trans fr8 K7.out.size);have S8:=Lib.hid s8;have N8:=Lib.hid (k8.nine N7.out HNB.out T7.out);have T8:=Lib.hid (fr8.ne T7.out N7.out.lt);clear C7;clear s8 k8 fr8)
 go_ret
 skip
 refine ⟨?_,_,?_,K8.out,F8.out⟩
 ·first | rfl | (simp only [endR,addR])
 ·have:=S8.out
  rw [←hn_7.out] at this
  rw [←hn_4.out] at this
  rw [←hn_2.out] at this
  exact this
theorem ca_abs (f:Nat) (hN:L.length=N) (hl:N≤1000) (hT:∀ x ∈ L,x.t.length≤1000) (HE:ExC L En B b N (.slice ao N lc) f) (n:Nd) (hi:Inv N s) (h0:s.e=0) (ha:s.a<N) (hm:muR N (.ca wAbs n) s.a≤f+1) (h:St L En B b (.slice ao N lc) w tv s):Calls Tryz.prog 144 #[.pointer (some ⟨b,0,none⟩),.string (bs wAbs),.agg #[.int .u8 n.op,.int .i64 n.c,.int .i64 n.s,.string (bs n.n),.int .i64 n.k,.int .i64 n.x,.int .i64 n.y,.int .i64 n.z,.int .i64 n.p]] w (RI L En B b (.slice ao N lc) (runR L En (f+1) (.ca wAbs n) s) w tv):=by
 obtain ⟨S,hS⟩:∃ S,Hid (bs wAbs=S):=⟨_,Lib.hid rfl⟩
 rw [hS.out]
 have s0:(S.toList==[104,97,115])=false:=by rw [←hS.out,bs_toList];decide
 have s1:(S.toList==[111,114,101,108,115,101])=false:=by rw [←hS.out,bs_toList];decide
 have s2:(S.toList==[97,98,115])=true:=by rw [←hS.out,bs_toList];decide
 have s3:(S.toList==[114,111,117,110,100])=false:=by rw [←hS.out,bs_toList];decide
 have s4:(S.toList==[109,97,120])=false:=by rw [←hS.out,bs_toList];decide
 have s5:(S.toList==[105,102])=false:=by rw [←hS.out,bs_toList];decide
 have IV1:=Lib.hid (inv_begin (En:=En) hN hi ha h0)
 have GB:Hid (s.a+1≤(beginR L En s).a):=Lib.hid (begin_a hN ha)
 simp only [muR] at hm
 have MUX:Hid (∀ q:Rd,(beginR L En s).a≤q.a→muR N (.ex 0) q.a≤f):=Lib.hid (fun q hq=>by have:=GB.out;simp only [muR];omega)
 have HN:=Lib.hid hN;have HL:=Lib.hid hl;have HTX:=Lib.hid hT;have HX:=Lib.hid HE
 have hdl:=hi.dl;have hdh:=hi.dh
 have IVx1:=Lib.hid (run_gt (L:=L) (En:=En) f (.ex 0) (beginR L En s) (by rw [hN];exact IV1.out.a) trivial)
 rw [hN] at IVx1
 have IVq1:=Lib.hid (IV1.out.of IVx1.out)
 have X1:=fun w tv=>HX.out 0 0 (beginR L En s) w tv (by decide) rfl IV1.out
 obtain ⟨⟨q1,x1⟩,hq1⟩:∃ r,Hid (runR L En f (.ex 0) (beginR L En s)=r):=⟨_,Lib.hid rfl⟩
 rw [hq1.out] at IVx1 IVq1
 simp only [hq1.out] at X1
 simp only at IVx1 IVq1
 have E:runR L En (f+1) (.ca wAbs n) s=endR L En {n with op:=22,x:=x1} q1:=by
  simp only [runR,if_true];rw [if_neg (show ¬wAbs=wHas by decide),if_neg (show ¬wAbs=wOrelse by decide),hq1.out]
 rw [E]
 clear E
 have HSA:Hid (s.a<N):=Lib.hid ha;have HD:Hid (-1000≤s.d∧s.d≤1000):=Lib.hid ⟨by have:=hi.a;omega,by omega⟩
 have hbw:=h.lt;have hbB:=h.bB;have hrow:=h.row
 have S00:=Lib.hid h
 clear h hN hl hT HE hi h0 ha hm hS hdl hdh
 go_enter Tryz.func144,Tryz.ntmps144
 go_upto_region 1 with fail
 obtain ⟨W0,iN,hW,hX,N0,B0,LN,_,_⟩:=mk1 w (.cells #[.int .u8 n.op,.int .i64 n.c,.int .i64 n.s,.string (bs n.n),.int .i64 n.k,.int .i64 n.x,.int .i64 n.y,.int .i64 n.z,.int .i64 n.p] 39)
 rw [hW.out]
 try rw [hX.out]
 have hni:iN=w.heap.size:=hX.out.symm
 clear hW hX
 replace N0:Hid (Nine W0 iN n):=N0
 have HNB:Hid (iN ≠ b):=Lib.hid (by omega)
 have T0:Hid (some iN ≠ tv.ownBlock):=Lib.hid (fun e=>by have:=(hrow.lt iN e.symm).2;omega)
 have HBN:Hid (B≤iN):=Lib.hid (by omega)
 have S0:=Lib.hid (S00.out.below B0.out)
 have K0:=Lib.hid (KX.of_below (b:=b) (tv:=tv) B0.out)
 have F0:=Lib.hid (Fr.refl tv w)
 have C0:=begin_is S0.out HN.out HL.out HSA.out HD.out.1 HD.out.2
 clear hni hbw hbB hrow S00
 go_upto_region 13 with (first | (go_at_call 146;(with_reducible refine (C0).mono ?_);rintro e1 w1 ⟨⟨u1,rfl⟩,tv1,s1,k1,fr1⟩;have K1:=Lib.hid (K0.out.trans k1 F0.out);have F1:=Lib.hid (F0.out.trans fr1 K0.out.size);have S1:=Lib.hid s1;have N1:=Lib.hid (k1.nine N0.out HNB.out T0.out);have T1:=Lib.hid (fr1.ne T0.out N0.out.lt);clear C0;clear s1 k1 fr1))
 have C1:=X1 w1 _ (MUX.out _ (Nat.le_refl _)) S1.out
 go_upto_region 14 with (first | (go_at_call 49;(with_reducible refine (C1).mono ?_);rintro e2 w2 ⟨rfl,tv2,s2,k2,fr2⟩;have K2:=Lib.hid (K1.out.trans k2 F1.out);have F2:=Lib.hid (F1.out.trans fr2 K1.out.size);have S2:=Lib.hid s2;have N2:=Lib.hid (k2.nine N1.out HNB.out T1.out);have T2:=Lib.hid (fr2.ne T1.out N1.out.lt);clear C1;have n5:=(k2.nine N1.out HNB.out T1.out).c5;have g5:=(k2.nine N1.out HNB.out T1.out).f 5;clear s2 k2 fr2))
 have S3:=Lib.hid (S2.out.setN HNB.out T2.out HBN.out 5 (.int .i64 x1))
 have K3:=Lib.hid (K2.out.setN LN.out 5 (.int .i64 x1))
 have F3:=F2;have T3:=T2
 have N3:Hid (Nine (w2.setCell ⟨iN,5,none⟩ (.int .i64 x1)) iN {n with x:=x1}):=Lib.hid (Nine.setC N2.out 5 _ rfl)
 obtain ⟨W3,hWn⟩:∃ W,Hid (w2.setCell ⟨iN,5,none⟩ (.int .i64 x1)=W):=⟨_,Lib.hid rfl⟩
 rw [hWn.out] at S3 K3 N3
 rw [hWn.out]
 clear hWn n5 g5 S2 K2 N2
 obtain ⟨n_3,hn_3⟩:∃ m,Hid ({n with x:=x1}=m):=⟨_,Lib.hid rfl⟩
 rw [hn_3.out] at N3
 have n0:=N3.out.c0;have g0:=N3.out.f 0
 go_upto_region 30 with fail
 have S4:=Lib.hid (S3.out.setN HNB.out T3.out HBN.out 0 (.int .u8 (22)))
 have K4:=Lib.hid (K3.out.setN LN.out 0 (.int .u8 (22)))
 have F4:=F3;have T4:=T3
 have N4:Hid (Nine (W3.setCell ⟨iN,0,none⟩ (.int .u8 (22))) iN {n_3 with op:=22}):=Lib.hid (Nine.setC N3.out 0 _ rfl)
 obtain ⟨W4,hWn⟩:∃ W,Hid (W3.setCell ⟨iN,0,none⟩ (.int .u8 (22))=W):=⟨_,Lib.hid rfl⟩
 rw [hWn.out] at S4 K4 N4
 rw [hWn.out]
 clear hWn n0 g0 S3 K3 N3
 obtain ⟨n_4,hn_4⟩:∃ m,Hid ({n_3 with op:=22}=m):=⟨_,Lib.hid rfl⟩
 rw [hn_4.out] at N4
 have C4:=end_is S4.out HN.out HL.out (inv_ok IVq1.out HL.out).1 (inv_ok IVq1.out HL.out).2.2.1 (inv_ok IVq1.out HL.out).2.2.2 (inv_ok IVq1.out HL.out).2.1 n_4
 have n0:=N4.out.c0;have n1:=N4.out.c1;have n2:=N4.out.c2;have n3:=N4.out.c3;have n4:=N4.out.c4;have n5:=N4.out.c5;have n6:=N4.out.c6;have n7:=N4.out.c7;have n8:=N4.out.c8
 go_wp2_with (go_at_call 149;(with_reducible refine (C4).mono ?_);rintro e5 w5 ⟨rfl,tv5,s5,k5,fr5⟩;have K5:=Lib.hid (K4.out.trans k5 F4.out);have F5:=Lib.hid (F4.out.trans fr5 K4.out.size);have S5:=Lib.hid s5;have N5:=Lib.hid (k5.nine N4.out HNB.out T4.out);have T5:=Lib.hid (fr5.ne T4.out N4.out.lt);clear C4;clear s5 k5 fr5)
 go_ret
 skip
 refine ⟨?_,_,?_,K5.out,F5.out⟩
 ·first | rfl | (simp only [endR,addR])
 ·have:=S5.out
  rw [←hn_4.out] at this
  rw [←hn_3.out] at this
  exact this
theorem ca_round (f:Nat) (hN:L.length=N) (hl:N≤1000) (hT:∀ x ∈ L,x.t.length≤1000) (HE:ExC L En B b N (.slice ao N lc) f) (n:Nd) (hi:Inv N s) (h0:s.e=0) (ha:s.a<N) (hm:muR N (.ca wRound n) s.a≤f+1) (h:St L En B b (.slice ao N lc) w tv s):Calls Tryz.prog 144 #[.pointer (some ⟨b,0,none⟩),.string (bs wRound),.agg #[.int .u8 n.op,.int .i64 n.c,.int .i64 n.s,.string (bs n.n),.int .i64 n.k,.int .i64 n.x,.int .i64 n.y,.int .i64 n.z,.int .i64 n.p]] w (RI L En B b (.slice ao N lc) (runR L En (f+1) (.ca wRound n) s) w tv):=by
 obtain ⟨S,hS⟩:∃ S,Hid (bs wRound=S):=⟨_,Lib.hid rfl⟩
 rw [hS.out]
 have s0:(S.toList==[104,97,115])=false:=by rw [←hS.out,bs_toList];decide
 have s1:(S.toList==[111,114,101,108,115,101])=false:=by rw [←hS.out,bs_toList];decide
 have s2:(S.toList==[97,98,115])=false:=by rw [←hS.out,bs_toList];decide
 have s3:(S.toList==[114,111,117,110,100])=true:=by rw [←hS.out,bs_toList];decide
 have s4:(S.toList==[109,97,120])=false:=by rw [←hS.out,bs_toList];decide
 have s5:(S.toList==[105,102])=false:=by rw [←hS.out,bs_toList];decide
 have IV1:=Lib.hid (inv_begin (En:=En) hN hi ha h0)
 have GB:Hid (s.a+1≤(beginR L En s).a):=Lib.hid (begin_a hN ha)
 simp only [muR] at hm
 have MUX:Hid (∀ q:Rd,(beginR L En s).a≤q.a→muR N (.ex 0) q.a≤f):=Lib.hid (fun q hq=>by have:=GB.out;simp only [muR];omega)
 have HN:=Lib.hid hN;have HL:=Lib.hid hl;have HTX:=Lib.hid hT;have HX:=Lib.hid HE
 have hdl:=hi.dl;have hdh:=hi.dh
 have IVx1:=Lib.hid (run_gt (L:=L) (En:=En) f (.ex 0) (beginR L En s) (by rw [hN];exact IV1.out.a) trivial)
 rw [hN] at IVx1
 have IVq1:=Lib.hid (IV1.out.of IVx1.out)
 have X1:=fun w tv=>HX.out 0 0 (beginR L En s) w tv (by decide) rfl IV1.out
 obtain ⟨⟨q1,x1⟩,hq1⟩:∃ r,Hid (runR L En f (.ex 0) (beginR L En s)=r):=⟨_,Lib.hid rfl⟩
 rw [hq1.out] at IVx1 IVq1
 simp only [hq1.out] at X1
 simp only at IVx1 IVq1
 have IM1:=Lib.hid (gt_must (L:=L) (En:=En) (s:=q1) (w:=wCm) (by decide) (by rw [hN];exact IVq1.out.a))
 rw [hN] at IM1
 have IVm1:=Lib.hid (IVq1.out.of IM1.out)
 have IW:=Lib.hid (gt_whole (L:=L) (En:=En) (s:=mustR L En wCm q1) 9 (by rw [hN];exact IVm1.out.a))
 rw [hN] at IW
 have IVw:=Lib.hid (IVm1.out.of IW.out)
 obtain ⟨⟨t2,k2⟩,hw2⟩:∃ r,Hid (wholeR L En 9 (mustR L En wCm q1)=r):=⟨_,Lib.hid rfl⟩
 rw [hw2.out] at IW IVw
 simp only at IW IVw
 have E:runR L En (f+1) (.ca wRound n) s=endR L En {n with op:=23,x:=x1,k:=k2} t2:=by
  simp only [runR,if_true];rw [if_neg (show ¬wRound=wHas by decide),if_neg (show ¬wRound=wOrelse by decide),if_neg (show ¬wRound=wAbs by decide),hq1.out];simp only;rw [hw2.out]
 rw [E]
 clear E
 have HSA:Hid (s.a<N):=Lib.hid ha;have HD:Hid (-1000≤s.d∧s.d≤1000):=Lib.hid ⟨by have:=hi.a;omega,by omega⟩
 have hbw:=h.lt;have hbB:=h.bB;have hrow:=h.row
 have S00:=Lib.hid h
 clear h hN hl hT HE hi h0 ha hm hS hdl hdh
 go_enter Tryz.func144,Tryz.ntmps144
 go_upto_region 1 with fail
 obtain ⟨W0,iN,hW,hX,N0,B0,LN,_,_⟩:=mk1 w (.cells #[.int .u8 n.op,.int .i64 n.c,.int .i64 n.s,.string (bs n.n),.int .i64 n.k,.int .i64 n.x,.int .i64 n.y,.int .i64 n.z,.int .i64 n.p] 39)
 rw [hW.out]
 try rw [hX.out]
 have hni:iN=w.heap.size:=hX.out.symm
 clear hW hX
 replace N0:Hid (Nine W0 iN n):=N0
 have HNB:Hid (iN ≠ b):=Lib.hid (by omega)
 have T0:Hid (some iN ≠ tv.ownBlock):=Lib.hid (fun e=>by have:=(hrow.lt iN e.symm).2;omega)
 have HBN:Hid (B≤iN):=Lib.hid (by omega)
 have S0:=Lib.hid (S00.out.below B0.out)
 have K0:=Lib.hid (KX.of_below (b:=b) (tv:=tv) B0.out)
 have F0:=Lib.hid (Fr.refl tv w)
 have C0:=begin_is S0.out HN.out HL.out HSA.out HD.out.1 HD.out.2
 clear hni hbw hbB hrow S00
 go_upto_region 13 with (first | (go_at_call 146;(with_reducible refine (C0).mono ?_);rintro e1 w1 ⟨⟨u1,rfl⟩,tv1,s1,k1,fr1⟩;have K1:=Lib.hid (K0.out.trans k1 F0.out);have F1:=Lib.hid (F0.out.trans fr1 K0.out.size);have S1:=Lib.hid s1;have N1:=Lib.hid (k1.nine N0.out HNB.out T0.out);have T1:=Lib.hid (fr1.ne T0.out N0.out.lt);clear C0;clear s1 k1 fr1))
 have C1:=X1 w1 _ (MUX.out _ (Nat.le_refl _)) S1.out
 go_upto_region 14 with (first | (go_at_call 49;(with_reducible refine (C1).mono ?_);rintro e2 w2 ⟨rfl,tv2,s2,k2,fr2⟩;have K2:=Lib.hid (K1.out.trans k2 F1.out);have F2:=Lib.hid (F1.out.trans fr2 K1.out.size);have S2:=Lib.hid s2;have N2:=Lib.hid (k2.nine N1.out HNB.out T1.out);have T2:=Lib.hid (fr2.ne T1.out N1.out.lt);clear C1;have n5:=(k2.nine N1.out HNB.out T1.out).c5;have g5:=(k2.nine N1.out HNB.out T1.out).f 5;clear s2 k2 fr2))
 have S3:=Lib.hid (S2.out.setN HNB.out T2.out HBN.out 5 (.int .i64 x1))
 have K3:=Lib.hid (K2.out.setN LN.out 5 (.int .i64 x1))
 have F3:=F2;have T3:=T2
 have N3:Hid (Nine (w2.setCell ⟨iN,5,none⟩ (.int .i64 x1)) iN {n with x:=x1}):=Lib.hid (Nine.setC N2.out 5 _ rfl)
 obtain ⟨W3,hWn⟩:∃ W,Hid (w2.setCell ⟨iN,5,none⟩ (.int .i64 x1)=W):=⟨_,Lib.hid rfl⟩
 rw [hWn.out] at S3 K3 N3
 rw [hWn.out]
 clear hWn n5 g5 S2 K2 N2
 obtain ⟨n_3,hn_3⟩:∃ m,Hid ({n with x:=x1}=m):=⟨_,Lib.hid rfl⟩
 rw [hn_3.out] at N3
 have n0:=N3.out.c0;have g0:=N3.out.f 0
 go_upto_region 28 with fail
 have S4:=Lib.hid (S3.out.setN HNB.out T3.out HBN.out 0 (.int .u8 (23)))
 have K4:=Lib.hid (K3.out.setN LN.out 0 (.int .u8 (23)))
 have F4:=F3;have T4:=T3
 have N4:Hid (Nine (W3.setCell ⟨iN,0,none⟩ (.int .u8 (23))) iN {n_3 with op:=23}):=Lib.hid (Nine.setC N3.out 0 _ rfl)
 obtain ⟨W4,hWn⟩:∃ W,Hid (W3.setCell ⟨iN,0,none⟩ (.int .u8 (23))=W):=⟨_,Lib.hid rfl⟩
 rw [hWn.out] at S4 K4 N4
 rw [hWn.out]
 clear hWn n0 g0 S3 K3 N3
 obtain ⟨n_4,hn_4⟩:∃ m,Hid ({n_3 with op:=23}=m):=⟨_,Lib.hid rfl⟩
 rw [hn_4.out] at N4
 have C4:=must_is S4.out HN.out HL.out IVq1.out.a wCm ⟨#[44]⟩ rfl
 go_upto_region 29 with (first | (go_at_call 143;(with_reducible refine (C4).mono ?_);rintro e5 w5 ⟨⟨u5,rfl⟩,tv5,s5,k5,fr5⟩;have K5:=Lib.hid (K4.out.trans k5 F4.out);have F5:=Lib.hid (F4.out.trans fr5 K4.out.size);have S5:=Lib.hid s5;have N5:=Lib.hid (k5.nine N4.out HNB.out T4.out);have T5:=Lib.hid (fr5.ne T4.out N4.out.lt);clear C4;clear s5 k5 fr5))
 have C5:=whole_is S5.out HN.out HL.out 9;rw [hw2.out] at C5
 go_upto_region 30 with (first | (go_at_call 148;(with_reducible refine (C5).mono ?_);rintro e6 w6 ⟨rfl,tv6,s6,k6,fr6⟩;have K6:=Lib.hid (K5.out.trans k6 F5.out);have F6:=Lib.hid (F5.out.trans fr6 K5.out.size);have S6:=Lib.hid s6;have N6:=Lib.hid (k6.nine N5.out HNB.out T5.out);have T6:=Lib.hid (fr6.ne T5.out N5.out.lt);clear C5;have n4:=(k6.nine N5.out HNB.out T5.out).c4;have g4:=(k6.nine N5.out HNB.out T5.out).f 4;clear s6 k6 fr6))
 have S7:=Lib.hid (S6.out.setN HNB.out T6.out HBN.out 4 (.int .i64 k2))
 have K7:=Lib.hid (K6.out.setN LN.out 4 (.int .i64 k2))
 have F7:=F6;have T7:=T6
 have N7:Hid (Nine (w6.setCell ⟨iN,4,none⟩ (.int .i64 k2)) iN {n_4 with k:=k2}):=Lib.hid (Nine.setC N6.out 4 _ rfl)
 obtain ⟨W7,hWn⟩:∃ W,Hid (w6.setCell ⟨iN,4,none⟩ (.int .i64 k2)=W):=⟨_,Lib.hid rfl⟩
 rw [hWn.out] at S7 K7 N7
 rw [hWn.out]
 clear hWn n4 g4 S6 K6 N6
 obtain ⟨n_7,hn_7⟩:∃ m,Hid ({n_4 with k:=k2}=m):=⟨_,Lib.hid rfl⟩
 rw [hn_7.out] at N7
 have C7:=end_is S7.out HN.out HL.out (inv_ok IVw.out HL.out).1 (inv_ok IVw.out HL.out).2.2.1 (inv_ok IVw.out HL.out).2.2.2 (inv_ok IVw.out HL.out).2.1 n_7
 have n0:=N7.out.c0;have n1:=N7.out.c1;have n2:=N7.out.c2;have n3:=N7.out.c3;have n4:=N7.out.c4;have n5:=N7.out.c5;have n6:=N7.out.c6;have n7:=N7.out.c7;have n8:=N7.out.c8
 go_wp2_with (go_at_call 149;(with_reducible refine (C7).mono ?_);rintro e8 w8 ⟨rfl,tv8,s8,k8,fr8⟩;have K8:=Lib.hid (K7.out.trans k8 F7.out);have F8:=Lib.hid (F7.out.trans fr8 K7.out.size);have S8:=Lib.hid s8;have N8:=Lib.hid (k8.nine N7.out HNB.out T7.out);have T8:=Lib.hid (fr8.ne T7.out N7.out.lt);clear C7;clear s8 k8 fr8)
 go_ret
 skip
 refine ⟨?_,_,?_,K8.out,F8.out⟩
 ·first | rfl | (simp only [endR,addR])
 ·have:=S8.out
  rw [←hn_7.out] at this
  rw [←hn_4.out] at this
  rw [←hn_3.out] at this
  exact this
theorem ca_min (f:Nat) (hN:L.length=N) (hl:N≤1000) (hT:∀ x ∈ L,x.t.length≤1000) (HE:ExC L En B b N (.slice ao N lc) f) (n:Nd) (hi:Inv N s) (h0:s.e=0) (ha:s.a<N) (hm:muR N (.ca wMin n) s.a≤f+1) (h:St L En B b (.slice ao N lc) w tv s):Calls Tryz.prog 144 #[.pointer (some ⟨b,0,none⟩),.string (bs wMin),.agg #[.int .u8 n.op,.int .i64 n.c,.int .i64 n.s,.string (bs n.n),.int .i64 n.k,.int .i64 n.x,.int .i64 n.y,.int .i64 n.z,.int .i64 n.p]] w (RI L En B b (.slice ao N lc) (runR L En (f+1) (.ca wMin n) s) w tv):=by
 obtain ⟨S,hS⟩:∃ S,Hid (bs wMin=S):=⟨_,Lib.hid rfl⟩
 rw [hS.out]
 have s0:(S.toList==[104,97,115])=false:=by rw [←hS.out,bs_toList];decide
 have s1:(S.toList==[111,114,101,108,115,101])=false:=by rw [←hS.out,bs_toList];decide
 have s2:(S.toList==[97,98,115])=false:=by rw [←hS.out,bs_toList];decide
 have s3:(S.toList==[114,111,117,110,100])=false:=by rw [←hS.out,bs_toList];decide
 have s4:(S.toList==[109,97,120])=false:=by rw [←hS.out,bs_toList];decide
 have s5:(S.toList==[105,102])=false:=by rw [←hS.out,bs_toList];decide
 have IV1:=Lib.hid (inv_begin (En:=En) hN hi ha h0)
 have GB:Hid (s.a+1≤(beginR L En s).a):=Lib.hid (begin_a hN ha)
 simp only [muR] at hm
 have MUX:Hid (∀ q:Rd,(beginR L En s).a≤q.a→muR N (.ex 0) q.a≤f):=Lib.hid (fun q hq=>by have:=GB.out;simp only [muR];omega)
 have HN:=Lib.hid hN;have HL:=Lib.hid hl;have HTX:=Lib.hid hT;have HX:=Lib.hid HE
 have hdl:=hi.dl;have hdh:=hi.dh
 have IVx1:=Lib.hid (run_gt (L:=L) (En:=En) f (.ex 0) (beginR L En s) (by rw [hN];exact IV1.out.a) trivial)
 rw [hN] at IVx1
 have IVq1:=Lib.hid (IV1.out.of IVx1.out)
 have X1:=fun w tv=>HX.out 0 0 (beginR L En s) w tv (by decide) rfl IV1.out
 obtain ⟨⟨q1,x1⟩,hq1⟩:∃ r,Hid (runR L En f (.ex 0) (beginR L En s)=r):=⟨_,Lib.hid rfl⟩
 rw [hq1.out] at IVx1 IVq1
 simp only [hq1.out] at X1
 simp only at IVx1 IVq1
 have IM1:=Lib.hid (gt_must (L:=L) (En:=En) (s:=q1) (w:=wCm) (by decide) (by rw [hN];exact IVq1.out.a))
 rw [hN] at IM1
 have IVm1:=Lib.hid (IVq1.out.of IM1.out)
 have IVx2:=Lib.hid (run_gt (L:=L) (En:=En) f (.ex 0) (mustR L En wCm q1) (by rw [hN];exact IVm1.out.a) trivial)
 rw [hN] at IVx2
 have IVq2:=Lib.hid (IVm1.out.of IVx2.out)
 have X2:=fun w tv=>HX.out 0 0 (mustR L En wCm q1) w tv (by decide) rfl IVm1.out
 obtain ⟨⟨q2,x2⟩,hq2⟩:∃ r,Hid (runR L En f (.ex 0) (mustR L En wCm q1)=r):=⟨_,Lib.hid rfl⟩
 rw [hq2.out] at IVx2 IVq2
 simp only [hq2.out] at X2
 simp only at IVx2 IVq2
 have E:runR L En (f+1) (.ca wMin n) s=endR L En {n with op:=20,x:=x1,y:=x2} q2:=by
  simp only [runR,if_true];rw [if_neg (show ¬wMin=wHas by decide),if_neg (show ¬wMin=wOrelse by decide),if_neg (show ¬wMin=wAbs by decide),if_neg (show ¬wMin=wRound by decide),if_neg (show ¬wMin=wIf by decide),hq1.out];simp only;rw [hq2.out];try rfl
 rw [E]
 clear E
 have HSA:Hid (s.a<N):=Lib.hid ha;have HD:Hid (-1000≤s.d∧s.d≤1000):=Lib.hid ⟨by have:=hi.a;omega,by omega⟩
 have hbw:=h.lt;have hbB:=h.bB;have hrow:=h.row
 have S00:=Lib.hid h
 clear h hN hl hT HE hi h0 ha hm hS hdl hdh
 go_enter Tryz.func144,Tryz.ntmps144
 go_upto_region 1 with fail
 obtain ⟨W0,iN,hW,hX,N0,B0,LN,_,_⟩:=mk1 w (.cells #[.int .u8 n.op,.int .i64 n.c,.int .i64 n.s,.string (bs n.n),.int .i64 n.k,.int .i64 n.x,.int .i64 n.y,.int .i64 n.z,.int .i64 n.p] 39)
 rw [hW.out]
 try rw [hX.out]
 have hni:iN=w.heap.size:=hX.out.symm
 clear hW hX
 replace N0:Hid (Nine W0 iN n):=N0
 have HNB:Hid (iN ≠ b):=Lib.hid (by omega)
 have T0:Hid (some iN ≠ tv.ownBlock):=Lib.hid (fun e=>by have:=(hrow.lt iN e.symm).2;omega)
 have HBN:Hid (B≤iN):=Lib.hid (by omega)
 have S0:=Lib.hid (S00.out.below B0.out)
 have K0:=Lib.hid (KX.of_below (b:=b) (tv:=tv) B0.out)
 have F0:=Lib.hid (Fr.refl tv w)
 have C0:=begin_is S0.out HN.out HL.out HSA.out HD.out.1 HD.out.2
 clear hni hbw hbB hrow S00
 go_upto_region 13 with (first | (go_at_call 146;(with_reducible refine (C0).mono ?_);rintro e1 w1 ⟨⟨u1,rfl⟩,tv1,s1,k1,fr1⟩;have K1:=Lib.hid (K0.out.trans k1 F0.out);have F1:=Lib.hid (F0.out.trans fr1 K0.out.size);have S1:=Lib.hid s1;have N1:=Lib.hid (k1.nine N0.out HNB.out T0.out);have T1:=Lib.hid (fr1.ne T0.out N0.out.lt);clear C0;clear s1 k1 fr1))
 have C1:=X1 w1 _ (MUX.out _ (Nat.le_refl _)) S1.out
 go_upto_region 14 with (first | (go_at_call 49;(with_reducible refine (C1).mono ?_);rintro e2 w2 ⟨rfl,tv2,s2,k2,fr2⟩;have K2:=Lib.hid (K1.out.trans k2 F1.out);have F2:=Lib.hid (F1.out.trans fr2 K1.out.size);have S2:=Lib.hid s2;have N2:=Lib.hid (k2.nine N1.out HNB.out T1.out);have T2:=Lib.hid (fr2.ne T1.out N1.out.lt);clear C1;have n5:=(k2.nine N1.out HNB.out T1.out).c5;have g5:=(k2.nine N1.out HNB.out T1.out).f 5;clear s2 k2 fr2))
 have S3:=Lib.hid (S2.out.setN HNB.out T2.out HBN.out 5 (.int .i64 x1))
 have K3:=Lib.hid (K2.out.setN LN.out 5 (.int .i64 x1))
 have F3:=F2;have T3:=T2
 have N3:Hid (Nine (w2.setCell ⟨iN,5,none⟩ (.int .i64 x1)) iN {n with x:=x1}):=Lib.hid (Nine.setC N2.out 5 _ rfl)
 obtain ⟨W3,hWn⟩:∃ W,Hid (w2.setCell ⟨iN,5,none⟩ (.int .i64 x1)=W):=⟨_,Lib.hid rfl⟩
 rw [hWn.out] at S3 K3 N3
 rw [hWn.out]
 clear hWn n5 g5 S2 K2 N2
 obtain ⟨n_3,hn_3⟩:∃ m,Hid ({n with x:=x1}=m):=⟨_,Lib.hid rfl⟩
 rw [hn_3.out] at N3
 have n0:=N3.out.c0;have g0:=N3.out.f 0
 go_upto_region 16 with fail
 have S4:=Lib.hid (S3.out.setN HNB.out T3.out HBN.out 0 (.int .u8 (20)))
 have K4:=Lib.hid (K3.out.setN LN.out 0 (.int .u8 (20)))
 have F4:=F3;have T4:=T3
 have N4:Hid (Nine (W3.setCell ⟨iN,0,none⟩ (.int .u8 (20))) iN {n_3 with op:=20}):=Lib.hid (Nine.setC N3.out 0 _ rfl)
 obtain ⟨W4,hWn⟩:∃ W,Hid (W3.setCell ⟨iN,0,none⟩ (.int .u8 (20))=W):=⟨_,Lib.hid rfl⟩
 rw [hWn.out] at S4 K4 N4
 rw [hWn.out]
 clear hWn n0 g0 S3 K3 N3
 obtain ⟨n_4,hn_4⟩:∃ m,Hid ({n_3 with op:=20}=m):=⟨_,Lib.hid rfl⟩
 rw [hn_4.out] at N4
 have C4:=must_is S4.out HN.out HL.out IVq1.out.a wCm ⟨#[44]⟩ rfl
 go_upto_region 19 with (first | (go_at_call 143;(with_reducible refine (C4).mono ?_);rintro e5 w5 ⟨⟨u5,rfl⟩,tv5,s5,k5,fr5⟩;have K5:=Lib.hid (K4.out.trans k5 F4.out);have F5:=Lib.hid (F4.out.trans fr5 K4.out.size);have S5:=Lib.hid s5;have N5:=Lib.hid (k5.nine N4.out HNB.out T4.out);have T5:=Lib.hid (fr5.ne T4.out N4.out.lt);clear C4;clear s5 k5 fr5))
 have C5:=X2 w5 _ (MUX.out _ (Nat.le_trans IVx1.out.a IM1.out.a)) S5.out
 go_upto_region 20 with (first | (go_at_call 49;(with_reducible refine (C5).mono ?_);rintro e6 w6 ⟨rfl,tv6,s6,k6,fr6⟩;have K6:=Lib.hid (K5.out.trans k6 F5.out);have F6:=Lib.hid (F5.out.trans fr6 K5.out.size);have S6:=Lib.hid s6;have N6:=Lib.hid (k6.nine N5.out HNB.out T5.out);have T6:=Lib.hid (fr6.ne T5.out N5.out.lt);clear C5;have n6:=(k6.nine N5.out HNB.out T5.out).c6;have g6:=(k6.nine N5.out HNB.out T5.out).f 6;clear s6 k6 fr6))
 have S7:=Lib.hid (S6.out.setN HNB.out T6.out HBN.out 6 (.int .i64 x2))
 have K7:=Lib.hid (K6.out.setN LN.out 6 (.int .i64 x2))
 have F7:=F6;have T7:=T6
 have N7:Hid (Nine (w6.setCell ⟨iN,6,none⟩ (.int .i64 x2)) iN {n_4 with y:=x2}):=Lib.hid (Nine.setC N6.out 6 _ rfl)
 obtain ⟨W7,hWn⟩:∃ W,Hid (w6.setCell ⟨iN,6,none⟩ (.int .i64 x2)=W):=⟨_,Lib.hid rfl⟩
 rw [hWn.out] at S7 K7 N7
 rw [hWn.out]
 clear hWn n6 g6 S6 K6 N6
 obtain ⟨n_7,hn_7⟩:∃ m,Hid ({n_4 with y:=x2}=m):=⟨_,Lib.hid rfl⟩
 rw [hn_7.out] at N7
 have C7:=end_is S7.out HN.out HL.out (inv_ok IVq2.out HL.out).1 (inv_ok IVq2.out HL.out).2.2.1 (inv_ok IVq2.out HL.out).2.2.2 (inv_ok IVq2.out HL.out).2.1 n_7
 have n0:=N7.out.c0;have n1:=N7.out.c1;have n2:=N7.out.c2;have n3:=N7.out.c3;have n4:=N7.out.c4;have n5:=N7.out.c5;have n6:=N7.out.c6;have n7:=N7.out.c7;have n8:=N7.out.c8
 go_wp2_with (go_at_call 149;(with_reducible refine (C7).mono ?_);rintro e8 w8 ⟨rfl,tv8,s8,k8,fr8⟩;have K8:=Lib.hid (K7.out.trans k8 F7.out);have F8:=Lib.hid (F7.out.trans fr8 K7.out.size);have S8:=Lib.hid s8;have N8:=Lib.hid (k8.nine N7.out HNB.out T7.out);have T8:=Lib.hid (fr8.ne T7.out N7.out.lt);clear C7;clear s8 k8 fr8)
 go_ret
 skip
 refine ⟨?_,_,?_,K8.out,F8.out⟩
 ·first | rfl | (simp only [endR,addR])
 ·have:=S8.out
  rw [←hn_7.out] at this
  rw [←hn_4.out] at this
  rw [←hn_3.out] at this
  exact this
theorem ca_max (f:Nat) (hN:L.length=N) (hl:N≤1000) (hT:∀ x ∈ L,x.t.length≤1000) (HE:ExC L En B b N (.slice ao N lc) f) (n:Nd) (hi:Inv N s) (h0:s.e=0) (ha:s.a<N) (hm:muR N (.ca wMax n) s.a≤f+1) (h:St L En B b (.slice ao N lc) w tv s):Calls Tryz.prog 144 #[.pointer (some ⟨b,0,none⟩),.string (bs wMax),.agg #[.int .u8 n.op,.int .i64 n.c,.int .i64 n.s,.string (bs n.n),.int .i64 n.k,.int .i64 n.x,.int .i64 n.y,.int .i64 n.z,.int .i64 n.p]] w (RI L En B b (.slice ao N lc) (runR L En (f+1) (.ca wMax n) s) w tv):=by
 obtain ⟨S,hS⟩:∃ S,Hid (bs wMax=S):=⟨_,Lib.hid rfl⟩
 rw [hS.out]
 have s0:(S.toList==[104,97,115])=false:=by rw [←hS.out,bs_toList];decide
 have s1:(S.toList==[111,114,101,108,115,101])=false:=by rw [←hS.out,bs_toList];decide
 have s2:(S.toList==[97,98,115])=false:=by rw [←hS.out,bs_toList];decide
 have s3:(S.toList==[114,111,117,110,100])=false:=by rw [←hS.out,bs_toList];decide
 have s4:(S.toList==[109,97,120])=true:=by rw [←hS.out,bs_toList];decide
 have s5:(S.toList==[105,102])=false:=by rw [←hS.out,bs_toList];decide
 have IV1:=Lib.hid (inv_begin (En:=En) hN hi ha h0)
 have GB:Hid (s.a+1≤(beginR L En s).a):=Lib.hid (begin_a hN ha)
 simp only [muR] at hm
 have MUX:Hid (∀ q:Rd,(beginR L En s).a≤q.a→muR N (.ex 0) q.a≤f):=Lib.hid (fun q hq=>by have:=GB.out;simp only [muR];omega)
 have HN:=Lib.hid hN;have HL:=Lib.hid hl;have HTX:=Lib.hid hT;have HX:=Lib.hid HE
 have hdl:=hi.dl;have hdh:=hi.dh
 have IVx1:=Lib.hid (run_gt (L:=L) (En:=En) f (.ex 0) (beginR L En s) (by rw [hN];exact IV1.out.a) trivial)
 rw [hN] at IVx1
 have IVq1:=Lib.hid (IV1.out.of IVx1.out)
 have X1:=fun w tv=>HX.out 0 0 (beginR L En s) w tv (by decide) rfl IV1.out
 obtain ⟨⟨q1,x1⟩,hq1⟩:∃ r,Hid (runR L En f (.ex 0) (beginR L En s)=r):=⟨_,Lib.hid rfl⟩
 rw [hq1.out] at IVx1 IVq1
 simp only [hq1.out] at X1
 simp only at IVx1 IVq1
 have IM1:=Lib.hid (gt_must (L:=L) (En:=En) (s:=q1) (w:=wCm) (by decide) (by rw [hN];exact IVq1.out.a))
 rw [hN] at IM1
 have IVm1:=Lib.hid (IVq1.out.of IM1.out)
 have IVx2:=Lib.hid (run_gt (L:=L) (En:=En) f (.ex 0) (mustR L En wCm q1) (by rw [hN];exact IVm1.out.a) trivial)
 rw [hN] at IVx2
 have IVq2:=Lib.hid (IVm1.out.of IVx2.out)
 have X2:=fun w tv=>HX.out 0 0 (mustR L En wCm q1) w tv (by decide) rfl IVm1.out
 obtain ⟨⟨q2,x2⟩,hq2⟩:∃ r,Hid (runR L En f (.ex 0) (mustR L En wCm q1)=r):=⟨_,Lib.hid rfl⟩
 rw [hq2.out] at IVx2 IVq2
 simp only [hq2.out] at X2
 simp only at IVx2 IVq2
 have E:runR L En (f+1) (.ca wMax n) s=endR L En {n with op:=21,x:=x1,y:=x2} q2:=by
  simp only [runR,if_true];rw [if_neg (show ¬wMax=wHas by decide),if_neg (show ¬wMax=wOrelse by decide),if_neg (show ¬wMax=wAbs by decide),if_neg (show ¬wMax=wRound by decide),if_neg (show ¬wMax=wIf by decide),hq1.out];simp only;rw [hq2.out];try rfl
 rw [E]
 clear E
 have HSA:Hid (s.a<N):=Lib.hid ha;have HD:Hid (-1000≤s.d∧s.d≤1000):=Lib.hid ⟨by have:=hi.a;omega,by omega⟩
 have hbw:=h.lt;have hbB:=h.bB;have hrow:=h.row
 have S00:=Lib.hid h
 clear h hN hl hT HE hi h0 ha hm hS hdl hdh
 go_enter Tryz.func144,Tryz.ntmps144
 go_upto_region 1 with fail
 obtain ⟨W0,iN,hW,hX,N0,B0,LN,_,_⟩:=mk1 w (.cells #[.int .u8 n.op,.int .i64 n.c,.int .i64 n.s,.string (bs n.n),.int .i64 n.k,.int .i64 n.x,.int .i64 n.y,.int .i64 n.z,.int .i64 n.p] 39)
 rw [hW.out]
 try rw [hX.out]
 have hni:iN=w.heap.size:=hX.out.symm
 clear hW hX
 replace N0:Hid (Nine W0 iN n):=N0
 have HNB:Hid (iN ≠ b):=Lib.hid (by omega)
 have T0:Hid (some iN ≠ tv.ownBlock):=Lib.hid (fun e=>by have:=(hrow.lt iN e.symm).2;omega)
 have HBN:Hid (B≤iN):=Lib.hid (by omega)
 have S0:=Lib.hid (S00.out.below B0.out)
 have K0:=Lib.hid (KX.of_below (b:=b) (tv:=tv) B0.out)
 have F0:=Lib.hid (Fr.refl tv w)
 have C0:=begin_is S0.out HN.out HL.out HSA.out HD.out.1 HD.out.2
 clear hni hbw hbB hrow S00
 go_upto_region 13 with (first | (go_at_call 146;(with_reducible refine (C0).mono ?_);rintro e1 w1 ⟨⟨u1,rfl⟩,tv1,s1,k1,fr1⟩;have K1:=Lib.hid (K0.out.trans k1 F0.out);have F1:=Lib.hid (F0.out.trans fr1 K0.out.size);have S1:=Lib.hid s1;have N1:=Lib.hid (k1.nine N0.out HNB.out T0.out);have T1:=Lib.hid (fr1.ne T0.out N0.out.lt);clear C0;clear s1 k1 fr1))
 have C1:=X1 w1 _ (MUX.out _ (Nat.le_refl _)) S1.out
 go_upto_region 14 with (first | (go_at_call 49;(with_reducible refine (C1).mono ?_);rintro e2 w2 ⟨rfl,tv2,s2,k2,fr2⟩;have K2:=Lib.hid (K1.out.trans k2 F1.out);have F2:=Lib.hid (F1.out.trans fr2 K1.out.size);have S2:=Lib.hid s2;have N2:=Lib.hid (k2.nine N1.out HNB.out T1.out);have T2:=Lib.hid (fr2.ne T1.out N1.out.lt);clear C1;have n5:=(k2.nine N1.out HNB.out T1.out).c5;have g5:=(k2.nine N1.out HNB.out T1.out).f 5;clear s2 k2 fr2))
 have S3:=Lib.hid (S2.out.setN HNB.out T2.out HBN.out 5 (.int .i64 x1))
 have K3:=Lib.hid (K2.out.setN LN.out 5 (.int .i64 x1))
 have F3:=F2;have T3:=T2
 have N3:Hid (Nine (w2.setCell ⟨iN,5,none⟩ (.int .i64 x1)) iN {n with x:=x1}):=Lib.hid (Nine.setC N2.out 5 _ rfl)
 obtain ⟨W3,hWn⟩:∃ W,Hid (w2.setCell ⟨iN,5,none⟩ (.int .i64 x1)=W):=⟨_,Lib.hid rfl⟩
 rw [hWn.out] at S3 K3 N3
 rw [hWn.out]
 clear hWn n5 g5 S2 K2 N2
 obtain ⟨n_3,hn_3⟩:∃ m,Hid ({n with x:=x1}=m):=⟨_,Lib.hid rfl⟩
 rw [hn_3.out] at N3
 have n0:=N3.out.c0;have g0:=N3.out.f 0
 go_upto_region 16 with fail
 have S4:=Lib.hid (S3.out.setN HNB.out T3.out HBN.out 0 (.int .u8 (20)))
 have K4:=Lib.hid (K3.out.setN LN.out 0 (.int .u8 (20)))
 have F4:=F3;have T4:=T3
 have N4:Hid (Nine (W3.setCell ⟨iN,0,none⟩ (.int .u8 (20))) iN {n_3 with op:=20}):=Lib.hid (Nine.setC N3.out 0 _ rfl)
 obtain ⟨W4,hWn⟩:∃ W,Hid (W3.setCell ⟨iN,0,none⟩ (.int .u8 (20))=W):=⟨_,Lib.hid rfl⟩
 rw [hWn.out] at S4 K4 N4
 rw [hWn.out]
 clear hWn n0 g0 S3 K3 N3
 obtain ⟨n_4,hn_4⟩:∃ m,Hid ({n_3 with op:=20}=m):=⟨_,Lib.hid rfl⟩
 rw [hn_4.out] at N4
 have n0:=N4.out.c0;have g0:=N4.out.f 0
 go_upto_region 18 with fail
 have S5:=Lib.hid (S4.out.setN HNB.out T4.out HBN.out 0 (.int .u8 (21)))
 have K5:=Lib.hid (K4.out.setN LN.out 0 (.int .u8 (21)))
 have F5:=F4;have T5:=T4
 have N5:Hid (Nine (W4.setCell ⟨iN,0,none⟩ (.int .u8 (21))) iN {n_4 with op:=21}):=Lib.hid (Nine.setC N4.out 0 _ rfl)
 obtain ⟨W5,hWn⟩:∃ W,Hid (W4.setCell ⟨iN,0,none⟩ (.int .u8 (21))=W):=⟨_,Lib.hid rfl⟩
 rw [hWn.out] at S5 K5 N5
 rw [hWn.out]
 clear hWn n0 g0 S4 K4 N4
 obtain ⟨n_5,hn_5⟩:∃ m,Hid ({n_4 with op:=21}=m):=⟨_,Lib.hid rfl⟩
 rw [hn_5.out] at N5
 have C5:=must_is S5.out HN.out HL.out IVq1.out.a wCm ⟨#[44]⟩ rfl
 go_upto_region 19 with (first | (go_at_call 143;(with_reducible refine (C5).mono ?_);rintro e6 w6 ⟨⟨u6,rfl⟩,tv6,s6,k6,fr6⟩;have K6:=Lib.hid (K5.out.trans k6 F5.out);have F6:=Lib.hid (F5.out.trans fr6 K5.out.size);have S6:=Lib.hid s6;have N6:=Lib.hid (k6.nine N5.out HNB.out T5.out);have T6:=Lib.hid (fr6.ne T5.out N5.out.lt);clear C5;clear s6 k6 fr6))
 have C6:=X2 w6 _ (MUX.out _ (Nat.le_trans IVx1.out.a IM1.out.a)) S6.out
 go_upto_region 20 with (first | (go_at_call 49;(with_reducible refine (C6).mono ?_);rintro e7 w7 ⟨rfl,tv7,s7,k7,fr7⟩;have K7:=Lib.hid (K6.out.trans k7 F6.out);have F7:=Lib.hid (F6.out.trans fr7 K6.out.size);have S7:=Lib.hid s7;have N7:=Lib.hid (k7.nine N6.out HNB.out T6.out);have T7:=Lib.hid (fr7.ne T6.out N6.out.lt);clear C6;have n6:=(k7.nine N6.out HNB.out T6.out).c6;have g6:=(k7.nine N6.out HNB.out T6.out).f 6;clear s7 k7 fr7))
 have S8:=Lib.hid (S7.out.setN HNB.out T7.out HBN.out 6 (.int .i64 x2))
 have K8:=Lib.hid (K7.out.setN LN.out 6 (.int .i64 x2))
 have F8:=F7;have T8:=T7
 have N8:Hid (Nine (w7.setCell ⟨iN,6,none⟩ (.int .i64 x2)) iN {n_5 with y:=x2}):=Lib.hid (Nine.setC N7.out 6 _ rfl)
 obtain ⟨W8,hWn⟩:∃ W,Hid (w7.setCell ⟨iN,6,none⟩ (.int .i64 x2)=W):=⟨_,Lib.hid rfl⟩
 rw [hWn.out] at S8 K8 N8
 rw [hWn.out]
 clear hWn n6 g6 S7 K7 N7
 obtain ⟨n_8,hn_8⟩:∃ m,Hid ({n_5 with y:=x2}=m):=⟨_,Lib.hid rfl⟩
 rw [hn_8.out] at N8
 have C8:=end_is S8.out HN.out HL.out (inv_ok IVq2.out HL.out).1 (inv_ok IVq2.out HL.out).2.2.1 (inv_ok IVq2.out HL.out).2.2.2 (inv_ok IVq2.out HL.out).2.1 n_8
 have n0:=N8.out.c0;have n1:=N8.out.c1;have n2:=N8.out.c2;have n3:=N8.out.c3;have n4:=N8.out.c4;have n5:=N8.out.c5;have n6:=N8.out.c6;have n7:=N8.out.c7;have n8:=N8.out.c8
 go_wp2_with (go_at_call 149;(with_reducible refine (C8).mono ?_);rintro e9 w9 ⟨rfl,tv9,s9,k9,fr9⟩;have K9:=Lib.hid (K8.out.trans k9 F8.out);have F9:=Lib.hid (F8.out.trans fr9 K8.out.size);have S9:=Lib.hid s9;have N9:=Lib.hid (k9.nine N8.out HNB.out T8.out);have T9:=Lib.hid (fr9.ne T8.out N8.out.lt);clear C8;clear s9 k9 fr9)
 go_ret
 skip
 refine ⟨?_,_,?_,K9.out,F9.out⟩
 ·first | rfl | (simp only [endR,addR])
 ·have:=S9.out
  rw [←hn_8.out] at this
  rw [←hn_5.out] at this
  rw [←hn_4.out] at this
  rw [←hn_3.out] at this
  exact this
theorem ca_if (f:Nat) (hN:L.length=N) (hl:N≤1000) (hT:∀ x ∈ L,x.t.length≤1000) (HE:ExC L En B b N (.slice ao N lc) f) (n:Nd) (hi:Inv N s) (h0:s.e=0) (ha:s.a<N) (hm:muR N (.ca wIf n) s.a≤f+1) (h:St L En B b (.slice ao N lc) w tv s):Calls Tryz.prog 144 #[.pointer (some ⟨b,0,none⟩),.string (bs wIf),.agg #[.int .u8 n.op,.int .i64 n.c,.int .i64 n.s,.string (bs n.n),.int .i64 n.k,.int .i64 n.x,.int .i64 n.y,.int .i64 n.z,.int .i64 n.p]] w (RI L En B b (.slice ao N lc) (runR L En (f+1) (.ca wIf n) s) w tv):=by
 obtain ⟨S,hS⟩:∃ S,Hid (bs wIf=S):=⟨_,Lib.hid rfl⟩
 rw [hS.out]
 have s0:(S.toList==[104,97,115])=false:=by rw [←hS.out,bs_toList];decide
 have s1:(S.toList==[111,114,101,108,115,101])=false:=by rw [←hS.out,bs_toList];decide
 have s2:(S.toList==[97,98,115])=false:=by rw [←hS.out,bs_toList];decide
 have s3:(S.toList==[114,111,117,110,100])=false:=by rw [←hS.out,bs_toList];decide
 have s4:(S.toList==[109,97,120])=false:=by rw [←hS.out,bs_toList];decide
 have s5:(S.toList==[105,102])=true:=by rw [←hS.out,bs_toList];decide
 have IV1:=Lib.hid (inv_begin (En:=En) hN hi ha h0)
 have GB:Hid (s.a+1≤(beginR L En s).a):=Lib.hid (begin_a hN ha)
 simp only [muR] at hm
 have MUX:Hid (∀ q:Rd,(beginR L En s).a≤q.a→muR N (.ex 0) q.a≤f):=Lib.hid (fun q hq=>by have:=GB.out;simp only [muR];omega)
 have HN:=Lib.hid hN;have HL:=Lib.hid hl;have HTX:=Lib.hid hT;have HX:=Lib.hid HE
 have hdl:=hi.dl;have hdh:=hi.dh
 have IVx1:=Lib.hid (run_gt (L:=L) (En:=En) f (.ex 0) (beginR L En s) (by rw [hN];exact IV1.out.a) trivial)
 rw [hN] at IVx1
 have IVq1:=Lib.hid (IV1.out.of IVx1.out)
 have X1:=fun w tv=>HX.out 0 0 (beginR L En s) w tv (by decide) rfl IV1.out
 obtain ⟨⟨q1,x1⟩,hq1⟩:∃ r,Hid (runR L En f (.ex 0) (beginR L En s)=r):=⟨_,Lib.hid rfl⟩
 rw [hq1.out] at IVx1 IVq1
 simp only [hq1.out] at X1
 simp only at IVx1 IVq1
 have IM1:=Lib.hid (gt_must (L:=L) (En:=En) (s:=q1) (w:=wCm) (by decide) (by rw [hN];exact IVq1.out.a))
 rw [hN] at IM1
 have IVm1:=Lib.hid (IVq1.out.of IM1.out)
 have IVx2:=Lib.hid (run_gt (L:=L) (En:=En) f (.ex 0) (mustR L En wCm q1) (by rw [hN];exact IVm1.out.a) trivial)
 rw [hN] at IVx2
 have IVq2:=Lib.hid (IVm1.out.of IVx2.out)
 have X2:=fun w tv=>HX.out 0 0 (mustR L En wCm q1) w tv (by decide) rfl IVm1.out
 obtain ⟨⟨q2,x2⟩,hq2⟩:∃ r,Hid (runR L En f (.ex 0) (mustR L En wCm q1)=r):=⟨_,Lib.hid rfl⟩
 rw [hq2.out] at IVx2 IVq2
 simp only [hq2.out] at X2
 simp only at IVx2 IVq2
 have IM2:=Lib.hid (gt_must (L:=L) (En:=En) (s:=q2) (w:=wCm) (by decide) (by rw [hN];exact IVq2.out.a))
 rw [hN] at IM2
 have IVm2:=Lib.hid (IVq2.out.of IM2.out)
 have IVx3:=Lib.hid (run_gt (L:=L) (En:=En) f (.ex 0) (mustR L En wCm q2) (by rw [hN];exact IVm2.out.a) trivial)
 rw [hN] at IVx3
 have IVq3:=Lib.hid (IVm2.out.of IVx3.out)
 have X3:=fun w tv=>HX.out 0 0 (mustR L En wCm q2) w tv (by decide) rfl IVm2.out
 obtain ⟨⟨q3,x3⟩,hq3⟩:∃ r,Hid (runR L En f (.ex 0) (mustR L En wCm q2)=r):=⟨_,Lib.hid rfl⟩
 rw [hq3.out] at IVx3 IVq3
 simp only [hq3.out] at X3
 simp only at IVx3 IVq3
 have E:runR L En (f+1) (.ca wIf n) s=endR L En {n with op:=19,x:=x1,y:=x2,z:=x3} q3:=by
  simp only [runR,if_true];rw [if_neg (show ¬wIf=wHas by decide),if_neg (show ¬wIf=wOrelse by decide),if_neg (show ¬wIf=wAbs by decide),if_neg (show ¬wIf=wRound by decide),hq1.out];simp only;rw [hq2.out];simp only;rw [hq3.out]
 rw [E]
 clear E
 have HSA:Hid (s.a<N):=Lib.hid ha;have HD:Hid (-1000≤s.d∧s.d≤1000):=Lib.hid ⟨by have:=hi.a;omega,by omega⟩
 have hbw:=h.lt;have hbB:=h.bB;have hrow:=h.row
 have S00:=Lib.hid h
 clear h hN hl hT HE hi h0 ha hm hS hdl hdh
 go_enter Tryz.func144,Tryz.ntmps144
 go_upto_region 1 with fail
 obtain ⟨W0,iN,hW,hX,N0,B0,LN,_,_⟩:=mk1 w (.cells #[.int .u8 n.op,.int .i64 n.c,.int .i64 n.s,.string (bs n.n),.int .i64 n.k,.int .i64 n.x,.int .i64 n.y,.int .i64 n.z,.int .i64 n.p] 39)
 rw [hW.out]
 try rw [hX.out]
 have hni:iN=w.heap.size:=hX.out.symm
 clear hW hX
 replace N0:Hid (Nine W0 iN n):=N0
 have HNB:Hid (iN ≠ b):=Lib.hid (by omega)
 have T0:Hid (some iN ≠ tv.ownBlock):=Lib.hid (fun e=>by have:=(hrow.lt iN e.symm).2;omega)
 have HBN:Hid (B≤iN):=Lib.hid (by omega)
 have S0:=Lib.hid (S00.out.below B0.out)
 have K0:=Lib.hid (KX.of_below (b:=b) (tv:=tv) B0.out)
 have F0:=Lib.hid (Fr.refl tv w)
 have C0:=begin_is S0.out HN.out HL.out HSA.out HD.out.1 HD.out.2
 clear hni hbw hbB hrow S00
 go_upto_region 13 with (first | (go_at_call 146;(with_reducible refine (C0).mono ?_);rintro e1 w1 ⟨⟨u1,rfl⟩,tv1,s1,k1,fr1⟩;have K1:=Lib.hid (K0.out.trans k1 F0.out);have F1:=Lib.hid (F0.out.trans fr1 K0.out.size);have S1:=Lib.hid s1;have N1:=Lib.hid (k1.nine N0.out HNB.out T0.out);have T1:=Lib.hid (fr1.ne T0.out N0.out.lt);clear C0;clear s1 k1 fr1))
 have C1:=X1 w1 _ (MUX.out _ (Nat.le_refl _)) S1.out
 go_upto_region 14 with (first | (go_at_call 49;(with_reducible refine (C1).mono ?_);rintro e2 w2 ⟨rfl,tv2,s2,k2,fr2⟩;have K2:=Lib.hid (K1.out.trans k2 F1.out);have F2:=Lib.hid (F1.out.trans fr2 K1.out.size);have S2:=Lib.hid s2;have N2:=Lib.hid (k2.nine N1.out HNB.out T1.out);have T2:=Lib.hid (fr2.ne T1.out N1.out.lt);clear C1;have n5:=(k2.nine N1.out HNB.out T1.out).c5;have g5:=(k2.nine N1.out HNB.out T1.out).f 5;clear s2 k2 fr2))
 have S3:=Lib.hid (S2.out.setN HNB.out T2.out HBN.out 5 (.int .i64 x1))
 have K3:=Lib.hid (K2.out.setN LN.out 5 (.int .i64 x1))
 have F3:=F2;have T3:=T2
 have N3:Hid (Nine (w2.setCell ⟨iN,5,none⟩ (.int .i64 x1)) iN {n with x:=x1}):=Lib.hid (Nine.setC N2.out 5 _ rfl)
 obtain ⟨W3,hWn⟩:∃ W,Hid (w2.setCell ⟨iN,5,none⟩ (.int .i64 x1)=W):=⟨_,Lib.hid rfl⟩
 rw [hWn.out] at S3 K3 N3
 rw [hWn.out]
 clear hWn n5 g5 S2 K2 N2
 obtain ⟨n_3,hn_3⟩:∃ m,Hid ({n with x:=x1}=m):=⟨_,Lib.hid rfl⟩
 rw [hn_3.out] at N3
 have n0:=N3.out.c0;have g0:=N3.out.f 0
 go_upto_region 16 with fail
 have S4:=Lib.hid (S3.out.setN HNB.out T3.out HBN.out 0 (.int .u8 (20)))
 have K4:=Lib.hid (K3.out.setN LN.out 0 (.int .u8 (20)))
 have F4:=F3;have T4:=T3
 have N4:Hid (Nine (W3.setCell ⟨iN,0,none⟩ (.int .u8 (20))) iN {n_3 with op:=20}):=Lib.hid (Nine.setC N3.out 0 _ rfl)
 obtain ⟨W4,hWn⟩:∃ W,Hid (W3.setCell ⟨iN,0,none⟩ (.int .u8 (20))=W):=⟨_,Lib.hid rfl⟩
 rw [hWn.out] at S4 K4 N4
 rw [hWn.out]
 clear hWn n0 g0 S3 K3 N3
 obtain ⟨n_4,hn_4⟩:∃ m,Hid ({n_3 with op:=20}=m):=⟨_,Lib.hid rfl⟩
 rw [hn_4.out] at N4
 have C4:=must_is S4.out HN.out HL.out IVq1.out.a wCm ⟨#[44]⟩ rfl
 go_upto_region 19 with (first | (go_at_call 143;(with_reducible refine (C4).mono ?_);rintro e5 w5 ⟨⟨u5,rfl⟩,tv5,s5,k5,fr5⟩;have K5:=Lib.hid (K4.out.trans k5 F4.out);have F5:=Lib.hid (F4.out.trans fr5 K4.out.size);have S5:=Lib.hid s5;have N5:=Lib.hid (k5.nine N4.out HNB.out T4.out);have T5:=Lib.hid (fr5.ne T4.out N4.out.lt);clear C4;clear s5 k5 fr5))
 have C5:=X2 w5 _ (MUX.out _ (Nat.le_trans IVx1.out.a IM1.out.a)) S5.out
 go_upto_region 20 with (first | (go_at_call 49;(with_reducible refine (C5).mono ?_);rintro e6 w6 ⟨rfl,tv6,s6,k6,fr6⟩;have K6:=Lib.hid (K5.out.trans k6 F5.out);have F6:=Lib.hid (F5.out.trans fr6 K5.out.size);have S6:=Lib.hid s6;have N6:=Lib.hid (k6.nine N5.out HNB.out T5.out);have T6:=Lib.hid (fr6.ne T5.out N5.out.lt);clear C5;have n6:=(k6.nine N5.out HNB.out T5.out).c6;have g6:=(k6.nine N5.out HNB.out T5.out).f 6;clear s6 k6 fr6))
 have S7:=Lib.hid (S6.out.setN HNB.out T6.out HBN.out 6 (.int .i64 x2))
 have K7:=Lib.hid (K6.out.setN LN.out 6 (.int .i64 x2))
 have F7:=F6;have T7:=T6
 have N7:Hid (Nine (w6.setCell ⟨iN,6,none⟩ (.int .i64 x2)) iN {n_4 with y:=x2}):=Lib.hid (Nine.setC N6.out 6 _ rfl)
 obtain ⟨W7,hWn⟩:∃ W,Hid (w6.setCell ⟨iN,6,none⟩ (.int .i64 x2)=W):=⟨_,Lib.hid rfl⟩
 rw [hWn.out] at S7 K7 N7
 rw [hWn.out]
 clear hWn n6 g6 S6 K6 N6
 obtain ⟨n_7,hn_7⟩:∃ m,Hid ({n_4 with y:=x2}=m):=⟨_,Lib.hid rfl⟩
 rw [hn_7.out] at N7
 have n0:=N7.out.c0;have g0:=N7.out.f 0
 go_upto_region 22 with fail
 have S8:=Lib.hid (S7.out.setN HNB.out T7.out HBN.out 0 (.int .u8 (19)))
 have K8:=Lib.hid (K7.out.setN LN.out 0 (.int .u8 (19)))
 have F8:=F7;have T8:=T7
 have N8:Hid (Nine (W7.setCell ⟨iN,0,none⟩ (.int .u8 (19))) iN {n_7 with op:=19}):=Lib.hid (Nine.setC N7.out 0 _ rfl)
 obtain ⟨W8,hWn⟩:∃ W,Hid (W7.setCell ⟨iN,0,none⟩ (.int .u8 (19))=W):=⟨_,Lib.hid rfl⟩
 rw [hWn.out] at S8 K8 N8
 rw [hWn.out]
 clear hWn n0 g0 S7 K7 N7
 obtain ⟨n_8,hn_8⟩:∃ m,Hid ({n_7 with op:=19}=m):=⟨_,Lib.hid rfl⟩
 rw [hn_8.out] at N8
 have C8:=must_is S8.out HN.out HL.out IVq2.out.a wCm ⟨#[44]⟩ rfl
 go_upto_region 23 with (first | (go_at_call 143;(with_reducible refine (C8).mono ?_);rintro e9 w9 ⟨⟨u9,rfl⟩,tv9,s9,k9,fr9⟩;have K9:=Lib.hid (K8.out.trans k9 F8.out);have F9:=Lib.hid (F8.out.trans fr9 K8.out.size);have S9:=Lib.hid s9;have N9:=Lib.hid (k9.nine N8.out HNB.out T8.out);have T9:=Lib.hid (fr9.ne T8.out N8.out.lt);clear C8;clear s9 k9 fr9))
 have C9:=X3 w9 _ (MUX.out _ (Nat.le_trans IVx1.out.a (Nat.le_trans IM1.out.a (Nat.le_trans IVx2.out.a IM2.out.a)))) S9.out
 go_upto_region 30 with (first | (go_at_call 49;(with_reducible refine (C9).mono ?_);rintro e10 w10 ⟨rfl,tv10,s10,k10,fr10⟩;have K10:=Lib.hid (K9.out.trans k10 F9.out);have F10:=Lib.hid (F9.out.trans fr10 K9.out.size);have S10:=Lib.hid s10;have N10:=Lib.hid (k10.nine N9.out HNB.out T9.out);have T10:=Lib.hid (fr10.ne T9.out N9.out.lt);clear C9;have n7:=(k10.nine N9.out HNB.out T9.out).c7;have g7:=(k10.nine N9.out HNB.out T9.out).f 7;clear s10 k10 fr10))
 have S11:=Lib.hid (S10.out.setN HNB.out T10.out HBN.out 7 (.int .i64 x3))
 have K11:=Lib.hid (K10.out.setN LN.out 7 (.int .i64 x3))
 have F11:=F10;have T11:=T10
 have N11:Hid (Nine (w10.setCell ⟨iN,7,none⟩ (.int .i64 x3)) iN {n_8 with z:=x3}):=Lib.hid (Nine.setC N10.out 7 _ rfl)
 obtain ⟨W11,hWn⟩:∃ W,Hid (w10.setCell ⟨iN,7,none⟩ (.int .i64 x3)=W):=⟨_,Lib.hid rfl⟩
 rw [hWn.out] at S11 K11 N11
 rw [hWn.out]
 clear hWn n7 g7 S10 K10 N10
 obtain ⟨n_11,hn_11⟩:∃ m,Hid ({n_8 with z:=x3}=m):=⟨_,Lib.hid rfl⟩
 rw [hn_11.out] at N11
 have C11:=end_is S11.out HN.out HL.out (inv_ok IVq3.out HL.out).1 (inv_ok IVq3.out HL.out).2.2.1 (inv_ok IVq3.out HL.out).2.2.2 (inv_ok IVq3.out HL.out).2.1 n_11
 have n0:=N11.out.c0;have n1:=N11.out.c1;have n2:=N11.out.c2;have n3:=N11.out.c3;have n4:=N11.out.c4;have n5:=N11.out.c5;have n6:=N11.out.c6;have n7:=N11.out.c7;have n8:=N11.out.c8
 go_wp2_with (go_at_call 149;(with_reducible refine (C11).mono ?_);rintro e12 w12 ⟨rfl,tv12,s12,k12,fr12⟩;have K12:=Lib.hid (K11.out.trans k12 F11.out);have F12:=Lib.hid (F11.out.trans fr12 K11.out.size);have S12:=Lib.hid s12;have N12:=Lib.hid (k12.nine N11.out HNB.out T11.out);have T12:=Lib.hid (fr12.ne T11.out N11.out.lt);clear C11;clear s12 k12 fr12)
 go_ret
 skip
 refine ⟨?_,_,?_,K12.out,F12.out⟩
 ·first | rfl | (simp only [endR,addR])
 ·have:=S12.out
  rw [←hn_11.out] at this
  rw [←hn_8.out] at this
  rw [←hn_7.out] at this
  rw [←hn_4.out] at this
  rw [←hn_3.out] at this
  exact this
theorem ca_step (f:Nat) (hN:L.length=N) (hl:N≤1000) (hT:∀ x ∈ L,x.t.length≤1000) (HE:ExC L En B b N (.slice ao N lc) f):CaC L En B b N (.slice ao N lc) (f+1):=by
 intro wd n s w tv hw hi h0 ha hm h
 unfold callW at hw
 rcases of_decide_eq_true hw with rfl | rfl | rfl | rfl | rfl | rfl | rfl
 ·exact ca_if f hN hl hT HE n hi h0 ha hm h
 ·exact ca_min f hN hl hT HE n hi h0 ha hm h
 ·exact ca_max f hN hl hT HE n hi h0 ha hm h
 ·exact ca_abs f hN hl hT HE n hi h0 ha hm h
 ·exact ca_round f hN hl hT HE n hi h0 ha hm h
 ·exact ca_has f hN hl hT HE n hi h0 ha hm h
 ·exact ca_orelse f hN hl hT HE n hi h0 ha hm h
end
end Go.Proofs.YteagpbkbdlmdiaaGreat.Ps
