/-
  corrodylaw18.EvalKinds, walked; OPENING AND SHUTTING an argument of type api.Dec; OPENING AND SHUTTING an argument of type api.Value; OPENING arguments of the types api.Tree, []api.Value; OPENING arguments of the types api.Tree (names' lengths too), []api.Field, []api.Value: rows whose strings weigh no more than the reach.
-/
import Derived.Test.YteagpbkbdlmdiaaGreatQ47
import Derived.Test.YteagpbkbdlmdiaaGreatQ18
import Derived.ProofKit
import Derived.OpenShut
import Derived.Lib.SmallJoins
import Derived.Test.YteagpbkbdlmdiaaGreatQ22
import Derived.Deep.Strs
import Derived.Test.YteagpbkbdlmdiaaGreatQ24
import Derived.Deep.Slices
import Derived.Laws.IdiomArrays
import Derived.Test.YteagpbkbdlmdiaaGreatQ28
import Derived.SizedLaws
set_option linter.unusedSimpArgs false
set_option linter.unusedVariables false
namespace Go.Proofs.YteagpbkbdlmdiaaGreat.Ek
open Go Go.RowKit Dt Tx Va Ev
attribute [local go_sem ↓] Go.wp_at_zero Go.wp_at_succ
def nmSum (t:List Nd):Nat:=(t.map (fun n=>n.n.length)).sum
theorem nmSum_step {t:List Nd} {k:Nat} {n:Nd} (h:t[k]?=some n):nmSum (t.take (k+1))=nmSum (t.take k)+n.n.length:=by
 unfold nmSum
 rw [List.take_add_one,h,List.map_append,List.sum_append];simp
theorem nmSum_le {t:List Nd} {n:Nd} (h:n ∈ t):n.n.length≤nmSum t:=by
 induction t with
 | nil=>cases h
 | cons a r ih=>
  have e:nmSum (a :: r)=a.n.length+nmSum r:=rfl
  rcases List.mem_cons.1 h with rfl | h
  ·omega
  ·have:=ih h;omega
theorem wrapB (m:Nat) (h:m≤4000000000000000000):IntKind.i64.wrap (m:Int)=(m:Int):=by rw [IntWalk.i64_left];exact IntWalk.wrap64_in _ (by omega)
set_option maxRecDepth 100000 in
set_option maxHeartbeats 8000000 in
theorem evalkinds_walk {w:World} {vt vf vv:Value} {t:List Nd} {fs:List Fd} {vals:List V} {more:V} (ht:ndE.Arg w vt t) (hno:∀ n ∈ t,n.ok) (hnm:∀ n ∈ t,n.n.length≤1000000000000000) (hf:fdE.Arg w vf fs) (hv:vaE.Arg w vv vals) (hok:∀ v ∈ vals,v.ok) (hmo:more.ok) :
  Calls Tryz.prog 4 #[vt,vf,vv,av more] w (BP true w):=by
 have HT:=Lib.hid ht;have HF:=Lib.hid hf;have HV:=Lib.hid hv;have HNO:=Lib.hid hno;have HNM:=Lib.hid hnm;have HOK:=Lib.hid hok;have HMO:=Lib.hid hmo
 obtain ⟨aa,ca,rfl,h1⟩:=argN ht
 obtain ⟨af,cf,rfl,_⟩:=argF hf
 obtain ⟨aw,cw,rfl,h2⟩:=argV hv
 have HA:=Lib.hid h1;have HW:=Lib.hid h2
 obtain ⟨N,hN⟩:∃ N,Hid (t.length=N):=⟨_,Lib.hid rfl⟩
 obtain ⟨M,hM⟩:∃ N,Hid (fs.length=N):=⟨_,Lib.hid rfl⟩
 obtain ⟨U,hU⟩:∃ N,Hid (vals.length=N):=⟨_,Lib.hid rfl⟩
 rw [hN.out,hM.out,hU.out]
 have HT2:Hid (ndE.Arg w (.slice aa N ca) t):=by rw [←hN.out];exact HT
 have HF2:Hid (fdE.Arg w (.slice af M cf) fs):=by rw [←hM.out];exact HF
 have HV2:Hid (vaE.Arg w (.slice aw U cw) vals):=by rw [←hU.out];exact HV
 have KN:=fun w=>Ps.evKnown_vp (w:=w)
 clear ht hf hv h1 h2 hno hnm hok hmo HT HF HV
 try dsimp only [av,an,ao]
 go_enter Tryz.func4,Tryz.ntmps4
 go_upto_region 1 with fail
 obtain ⟨W0,iM,hW,hX,X0,B0,LX,_,_⟩:=mkV w more
 rw [hW.out];try rw [hX.out]
 clear hW hX
 by_cases c1:120<N
 ·have d1:decide ((120:Int)<(N:Int))=true:=by simp;omega
  have d2:decide ((N:Int)>120)=true:=by simp;omega
  have d3:decide (120<N)=true:=decide_eq_true c1
  clear c1
  go_wp2_with (go_at_call 5;(with_reducible refine (KN _).mono ?_);rintro e1 w1 ⟨rfl,q1⟩)
  go_ret
  exact ⟨rfl,bt B0.out q1⟩
 have d1:decide ((120:Int)<(N:Int))=false:=by simp;omega
 have d2:decide ((N:Int)>120)=false:=by simp;omega
 have d3:decide (120<N)=false:=decide_eq_false c1
 by_cases c2:40<M
 ·have e1:decide ((40:Int)<(M:Int))=true:=by simp;omega
  have e2:decide ((M:Int)>40)=true:=by simp;omega
  have e3:decide (40<M)=true:=decide_eq_true c2
  clear c1 c2
  go_wp2_with (go_at_call 5;(with_reducible refine (KN _).mono ?_);rintro e1 w1 ⟨rfl,q1⟩)
  go_ret
  exact ⟨rfl,bt B0.out q1⟩
 have e1:decide ((40:Int)<(M:Int))=false:=by simp;omega
 have e2:decide ((M:Int)>40)=false:=by simp;omega
 have e3:decide (40<M)=false:=decide_eq_false c2
 by_cases c3:200<U
 ·have f1:decide ((200:Int)<(U:Int))=true:=by simp;omega
  have f2:decide ((U:Int)>200)=true:=by simp;omega
  have f3:decide (200<U)=true:=decide_eq_true c3
  clear c1 c2 c3
  go_wp2_with (go_at_call 5;(with_reducible refine (KN _).mono ?_);rintro e1 w1 ⟨rfl,q1⟩)
  go_ret
  exact ⟨rfl,bt B0.out q1⟩
 have f1:decide ((200:Int)<(U:Int))=false:=by simp;omega
 have f2:decide ((U:Int)>200)=false:=by simp;omega
 have f3:decide (200<U)=false:=decide_eq_false c3
 have HN1:Hid (N≤120):=Lib.hid (by omega);have HM1:Hid (M≤40):=Lib.hid (by omega);have HU1:Hid (U≤200):=Lib.hid (by omega)
 clear c1 c2 c3
 go_wp2_with fail
 go_loopw [9,39] (fun s i wr=>∃ (k q:Nat),i=.int .i64 (k:Int)∧s=.int .i64 (q:Int)∧k≤N∧Hid (q=nmSum (t.take k))∧Hid (q≤k*1000000000000000)∧W0=wr) (fun _ i _=>N - (intOf i).toNat)
 case atStart=>exact ⟨0,0,rfl,rfl,by omega,rfl,Nat.zero_le _,rfl⟩
 case round=>
  obtain ⟨k,q,rfl,rfl,hk,HQ,HB,rfl⟩:=hrel
  by_cases hkl:k<N
  ·obtain ⟨n,hn⟩:∃ n,t[k]?=some n:=⟨_,List.getElem?_eq_getElem (by rw [hN.out];exact hkl)⟩
   obtain ⟨ba,oa,rfl,l1,_,_,_,c3,_⟩:=HA.out k n hn
   have i0:(0:Int)≤(k:Int):=by omega
   have i1:(k:Int)<(N:Int):=by omega
   have i2:decide ((k:Int)<(N:Int))=true:=by simp;omega
   have i3:decide (k<N)=true:=by simpa using hkl
   have kw:IntKind.i64.wrap ((k:Int)+1)=(k:Int)+1:=wrap1 k (by have:=HN1.out;omega)
   have c3:=(B0.out.cell (p:=⟨ba,_,none⟩) l1).trans c3
   obtain ⟨S,hS⟩:∃ S,Hid (bs n.n=S):=⟨_,Lib.hid rfl⟩
   obtain ⟨L,hL⟩:∃ L,Hid (n.n.length=L):=⟨_,Lib.hid rfl⟩
   have hz:S.size=L:=by rw [←hS.out,bs_size,hL.out]
   have HL:Hid (L≤1000000000000000):=Lib.hid (by rw [←hL.out];exact HNM.out n (List.mem_of_getElem? hn))
   rw [hS.out] at c3
   have kq:IntKind.i64.wrap ((q:Int)+(L:Int))=((q+L:Nat):Int):=by
    rw [show (q:Int)+(L:Int)=((q+L:Nat):Int) by omega];exact wrapB _ (by have:=HB.out;have:=HL.out;have:=HN1.out;have:k*1000000000000000≤120*1000000000000000:=Nat.mul_le_mul_right _ (by omega);omega)
   have HQ2:Hid (q+L=nmSum (t.take (k+1))):=Lib.hid (by rw [nmSum_step hn,HQ.out,hL.out])
   have HB2:Hid (q+L≤(k+1)*1000000000000000):=Lib.hid (by have:=HB.out;have:=HL.out;rw [Nat.add_mul];omega)
   have HK:=Lib.hid hkl
   clear hk hkl hn l1 hS hL
   go_wp2_with fail
   refine ⟨⟨k+1,q+L,rfl,rfl,HK.out,HQ2,HB2,trivial⟩,?_⟩
   show N - ((k:Int)+1).toNat<N - (k:Int).toNat;have:=HK.out;omega
  ·have hke:k=N:=by omega
   subst hke
   have i2:decide ((k:Int)<(k:Int))=false:=by simp
   have HQ2:Hid (q=nmSum t):=Lib.hid (by rw [HQ.out,List.take_of_length_le (by rw [hN.out];exact Nat.le_refl _)])
   clear hk hkl HQ HB
   by_cases c4:2000<q
   ·have g1:decide ((2000:Int)<(q:Int))=true:=by simp;omega
    have g2:decide ((q:Int)>2000)=true:=by simp;omega
    have g3:decide (2000<q)=true:=decide_eq_true c4
    clear c4
    go_wp2_with (go_at_call 5;(with_reducible refine (KN _).mono ?_);rintro e1 w1 ⟨rfl,q1⟩)
    go_ret
    exact ⟨rfl,bt B0.out q1⟩
   have g1:decide ((2000:Int)<(q:Int))=false:=by simp;omega
   have g2:decide ((q:Int)>2000)=false:=by simp;omega
   have g3:decide (2000<q)=false:=decide_eq_false c4
   have HN2:Hid (∀ n ∈ t,n.n.length≤2000):=Lib.hid (fun n hn=>by have:=nmSum_le hn;have:=HQ2.out;omega)
   have OC:=of_any (HT2.out.below B0.out) (HF2.out.below B0.out) (by have:=hN.out;have:=HN1.out;omega) (by have:=hM.out;have:=HM1.out;omega) HNO.out HN2.out
   clear c4 HQ2 HNM
   go_upto_region 12 with (go_at_call 11;(with_reducible refine OC.mono ?_);rintro e1 w1 ⟨kd,kp,r,rfl,hr,q1⟩;clear OC)
   have X1:=hF X0 q1
   have B1:=hB B0 q1
   clear q1
   by_cases h0:r=0
   ·have HOF:=Lib.hid (hr h0)
    subst h0
    clear hr X0 B0
    have OSC:=operands_is (HT2.out.below B1.out) (by have:=hN.out;have:=HN1.out;omega)
    go_upto_region 15 with (go_at_call 7;(with_reducible refine OSC.mono ?_);rintro e2 w2 ⟨v5,rfl,a5,q2⟩;have O2:=Lib.hid a5;have B2:=hB B1 q2;have X2:=hF X1 q2;clear a5 q2 B1 X1 OSC)
    obtain ⟨l,hl⟩:∃ l,Hid (opds t=l):=⟨_,Lib.hid rfl⟩
    rw [hl.out] at O2
    have HLL:Hid (l.length≤120):=Lib.hid (by rw [←hl.out];have:=opdsF_len t [];have:=hN.out;have:=HN1.out;show (opdsF [] t).length≤120;simp at*;omega)
    obtain ⟨Q,hQ⟩:∃ Q,Hid (l.length=Q):=⟨_,Lib.hid rfl⟩
    obtain ⟨ol,oc,rfl,hO⟩:=argO O2.out
    have HO:=Lib.hid hO
    rw [hQ.out]
    have HQ1:Hid (Q≤120):=Lib.hid (by have:=hQ.out;have:=HLL.out;omega)
    have mk:=make_vals Q (by have:=HQ1.out;omega)
    clear hO
    go_upto_region 16 with fail
    have A2:=Lib.hid (madeV_at w2 Q)
    have M2:=Lib.hid (madeV_below w2 Q)
    obtain ⟨gA,hgA⟩:∃ g,Hid (w2.heap.size=g):=⟨_,Lib.hid rfl⟩
    obtain ⟨W3,hW3⟩:∃ W,Hid (madeV w2 Q=W):=⟨_,Lib.hid rfl⟩
    rw [hW3.out] at A2 M2
    rw [hW3.out]
    rw [hgA.out] at A2
    try rw [hgA.out]
    have LA:Hid (w2.heap.size≤gA):=Lib.hid (Nat.le_of_eq hgA.out)
    clear hW3 mk
    go_wp2_with fail
    go_loopw [71] (fun i wr=>∃ (k:Nat) (A:List V),i=.int .i64 (k:Int)∧k≤Q∧Hid (Fitl fs l A)∧Hid (AllR 33 wr gA Q (rowF A))∧Hid (Below w2.heap.size w2 wr)) (fun i _=>Q - (intOf i).toNat)
    case atStart=>exact ⟨0,List.replicate l.length noV,rfl,by omega,Fitl.start fs l,A2.out.congr (fun j hj=>by unfold rowF;rw [hQ.out,List.getElem?_replicate,if_pos hj];rfl),M2.out⟩
    case round=>
     clear A2 M2
     obtain ⟨wo,rfl⟩:∃ wo:World,wo=wr:=⟨_,rfl⟩
     obtain ⟨k,A,rfl,hk,FA,AR,B⟩:=hrel
     by_cases hkl:k<Q
     ·obtain ⟨o,ho⟩:∃ o,l[k]?=some o:=⟨_,List.getElem?_eq_getElem (by rw [hQ.out];exact hkl)⟩
      obtain ⟨bl,lo,rfl,ll,c0,c1,c2⟩:=HO.out k o ho
      have i0:(0:Int)≤(k:Int):=by omega
      have i1:(k:Int)<(Q:Int):=by omega
      have i2:decide ((k:Int)<(Q:Int))=true:=by simp;omega
      have i3:decide (k<Q)=true:=by simpa using hkl
      have kw:IntKind.i64.wrap ((k:Int)+1)=(k:Int)+1:=wrap1 k (by have:=HQ1.out;omega)
      have c0:=(B.out.cell (p:=⟨bl,_,none⟩) ll).trans c0;have c1:=(B.out.cell (p:=⟨bl,_,none⟩) ll).trans c1;have c2:=(B.out.cell (p:=⟨bl,_,none⟩) ll).trans c2
      have HK:=Lib.hid hkl;have HOO:=Lib.hid ho
      clear hk hkl ho ll
      go_upto_region 19 with fail
      obtain ⟨W4,iO,hW,hX,O4,BO,LO,_,_⟩:=mk1 wo (.cells #[.int .u8 o.op,.string (bs o.n),.int .i64 o.k] 43)
      rw [hW.out];try rw [hX.out]
      clear hW hX c0 c1 c2
      replace O4:Hid (OpdB W4 iO o):=O4
      have AR4:=Lib.hid (AR.out.below BO.out)
      have B4:=Lib.hid (bt B.out BO.out)
      clear AR B BO LO
      by_cases ck:U≤k
      ·have g4:decide ((U:Int)≤(k:Int))=true:=by simp;omega
       have g5:decide ((k:Int) ≥ (U:Int))=true:=by simp;omega
       have g6:decide (U≤k)=true:=decide_eq_true ck
       clear ck
       go_wp2_with fail
       refine ⟨⟨k+1,A,rfl,HK.out,FA,AR4,B4⟩,?_⟩
       show Q - ((k:Int)+1).toNat<Q - (k:Int).toNat;have:=HK.out;omega
      ·have g4:decide ((U:Int)≤(k:Int))=false:=by simp;omega
       have g5:decide ((k:Int) ≥ (U:Int))=false:=by simp;omega
       have g6:decide (U≤k)=false:=decide_eq_false ck
       have i4:(k:Int)<(U:Int):=by omega
       obtain ⟨x,hx⟩:∃ x,vals[k]?=some x:=⟨_,List.getElem?_eq_getElem (by rw [hU.out];omega)⟩
       obtain ⟨bw,ow,rfl,lw,v0,v1,v2,v3⟩:=HW.out k x hx
       have XOK:=Lib.hid (HOK.out x (List.mem_of_getElem? hx))
       have V0:Hid (∀ w',Below w.heap.size w w'→w'.cell? ⟨bw,ow+k*4,none⟩=some (.int .u8 x.k)∧w'.cell? ⟨bw,ow+k*4+1,none⟩=some (.int .i64 x.c)∧w'.cell? ⟨bw,ow+k*4+2,none⟩=some (.int .i64 x.s)∧w'.cell? ⟨bw,ow+k*4+3,none⟩=some (.int .i64 x.e)):=Lib.hid (fun w' h=>⟨(h.cell (p:=⟨bw,_,none⟩) lw).trans v0,(h.cell (p:=⟨bw,_,none⟩) lw).trans v1,(h.cell (p:=⟨bw,_,none⟩) lw).trans v2,(h.cell (p:=⟨bw,_,none⟩) lw).trans v3⟩)
       have o1:=O4.out.c1
       have W5B:=Lib.hid (bt B4.out (ba W4 (.cells #[.int .u8 4,.int .i64 0,.int .i64 0,.string (bs o.n),.int .i64 0,.int .i64 (-1),.int .i64 (-1),.int .i64 (-1),.int .i64 0] 39)))
       have W5W:=Lib.hid (bt B2.out W5B.out)
       have FT:Hid (ndE.Arg (W4.alloc (.cells #[.int .u8 4,.int .i64 0,.int .i64 0,.string (bs o.n),.int .i64 0,.int .i64 (-1),.int .i64 (-1),.int .i64 (-1),.int .i64 0] 39)) (.slice (some ⟨W4.heap.size,0,none⟩) 1 1) [fieldN o.n]):=Lib.hid (Elem.arg_one (E:=ndE) (w:=W4) (fieldN o.n) 39)
       have ONL:Hid (o.n.length≤2000):=Lib.hid (by
        have hm:o ∈ opds t:=by rw [hl.out];exact List.mem_of_getElem? HOO.out
        rcases (opdsF_mem t []).1 hm with h | ⟨n,hn,ho⟩
        ·cases h
        ·rw [opdOf_n ho];exact HN2.out n hn)
       have OC2:=of_any FT.out (HF2.out.below W5W.out) (by show 1≤300;decide) (by have:=hM.out;have:=HM1.out;omega) (fun n hn=>by rw [List.mem_singleton] at hn;subst hn;exact field_ok _) (fun n hn=>by rw [List.mem_singleton] at hn;subst hn;exact ONL.out)
       clear ck hx lw v0 v1 v2 v3
       go_upto_region 21 with (go_at_call 11;(with_reducible refine OC2.mono ?_);rintro e5 w5 ⟨k5,p5,r5,rfl,hr5,q5⟩;clear OC2)
       have AR5:=Lib.hid ((AR4.out.below (ba W4 (.cells #[.int .u8 4,.int .i64 0,.int .i64 0,.string (bs o.n),.int .i64 0,.int .i64 (-1),.int .i64 (-1),.int .i64 (-1),.int .i64 0] 39))).below q5)
       have B5:=Lib.hid (bt W5B.out q5)
       have HR5:Hid (r5=0→k5=(fieldK fs o.n).1):=Lib.hid (fun e=>one_field (hr5 e))
       obtain ⟨v0,v1,v2,v3⟩:=V0.out w5 (bt B2.out B5.out)
       clear hr5 q5 FT W5B W5W AR4 B4 O4 o1
       go_upto_region 22 with fail
       obtain ⟨W6,iV,hW,hX,V6,BV,LV,_,_⟩:=mkV w5 x
       rw [hW.out];try rw [hX.out]
       clear hW hX v0 v1 v2 v3 V0
       have AR6:=Lib.hid (AR5.out.below BV.out)
       have B6:=Lib.hid (bt B5.out BV.out)
       have HVA:Hid (¬gA=iV):=Lib.hid (by have:=AR5.out.lt;have:=LV.out;omega)
       clear AR5 B5 BV LV
       by_cases c5:r5=0
       ·have H5:=Lib.hid (HR5.out c5)
        subst c5
        have MC:=fun w=>rmay_is (w:=w) x XOK.out
        clear HR5
        cases hmx:mayV x
        ·rw [hmx] at MC
         clear hmx
         obtain ⟨x0,x1,x2,x3⟩:=V6.out.cs
         go_wp2_with (go_at_call 12;(with_reducible refine (MC _).mono ?_);rintro e7 w7 ⟨rfl,q7⟩;have AR7:=Lib.hid (AR6.out.below q7);have B7:=Lib.hid (bt B6.out q7);clear MC q7)
         refine ⟨⟨k+1,A,rfl,HK.out,FA,AR7,B7⟩,?_⟩
         show Q - ((k:Int)+1).toNat<Q - (k:Int).toNat;have:=HK.out;omega
        ·rw [hmx] at MC
         have kx:x.k=0∨x.k=1∨x.k=2∨x.k=3∨x.k=4:=by
          rcases may_kinds hmx with h | h | h | h | h | h | ⟨h,_⟩
          ·exact .inl (congrArg V.k h)
          ·exact .inr (.inr (.inl (congrArg V.k h)))
          ·exact .inr (.inr (.inr (.inl (congrArg V.k h))))
          ·exact .inr (.inr (.inr (.inr (congrArg V.k h))))
          ·exact .inr (.inr (.inr (.inr (congrArg V.k h))))
          ·exact .inr (.inr (.inr (.inr (congrArg V.k h))))
          ·exact .inr (.inl (congrArg V.k h))
         clear hmx
         have hk5:(k5=1)∨(k5=2)∨(¬k5=1∧¬k5=2):=by omega
         obtain ⟨x0,x1,x2,x3,y0,y1,y2,y3⟩:=V6.out.cf
         have hC:=fun {w'} (h:Below W6.heap.size W6 w')=>(hF V6 h)
         rcases kx with kx | kx | kx | kx | kx<;>rcases hk5 with h5 | h5 | ⟨h5,h6⟩
         all_goals
          rw [kx] at x0 MC
          first | (have b1:(k5==1)=true:=(by simpa using h5)) | (have b1:(k5==1)=false:=(by simp;omega))
          first | (have b2:(k5==2)=true:=(by simpa using h5)) | (have b2:(k5==2)=false:=(by simp;omega))
          first | (have b3:decide (k5=1)=true:=decide_eq_true h5) | (have b3:decide (k5=1)=false:=decide_eq_false (by omega))
          first | (have b4:decide (k5=2)=true:=decide_eq_true h5) | (have b4:decide (k5=2)=false:=decide_eq_false (by omega))
          clear hC
          go_wp2_with (go_at_call 12;(with_reducible refine (MC _).mono ?_);rintro e7 w7 ⟨rfl,q7⟩;have AR7:=Lib.hid (AR6.out.below q7);have B7:=Lib.hid (bt B6.out q7);have V7:=hF V6 q7;obtain ⟨u0,u1,u2,u3⟩:=V7.out.cs;rw [kx] at u0;obtain ⟨a0,a1,a2,a3⟩:=AR7.out.at HK.out rfl;have t0:=AR7.out.f (k*4);have t1:=AR7.out.f (k*4+1);have t2:=AR7.out.f (k*4+2);have t3:=AR7.out.f (k*4+3);clear MC q7)
          refine ⟨?_,by show Q - ((k:Int)+1).toNat<Q - (k:Int).toNat;have:=HK.out;omega⟩
          first
          | exact ⟨k+1,A,rfl,HK.out,FA,AR7,B7⟩
          | exact ⟨k+1,A.set k x,rfl,HK.out,Lib.hid (FA.out.put HOO.out (by
            unfold InOK;rw [←H5.out]
            first
            | exact .inr (.inl kx)
            | exact .inr (.inr (.inl ⟨h5,kx⟩))
            | exact .inr (.inr (.inr ⟨h5,.inl kx⟩))
            | exact .inr (.inr (.inr ⟨h5,.inr kx⟩))) XOK.out),Lib.hid (by
            have:=AR7.out.set HK.out x
            rw [kx] at this
            exact this.congr (fun j _=>rowF_set (by have:=FA.out.1;rw [hQ.out] at this;exact this) HK.out x j)),Lib.hid (below_set4o B7.out LA.out _ _ _ _ _ _ _ _)⟩
       ·have z1:decide (r5=0)=false:=decide_eq_false c5
        have z2:(r5 !=0)=true:=by simpa using c5
        have z3:(r5==0)=false:=by simpa using c5
        clear c5 HR5
        go_wp2_with fail
        refine ⟨⟨k+1,A,rfl,HK.out,FA,AR6,B6⟩,?_⟩
        show Q - ((k:Int)+1).toNat<Q - (k:Int).toNat;have:=HK.out;omega
     ·have hke:k=Q:=by omega
      subst hke
      have i2:decide ((k:Int)<(k:Int))=false:=by simp
      have HFA:Hid (Fitl fs (opds t) A):=Lib.hid (by rw [hl.out];exact FA.out)
      have HAL:Hid (A.length=k):=Lib.hid (by have:=FA.out.1;rw [hQ.out] at this;exact this)
      have HVI:=Lib.hid (vals_arg AR.out HAL.out)
      have HKD:=Lib.hid (kinds_end HOF.out HFA.out)
      have VC:=value_is (HT2.out.below (bt B2.out B.out)) HVI.out (by have:=hN.out;have:=HN1.out;omega) HFA.out.2.2 HNO.out
      obtain ⟨z,hz⟩:∃ z,Hid (valueV t A=z):=⟨_,Lib.hid rfl⟩
      rw [hz.out] at VC HKD
      have ZOK:Hid (V.fine z):=Lib.hid (by rw [←hz.out];exact val_fine HFA.out.2.2)
      have BW:=Lib.hid (bt B2.out B.out)
      have X3:=hF X2 B.out
      clear hkl hk FA AR B B2 X2 LA HLL
      go_upto_region 26 with (go_at_call 9;(with_reducible refine VC.mono ?_);rintro e4 w4 ⟨rfl,q4⟩;have HV4:=Lib.hid (HVI.out.below q4);have B4:=Lib.hid (bt BW.out q4);have X4:=hF X3 q4;clear VC q4 HVI BW X3)
      obtain ⟨W5,iZ,hW,hX,Z5,BZ,LZ,_,_⟩:=mkV w4 z
      rw [hW.out];try rw [hX.out]
      clear hW hX
      have HV5:=Lib.hid (HV4.out.below BZ.out)
      have B5:=Lib.hid (bt B4.out BZ.out)
      have X5:=hF X4 BZ.out
      clear HV4 B4 X4 BZ LZ
      go_cut [151] (fun p wx=>p=.bool false∧Hid (Below W5.heap.size W5 wx))
      case first=>
       have MC:=fun w=>rmay_is (w:=w) z ZOK.out.ok
       have HOKA:Hid (∀ v ∈ ([]++A)++[more],v.ok):=Lib.hid (fun v hv=>by
        rw [List.nil_append] at hv
        rcases List.mem_append.1 hv with h | h
        ·exact HFA.out.2.2 v h
        ·rw [List.mem_singleton] at h;subst h;exact HMO.out)
       have VEQ:Hid (valueV t (([]++A)++[more])=z):=Lib.hid (by rw [List.nil_append,value_more (by rw [HFA.out.1]) more,hz.out])
       rw [ZOK.out.may] at MC
       have mkS:∀ w',Below W5.heap.size W5 w'→(w'.cell? ⟨iZ,0,none⟩=some (.int .u8 z.k)∧w'.cell? ⟨iZ,1,none⟩=some (.int .i64 z.c)∧w'.cell? ⟨iZ,2,none⟩=some (.int .i64 z.s)∧w'.cell? ⟨iZ,3,none⟩=some (.int .i64 z.e)∧w'.cell? ⟨iM,0,none⟩=some (.int .u8 more.k)∧w'.cell? ⟨iM,1,none⟩=some (.int .i64 more.c)∧w'.cell? ⟨iM,2,none⟩=some (.int .i64 more.s)∧w'.cell? ⟨iM,3,none⟩=some (.int .i64 more.e)):=fun w' hb=>⟨(Z5.out.below hb).c0,(Z5.out.below hb).c1,(Z5.out.below hb).c2,(Z5.out.below hb).c3,(X5.out.below hb).c0,(X5.out.below hb).c1,(X5.out.below hb).c2,(X5.out.below hb).c3⟩
       have HL1:Hid (([]:List V).length+A.length≤1000001):=Lib.hid (by have:=HAL.out;have:=HQ1.out;show 0+_≤_;omega)
       have HL2:Hid (([]++A).length+[more].length≤1000001):=Lib.hid (by have:=HAL.out;have:=HQ1.out;rw [List.nil_append];show _+1≤_;omega)
       have HTL:Hid (t.length≤300):=Lib.hid (by have:=hN.out;have:=HN1.out;omega)
       have HS0:=mkS _ ((Below.refl W5.heap.size W5).drew)
       refine wp_region_held_drew (S:=fun w'=>w'.cell? ⟨iZ,0,none⟩=some (.int .u8 z.k)∧w'.cell? ⟨iZ,1,none⟩=some (.int .i64 z.c)∧w'.cell? ⟨iZ,2,none⟩=some (.int .i64 z.s)∧w'.cell? ⟨iZ,3,none⟩=some (.int .i64 z.e)∧w'.cell? ⟨iM,0,none⟩=some (.int .u8 more.k)∧w'.cell? ⟨iM,1,none⟩=some (.int .i64 more.c)∧w'.cell? ⟨iM,2,none⟩=some (.int .i64 more.s)∧w'.cell? ⟨iM,3,none⟩=some (.int .i64 more.e)) (by kernel_rfl) HS0 (fun HS0=>?_)
       (refine wpAnyH_take (i:=0) (v:=?_) rfl (by kernel_rfl) (by kernel_rfl) (by kernel_rfl) (fun _ _ _ h=>h) (Or.inl ⟨by rfl,?_⟩) HS0 ?_;case refine_2=>(intro w hSw;(try dsimp only at hSw);go_simp;try with_reducible rfl);try simp only [Act.put,List.setIfInBounds_toArray,List.set_cons_zero,List.set_cons_succ])
       refine wpAnyH_ready (rs:=[1]) (by kernel_rfl) (by simp) ?_
       refine (AllReadyH.cons (o:=_) rfl (fun K hK=>?_) AllReadyH.nil)
       go_simp
       go_at_call 12
       (with_reducible refine (MC _).mono ?_)
       rintro e20 w20 ⟨rfl,b20⟩
       have D20:=Lib.hid (bt ((Below.refl W5.heap.size W5).drew) b20)
       have SR20:=Lib.hid (HV5.out.below D20.out)
       refine hK.out _ _ (mkS _ D20.out) (fun HS1=>?_)
       clear hK HS0;have HS0:=HS1;clear HS1
       clear b20
       (refine wpAnyH_take (i:=2) (v:=?_) rfl (by kernel_rfl) (by kernel_rfl) (by kernel_rfl) (fun _ _ _ h=>h) (Or.inl ⟨by rfl,?_⟩) HS0 ?_;case refine_2=>(intro w hSw;(try dsimp only at hSw);go_simp;try with_reducible rfl);try simp only [Act.put,List.setIfInBounds_toArray,List.set_cons_zero,List.set_cons_succ])
       (refine wpAnyH_take (i:=3) (v:=?_) rfl (by kernel_rfl) (by kernel_rfl) (by kernel_rfl) (fun _ _ _ h=>h) (Or.inl ⟨by rfl,?_⟩) HS0 ?_;case refine_2=>(intro w hSw;(try dsimp only at hSw);go_simp;try with_reducible rfl);try simp only [Act.put,List.setIfInBounds_toArray,List.set_cons_zero,List.set_cons_succ])
       (refine wpAnyH_take (i:=4) (v:=?_) rfl (by kernel_rfl) (by kernel_rfl) (by kernel_rfl) (fun _ _ _ h=>h) (Or.inl ⟨by rfl,?_⟩) HS0 ?_;case refine_2=>(intro w hSw;(try dsimp only at hSw);go_simp;try with_reducible rfl);try simp only [Act.put,List.setIfInBounds_toArray,List.set_cons_zero,List.set_cons_succ])
       (refine wpAnyH_take (i:=5) (v:=?_) rfl (by kernel_rfl) (by kernel_rfl) (by kernel_rfl) (fun _ _ _ h=>h) (Or.inl ⟨by rfl,?_⟩) HS0 ?_;case refine_2=>(intro w hSw;(try dsimp only at hSw);go_simp;try with_reducible rfl);try simp only [Act.put,List.setIfInBounds_toArray,List.set_cons_zero,List.set_cons_succ])
       (refine wpAnyH_take (i:=7) (v:=?_) rfl (by kernel_rfl) (by kernel_rfl) (by kernel_rfl) (fun _ _ _ h=>h) (Or.inl ⟨by rfl,?_⟩) HS0 ?_;case refine_2=>(intro w hSw;(try dsimp only at hSw);go_simp;try with_reducible rfl);try simp only [Act.put,List.setIfInBounds_toArray,List.set_cons_zero,List.set_cons_succ])
       (refine wpAnyH_take (i:=9) (v:=?_) rfl (by kernel_rfl) (by kernel_rfl) (by kernel_rfl) (fun _ _ _ h=>h) (Or.inl ⟨by rfl,?_⟩) HS0 ?_;case refine_2=>(intro w hSw;(try dsimp only at hSw);go_simp;try with_reducible rfl);try simp only [Act.put,List.setIfInBounds_toArray,List.set_cons_zero,List.set_cons_succ])
       refine wpAnyH_ready (rs:=[6,10]) (by kernel_rfl) (by simp) ?_
       refine (AllReadyH.cons (o:=_) rfl (fun K hK=>?_) (AllReadyH.cons (o:=_) rfl (fun K hK=>?_) AllReadyH.nil))
       ·skip
        go_simp
        have zz21:=Below.size D20.out
        have D21:=Lib.hid (bt D20.out (ba w20 (.cells #[] 33)))
        have SR21:=Lib.hid (SR20.out.below (ba w20 (.cells #[] 33)))
        have RE21:=Lib.hid ((Elem.row_empty (E:=vaE) (w:=w20) 33 rfl).low zz21)
        obtain ⟨j21,hj21⟩:∃ m,Hid (w20.heap.size=m):=⟨_,rfl⟩
        obtain ⟨w21,hw21⟩:∃ v,Hid (v=w20.alloc (.cells #[] 33)):=⟨_,rfl⟩
        have lz21:Hid (w21.heap.size=j21+1):=Lib.hid (by rw [hw21.out,World.size_alloc,hj21.out])
        refine hK.out _ _ (mkS _ D21.out) (fun HS1=>?_)
        clear hK HS0;have HS0:=HS1;clear HS1
        rw [←hw21.out] at HS0 D21 SR21 RE21⊢
        rw [hj21.out] at RE21⊢
        clear hw21 zz21
        refine wpAnyH_ready (rs:=[8,10]) (by kernel_rfl) (by simp) ?_
        refine (AllReadyH.cons (o:=_) rfl (fun K hK=>?_) (AllReadyH.cons (o:=_) rfl (fun K hK=>?_) AllReadyH.nil))
        ·skip
         refine stepG vaE (by rfl) _ _ rfl W5.heap.size (.slice (some ⟨j21,0,none⟩) 0 0) [] (.slice (some ⟨gA,0,none⟩) k k) A rfl rfl RE21.out SR21.out HL1.out (by decide) D21.out.size ?_
         intro v22 w22 r22 q22 f22
         have D22:=Lib.hid (D21.out.grown q22 D21.out.size (fun z hz=>(RE21.out.lt z hz).1))
         have RA22:=Lib.hid r22
         refine hK.out _ _ (mkS _ D22.out) (fun HS1=>?_)
         clear hK HS0;have HS0:=HS1;clear HS1
         clear r22 q22 f22
         refine wpAnyH_ready (rs:=[10]) (by kernel_rfl) (by simp) ?_
         refine (AllReadyH.cons (o:=_) rfl (fun K hK=>?_) AllReadyH.nil)
         go_simp
         have D23:=Lib.hid (bt D22.out (ba w22 (.cells #[.int .u8 more.k,.int .i64 more.c,.int .i64 more.s,.int .i64 more.e] 33)))
         have RA23:=Lib.hid (Elem.Row.below RA22.out (ba w22 (.cells #[.int .u8 more.k,.int .i64 more.c,.int .i64 more.s,.int .i64 more.e] 33)))
         have MA23:Hid (vaE.Arg (w22.alloc (.cells #[.int .u8 more.k,.int .i64 more.c,.int .i64 more.s,.int .i64 more.e] 33)) (.slice (some ⟨w22.heap.size,0,none⟩) 1 1) [more]):=Lib.hid (Elem.arg_one (E:=vaE) (w:=w22) more 33)
         obtain ⟨j23,hj23⟩:∃ m,Hid (w22.heap.size=m):=⟨_,rfl⟩
         have lw23:Hid (w22.heap.size≤j23):=Lib.hid (Nat.le_of_eq hj23.out)
         obtain ⟨w23,hw23⟩:∃ v,Hid (v=w22.alloc (.cells #[.int .u8 more.k,.int .i64 more.c,.int .i64 more.s,.int .i64 more.e] 33)):=⟨_,rfl⟩
         have lz23:Hid (w23.heap.size=j23+1):=Lib.hid (by rw [hw23.out,World.size_alloc,hj23.out])
         refine hK.out _ _ (mkS _ D23.out) (fun HS1=>?_)
         clear hK HS0;have HS0:=HS1;clear HS1
         rw [←hw23.out] at HS0 MA23 D23 RA23⊢
         rw [hj23.out] at MA23⊢
         clear hw23
         refine wpAnyH_ready (rs:=[11]) (by kernel_rfl) (by simp) ?_
         refine (AllReadyH.cons (o:=_) rfl (fun K hK=>?_) AllReadyH.nil)
         refine stepG vaE (by rfl) _ _ rfl W5.heap.size v22 ([]++A) (.slice (some ⟨j23,0,none⟩) 1 1) [more] rfl rfl RA23.out MA23.out HL2.out (by decide) D23.out.size ?_
         intro v24 w24 r24 q24 f24
         have D24:=Lib.hid (D23.out.grown q24 D23.out.size (fun z hz=>(RA23.out.lt z hz).1))
         have VC:=value_is (HT2.out.below (bt B5.out D24.out)) (Elem.Row.arg r24) HTL.out HOKA.out HNO.out
         rw [VEQ.out] at VC
         refine hK.out _ _ (mkS _ D24.out) (fun HS1=>?_)
         clear hK HS0;have HS0:=HS1;clear HS1
         clear r24 q24 f24
         refine wpAnyH_ready (rs:=[12]) (by kernel_rfl) (by simp) ?_
         refine (AllReadyH.cons (o:=_) rfl (fun K hK=>?_) AllReadyH.nil)
         go_simp
         go_at_call 9
         (with_reducible refine VC.mono ?_)
         rintro e25 w25 ⟨rfl,b25⟩
         have D25:=Lib.hid (bt D24.out b25)
         refine hK.out _ _ (mkS _ D25.out) (fun HS1=>?_)
         clear hK HS0;have HS0:=HS1;clear HS1
         clear b25 VC
         (refine wpAnyH_take (i:=13) (v:=?_) rfl (by kernel_rfl) (by kernel_rfl) (by kernel_rfl) (fun _ _ _ h=>h) (Or.inl ⟨by rfl,?_⟩) HS0 ?_;case refine_2=>(intro w hSw;(try dsimp only at hSw);go_simp;try with_reducible rfl);try simp only [Act.put,List.setIfInBounds_toArray,List.set_cons_zero,List.set_cons_succ])
         (refine wpAnyH_take (i:=14) (v:=?_) rfl (by kernel_rfl) (by kernel_rfl) (by kernel_rfl) (fun _ _ _ h=>h) (Or.inl ⟨by rfl,?_⟩) HS0 ?_;case refine_2=>(intro w hSw;(try dsimp only at hSw);go_simp;try with_reducible rfl);try simp only [Act.put,List.setIfInBounds_toArray,List.set_cons_zero,List.set_cons_succ])
         refine wpAnyH_done (by kernel_rfl) ?_ _
         go_wp2_with fail
         go_meet
         case rel=>exact ⟨by simp,D25⟩
        ·skip
         go_simp
         have D26:=Lib.hid (bt D21.out (ba w21 (.cells #[.int .u8 more.k,.int .i64 more.c,.int .i64 more.s,.int .i64 more.e] 33)))
         have SR26:=Lib.hid (SR21.out.below (ba w21 (.cells #[.int .u8 more.k,.int .i64 more.c,.int .i64 more.s,.int .i64 more.e] 33)))
         have RE26:=Lib.hid (Elem.Row.below RE21.out (ba w21 (.cells #[.int .u8 more.k,.int .i64 more.c,.int .i64 more.s,.int .i64 more.e] 33)))
         have MA26:Hid (vaE.Arg (w21.alloc (.cells #[.int .u8 more.k,.int .i64 more.c,.int .i64 more.s,.int .i64 more.e] 33)) (.slice (some ⟨w21.heap.size,0,none⟩) 1 1) [more]):=Lib.hid (Elem.arg_one (E:=vaE) (w:=w21) more 33)
         obtain ⟨j26,hj26⟩:∃ m,Hid (w21.heap.size=m):=⟨_,rfl⟩
         have lw26:Hid (w21.heap.size≤j26):=Lib.hid (Nat.le_of_eq hj26.out)
         obtain ⟨w26,hw26⟩:∃ v,Hid (v=w21.alloc (.cells #[.int .u8 more.k,.int .i64 more.c,.int .i64 more.s,.int .i64 more.e] 33)):=⟨_,rfl⟩
         have lz26:Hid (w26.heap.size=j26+1):=Lib.hid (by rw [hw26.out,World.size_alloc,hj26.out])
         refine hK.out _ _ (mkS _ D26.out) (fun HS1=>?_)
         clear hK HS0;have HS0:=HS1;clear HS1
         rw [←hw26.out] at HS0 MA26 D26 SR26 RE26⊢
         rw [hj26.out] at MA26⊢
         clear hw26
         refine wpAnyH_ready (rs:=[8]) (by kernel_rfl) (by simp) ?_
         refine (AllReadyH.cons (o:=_) rfl (fun K hK=>?_) AllReadyH.nil)
         refine stepG vaE (by rfl) _ _ rfl W5.heap.size (.slice (some ⟨j21,0,none⟩) 0 0) [] (.slice (some ⟨gA,0,none⟩) k k) A rfl rfl RE26.out SR26.out HL1.out (by decide) D26.out.size ?_
         intro v27 w27 r27 q27 f27
         have D27:=Lib.hid (D26.out.grown q27 D26.out.size (fun z hz=>(RE26.out.lt z hz).1))
         have RA27:=Lib.hid r27
         have MA27:=Lib.hid (arg_grown MA26.out q27 (fun g hg e=>by obtain ⟨_,_,_,h⟩:=hg;have e9:g=j21:=Option.some.inj e;have e8:j26=g:=(by cases h;rfl);have h1:=lz21.out;have h2:=hj26.out;omega))
         refine hK.out _ _ (mkS _ D27.out) (fun HS1=>?_)
         clear hK HS0;have HS0:=HS1;clear HS1
         clear r27 q27 f27
         refine wpAnyH_ready (rs:=[11]) (by kernel_rfl) (by simp) ?_
         refine (AllReadyH.cons (o:=_) rfl (fun K hK=>?_) AllReadyH.nil)
         refine stepG vaE (by rfl) _ _ rfl W5.heap.size v27 ([]++A) (.slice (some ⟨j26,0,none⟩) 1 1) [more] rfl rfl RA27.out MA27.out HL2.out (by decide) D27.out.size ?_
         intro v28 w28 r28 q28 f28
         have D28:=Lib.hid (D27.out.grown q28 D27.out.size (fun z hz=>(RA27.out.lt z hz).1))
         have VC:=value_is (HT2.out.below (bt B5.out D28.out)) (Elem.Row.arg r28) HTL.out HOKA.out HNO.out
         rw [VEQ.out] at VC
         refine hK.out _ _ (mkS _ D28.out) (fun HS1=>?_)
         clear hK HS0;have HS0:=HS1;clear HS1
         clear r28 q28 f28
         refine wpAnyH_ready (rs:=[12]) (by kernel_rfl) (by simp) ?_
         refine (AllReadyH.cons (o:=_) rfl (fun K hK=>?_) AllReadyH.nil)
         go_simp
         go_at_call 9
         (with_reducible refine VC.mono ?_)
         rintro e29 w29 ⟨rfl,b29⟩
         have D29:=Lib.hid (bt D28.out b29)
         refine hK.out _ _ (mkS _ D29.out) (fun HS1=>?_)
         clear hK HS0;have HS0:=HS1;clear HS1
         clear b29 VC
         (refine wpAnyH_take (i:=13) (v:=?_) rfl (by kernel_rfl) (by kernel_rfl) (by kernel_rfl) (fun _ _ _ h=>h) (Or.inl ⟨by rfl,?_⟩) HS0 ?_;case refine_2=>(intro w hSw;(try dsimp only at hSw);go_simp;try with_reducible rfl);try simp only [Act.put,List.setIfInBounds_toArray,List.set_cons_zero,List.set_cons_succ])
         (refine wpAnyH_take (i:=14) (v:=?_) rfl (by kernel_rfl) (by kernel_rfl) (by kernel_rfl) (fun _ _ _ h=>h) (Or.inl ⟨by rfl,?_⟩) HS0 ?_;case refine_2=>(intro w hSw;(try dsimp only at hSw);go_simp;try with_reducible rfl);try simp only [Act.put,List.setIfInBounds_toArray,List.set_cons_zero,List.set_cons_succ])
         refine wpAnyH_done (by kernel_rfl) ?_ _
         go_wp2_with fail
         go_meet
         case rel=>exact ⟨by simp,D29⟩
       ·skip
        go_simp
        have D30:=Lib.hid (bt D20.out (ba w20 (.cells #[.int .u8 more.k,.int .i64 more.c,.int .i64 more.s,.int .i64 more.e] 33)))
        have SR30:=Lib.hid (SR20.out.below (ba w20 (.cells #[.int .u8 more.k,.int .i64 more.c,.int .i64 more.s,.int .i64 more.e] 33)))
        have MA30:Hid (vaE.Arg (w20.alloc (.cells #[.int .u8 more.k,.int .i64 more.c,.int .i64 more.s,.int .i64 more.e] 33)) (.slice (some ⟨w20.heap.size,0,none⟩) 1 1) [more]):=Lib.hid (Elem.arg_one (E:=vaE) (w:=w20) more 33)
        obtain ⟨j30,hj30⟩:∃ m,Hid (w20.heap.size=m):=⟨_,rfl⟩
        have lw30:Hid (w20.heap.size≤j30):=Lib.hid (Nat.le_of_eq hj30.out)
        obtain ⟨w30,hw30⟩:∃ v,Hid (v=w20.alloc (.cells #[.int .u8 more.k,.int .i64 more.c,.int .i64 more.s,.int .i64 more.e] 33)):=⟨_,rfl⟩
        have lz30:Hid (w30.heap.size=j30+1):=Lib.hid (by rw [hw30.out,World.size_alloc,hj30.out])
        refine hK.out _ _ (mkS _ D30.out) (fun HS1=>?_)
        clear hK HS0;have HS0:=HS1;clear HS1
        rw [←hw30.out] at HS0 MA30 D30 SR30⊢
        rw [hj30.out] at MA30⊢
        clear hw30
        refine wpAnyH_ready (rs:=[6]) (by kernel_rfl) (by simp) ?_
        refine (AllReadyH.cons (o:=_) rfl (fun K hK=>?_) AllReadyH.nil)
        go_simp
        have zz31:=Below.size D30.out
        have D31:=Lib.hid (bt D30.out (ba w30 (.cells #[] 33)))
        have SR31:=Lib.hid (SR30.out.below (ba w30 (.cells #[] 33)))
        have RE31:=Lib.hid ((Elem.row_empty (E:=vaE) (w:=w30) 33 rfl).low zz31)
        have MA31:=Lib.hid (MA30.out.below (ba w30 (.cells #[] 33)))
        obtain ⟨j31,hj31⟩:∃ m,Hid (w30.heap.size=m):=⟨_,rfl⟩
        obtain ⟨w31,hw31⟩:∃ v,Hid (v=w30.alloc (.cells #[] 33)):=⟨_,rfl⟩
        have lz31:Hid (w31.heap.size=j31+1):=Lib.hid (by rw [hw31.out,World.size_alloc,hj31.out])
        refine hK.out _ _ (mkS _ D31.out) (fun HS1=>?_)
        clear hK HS0;have HS0:=HS1;clear HS1
        rw [←hw31.out] at HS0 D31 SR31 RE31 MA31⊢
        rw [hj31.out] at RE31⊢
        clear hw31 zz31
        refine wpAnyH_ready (rs:=[8]) (by kernel_rfl) (by simp) ?_
        refine (AllReadyH.cons (o:=_) rfl (fun K hK=>?_) AllReadyH.nil)
        refine stepG vaE (by rfl) _ _ rfl W5.heap.size (.slice (some ⟨j31,0,none⟩) 0 0) [] (.slice (some ⟨gA,0,none⟩) k k) A rfl rfl RE31.out SR31.out HL1.out (by decide) D31.out.size ?_
        intro v32 w32 r32 q32 f32
        have D32:=Lib.hid (D31.out.grown q32 D31.out.size (fun z hz=>(RE31.out.lt z hz).1))
        have RA32:=Lib.hid r32
        have MA32:=Lib.hid (arg_grown MA31.out q32 (fun g hg e=>by obtain ⟨_,_,_,h⟩:=hg;have e9:g=j31:=Option.some.inj e;have e8:j30=g:=(by cases h;rfl);have h1:=lz30.out;have h2:=hj31.out;omega))
        refine hK.out _ _ (mkS _ D32.out) (fun HS1=>?_)
        clear hK HS0;have HS0:=HS1;clear HS1
        clear r32 q32 f32
        refine wpAnyH_ready (rs:=[11]) (by kernel_rfl) (by simp) ?_
        refine (AllReadyH.cons (o:=_) rfl (fun K hK=>?_) AllReadyH.nil)
        refine stepG vaE (by rfl) _ _ rfl W5.heap.size v32 ([]++A) (.slice (some ⟨j30,0,none⟩) 1 1) [more] rfl rfl RA32.out MA32.out HL2.out (by decide) D32.out.size ?_
        intro v33 w33 r33 q33 f33
        have D33:=Lib.hid (D32.out.grown q33 D32.out.size (fun z hz=>(RA32.out.lt z hz).1))
        have VC:=value_is (HT2.out.below (bt B5.out D33.out)) (Elem.Row.arg r33) HTL.out HOKA.out HNO.out
        rw [VEQ.out] at VC
        refine hK.out _ _ (mkS _ D33.out) (fun HS1=>?_)
        clear hK HS0;have HS0:=HS1;clear HS1
        clear r33 q33 f33
        refine wpAnyH_ready (rs:=[12]) (by kernel_rfl) (by simp) ?_
        refine (AllReadyH.cons (o:=_) rfl (fun K hK=>?_) AllReadyH.nil)
        go_simp
        go_at_call 9
        (with_reducible refine VC.mono ?_)
        rintro e34 w34 ⟨rfl,b34⟩
        have D34:=Lib.hid (bt D33.out b34)
        refine hK.out _ _ (mkS _ D34.out) (fun HS1=>?_)
        clear hK HS0;have HS0:=HS1;clear HS1
        clear b34 VC
        (refine wpAnyH_take (i:=13) (v:=?_) rfl (by kernel_rfl) (by kernel_rfl) (by kernel_rfl) (fun _ _ _ h=>h) (Or.inl ⟨by rfl,?_⟩) HS0 ?_;case refine_2=>(intro w hSw;(try dsimp only at hSw);go_simp;try with_reducible rfl);try simp only [Act.put,List.setIfInBounds_toArray,List.set_cons_zero,List.set_cons_succ])
        (refine wpAnyH_take (i:=14) (v:=?_) rfl (by kernel_rfl) (by kernel_rfl) (by kernel_rfl) (fun _ _ _ h=>h) (Or.inl ⟨by rfl,?_⟩) HS0 ?_;case refine_2=>(intro w hSw;(try dsimp only at hSw);go_simp;try with_reducible rfl);try simp only [Act.put,List.setIfInBounds_toArray,List.set_cons_zero,List.set_cons_succ])
        refine wpAnyH_done (by kernel_rfl) ?_ _
        go_wp2_with fail
        go_meet
        case rel=>exact ⟨by simp,D34⟩
      case rest=>
       obtain ⟨rfl,BC⟩:=hcut
       have Z6:=hF Z5 BC.out
       have B6:=Lib.hid (bt B5.out BC.out)
       obtain ⟨x0,x1,x2,x3⟩:=Z6.out.cs
       clear HV5 B5 X5 Z5 BC
       rcases HKD.out with kz | kz | ⟨rfl,kz⟩ | ⟨rfl,kz | kz⟩
       all_goals
        rw [kz] at x0
        go_wp2_with (go_at_call 5;(with_reducible refine (KN _).mono ?_);rintro e7 w7 ⟨rfl,q7⟩)
        go_ret
        exact ⟨rfl,bt B6.out q7⟩
   ·have z1:decide (r=0)=false:=decide_eq_false h0
    have z2:(r !=0)=true:=by simpa using h0
    have z3:(r==0)=false:=by simpa using h0
    clear h0 hr
    go_wp2_with (go_at_call 5;(with_reducible refine (KN _).mono ?_);rintro e2 w2 ⟨rfl,q2⟩)
    go_ret
    exact ⟨rfl,bt B1.out q2⟩
end Go.Proofs.YteagpbkbdlmdiaaGreat.Ek
namespace Go.Proofs.YteagpbkbdlmdiaaGreat
open Go.ChangeShapes Go.WideShapes Go.ChangeAt Go.RowKit Go.Joins
section
variable {H:Type} {enc:TypeId × Value→H} {w:World} {base:Nat} {spare:Nat→Bool} {held:Bool}
theorem wf_fits {c:Int} (h:fits c):(Lit.int .i64 c).wf=true:=by
 have h1:-9223372036854775808≤c∧c≤9223372036854775807:=h
 refine WalkArith.wf_i64 ?_<;>omega
end
end Go.Proofs.YteagpbkbdlmdiaaGreat
namespace Go.Proofs.YteagpbkbdlmdiaaGreat.Va
set_option maxRecDepth 100000
open Go.ChangeShapes Go.WideShapes Go.ChangeAt Go.RowKit Go.Joins Go.Deep
section
variable {H:Type} {enc:TypeId × Value→H} {w:World} {base:Nat} {spare:Nat→Bool} {held:Bool}
theorem open_val {r:Reach} {b0:Nat} {v:Value} {d:DataW H} {p:List MemPlace} (hv:Value.okWide Tryz.prog w r b0 33 v) (h:DataW.Trod enc Tryz.prog w base spare held 33 v d p) :
  ∃ x:V,v=.agg #[.int .u8 x.k,.int .i64 x.c,.int .i64 x.s,.int .i64 x.e]∧d=.agg [.lit (.int .u8 x.k),.agg [.lit (.int .i64 x.c),.lit (.int .i64 x.s)],.lit (.int .i64 x.e)]∧p=[]∧x.ok:=by
 obtain ⟨cs,rfl,hsz⟩:=okWide_struct Tryz.underlying33 hv
 have c1:Tryz.prog.cellsOf 33=4:=by kernel_rfl
 have c2:Tryz.prog.cellsOf 30=2:=by kernel_rfl
 have c3:Tryz.prog.cellsOf 5=1:=by kernel_rfl
 have c4:Tryz.prog.cellsOf 31=1:=by kernel_rfl
 have c5:Tryz.prog.cellsOf 3=1:=by kernel_rfl
 have c6:Tryz.prog.cellsOf 2=1:=by kernel_rfl
 obtain ⟨a0,a1,a2,a3,rfl⟩:=array4 (hsz.trans c1)
 obtain ⟨fuel,hf⟩:=h
 obtain ⟨y0,y1,y2,n,hx,_,h0,h1,h2⟩:=trod_struct3 Tryz.underlying33 hf
 simp [Value.cells,c2,c3,c4] at h0 h1 h2
 obtain ⟨z0,z1,m,hz,_,g0,g1⟩:=trod_struct2 Tryz.underlying30 h1
 simp [c5,c6] at g0 g1
 obtain ⟨k,e0,rfl,w0⟩:=DataW.trod_int Tryz.underlying5 h0
 obtain ⟨c,e1,rfl,w1⟩:=DataW.trod_int Tryz.underlying2 g0
 obtain ⟨s,e2,rfl,w2⟩:=DataW.trod_int Tryz.underlying3 g1
 obtain ⟨e,e3,rfl,w3⟩:=DataW.trod_int Tryz.underlying31 h2
 simp only [List.cons.injEq,and_true] at e0 e1 e2 e3
 subst e0 e1 e2 e3 hz
 have b1:=bounds_i64 w1
 have b2:=bounds_i64 w2
 have b3:=bounds_i64 w3
 simp only [Prod.mk.injEq] at hx
 refine ⟨⟨k,c,s,e⟩,rfl,hx.1,hx.2,?_,show fits c from ⟨by omega,by omega⟩,show fits s from ⟨by omega,by omega⟩,show fits e from ⟨by omega,by omega⟩⟩
 simp [Lit.wf,IntKind.has,IntKind.min,IntKind.max,IntKind.signed,IntKind.bits] at w0
 show 0≤k∧k≤255
 omega
theorem shut_val {x:V} (hx:x.ok) :
  DataW.Trod enc Tryz.prog w base spare held 33 (.agg #[.int .u8 x.k,.int .i64 x.c,.int .i64 x.s,.int .i64 x.e]) (.agg [.lit (.int .u8 x.k),.agg [.lit (.int .i64 x.c),.lit (.int .i64 x.s)],.lit (.int .i64 x.e)]) []:=by
 have c1:Tryz.prog.cellsOf 33=4:=by kernel_rfl
 have c2:Tryz.prog.cellsOf 30=2:=by kernel_rfl
 have c3:Tryz.prog.cellsOf 5=1:=by kernel_rfl
 have c4:Tryz.prog.cellsOf 31=1:=by kernel_rfl
 have c5:Tryz.prog.cellsOf 3=1:=by kernel_rfl
 have c6:Tryz.prog.cellsOf 2=1:=by kernel_rfl
 obtain ⟨h0,h1,h2,h3⟩:=hx
 have w0:(Lit.int .u8 x.k).wf=true:=by simp [Lit.wf,IntKind.has,IntKind.min,IntKind.max,IntKind.signed,IntKind.bits];omega
 have t0:∀ n,DataW.trod enc Tryz.prog w base spare held (n+1) 5 [.int .u8 x.k]=some (.lit (.int .u8 x.k),[]):=fun n=>by simp [DataW.trod,Tryz.underlying5,w0]
 have t1:∀ n,DataW.trod enc Tryz.prog w base spare held (n+1) 2 [.int .i64 x.c]=some (.lit (.int .i64 x.c),[]):=fun n=>by simp [DataW.trod,Tryz.underlying2,wf_fits h1]
 have t2:∀ n,DataW.trod enc Tryz.prog w base spare held (n+1) 3 [.int .i64 x.s]=some (.lit (.int .i64 x.s),[]):=fun n=>by simp [DataW.trod,Tryz.underlying3,wf_fits h2]
 have t3:∀ n,DataW.trod enc Tryz.prog w base spare held (n+1) 31 [.int .i64 x.e]=some (.lit (.int .i64 x.e),[]):=fun n=>by simp [DataW.trod,Tryz.underlying31,wf_fits h3]
 have tn:=trod_struct2_mk (enc:=enc) (w:=w) (base:=base) (spare:=spare) (held:=held) (n:=1) (cs:=[.int .i64 x.c,.int .i64 x.s]) Tryz.underlying30 (by simp [c2]) (by simpa [c6] using t1 0) (by simpa [c5] using t2 0)
 have ts:=trod_struct3_mk (enc:=enc) (w:=w) (base:=base) (spare:=spare) (held:=held) (n:=2) (cs:=[.int .u8 x.k,.int .i64 x.c,.int .i64 x.s,.int .i64 x.e]) Tryz.underlying33 (by simp [c1]) (by simpa [c3] using t0 1) (by simpa [c2] using tn) (by simpa [c4] using t3 1)
 exact ⟨_,by simpa [Value.cells] using ts⟩
end
end Go.Proofs.YteagpbkbdlmdiaaGreat.Va
namespace Go.Proofs.YteagpbkbdlmdiaaGreat.Ev
open Go Go.ChangeShapes Go.WideShapes Go.ChangeAt Go.RowKit Go.Joins Dt Tx Va
section
variable {H:Type} {enc:TypeId × Value→H} {w:World} {base:Nat} {spare:Nat→Bool} {held:Bool}
theorem listOf {α:Type} (n:Nat) (P:Nat→α→Prop) (h:∀ i,i<n→∃ x,P i x):∃ xs:List α,xs.length=n∧∀ i x,xs[i]?=some x→P i x:=by
 induction n with
 | zero=>exact ⟨[],rfl,fun i x hx=>by simp at hx⟩
 | succ n ih=>
  obtain ⟨xs,h1,h2⟩:=ih (fun i hi=>h i (by omega))
  obtain ⟨x,hx⟩:=h n (by omega)
  refine ⟨xs++[x],by simp [h1],fun i y hy=>?_⟩
  have il:=(List.getElem?_eq_some_iff.1 hy).1
  rw [List.length_append,List.length_singleton] at il
  by_cases e:i=n
  ·subst e
   rw [←h1] at hy
   simp only [List.getElem?_concat_length,Option.some.injEq] at hy
   subst hy;exact hx
  ·rw [List.getElem?_append_left (by omega)] at hy
   exact h2 i y hy
theorem bs_back (s:ByteArray):bs s.data.toList=s:=by cases s;simp [bs]
theorem wf_fit {a:Int} (h:(Lit.int .i64 a).wf=true):fits a:=by
 have:=bounds_i64 h
 exact ⟨by omega,by omega⟩
theorem wf_byte {k:Int} (w0:(Lit.int .u8 k).wf=true):0≤k∧k≤255:=by
 simp [Lit.wf,IntKind.has,IntKind.min,IntKind.max,IntKind.signed,IntKind.bits] at w0
 omega
set_option maxRecDepth 100000 in
theorem val_cells {n:Nat} {cs:List Value} {x:DataW H × List MemPlace} (hf:DataW.trod enc Tryz.prog w base spare held n 33 cs=some x) (hl:cs.length=4):∃ v:V,cs=[.int .u8 v.k,.int .i64 v.c,.int .i64 v.s,.int .i64 v.e]∧v.ok:=by
 have c2:Tryz.prog.cellsOf 30=2:=by kernel_rfl
 have c3:Tryz.prog.cellsOf 5=1:=by kernel_rfl
 have c4:Tryz.prog.cellsOf 31=1:=by kernel_rfl
 have c5:Tryz.prog.cellsOf 3=1:=by kernel_rfl
 have c6:Tryz.prog.cellsOf 2=1:=by kernel_rfl
 match cs,hl with
 | [a0,a1,a2,a3],_=>
  obtain ⟨y0,y1,y2,n,hx,_,h0,h1,h2⟩:=Deep.trod_struct3 Tryz.underlying33 hf
  simp [c2,c3,c4] at h0 h1 h2
  obtain ⟨z0,z1,m,hz,_,g0,g1⟩:=trod_struct2 Tryz.underlying30 h1
  simp [c5,c6] at g0 g1
  obtain ⟨k,e0,rfl,w0⟩:=DataW.trod_int Tryz.underlying5 h0
  obtain ⟨c,e1,rfl,w1⟩:=DataW.trod_int Tryz.underlying2 g0
  obtain ⟨s,e2,rfl,w2⟩:=DataW.trod_int Tryz.underlying3 g1
  obtain ⟨e,e3,rfl,w3⟩:=DataW.trod_int Tryz.underlying31 h2
  simp only [List.cons.injEq,and_true] at e0 e1 e2 e3
  subst e0 e1 e2 e3
  exact ⟨⟨k,c,s,e⟩,rfl,wf_byte w0,wf_fit w1,wf_fit w2,wf_fit w3⟩
end
end Go.Proofs.YteagpbkbdlmdiaaGreat.Ev
namespace Go.Proofs.YteagpbkbdlmdiaaGreat.Ek
set_option maxRecDepth 100000
open Go Go.ChangeShapes Go.WideShapes Go.ChangeAt Go.RowKit Go.Joins Dt Tx Va Ev
section
variable {H:Type} {enc:TypeId × Value→H} {w:World} {base:Nat} {spare:Nat→Bool} {held:Bool}
theorem weights_all {P:Program} {e:TypeId} {d:DataW H} {n:Nat} (hn:n ∈ d.weights P e):∀ {l:List (DataW H)},d ∈ l→n ∈ DataW.weightsAll P e l
 | a :: r,h=>by
  simp only [DataW.weightsAll,List.mem_append]
  rcases List.mem_cons.1 h with rfl | h
  ·exact .inl hn
  ·exact .inr (weights_all hn h)
theorem open_rowW {α:Type} (E:Elem Tryz.prog α) (G:α→Prop) {t:TypeId} (ht:Tryz.prog.underlying t=some (.slice E.e)) (hsz:Tryz.prog.cellsOf E.e=E.sz)
  (key:∀ {n:Nat} {cs:List Value} {x:DataW H × List MemPlace},DataW.trod enc Tryz.prog w base spare held n E.e cs=some x→cs.length=E.sz→(∀ n ∈ x.1.weights Tryz.prog E.e,n≤reachBytes)→∃ v,cs=E.enc v∧G v)
  {r:Reach} {b0:Nat} {v:Value} {d:DataW H} {p:List MemPlace} (hv:Value.okWide Tryz.prog w r b0 t v) (h:DataW.Trod enc Tryz.prog w base spare held t v d p) (hz:∀ n ∈ d.weights Tryz.prog t,n≤reachBytes) :
  ∃ xs:List α,E.Arg w v xs∧∀ x ∈ xs,G x:=by
 obtain ⟨ao,len,cap,rfl⟩:=okWide_slice ht hv
 obtain ⟨fuel,hf⟩:=h
 rcases Deep.open_slice ht hf with ⟨e,_⟩ | ⟨a,len',cap',m,n,D,Pl,e,hb,hl,hm,hmm,hd,hx⟩
 ·simp only [Value.cells,List.cons.injEq,Value.slice.injEq,and_true] at e
  obtain ⟨rfl,rfl,rfl⟩:=e
  exact ⟨[],Elem.Arg.nil w,fun x hx=>by cases hx⟩
 ·simp only [Value.cells,List.cons.injEq,Value.slice.injEq,and_true] at e
  obtain ⟨rfl,rfl,rfl⟩:=e
  obtain ⟨rfl,_⟩:=Prod.mk.inj hd
  rw [hsz] at hx
  have hlm:len≤m:=by rw [hmm];split<;>omega
  have key2:∀ i,i<len→∃ x:α,(∀ j u,(E.enc x)[j]?=some u→w.cell? ((a.add (i*E.sz)).add j)=some u)∧G x:=by
   intro i hi
   obtain ⟨cs',h1,h2⟩:=hx i (by omega)
   obtain ⟨_,hlen,hc⟩:=World.cells?_some h1
   obtain ⟨x,rfl,gx⟩:=key h2 hlen (fun n hn=>hz n (by
    simp only [DataW.weights,ht,List.mem_cons,List.mem_append]
    exact .inr (.inl (weights_all hn (List.mem_map.2 ⟨i,List.mem_range.2 hi,rfl⟩)))))
   refine ⟨x,fun j u hu=>?_,gx⟩
   have jl:=(List.getElem?_eq_some_iff.1 hu).1
   rw [←hu]
   exact (hc j (by rw [←hlen];exact jl)).trans (by simp [jl])
  obtain ⟨xs,hxl,hxs⟩:=listOf len (fun i (x:α)=>(∀ j u,(E.enc x)[j]?=some u→w.cell? ((a.add (i*E.sz)).add j)=some u)∧G x) key2
  subst hxl
  refine ⟨xs,⟨some a,cap,rfl,⟨hl,fun e=>by cases e⟩,fun i x hi=>?_⟩,fun x hx=>?_⟩
  ·have il:=(List.getElem?_eq_some_iff.1 hi).1
   obtain ⟨z,hz,_⟩:=key2 0 (by omega)
   have hz0:=hz 0 _ (List.getElem?_eq_getElem (by rw [E.len];exact E.pos))
   obtain ⟨b,o,spot⟩:=a
   have hspot:spot=none:=by simpa [Addr.add] using World.cell?_spot hz0
   subst hspot
   have e3:((⟨b,o,none⟩:Addr).add (i*E.sz))=⟨b,o+i*E.sz,none⟩:=by unfold Addr.add;split<;>simp_all
   have k:=(hxs i x hi).1
   rw [e3] at k
   have kk:∀ j u,(E.enc x)[j]?=some u→w.cell? ⟨b,o+i*E.sz+j,none⟩=some u:=fun j u hu=>by
    have:=k j u hu
    have e4:((⟨b,o+i*E.sz,none⟩:Addr).add j)=⟨b,o+i*E.sz+j,none⟩:=by unfold Addr.add;split<;>simp_all
    rwa [e4] at this
   exact ⟨b,o,rfl,World.block_lt_of_cell? w _ (kk 0 _ (List.getElem?_eq_getElem (by rw [E.len];exact E.pos))),kk⟩
  ·obtain ⟨i,hi⟩:=List.getElem?_of_mem hx
   exact (hxs i x hi).2
theorem node_cellsW {n:Nat} {cs:List Value} {x:DataW H × List MemPlace} (hf:DataW.trod enc Tryz.prog w base spare held n 39 cs=some x) (hl:cs.length=9) (hz:∀ n ∈ x.1.weights Tryz.prog 39,n≤reachBytes):∃ v:Nd,cs=ndE.enc v∧v.ok∧v.n.length≤1000000000000000:=by
 have c1:Tryz.prog.cellsOf 9=1:=by kernel_rfl
 have c2:Tryz.prog.cellsOf 30=2:=by kernel_rfl
 have c3:Tryz.prog.cellsOf 5=1:=by kernel_rfl
 have c4:Tryz.prog.cellsOf 37=3:=by kernel_rfl
 have c5:Tryz.prog.cellsOf 3=1:=by kernel_rfl
 have c6:Tryz.prog.cellsOf 2=1:=by kernel_rfl
 match cs,hl with
 | [a0,a1,a2,a3,a4,a5,a6,a7,a8],_=>
  obtain ⟨xs,n',_,hx,_,hlen,hh⟩:=DataW.trod_struct Tryz.underlying39 hf
  match xs,hlen with
  | [y0,y1,y2,y3,y4,y5],_=>
   have h0:=hh 0 _ rfl
   have h1:=hh 1 _ rfl
   have h2:=hh 2 _ rfl
   have h3:=hh 3 _ rfl
   have h4:=hh 4 _ rfl
   have h5:=hh 5 _ rfl
   simp [c1,c2,c3,c4,c5] at h0 h1 h2 h3 h4 h5
   obtain ⟨z0,z1,m,hz2,_,g0,g1⟩:=trod_struct2 Tryz.underlying30 h1
   simp [c5,c6] at g0 g1
   obtain ⟨q0,q1,q2,m2,_,k0,k1,k2⟩:=trod_array3 Tryz.underlying37 c5 h4
   obtain ⟨o,e0,_,w0⟩:=DataW.trod_int Tryz.underlying5 h0
   obtain ⟨c,e1,_,w1⟩:=DataW.trod_int Tryz.underlying2 g0
   obtain ⟨s,e2,_,w2⟩:=DataW.trod_int Tryz.underlying3 g1
   obtain ⟨t,e3,ey,w3⟩:=DataW.trod_string Tryz.underlying9 h2
   obtain ⟨k,e4,_,w4⟩:=DataW.trod_int Tryz.underlying3 h3
   obtain ⟨x,e5,_,w5⟩:=DataW.trod_int Tryz.underlying3 k0
   obtain ⟨y,e6,_,w6⟩:=DataW.trod_int Tryz.underlying3 k1
   obtain ⟨z,e7,_,w7⟩:=DataW.trod_int Tryz.underlying3 k2
   obtain ⟨p,e8,_,w8⟩:=DataW.trod_int Tryz.underlying3 h5
   simp only [List.cons.injEq,and_true] at e0 e1 e2 e3 e4 e5 e6 e7 e8
   subst e0 e1 e2 e3 e4 e5 e6 e7 e8 hx
   refine ⟨⟨o,c,s,t.data.toList,k,x,y,z,p⟩,?_,⟨wf_byte w0,wf_fit w1,wf_fit w2,wf_fit w4,wf_fit w5,wf_fit w6,wf_fit w7,wf_fit w8⟩,?_⟩
   ·show _=[_,_,_,Value.string (bs t.data.toList),_,_,_,_,_]
    rw [bs_back]
   ·have:=hz t.data.toList.length (by
     simp only [DataW.weights,Tryz.underlying39]
     exact DataW.weights_mem_each (j:=2) (t:=9) (d:=.lit (.string t.data.toList)) rfl (by rw [ey];rfl) _ (by simp [DataW.weights]))
    exact Nat.le_trans this (by decide)
theorem field_cells {n:Nat} {cs:List Value} {x:DataW H × List MemPlace} (hf:DataW.trod enc Tryz.prog w base spare held n 116 cs=some x) (hl:cs.length=2):∃ v:Fd,cs=fdE.enc v∧True:=by
 have c1:Tryz.prog.cellsOf 9=1:=by kernel_rfl
 have c3:Tryz.prog.cellsOf 5=1:=by kernel_rfl
 match cs,hl with
 | [a0,a1],_=>
  obtain ⟨y0,y1,m,hx,_,h0,h1⟩:=trod_struct2 Tryz.underlying116 hf
  simp [c1,c3] at h0 h1
  obtain ⟨t,e0,_,_⟩:=DataW.trod_string Tryz.underlying9 h0
  obtain ⟨k,e1,_,_⟩:=DataW.trod_int Tryz.underlying5 h1
  simp only [List.cons.injEq,and_true] at e0 e1
  subst e0 e1
  refine ⟨⟨t.data.toList,k⟩,?_,trivial⟩
  show _=[Value.string (bs t.data.toList),_]
  rw [bs_back]
theorem open_nodesW {r:Reach} {b0:Nat} {v:Value} {d:DataW H} {p:List MemPlace} (hv:Value.okWide Tryz.prog w r b0 23 v) (h:DataW.Trod enc Tryz.prog w base spare held 23 v d p) (hz:∀ n ∈ d.weights Tryz.prog 23,n≤reachBytes) :
  ∃ xs:List Nd,ndE.Arg w v xs∧∀ x ∈ xs,x.ok∧x.n.length≤1000000000000000:=
 open_rowW ndE (fun x=>x.ok∧x.n.length≤1000000000000000) Tryz.underlying23 (by kernel_rfl) node_cellsW hv h hz
theorem open_fieldsW {r:Reach} {b0:Nat} {v:Value} {d:DataW H} {p:List MemPlace} (hv:Value.okWide Tryz.prog w r b0 36 v) (h:DataW.Trod enc Tryz.prog w base spare held 36 v d p) (hz:∀ n ∈ d.weights Tryz.prog 36,n≤reachBytes) :
  ∃ xs:List Fd,fdE.Arg w v xs∧∀ x ∈ xs,True:=
 open_rowW fdE (fun _=>True) Tryz.underlying36 (by kernel_rfl) (fun h l _=>field_cells h l) hv h hz
theorem open_valsW {r:Reach} {b0:Nat} {v:Value} {d:DataW H} {p:List MemPlace} (hv:Value.okWide Tryz.prog w r b0 24 v) (h:DataW.Trod enc Tryz.prog w base spare held 24 v d p) (hz:∀ n ∈ d.weights Tryz.prog 24,n≤reachBytes) :
  ∃ xs:List V,vaE.Arg w v xs∧∀ x ∈ xs,x.ok:=
 open_rowW vaE V.ok Tryz.underlying24 (by kernel_rfl) (fun h l _=>val_cells h l) hv h hz
end
end Go.Proofs.YteagpbkbdlmdiaaGreat.Ek
