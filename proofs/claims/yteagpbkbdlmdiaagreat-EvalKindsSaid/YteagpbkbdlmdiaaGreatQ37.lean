/-
  The document's parser: end, walked; The document's parser: expr, by what its callees do.
-/
import Derived.Test.YteagpbkbdlmdiaaGreatQ36
set_option linter.unusedSimpArgs false
set_option linter.unusedVariables false
namespace Go.Proofs.YteagpbkbdlmdiaaGreat.Ps
open Go Go.RowKit Dt Tx Va Ev Lx
attribute [local go_sem ↓] Go.wp_at_zero Go.wp_at_succ
section
variable {L:List Tok} {En:Int} {B b N lc:Nat} {ao:Option Addr} {tv:Value} {w:World} {s:Rd}
theorem must_dt (l:List UInt8):(mustR L En l s).d=s.d∧(mustR L En l s).t=s.t:=by
 unfold mustR
 split
 ·split
  ·exact ⟨rfl,rfl⟩
  ·exact ⟨(stop_a 4).2.2,(stop_a 4).2.1⟩
 ·exact ⟨rfl,rfl⟩
theorem Fr.ne {tv':Value} {i:Nat} (f:Fr tv w tv') (h:some i ≠ tv.ownBlock) (hi:i<w.heap.size):some i ≠ tv'.ownBlock:=by
 rcases f with e | ⟨g,e,hg⟩
 ·rw [e];exact h
 ·rw [e];intro e2;have:=Option.some.inj e2;omega
theorem KX.nine {w':World} {i:Nat} {n:Nd} (k:KX b tv w w') (h:Nine w i n) (hb:i ≠ b) (ht:some i ≠ tv.ownBlock):Nine w' i n:=(k.block i h.lt hb ht).trans h
theorem Nine.setB {i:Nat} {n:Nd} (h:Nine w i n) (hb:i ≠ b) (o:Nat) (v:Value):Nine (w.setCell ⟨b,o,none⟩ v) i n:=(heap_setCell_other _ ⟨b,o,none⟩ i _ hb).trans h
set_option maxRecDepth 100000 in
set_option maxHeartbeats 2000000 in
theorem end_is (h:St L En B b (.slice ao N lc) w tv s) (hN:L.length=N) (hl:N≤1000) (ha:s.a≤N) (hd:-100000≤s.d) (hd2:s.d≤100000) (ht:s.t.length≤10000) (n:Nd):Calls Tryz.prog 149 #[.pointer (some ⟨b,0,none⟩),.agg #[.int .u8 n.op,.int .i64 n.c,.int .i64 n.s,.string (bs n.n),.int .i64 n.k,.int .i64 n.x,.int .i64 n.y,.int .i64 n.z,.int .i64 n.p]] w (RI L En B b (.slice ao N lc) (endR L En n s) w tv):=by
 go_enter Tryz.func149,Tryz.ntmps149
 go_upto_region 1 with fail
 obtain ⟨W0,iN,hW,hX,N0,B0,LN,_,_⟩:=mk1 w (.cells #[.int .u8 n.op,.int .i64 n.c,.int .i64 n.s,.string (bs n.n),.int .i64 n.k,.int .i64 n.x,.int .i64 n.y,.int .i64 n.z,.int .i64 n.p] 39)
 rw [hW.out]
 try rw [hX.out]
 have hni:iN=w.heap.size:=hX.out.symm
 clear hW hX
 replace N0:Hid (Nine W0 iN n):=N0
 have HNB:Hid (iN ≠ b):=Lib.hid (by have:=h.lt;omega)
 have HNT:Hid (some iN ≠ tv.ownBlock):=Lib.hid (fun e=>by have:=(h.row.lt iN e.symm).2;omega)
 have S0:=h.below B0.out
 have K0:=Lib.hid (KX.of_below (b:=b) (tv:=tv) B0.out)
 have HDD:Hid ((mustR L En wRp s).d=s.d):=Lib.hid (must_dt wRp).1
 have HT2:Hid ((mustR L En wRp s).t=s.t):=Lib.hid (must_dt wRp).2
 have MC:=must_is S0 hN hl ha wRp ⟨#[41]⟩ rfl
 have HTL:=Lib.hid ht
 have kd:IntKind.i64.wrap (s.d - 1)=s.d - 1:=wrapI (by omega) (by omega)
 clear h S0 hni hd hd2 ht ha hl hN
 go_upto_region 2 with (go_at_call 143;(with_reducible refine MC.mono ?_);rintro e2 w2 ⟨⟨u2,rfl⟩,tv2,s2,k2,fr2⟩;have N2:=Lib.hid (k2.nine N0.out HNB.out HNT.out);have K2:=Lib.hid (K0.out.trans k2 (Fr.refl _ _));have F2:=Lib.hid (Fr.trans (Fr.refl tv w) fr2 K0.out.size);have S2:=Lib.hid s2;clear s2 k2 fr2 MC)
 have c3:=S2.out.c3;have f3:=S2.out.f 3
 rw [HDD.out] at c3
 go_upto_region 3 with fail
 have S3:Hid (St L En B b (.slice ao N lc) (w2.setCell ⟨b,3,none⟩ (.int .i64 (s.d - 1))) tv2 (outR (mustR L En wRp s))):=Lib.hid (by have:=S2.out.setD (s.d - 1);rw [←HDD.out] at this⊢;exact this)
 have K3:=Lib.hid (K2.out.set 3 (.int .i64 (s.d - 1)))
 have N3:=Lib.hid (Nine.setB N2.out HNB.out 3 (.int .i64 (s.d - 1)))
 obtain ⟨W3,hW3⟩:∃ W,Hid (w2.setCell ⟨b,3,none⟩ (.int .i64 (s.d - 1))=W):=⟨_,Lib.hid rfl⟩
 rw [hW3.out] at S3 K3 N3
 rw [hW3.out]
 clear hW3 c3 f3 S2 K2 N2
 obtain ⟨s3,hs3⟩:∃ q,Hid (outR (mustR L En wRp s)=q):=⟨_,Lib.hid rfl⟩
 rw [hs3.out] at S3
 have HTL:Hid (s3.t.length≤10000):=Lib.hid (by rw [←hs3.out];show (mustR L En wRp s).t.length≤_;rw [HT2.out];exact HTL.out)
 have RES:Hid (endR L En n s=addR n s3):=Lib.hid (by rw [←hs3.out];rfl)
 obtain ⟨av,cv,hv,_,_⟩:=S3.out.row.form
 obtain ⟨tn,htn⟩:∃ k:Nat,Hid (s3.t.length=k):=⟨_,Lib.hid rfl⟩
 have SD:=Lib.hid (S3.out.below ((Below.refl _ _).drew))
 have SA:=Lib.hid (S3.out.below (bt ((Below.refl _ _).drew) (ba W3.drew (.cells #[.int .u8 n.op,.int .i64 n.c,.int .i64 n.s,.string (bs n.n),.int .i64 n.k,.int .i64 n.x,.int .i64 n.y,.int .i64 n.z,.int .i64 n.p] 39))))
 have KA:=Lib.hid (K3.out.trans (KX.of_below (b:=b) (bt ((Below.refl _ _).drew) (ba W3.drew (.cells #[.int .u8 n.op,.int .i64 n.c,.int .i64 n.s,.string (bs n.n),.int .i64 n.k,.int .i64 n.x,.int .i64 n.y,.int .i64 n.z,.int .i64 n.p] 39)))) F2.out)
 have RT:Hid (ndT.Row (W3.drew.alloc (.cells #[.int .u8 n.op,.int .i64 n.c,.int .i64 n.s,.string (bs n.n),.int .i64 n.k,.int .i64 n.x,.int .i64 n.y,.int .i64 n.z,.int .i64 n.p] 39)) B _ s3.t):=Lib.hid SA.out.row
 have SRT:Hid (ndT.Arg (W3.drew.alloc (.cells #[.int .u8 n.op,.int .i64 n.c,.int .i64 n.s,.string (bs n.n),.int .i64 n.k,.int .i64 n.x,.int .i64 n.y,.int .i64 n.z,.int .i64 n.p] 39)) (.slice (some ⟨W3.heap.size,0,none⟩) 1 1) [n]):=Lib.hid (Elem.arg_one (E:=ndT) (w:=W3.drew) n 39)
 have HFL:Hid (s3.t.length+[n].length≤1000001):=Lib.hid (by rw [List.length_singleton];have:=HTL.out;omega)
 have HB:Hid (B≤(W3.drew.alloc (.cells #[.int .u8 n.op,.int .i64 n.c,.int .i64 n.s,.string (bs n.n),.int .i64 n.k,.int .i64 n.x,.int .i64 n.y,.int .i64 n.z,.int .i64 n.p] 39)).heap.size):=Lib.hid (by have:=SA.out.bB;have:=SA.out.lt;omega)
 have NA:=Lib.hid (N3.out.below (bt ((Below.refl _ _).drew) (ba W3.drew (.cells #[.int .u8 n.op,.int .i64 n.c,.int .i64 n.s,.string (bs n.n),.int .i64 n.k,.int .i64 n.x,.int .i64 n.y,.int .i64 n.z,.int .i64 n.p] 39))))
 have c4:=S3.out.c4
 have c4a:(W3.alloc (.cells #[.int .u8 n.op,.int .i64 n.c,.int .i64 n.s,.string (bs n.n),.int .i64 n.k,.int .i64 n.x,.int .i64 n.y,.int .i64 n.z,.int .i64 n.p] 39)).cell? ⟨b,4,none⟩=some _:=SA.out.c4
 have n0:=N3.out.c0
 have m0:(W3.alloc (.cells #[.int .u8 n.op,.int .i64 n.c,.int .i64 n.s,.string (bs n.n),.int .i64 n.k,.int .i64 n.x,.int .i64 n.y,.int .i64 n.z,.int .i64 n.p] 39)).cell? ⟨iN,0,none⟩=some (.int .u8 n.op):=NA.out.c0
 have n1:=N3.out.c1
 have m1:(W3.alloc (.cells #[.int .u8 n.op,.int .i64 n.c,.int .i64 n.s,.string (bs n.n),.int .i64 n.k,.int .i64 n.x,.int .i64 n.y,.int .i64 n.z,.int .i64 n.p] 39)).cell? ⟨iN,1,none⟩=some (.int .i64 n.c):=NA.out.c1
 have n2:=N3.out.c2
 have m2:(W3.alloc (.cells #[.int .u8 n.op,.int .i64 n.c,.int .i64 n.s,.string (bs n.n),.int .i64 n.k,.int .i64 n.x,.int .i64 n.y,.int .i64 n.z,.int .i64 n.p] 39)).cell? ⟨iN,2,none⟩=some (.int .i64 n.s):=NA.out.c2
 have n3:=N3.out.c3
 have m3:(W3.alloc (.cells #[.int .u8 n.op,.int .i64 n.c,.int .i64 n.s,.string (bs n.n),.int .i64 n.k,.int .i64 n.x,.int .i64 n.y,.int .i64 n.z,.int .i64 n.p] 39)).cell? ⟨iN,3,none⟩=some (.string (bs n.n)):=NA.out.c3
 have n4:=N3.out.c4
 have m4:(W3.alloc (.cells #[.int .u8 n.op,.int .i64 n.c,.int .i64 n.s,.string (bs n.n),.int .i64 n.k,.int .i64 n.x,.int .i64 n.y,.int .i64 n.z,.int .i64 n.p] 39)).cell? ⟨iN,4,none⟩=some (.int .i64 n.k):=NA.out.c4
 have n5:=N3.out.c5
 have m5:(W3.alloc (.cells #[.int .u8 n.op,.int .i64 n.c,.int .i64 n.s,.string (bs n.n),.int .i64 n.k,.int .i64 n.x,.int .i64 n.y,.int .i64 n.z,.int .i64 n.p] 39)).cell? ⟨iN,5,none⟩=some (.int .i64 n.x):=NA.out.c5
 have n6:=N3.out.c6
 have m6:(W3.alloc (.cells #[.int .u8 n.op,.int .i64 n.c,.int .i64 n.s,.string (bs n.n),.int .i64 n.k,.int .i64 n.x,.int .i64 n.y,.int .i64 n.z,.int .i64 n.p] 39)).cell? ⟨iN,6,none⟩=some (.int .i64 n.y):=NA.out.c6
 have n7:=N3.out.c7
 have m7:(W3.alloc (.cells #[.int .u8 n.op,.int .i64 n.c,.int .i64 n.s,.string (bs n.n),.int .i64 n.k,.int .i64 n.x,.int .i64 n.y,.int .i64 n.z,.int .i64 n.p] 39)).cell? ⟨iN,7,none⟩=some (.int .i64 n.z):=NA.out.c7
 have n8:=N3.out.c8
 have m8:(W3.alloc (.cells #[.int .u8 n.op,.int .i64 n.c,.int .i64 n.s,.string (bs n.n),.int .i64 n.k,.int .i64 n.x,.int .i64 n.y,.int .i64 n.z,.int .i64 n.p] 39)).cell? ⟨iN,8,none⟩=some (.int .i64 n.p):=NA.out.c8
 have kw:=wrapL tn (by have:=HTL.out;have:=htn.out;omega)
 have kw2:IntKind.i64.wrap (tn:Int)=(tn:Int):=wrapI (by omega) (by have:=HTL.out;have:=htn.out;omega)
 rw [htn.out] at hv
 subst hv
 go_region_law (first | (go_loud (refine Elem.step (E:=ndT) rfl _ _ rfl B (.slice av tn cv) s3.t (.slice (some ⟨W3.heap.size,0,none⟩) 1 1) [n] rfl rfl RT.out SRT.out HFL.out (by decide) HB.out ?_;intro v6 w6 r6 g6 f6;have Y:=SA.out.more KA.out F2.out r6 g6 f6;have d4:=Y.1.1;have f4:=Y.1.2;have SX:=Lib.hid Y.2.1;have KK:=Lib.hid Y.2.2.1;have FF:=Lib.hid Y.2.2.2;clear Y;obtain ⟨a6,q6,e6,_,_⟩:=r6.form;clear r6 g6 f6;obtain ⟨n6,hn6⟩:∃ k:Nat,Hid ((s3.t++[n]).length=k):=⟨_,Lib.hid rfl⟩;rw [hn6.out] at e6;subst e6)))
 all_goals
  have h6:n6=tn+1:=by have:=hn6.out;rw [List.length_append,List.length_singleton,htn.out] at this;exact this.symm
  subst h6
  have FX:=Lib.hid FF.out
  obtain ⟨WX,hWX⟩:∃ W,Hid (w6.setCell ⟨b,4,none⟩ (.slice a6 (tn+1) q6)=W):=⟨_,Lib.hid rfl⟩
  rw [hWX.out] at SX KK
  try rw [hWX.out]
  clear hWX d4 f4 SA KA SRT RT HFL HB c4 c4a n0 m0 n1 m1 n2 m2 n3 m3 n4 m4 n5 m5 n6 m6 n7 m7 n8 m8 SD NA FF
  have c4:=SX.out.c4
  go_wp2_with fail
  go_ret
  rw [RES.out]
  refine ⟨?_,_,SX.out,KK.out,FX.out⟩
  show Ending.returned _=.returned (.int .i64 ((s3.t.length:Nat):Int))
  rw [htn.out];simp
end
end Go.Proofs.YteagpbkbdlmdiaaGreat.Ps
namespace Go.Proofs.YteagpbkbdlmdiaaGreat.Ps
open Go Go.RowKit Dt Tx Va Ev Lx
attribute [local go_sem ↓] Go.wp_at_zero Go.wp_at_succ
section
variable (L:List Tok) (En:Int) (B b N:Nat) (lv:Value)
def ExC (f:Nat):Prop:=∀ (l:Nat) (z:Int) (s:Rd) (w:World) (tv:Value),l≤7→z=(l:Int)→Inv N s→muR N (.ex l) s.a≤f→St L En B b lv w tv s→Calls Tryz.prog 49 #[.pointer (some ⟨b,0,none⟩),.int .i64 z] w (RI L En B b lv (runR L En f (.ex l) s) w tv)
def AtC (f:Nat):Prop:=∀ (s:Rd) (w:World) (tv:Value),Inv N s→s.e=0→muR N .atm s.a≤f→St L En B b lv w tv s→Calls Tryz.prog 100 #[.pointer (some ⟨b,0,none⟩)] w (RI L En B b lv (runR L En f .atm s) w tv)
def CaC (f:Nat):Prop:=∀ (wd:List UInt8) (n:Nd) (s:Rd) (w:World) (tv:Value),callW wd=true→Inv N s→s.e=0→s.a<N→muR N (.ca wd n) s.a≤f→St L En B b lv w tv s→Calls Tryz.prog 144 #[.pointer (some ⟨b,0,none⟩),.string (bs wd),.agg #[.int .u8 n.op,.int .i64 n.c,.int .i64 n.s,.string (bs n.n),.int .i64 n.k,.int .i64 n.x,.int .i64 n.y,.int .i64 n.z,.int .i64 n.p]] w (RI L En B b lv (runR L En f (.ca wd n) s) w tv)
end
section
variable {L:List Tok} {En:Int} {B b N lc:Nat} {ao:Option Addr} {tv:Value} {w:World} {s:Rd}
theorem inv_up {N:Nat} {s:Rd} (i:Inv N s) (h:s.a<N):Inv N (upR s):=i.of ((gt_up h).more (by omega))
theorem inv_deep {N:Nat} {s:Rd} (i:Inv N s) (h:s.a<N) (h0:s.e=0):Inv N (upR (deeperR L En s)):=by
 have ft:=full_a (L:=L) (En:=En) (s:=s)
 have f0:fl s=0:=if_pos h0
 have ht:=i.t;have h1:=i.dl;have h2:=i.d0 f0
 have ea:(upR (deeperR L En s)).a=s.a+1:=by show (fullR L En s).a+1=_;rw [ft.1]
 have et:(upR (deeperR L En s)).t=s.t:=ft.2.1
 have ed:(upR (deeperR L En s)).d=s.d+1:=rfl
 refine ⟨by rw [ea];omega,by rw [ea,et];omega,by rw [ea,ed];omega,by rw [ed];omega,fun k=>?_⟩
 rw [ed]
 rcases Int.lt_or_le s.d 16 with g | g
 ·omega
 ·exfalso
  have:=deeper_e (L:=L) (En:=En) g
  have e2:fl (upR (deeperR L En s))=1:=if_neg this
  omega
def atOf (b:Nat) (w:World):Nat:=match w.cell? ⟨b,1,none⟩ with
 | some (.int _ n)=>n.toNat
 | _=>0
theorem atOf_is {lv:Value} (h:St L En B b lv w tv s):atOf b w=s.a:=by unfold atOf;rw [h.c1];simp
set_option maxRecDepth 100000 in
set_option maxHeartbeats 4000000 in
theorem ex_step (f:Nat) (hN:L.length=N) (hl:N≤1000) (HE:∀ g,g≤f→ExC L En B b N (.slice ao N lc) g) (HA:AtC L En B b N (.slice ao N lc) f):ExC L En B b N (.slice ao N lc) (f+1):=by
 intro l z s w tv hl7 hz hi hm h
 have b5:=h.c5
 have HN:=Lib.hid hN;have HL:=Lib.hid hl;have HI:=Lib.hid hi;have HM:=Lib.hid hm
 have S0:=Lib.hid h;have K0:=Lib.hid (KX.refl (b:=b) (tv:=tv) (w:=w));have F0:=Lib.hid (Fr.refl tv w)
 have HX:=Lib.hid HE
 by_cases h0:s.e=0
 ·have d1:decide (s.e=0)=true:=decide_eq_true h0
  have d2:(s.e !=0)=false:=by simpa using h0
  have d3:(s.e==0)=true:=by simpa using h0
  by_cases h7:l=7
  ·have E:runR L En (f+1) (.ex l) s=runR L En f .atm s:=by simp only [runR];rw [if_pos h0,if_pos h7]
   rw [E]
   subst h7
   obtain rfl:z=7:=hz
   have AC:=HA s w tv hi h0 (by simp only [muR] at hm⊢;omega) h
   obtain ⟨res,hres⟩:∃ r,Hid (runR L En f .atm s=r):=⟨_,Lib.hid rfl⟩
   rw [hres.out] at AC⊢
   clear h hN hl HE HA hi hm hl7 E h0 hres
   go_enter Tryz.func49,Tryz.ntmps49
   go_wp2_with (go_at_call 100;(with_reducible refine (AC).mono ?_);rintro e1 w1 ⟨rfl,tv1,s1,k1,fr1⟩;have K1:=Lib.hid (K0.out.trans k1 F0.out);have F1:=Lib.hid (F0.out.trans fr1 K0.out.size);have S1:=Lib.hid s1;clear s1 k1 fr1)
   go_ret
   exact ⟨rfl,_,S1.out,K1.out,F1.out⟩
  ·have z7:decide (z=7)=false:=decide_eq_false (by omega)
   have z7b:(z==7)=false:=by simp;omega
   by_cases h2:l=2
   ·subst h2
    obtain rfl:z=2:=hz
    have NX:=next_is S0.out HN.out
    unfold SP at NX
    by_cases hw:nextR L s=wNot
    ·have lt:s.a<N:=by rw [←hN];exact next_lt (w:=wNot) (by decide) hw
     have E:runR L En (f+1) (.ex 2) s=putR 7 (placeR L En s) (runR L En f (.ex 2) (upR (deeperR L En s))).2 (-1) (-1) (outR (runR L En f (.ex 2) (upR (deeperR L En s))).1):=by
      simp only [runR];rw [if_pos h0,if_neg (by decide),if_pos (by decide),if_pos (by simpa using hw)];rfl
     rw [E]
     have NX2:Calls Tryz.prog 101 #[.pointer (some ⟨b,0,none⟩)] w fun e w'=>e=.returned (.string ⟨#[110,111,116]⟩)∧Below w.heap.size w w':=by have:=NX;rw [hw] at this;exact this
     have IV:=Lib.hid (inv_deep (L:=L) (En:=En) hi lt h0)
     have IG:=Lib.hid (run_gt (L:=L) (En:=En) f (.ex 2) (upR (deeperR L En s)) (by rw [hN];exact IV.out.a) trivial)
     rw [hN] at IG
     have IV2:=Lib.hid (IV.out.of IG.out)
     have DA:Hid ((deeperR L En s).a=s.a):=Lib.hid (full_a (L:=L) (En:=En) (s:=s)).1
     have EXC:=HX.out f (Nat.le_refl _) 2 2 (upR (deeperR L En s))
     have HMU:Hid (muR N (.ex 2) (upR (deeperR L En s)).a≤f):=Lib.hid (by simp only [muR] at hm⊢;show 24*(N - ((deeperR L En s).a+1))+_≤_;rw [DA.out];omega)
     have kw:IntKind.i64.wrap ((s.a:Int)+1)=(s.a:Int)+1:=Ev.wrap1 s.a (by omega)
     have hd1:=hi.dl;have hd2:=hi.dh
     have HD:Hid (-100000≤s.d∧s.d≤100000):=Lib.hid ⟨by have:=hi.a;omega,by omega⟩
     obtain ⟨⟨s5,x5⟩,hr5⟩:∃ r,Hid (runR L En f (.ex 2) (upR (deeperR L En s))=r):=⟨_,Lib.hid rfl⟩
     rw [hr5.out] at EXC IV2⊢
     simp only at IV2
     clear h hN hl HE HA hi hm hl7 E h0 hw NX hd1 hd2 lt z7 z7b h7
     go_enter Tryz.func49,Tryz.ntmps49
     go_upto_region 13 with (first | (go_at_call 101;(with_reducible refine (NX2).mono ?_);rintro e1 w1 ⟨rfl,q1⟩;have S1:=Lib.hid (S0.out.below q1);have K1:=Lib.hid (K0.out.trans (KX.of_below (b:=b) q1) F0.out);have F1:=F0;have PC:=place_is S1.out HN.out;clear NX2;clear q1) | (go_at_call 102;(with_reducible refine (PC).mono ?_);rintro e2 w2 ⟨rfl,q2⟩;have S2:=Lib.hid (S1.out.below q2);have K2:=Lib.hid (K1.out.trans (KX.of_below (b:=b) q2) F1.out);have F2:=F1;have DC:=deeper_is S2.out HN.out HD.out.1 HD.out.2;clear PC;clear q2) | (go_at_call 103;(with_reducible refine (DC).mono ?_);rintro e3 w3 ⟨⟨u3,rfl⟩,tv3,s3,k3,fr3⟩;have K3:=Lib.hid (K2.out.trans k3 F2.out);have F3:=Lib.hid (F2.out.trans fr3 K2.out.size);have S3:=Lib.hid s3;clear DC;clear s3 k3 fr3))
     clear b5
     have b1:=S3.out.c1;have f1:=S3.out.f 1
     rw [DA.out] at b1
     go_upto_region 14 with fail
     have S4:Hid (St L En B b (.slice ao N lc) (w3.setCell ⟨b,1,none⟩ (.int .i64 ((s.a:Int)+1))) tv3 (upR (deeperR L En s))):=Lib.hid (by have:=S3.out.setA (s.a+1);have e:upR (deeperR L En s)={deeperR L En s with a:=s.a+1}:=(by unfold upR;rw [DA.out]);rw [e];exact this)
     have K4:=Lib.hid (K3.out.set 1 (.int .i64 ((s.a:Int)+1)))
     have F4:=F3
     obtain ⟨W4,hW4⟩:∃ W,Hid (w3.setCell ⟨b,1,none⟩ (.int .i64 ((s.a:Int)+1))=W):=⟨_,Lib.hid rfl⟩
     rw [hW4.out] at S4 K4
     rw [hW4.out]
     clear hW4 b1 f1 S3 K3
     have EXC4:=EXC W4 tv3 (by decide) rfl IV.out HMU.out S4.out
     clear EXC
     go_upto_region 15 with (go_at_call 49;(with_reducible refine (EXC4).mono ?_);rintro e5 w5 ⟨rfl,tv5,s5_,k5,fr5⟩;have K5:=Lib.hid (K4.out.trans k5 F4.out);have F5:=Lib.hid (F4.out.trans fr5 K4.out.size);have S5:=Lib.hid s5_;clear EXC4;clear s5_ k5 fr5)
     have b3:=S5.out.c3;have f3:=S5.out.f 3
     have kd:IntKind.i64.wrap (s5.d - 1)=s5.d - 1:=wrapI (by have:=IV2.out.dl;have:=IV2.out.a;have:=HL.out;omega) (by have:=IV2.out.dh;omega)
     go_upto_region 16 with fail
     have S6:Hid (St L En B b (.slice ao N lc) (w5.setCell ⟨b,3,none⟩ (.int .i64 (s5.d - 1))) tv5 (outR s5)):=Lib.hid (S5.out.setD _)
     have K6:=Lib.hid (K5.out.set 3 (.int .i64 (s5.d - 1)))
     have F6:=F5
     obtain ⟨W6,hW6⟩:∃ W,Hid (w5.setCell ⟨b,3,none⟩ (.int .i64 (s5.d - 1))=W):=⟨_,Lib.hid rfl⟩
     rw [hW6.out] at S6 K6
     rw [hW6.out]
     clear hW6 b3 f3 S5 K5
     have PUT:=put_is S6.out (by show s5.t.length≤_;have:=IV2.out.t;have:=IV2.out.a;have:=HL.out;have:fl s5≤1:=(by unfold fl;split<;>omega);omega) 7 (placeR L En s) x5 (-1) (-1)
     go_wp2_with (go_at_call 104;(with_reducible refine (PUT).mono ?_);rintro e7 w7 ⟨rfl,tv7,s7,k7,fr7⟩;have K7:=Lib.hid (K6.out.trans k7 F6.out);have F7:=Lib.hid (F6.out.trans fr7 K6.out.size);have S7:=Lib.hid s7;clear PUT;clear s7 k7 fr7)
     go_ret
     exact ⟨rfl,_,S7.out,K7.out,F7.out⟩
    ·have E:runR L En (f+1) (.ex 2) s=runR L En f (.ex 3) s:=by simp only [runR];rw [if_pos h0,if_neg (by decide),if_pos (by decide),if_neg (by simpa using hw)]
     rw [E]
     have ss:((bs (nextR L s)).toList==[110,111,116])=false:=by rw [bs_toList];simpa [wNot] using hw
     have ss2:((bs (nextR L s)).toList !=[110,111,116])=true:=by rw [bs_toList];simpa [wNot] using hw
     obtain ⟨U,hU⟩:∃ S,Hid (bs (nextR L s)=S):=⟨_,Lib.hid rfl⟩
     rw [hU.out] at NX ss ss2
     have EXC:=HX.out f (Nat.le_refl _) 3 3 s
     have HMU:Hid (muR N (.ex 3) s.a≤f):=Lib.hid (by simp only [muR] at hm⊢;omega)
     obtain ⟨res,hres⟩:∃ r,Hid (runR L En f (.ex 3) s=r):=⟨_,Lib.hid rfl⟩
     rw [hres.out]
     clear h hN hl HE HA hi hm hl7 E h0 hw hU z7 z7b h7
     go_enter Tryz.func49,Tryz.ntmps49
     go_wp2_with (first | (go_at_call 101;(with_reducible refine (NX).mono ?_);rintro e1 w1 ⟨rfl,q1⟩;have S1:=Lib.hid (S0.out.below q1);have K1:=Lib.hid (K0.out.trans (KX.of_below (b:=b) q1) F0.out);have F1:=F0;have EXC1:=EXC w1 tv (by decide) rfl HI.out HMU.out S1.out;rw [hres.out] at EXC1;clear NX EXC;clear q1) | (go_at_call 49;(with_reducible refine (EXC1).mono ?_);rintro e2 w2 ⟨rfl,tv2,s2,k2,fr2⟩;have K2:=Lib.hid (K1.out.trans k2 F1.out);have F2:=Lib.hid (F1.out.trans fr2 K1.out.size);have S2:=Lib.hid s2;clear EXC1;clear s2 k2 fr2))
     go_ret
     exact ⟨rfl,_,S2.out,K2.out,F2.out⟩
   ·skip
    by_cases h6:l=6
    ·subst h6
     obtain rfl:z=6:=hz
     have NX:=next_is S0.out HN.out
     unfold SP at NX
     by_cases hw:nextR L s=wMi
     ·have lt:s.a<N:=by rw [←hN];exact next_lt (w:=wMi) (by decide) hw
      have E:runR L En (f+1) (.ex 6) s=putR 18 (placeR L En s) (runR L En f (.ex 6) (upR (deeperR L En s))).2 (-1) (-1) (outR (runR L En f (.ex 6) (upR (deeperR L En s))).1):=by
       simp only [runR];rw [if_pos h0,if_neg (by decide),if_pos (by decide),if_pos (by simpa using hw)];rfl
      rw [E]
      have NX2:Calls Tryz.prog 101 #[.pointer (some ⟨b,0,none⟩)] w fun e w'=>e=.returned (.string ⟨#[45]⟩)∧Below w.heap.size w w':=by have:=NX;rw [hw] at this;exact this
      have IV:=Lib.hid (inv_deep (L:=L) (En:=En) hi lt h0)
      have IG:=Lib.hid (run_gt (L:=L) (En:=En) f (.ex 6) (upR (deeperR L En s)) (by rw [hN];exact IV.out.a) trivial)
      rw [hN] at IG
      have IV2:=Lib.hid (IV.out.of IG.out)
      have DA:Hid ((deeperR L En s).a=s.a):=Lib.hid (full_a (L:=L) (En:=En) (s:=s)).1
      have EXC:=HX.out f (Nat.le_refl _) 6 6 (upR (deeperR L En s))
      have HMU:Hid (muR N (.ex 6) (upR (deeperR L En s)).a≤f):=Lib.hid (by simp only [muR] at hm⊢;show 24*(N - ((deeperR L En s).a+1))+_≤_;rw [DA.out];omega)
      have kw:IntKind.i64.wrap ((s.a:Int)+1)=(s.a:Int)+1:=Ev.wrap1 s.a (by omega)
      have hd1:=hi.dl;have hd2:=hi.dh
      have HD:Hid (-100000≤s.d∧s.d≤100000):=Lib.hid ⟨by have:=hi.a;omega,by omega⟩
      obtain ⟨⟨s5,x5⟩,hr5⟩:∃ r,Hid (runR L En f (.ex 6) (upR (deeperR L En s))=r):=⟨_,Lib.hid rfl⟩
      rw [hr5.out] at EXC IV2⊢
      simp only at IV2
      clear h hN hl HE HA hi hm hl7 E h0 hw NX hd1 hd2 lt z7 z7b h7
      go_enter Tryz.func49,Tryz.ntmps49
      go_upto_region 13 with (first | (go_at_call 101;(with_reducible refine (NX2).mono ?_);rintro e1 w1 ⟨rfl,q1⟩;have S1:=Lib.hid (S0.out.below q1);have K1:=Lib.hid (K0.out.trans (KX.of_below (b:=b) q1) F0.out);have F1:=F0;have PC:=place_is S1.out HN.out;clear NX2;clear q1) | (go_at_call 102;(with_reducible refine (PC).mono ?_);rintro e2 w2 ⟨rfl,q2⟩;have S2:=Lib.hid (S1.out.below q2);have K2:=Lib.hid (K1.out.trans (KX.of_below (b:=b) q2) F1.out);have F2:=F1;have DC:=deeper_is S2.out HN.out HD.out.1 HD.out.2;clear PC;clear q2) | (go_at_call 103;(with_reducible refine (DC).mono ?_);rintro e3 w3 ⟨⟨u3,rfl⟩,tv3,s3,k3,fr3⟩;have K3:=Lib.hid (K2.out.trans k3 F2.out);have F3:=Lib.hid (F2.out.trans fr3 K2.out.size);have S3:=Lib.hid s3;clear DC;clear s3 k3 fr3))
      clear b5
      have b1:=S3.out.c1;have f1:=S3.out.f 1
      rw [DA.out] at b1
      go_upto_region 14 with fail
      have S4:Hid (St L En B b (.slice ao N lc) (w3.setCell ⟨b,1,none⟩ (.int .i64 ((s.a:Int)+1))) tv3 (upR (deeperR L En s))):=Lib.hid (by have:=S3.out.setA (s.a+1);have e:upR (deeperR L En s)={deeperR L En s with a:=s.a+1}:=(by unfold upR;rw [DA.out]);rw [e];exact this)
      have K4:=Lib.hid (K3.out.set 1 (.int .i64 ((s.a:Int)+1)))
      have F4:=F3
      obtain ⟨W4,hW4⟩:∃ W,Hid (w3.setCell ⟨b,1,none⟩ (.int .i64 ((s.a:Int)+1))=W):=⟨_,Lib.hid rfl⟩
      rw [hW4.out] at S4 K4
      rw [hW4.out]
      clear hW4 b1 f1 S3 K3
      have EXC4:=EXC W4 tv3 (by decide) rfl IV.out HMU.out S4.out
      clear EXC
      go_upto_region 15 with (go_at_call 49;(with_reducible refine (EXC4).mono ?_);rintro e5 w5 ⟨rfl,tv5,s5_,k5,fr5⟩;have K5:=Lib.hid (K4.out.trans k5 F4.out);have F5:=Lib.hid (F4.out.trans fr5 K4.out.size);have S5:=Lib.hid s5_;clear EXC4;clear s5_ k5 fr5)
      have b3:=S5.out.c3;have f3:=S5.out.f 3
      have kd:IntKind.i64.wrap (s5.d - 1)=s5.d - 1:=wrapI (by have:=IV2.out.dl;have:=IV2.out.a;have:=HL.out;omega) (by have:=IV2.out.dh;omega)
      go_upto_region 16 with fail
      have S6:Hid (St L En B b (.slice ao N lc) (w5.setCell ⟨b,3,none⟩ (.int .i64 (s5.d - 1))) tv5 (outR s5)):=Lib.hid (S5.out.setD _)
      have K6:=Lib.hid (K5.out.set 3 (.int .i64 (s5.d - 1)))
      have F6:=F5
      obtain ⟨W6,hW6⟩:∃ W,Hid (w5.setCell ⟨b,3,none⟩ (.int .i64 (s5.d - 1))=W):=⟨_,Lib.hid rfl⟩
      rw [hW6.out] at S6 K6
      rw [hW6.out]
      clear hW6 b3 f3 S5 K5
      have PUT:=put_is S6.out (by show s5.t.length≤_;have:=IV2.out.t;have:=IV2.out.a;have:=HL.out;have:fl s5≤1:=(by unfold fl;split<;>omega);omega) 18 (placeR L En s) x5 (-1) (-1)
      go_wp2_with (go_at_call 104;(with_reducible refine (PUT).mono ?_);rintro e7 w7 ⟨rfl,tv7,s7,k7,fr7⟩;have K7:=Lib.hid (K6.out.trans k7 F6.out);have F7:=Lib.hid (F6.out.trans fr7 K6.out.size);have S7:=Lib.hid s7;clear PUT;clear s7 k7 fr7)
      go_ret
      exact ⟨rfl,_,S7.out,K7.out,F7.out⟩
     ·have E:runR L En (f+1) (.ex 6) s=runR L En f (.ex 7) s:=by simp only [runR];rw [if_pos h0,if_neg (by decide),if_pos (by decide),if_neg (by simpa using hw)]
      rw [E]
      have ss:((bs (nextR L s)).toList==[45])=false:=by rw [bs_toList];simpa [wMi] using hw
      have ss2:((bs (nextR L s)).toList !=[45])=true:=by rw [bs_toList];simpa [wMi] using hw
      obtain ⟨U,hU⟩:∃ S,Hid (bs (nextR L s)=S):=⟨_,Lib.hid rfl⟩
      rw [hU.out] at NX ss ss2
      have EXC:=HX.out f (Nat.le_refl _) 7 7 s
      have HMU:Hid (muR N (.ex 7) s.a≤f):=Lib.hid (by simp only [muR] at hm⊢;omega)
      obtain ⟨res,hres⟩:∃ r,Hid (runR L En f (.ex 7) s=r):=⟨_,Lib.hid rfl⟩
      rw [hres.out]
      clear h hN hl HE HA hi hm hl7 E h0 hw hU z7 z7b h7
      go_enter Tryz.func49,Tryz.ntmps49
      go_wp2_with (first | (go_at_call 101;(with_reducible refine (NX).mono ?_);rintro e1 w1 ⟨rfl,q1⟩;have S1:=Lib.hid (S0.out.below q1);have K1:=Lib.hid (K0.out.trans (KX.of_below (b:=b) q1) F0.out);have F1:=F0;have EXC1:=EXC w1 tv (by decide) rfl HI.out HMU.out S1.out;rw [hres.out] at EXC1;clear NX EXC;clear q1) | (go_at_call 49;(with_reducible refine (EXC1).mono ?_);rintro e2 w2 ⟨rfl,tv2,s2,k2,fr2⟩;have K2:=Lib.hid (K1.out.trans k2 F1.out);have F2:=Lib.hid (F1.out.trans fr2 K1.out.size);have S2:=Lib.hid s2;clear EXC1;clear s2 k2 fr2))
      go_ret
      exact ⟨rfl,_,S2.out,K2.out,F2.out⟩
    ·skip
     have E:runR L En (f+1) (.ex l) s=runR L En f (.lo l (runR L En f (.ex (l+1)) s).2) (runR L En f (.ex (l+1)) s).1:=by
      simp only [runR];rw [if_pos h0,if_neg h7,if_neg (by omega)]
     rw [E]
     have z2:decide (z=2)=false:=decide_eq_false (by omega)
     have z2b:(z==2)=false:=by simp;omega
     have z6:decide (z=6)=false:=decide_eq_false (by omega)
     have z6b:(z==6)=false:=by simp;omega
     have IG:=Lib.hid (run_gt (L:=L) (En:=En) f (.ex (l+1)) s (by rw [hN];exact hi.a) trivial)
     rw [hN] at IG
     have IV:=Lib.hid (hi.of IG.out)
     have hl6:l≤5:=by omega
     have EXC:=HX.out f (Nat.le_refl _) (l+1) (z+1) s w tv (by omega) (by omega) hi (by simp only [muR] at hm⊢;omega) h
     have MU1:Hid (muR N (.lo l (runR L En f (.ex (l+1)) s).2) (runR L En f (.ex (l+1)) s).1.a≤f):=Lib.hid (by have:=IG.out.a;simp only [muR] at hm⊢;omega)
     have zw:IntKind.i64.wrap (z+1)=z+1:=wrapI (by omega) (by omega)
     obtain ⟨res,hres⟩:∃ r,Hid (runR L En f (.lo l (runR L En f (.ex (l+1)) s).2) (runR L En f (.ex (l+1)) s).1=r):=⟨_,Lib.hid rfl⟩
     rw [hres.out]
     obtain ⟨⟨t1,x1⟩,hr1⟩:∃ r,Hid (runR L En f (.ex (l+1)) s=r):=⟨_,Lib.hid rfl⟩
     rw [hr1.out] at EXC MU1 IV hres
     simp only at MU1 IV hres
     have HZ:=Lib.hid hz;have HL6:=Lib.hid hl6
     clear h hN hl HE HA hi hm hl7 hz E h0 h2 h6 h7 hl6 hr1 IG
     go_enter Tryz.func49,Tryz.ntmps49
     go_wp2_with (go_at_call 49;(with_reducible refine (EXC).mono ?_);rintro e1 w1 ⟨rfl,tv1,s1,k1,fr1⟩;have K1:=Lib.hid (K0.out.trans k1 F0.out);have F1:=Lib.hid (F0.out.trans fr1 K0.out.size);have S1:=Lib.hid s1;clear EXC;clear s1 k1 fr1)
     clear b5
     go_loopw [9] (fun v wr=>∃ (g:Nat) (x:Int) (q:Rd) (tq:Value),v=.int .i64 x∧Hid (g≤f)∧Hid (muR N (.lo l x) q.a≤g)∧Hid (runR L En g (.lo l x) q=res)∧Hid (St L En B b (.slice ao N lc) wr tq q)∧Hid (KX b tv w wr)∧Hid (Fr tv w tq)∧Hid (Inv N q)) (fun _ wr=>N - atOf b wr)
     case atStart=>exact ⟨f,x1,t1,_,rfl,Nat.le_refl _,MU1.out,hres.out,S1.out,K1.out,F1.out,IV.out⟩
     case round=>
      obtain ⟨wo,rfl⟩:∃ wo:World,wo=wr:=⟨_,rfl⟩
      obtain ⟨g,x,q,tq,rfl,HG,MU,HR,SQ,KQ,FQ,IQ⟩:=hrel
      clear S1 K1 F1 MU1 hres IV
      obtain ⟨g,rfl⟩:∃ k,g=k+1:=⟨g - 1,by have:=MU.out;simp only [muR] at this;have:=HL6.out;omega⟩
      have S0:=SQ;have K0:=KQ;have F0:=FQ
      have b5:=SQ.out.c5
      have NX:=next_is SQ.out HN.out
      unfold SP at NX
      by_cases hc:q.e=0∧infixR l (nextR L q) ≠ 0
      ·have y1:decide (q.e=0)=true:=decide_eq_true hc.1
       have y2:(q.e==0)=true:=by simpa using hc.1
       obtain ⟨op,hop⟩:∃ i,Hid (infixR l (nextR L q)=i):=⟨_,Lib.hid rfl⟩
       have IN:=fun w=>infix_is (w:=w) l (by have:=HL6.out;omega) (nextR L q)
       rw [←HZ.out] at IN
       have hop0:op ≠ 0:=by rw [←hop.out];exact hc.2
       have y3:decide (op=0)=false:=decide_eq_false hop0
       have y4:(op !=0)=true:=by simpa using hop0
       have lt:q.a<N:=by rw [←HN.out];exact next_lt (infixR_ne hc.2) rfl
       have IU:=Lib.hid (inv_up IQ.out lt)
       have IG:=Lib.hid (run_gt (L:=L) (En:=En) g (.ex (l+1)) (upR q) (by rw [HN.out];exact IU.out.a) trivial)
       rw [HN.out] at IG
       have IV2:=Lib.hid (IU.out.of IG.out)
       have EXC:=HX.out g (by have:=HG.out;omega) (l+1) (z+1) (upR q)
       have HMU:Hid (muR N (.ex (l+1)) (upR q).a≤g):=Lib.hid (by have:=MU.out;simp only [muR] at this⊢;show 24*(N - (q.a+1))+_≤_;omega)
       have kw:IntKind.i64.wrap ((q.a:Int)+1)=(q.a:Int)+1:=Ev.wrap1 q.a (by have:=HL.out;omega)
       have HR2:Hid (res=if l=3 then putR op (placeR L En q) x (runR L En g (.ex (l+1)) (upR q)).2 (-1) (runR L En g (.ex (l+1)) (upR q)).1 else runR L En g (.lo l (putR op (placeR L En q) x (runR L En g (.ex (l+1)) (upR q)).2 (-1) (runR L En g (.ex (l+1)) (upR q)).1).2) (putR op (placeR L En q) x (runR L En g (.ex (l+1)) (upR q)).2 (-1) (runR L En g (.ex (l+1)) (upR q)).1).1):=Lib.hid (by rw [←HR.out];simp only [runR];rw [if_pos hc,hop.out])
       obtain ⟨U,hU⟩:∃ S,Hid (bs (nextR L q)=S):=⟨_,Lib.hid rfl⟩
       rw [hU.out] at NX IN
       unfold U8P at IN
       simp only [hop.out] at IN
       have HLT:=Lib.hid lt
       clear hc hop hop0 lt SQ KQ FQ HR
       go_upto_region 21 with (first | (have _t:=NX;clear _t;(go_at_call 101;(with_reducible refine (NX).mono ?_);rintro e1 w1 ⟨rfl,q1⟩;have S1:=Lib.hid (S0.out.below q1);have K1:=Lib.hid (K0.out.trans (KX.of_below (b:=b) q1) F0.out);have F1:=F0;clear NX;clear q1)) | (have _t:=S1;clear _t;have _t:=IN;clear _t;(go_at_call 105;(with_reducible refine (IN _).mono ?_);rintro e2 w2 ⟨rfl,q2⟩;have S2:=Lib.hid (S1.out.below q2);have K2:=Lib.hid (K1.out.trans (KX.of_below (b:=b) q2) F1.out);have F2:=F1;have NX2:=next_is S2.out HN.out;unfold SP at NX2;rw [hU.out] at NX2;clear q2)) | (have _t:=NX2;clear _t;(go_at_call 101;(with_reducible refine (NX2).mono ?_);rintro e3 w3 ⟨rfl,q3⟩;have S3:=Lib.hid (S2.out.below q3);have K3:=Lib.hid (K2.out.trans (KX.of_below (b:=b) q3) F2.out);have F3:=F2;clear NX2;clear q3)) | (have _t:=S3;clear _t;(go_at_call 105;(with_reducible refine (IN _).mono ?_);rintro e4 w4 ⟨rfl,q4⟩;have S4:=Lib.hid (S3.out.below q4);have K4:=Lib.hid (K3.out.trans (KX.of_below (b:=b) q4) F3.out);have F4:=F3;have PC:=place_is S4.out HN.out;clear IN;clear q4)) | (go_at_call 102;(with_reducible refine (PC).mono ?_);rintro e5 w5 ⟨rfl,q5⟩;have S5:=Lib.hid (S4.out.below q5);have K5:=Lib.hid (K4.out.trans (KX.of_below (b:=b) q5) F4.out);have F5:=F4;clear PC;clear q5))
       clear b5
       have b1:=S5.out.c1;have f1:=S5.out.f 1
       go_upto_region 22 with fail
       have S6:Hid (St L En B b (.slice ao N lc) (w5.setCell ⟨b,1,none⟩ (.int .i64 ((q.a:Int)+1))) tq (upR q)):=Lib.hid (S5.out.setA (q.a+1))
       have K6:=Lib.hid (K5.out.set 1 (.int .i64 ((q.a:Int)+1)))
       have F6:=F5
       obtain ⟨W6,hW6⟩:∃ W,Hid (w5.setCell ⟨b,1,none⟩ (.int .i64 ((q.a:Int)+1))=W):=⟨_,Lib.hid rfl⟩
       rw [hW6.out] at S6 K6
       rw [hW6.out]
       clear hW6 b1 f1 S5 K5
       have EXC6:=EXC W6 tq (by have:=HL6.out;omega) (by have:=HZ.out;omega) IU.out HMU.out S6.out
       clear EXC
       obtain ⟨⟨t7,x7⟩,hr7⟩:∃ r,Hid (runR L En g (.ex (l+1)) (upR q)=r):=⟨_,Lib.hid rfl⟩
       rw [hr7.out] at EXC6 IV2 HR2 IG
       simp only at IV2 HR2 IG
       go_upto_region 23 with (go_at_call 49;(with_reducible refine (EXC6).mono ?_);rintro e7 w7 ⟨rfl,tv7,s7,k7,fr7⟩;have K7:=Lib.hid (K6.out.trans k7 F6.out);have F7:=Lib.hid (F6.out.trans fr7 K6.out.size);have S7:=Lib.hid s7;clear EXC6;clear s7 k7 fr7)
       have PUT:=put_is S7.out (by have:=IV2.out.t;have:=IV2.out.a;have:=HL.out;have:fl t7≤1:=(by unfold fl;split<;>omega);omega) op (placeR L En q) x x7 (-1)
       by_cases h3:l=3
       ·have z3:decide (z=3)=true:=decide_eq_true (by have:=HZ.out;omega)
        have z3b:(z==3)=true:=by simp;have:=HZ.out;omega
        have HR3:=Lib.hid (HR2.out.trans (if_pos h3))
        clear h3 HR2
        go_wp2_with (go_at_call 104;(with_reducible refine (PUT).mono ?_);rintro e8 w8 ⟨rfl,tv8,s8,k8,fr8⟩;have K8:=Lib.hid (K7.out.trans k8 F7.out);have F8:=Lib.hid (F7.out.trans fr8 K7.out.size);have S8:=Lib.hid s8;clear PUT;clear s8 k8 fr8)
        go_ret
        rw [HR3.out]
        exact ⟨rfl,_,S8.out,K8.out,F8.out⟩
       ·have z3:decide (z=3)=false:=decide_eq_false (by have:=HZ.out;omega)
        have z3b:(z==3)=false:=by simp;have:=HZ.out;omega
        have HR3:=Lib.hid (HR2.out.trans (if_neg h3))
        have GG:Hid (Gt N 0 0 q (putR op (placeR L En q) x x7 (-1) t7).1):=Lib.hid (((gt_up HLT.out).trans IG.out rfl rfl).trans (gt_add ⟨op,0,0,[],0,x,x7, -1,placeR L En q⟩ IG.out.n) rfl rfl |>.fin (by omega) (by omega))
        have LTA:Hid (q.a<(putR op (placeR L En q) x x7 (-1) t7).1.a):=Lib.hid (by show q.a<t7.a;have:q.a+1≤t7.a:=IG.out.a;omega)
        have MU3:Hid (muR N (.lo l (putR op (placeR L En q) x x7 (-1) t7).2) (putR op (placeR L En q) x x7 (-1) t7).1.a≤g):=Lib.hid (by have:=MU.out;have:=LTA.out;have:=GG.out.n;simp only [muR] at*;omega)
        have AO:=Lib.hid (atOf_is S0.out)
        clear h3 HR2
        go_wp2_with (go_at_call 104;(with_reducible refine (PUT).mono ?_);rintro e8 w8 ⟨rfl,tv8,s8,k8,fr8⟩;have K8:=Lib.hid (K7.out.trans k8 F7.out);have F8:=Lib.hid (F7.out.trans fr8 K7.out.size);have S8:=Lib.hid s8;clear PUT;clear s8 k8 fr8)
        refine ⟨⟨g,_,_,_,rfl,Nat.le_of_succ_le HG.out,MU3.out,HR3.out.symm,S8.out,K8.out,F8.out,IQ.out.of GG.out⟩,?_⟩
        rw [atOf_is S8.out,AO.out]
        have:=LTA.out;have:=GG.out.n;omega
      ·have HRES:(q,x)=res:=by rw [←HR.out];simp only [runR];rw [if_neg hc]
       by_cases he:q.e=0
       ·have hop0:infixR l (nextR L q)=0:=by
         rcases Classical.em (infixR l (nextR L q)=0) with k | k
         ·exact k
         ·exact absurd ⟨he,k⟩ hc
        have y1:decide (q.e=0)=true:=decide_eq_true he
        have y2:(q.e==0)=true:=by simpa using he
        have IN:=fun w=>infix_is (w:=w) l (by have:=HL6.out;omega) (nextR L q)
        rw [←HZ.out,hop0] at IN
        obtain ⟨U,hU⟩:∃ S,Hid (bs (nextR L q)=S):=⟨_,Lib.hid rfl⟩
        rw [hU.out] at NX IN
        unfold U8P at IN
        clear hc hop0 he hU HR
        go_wp2_with (first | (go_at_call 101;(with_reducible refine (NX).mono ?_);rintro e1 w1 ⟨rfl,q1⟩;have S1:=Lib.hid (S0.out.below q1);have K1:=Lib.hid (K0.out.trans (KX.of_below (b:=b) q1) F0.out);have F1:=F0;clear NX;clear q1) | (go_at_call 105;(with_reducible refine (IN _).mono ?_);rintro e2 w2 ⟨rfl,q2⟩;have S2:=Lib.hid (S1.out.below q2);have K2:=Lib.hid (K1.out.trans (KX.of_below (b:=b) q2) F1.out);have F2:=F1;clear IN;clear q2))
        go_ret
        rw [←HRES]
        exact ⟨rfl,_,S2.out,K2.out,F2.out⟩
       ·have y1:decide (q.e=0)=false:=decide_eq_false he
        have y2:(q.e==0)=false:=by simpa using he
        clear hc he HR NX
        go_wp2_with fail
        go_ret
        rw [←HRES]
        exact ⟨rfl,_,SQ.out,KQ.out,FQ.out⟩
 ·have E:runR L En (f+1) (.ex l) s=(s, -1):=by simp only [runR];rw [if_neg h0]
  rw [E]
  have d1:decide (s.e=0)=false:=decide_eq_false h0
  have d2:(s.e !=0)=true:=by simpa using h0
  clear h hN hl HE HA hi hm hl7 hz E h0
  go_enter Tryz.func49,Tryz.ntmps49
  go_wp2_with fail
  go_ret
  exact ⟨rfl,_,S0.out,K0.out,F0.out⟩
end
end Go.Proofs.YteagpbkbdlmdiaaGreat.Ps
