/-
  The document's Parse of a number, walked.
-/
import Derived.Test.YteagpbkbdlmdiaaGreatQ22
set_option linter.unusedSimpArgs false
set_option linter.unusedVariables false
namespace Go.Proofs.YteagpbkbdlmdiaaGreat.Tx
open Go Go.RowKit Dt
attribute [local go_sem ↓] Go.wp_at_zero Go.wp_at_succ
theorem Rd.end_ {t:List UInt8} {v:Nat} {pt:Option Nat} (h:Rd t t.length pt v):∃ a b:List UInt8,cutP t=(a,b,pt.isSome)∧a.all isDg=true∧b.all isDg=true∧v=val (a++b)∧(pt=none→a=t∧b=[])∧(∀ p,pt=some p→a.length=p∧p+1+b.length=t.length∧0<p∧b=t.drop (p+1)∧a=t.take p):=by
 cases pt with
 | none=>
  obtain ⟨x,y⟩:=h.no rfl
  rw [List.take_length] at x y
  exact ⟨t,[],cutP_none x,x,rfl,by rw [y,List.append_nil],fun _=>⟨rfl,rfl⟩,fun p hp=>by cases hp⟩
 | some p=>
  obtain ⟨a1,a2,a3,a4,a5,a6⟩:=h.yes p rfl
  rw [List.take_length] at a5 a6
  refine ⟨t.take p,t.drop (p+1),cutP_some a4 a3,a4,a5,a6,fun hp=>(by cases hp),fun q hq=>?_⟩
  cases hq
  exact ⟨by rw [List.length_take];omega,by rw [List.length_drop];omega,a2,rfl,rfl⟩
def first (l:List UInt8):Nat:=if l.head?=some 45 then 1 else 0
theorem body_at (l:List UInt8) (k:Nat):l[first l+k]?=(body l)[k]?∧l.length=first l+(body l).length:=by
 unfold first body
 cases l with
 | nil=>simp
 | cons c r=>
  by_cases h:c=45
  ·subst h;simp [Nat.add_comm]
  ·simp [h]
def ptv (l:List UInt8):Option Nat→Int
 | none=> -1
 | some p=>((first l+p:Nat):Int)
def PR (l:List UInt8) (w:World) (i8:Nat) (s4 s5:Value) (wx:World):Prop:=
 ∃ (k v:Nat) (pt:Option Nat) (b:Bool) (al:Option Addr) (n c:Nat),s4=.int .i64 ((first l+k:Nat):Int)∧s5=.int .i64 (ptv l pt)∧Hid (k≤(body l).length)∧Hid (Rd (body l) k pt v)∧
  Hid (BoxAt wx i8 (.bool b) (.slice al n c))∧Hid (Num 8 wx (.agg #[.bool b,.slice al n c]) (v:Int))∧Hid (Two wx w.heap.size 0 0)∧Hid (Below w.heap.size w wx)∧Hid (v<10 ^ k)
theorem word0 (w:World):Calls Tryz.prog 141 #[.int .u64 0] w (NumPost 7 0 w):=word_any 0 w (by omega) (by omega)
set_option maxRecDepth 100000 in
set_option maxHeartbeats 4000000 in
theorem drparse_is {w:World} (l:List UInt8) (hl:l.length≤1000):Calls Tryz.prog 99 #[.string (bs l)] w (DpPost (dparse l) w):=by
 have hz:(bs l).size=l.length:=bs_size l
 obtain ⟨N,hN⟩:∃ N,Hid (l.length=N):=⟨_,rfl⟩
 rw [hN.out] at hz
 have B0:=Lib.hid (ba w (.cells #[.int .i64 0,.int .i64 0] 30))
 have T0:=Lib.hid (Two.new w 0 0)
 by_cases h21:21<N
 ·have r:=Lib.hid (show dparse l=((0,0),3) from by unfold dparse;rw [if_pos (by rw [hN.out];exact h21)])
  have d1:decide (21<N)=true:=by simpa using h21
  have d2:decide (21<(N:Int))=true:=by simp;omega
  obtain ⟨S,hS⟩:∃ S,Hid (bs l=S):=⟨_,rfl⟩
  rw [hS.out] at hz⊢
  clear h21 hS hl
  go_enter Tryz.func99,Tryz.ntmps99
  go_wp2_with fail
  refine bodyPost_ret (v:=.tuple #[.agg #[.int .i64 _,.int .i64 _],.int .i64 _]) (results_cell2 (fn:=Tryz.f99) (p:=2) (u:=3) rfl _ _ w.heap.size _ _ (0,0) _ rfl T0.out Tryz.underlying30 rfl (by kernel_rfl)) rfl ?_
  exact DpPost.mk r.out B0.out
 ·have d1:decide (21<N)=false:=by simpa using h21
  have d2:decide (21<(N:Int))=false:=by simp;omega
  have HN:=Lib.hid h21
  obtain ⟨RES,hRES⟩:∃ r,Hid (dparse l=r):=⟨_,rfl⟩
  rw [hRES.out]
  have xl:=fun k c h=>at_byte l k c h
  obtain ⟨S,hS⟩:∃ S,Hid (bs l=S):=⟨_,rfl⟩
  rw [hS.out] at hz xl⊢
  have HXL:=Lib.hid xl
  clear h21 hl xl
  go_enter Tryz.func99,Tryz.ntmps99
  go_upto_region 4 with fail
  obtain ⟨wa,hwa⟩:∃ v,Hid (v=w.alloc (.cells #[.int .i64 0,.int .i64 0] 30)):=⟨_,rfl⟩
  rw [←hwa.out] at B0 T0⊢
  clear hwa
  obtain ⟨ng,hng⟩:∃ b,Hid (decide (l.head?=some 45)=b):=⟨_,rfl⟩
  go_cut [6] (fun s6 wx=>s6=.bool ng∧wa=wx)
  case first=>
   cases l with
   | nil=>
    have hn0:N=0:=hN.out.symm
    subst hn0
    have hng2:=hng.out
    subst hng2
    go_wp2_with fail
    go_meet
    case rel=>exact ⟨rfl,rfl⟩
   | cons c r=>
    have hp:0<N:=by rw [←hN.out];simp
    have p1:decide (0<N)=true:=by simpa using hp
    have p2:decide (0<(N:Int))=true:=by simp;omega
    have p3:(0:Int)<(N:Int):=by omega
    have i0:∀ w,(Instr.index 9 (.string S) (.int .i64 0)).run Tryz.prog w=.ok (.int .u8 (c.toNat:Int)) w:=HXL.out 0 c rfl
    by_cases c45:c=45
    ·subst c45
     have hng2:=hng.out
     subst hng2
     have i0':∀ w,(Instr.index 9 (.string S) (.int .i64 0)).run Tryz.prog w=.ok (.int .u8 45) w:=i0
     clear hp i0
     go_wp2_with fail
     go_meet
     case rel=>exact ⟨rfl,rfl⟩
    ·have hng2:ng=false:=by rw [←hng.out];simp [c45]
     subst hng2
     have xn:c.toNat ≠ 45:=fun h=>c45 (UInt8.toNat.inj h)
     have q1:decide (c.toNat=45)=false:=by simpa using xn
     have q2:((c.toNat:Int)==45)=false:=by simp;omega
     clear hp xn c45
     go_wp2_with fail
     go_meet
     case rel=>exact ⟨rfl,rfl⟩
  case rest=>
   obtain ⟨rfl,rfl⟩:=hcut
   have hfi:Hid (first l=if ng=true then 1 else 0):=by
    show _=_
    unfold first;rw [←hng.out];simp
   obtain ⟨F,hF⟩:∃ n,Hid (first l=n):=⟨_,rfl⟩
   rw [hF.out] at hfi
   go_upto_if 25 with fail
   go_cut [4] (fun s4 wx=>s4=.int .i64 (F:Int)∧wa=wx)
   case first=>
    cases ng with
    | true=>
     have e:F=1:=hfi.out
     subst e
     go_wp2_with fail
     go_meet
     case rel=>exact ⟨rfl,rfl⟩
    | false=>
     have e:F=0:=hfi.out
     subst e
     go_wp2_with fail
     go_meet
     case rel=>exact ⟨rfl,rfl⟩
   case rest=>
    obtain ⟨rfl,rfl⟩:=hcut
    have W0:=word0 wa
    go_upto_region 9 with (go_at_call 141;(with_reducible refine W0.mono ?_);rintro e1 w1 ⟨v1,hv1,rfl,b1⟩;obtain ⟨b0,a0,n0,c0,rfl⟩:=num_agg hv1;have N1:=Lib.hid (num_len (j:=8) hv1 (by decide));have B1:=Lib.hid (bt B0.out b1);have T1:=Lib.hid (T0.out.below b1);clear hv1 b1 W0)
    have BA:=ba w1 (.cells #[.bool b0,.slice a0 n0 c0] 147)
    have X2:=Lib.hid (boxAt_new w1 (.bool b0) (.slice a0 n0 c0));have N2:=Lib.hid (num_below N1.out BA);have B2:=Lib.hid (bt B1.out BA);have T2:=Lib.hid (T1.out.below BA)
    have L2:=Lib.hid (show w.heap.size<w1.heap.size from T1.out.lt)
    obtain ⟨i8,hi8⟩:∃ i,Hid (w1.heap.size=i):=⟨_,rfl⟩
    rw [hi8.out] at X2 L2⊢
    go_loopw [4,5] (fun s4 s5 wr=>PR l w i8 s4 s5 wr) (fun s4 _ _=>N - (intOf s4).toNat)
    case atStart=>exact ⟨0,0,none,b0,a0,n0,c0,by rw [hF.out];rfl,rfl,Nat.zero_le _,Rd.start _,X2,N2,T2,B2,(by show (0:Nat)<10 ^ 0;decide)⟩
    case round=>
     clear X2 N2 T2 B2 N1 T1 B1 BA
     obtain ⟨wo,rfl⟩:∃ wo:World,wo=wr:=⟨_,rfl⟩
     obtain ⟨k,v,pt,b,al,n,c,rfl,rfl,HK,HR,HL,HU,HT,HB,HV⟩:=hrel
     obtain ⟨bat,blen⟩:=body_at l k
     obtain ⟨A,hA⟩:∃ n,Hid (first l+k=n):=⟨_,rfl⟩
     obtain ⟨tl,htl⟩:∃ n,Hid ((body l).length=n):=⟨_,rfl⟩
     rw [hA.out] at bat
     rw [htl.out,hF.out,hN.out] at blen
     rw [htl.out] at HK
     rw [hF.out] at hA
     have HBL:=Lib.hid blen
     rw [show first l+k=A from by rw [hF.out];exact hA.out]
     have f0:=HT.out.f 0;have f1:=HT.out.f 1;have c0:=HT.out.c0;have c1:=HT.out.c1
     have kA:IntKind.i64.wrap ((A:Int)+1)=(A:Int)+1:=by rw [IntWalk.i64_left];exact IntWalk.wrap64_in _ (by have:=HK.out;have:=HN.out;have:=hA.out;omega)
     by_cases hkt:k<tl
     ·have a1:decide (A<N)=true:=by simp;have:=hA.out;omega
      have a2:decide ((A:Int)<(N:Int))=true:=by simp;have:=hA.out;omega
      have a3:(A:Int)<(N:Int):=by have:=hA.out;omega
      have a4:(0:Int)≤(A:Int):=by omega
      obtain ⟨cc,hc⟩:∃ c,(body l)[k]?=some c:=⟨_,List.getElem?_eq_getElem (by rw [htl.out];exact hkt)⟩
      have ix:=HXL.out A cc (bat.trans hc)
      have HC:=Lib.hid hc;have HKT:=Lib.hid hkt
      have hbad:=fun h1 h2=>HR.out.bad (by rw [hN.out];exact HN.out) hc h1 h2
      rw [hRES.out] at hbad
      have HBAD:=Lib.hid hbad
      obtain ⟨x,hx⟩:∃ x,Hid (cc.toNat=x):=⟨_,rfl⟩
      rw [hx.out] at ix
      have hcx:∀ m:UInt8,x=m.toNat→cc=m:=fun m h=>UInt8.toNat.inj (by rw [hx.out,h])
      have HCX:=Lib.hid hcx
      clear bat blen hc hkt hbad hcx
      by_cases x46:x=46
      ·subst x46
       have c46:=Lib.hid (HCX.out 46 rfl)
       cases pt with
       | none=>
        rw [show ptv l none=(-1:Int) from rfl]
        by_cases k0:0<k
        ·have p1:decide (F<A)=true:=by simp;have:=hA.out;omega
         have p2:decide ((F:Int)<(A:Int))=true:=by simp;have:=hA.out;omega
         have HK0:=Lib.hid k0
         clear k0
         go_wp2_with fail
         refine ⟨⟨k+1,v,some k,b,al,n,c,?_,?_,by show _≤_;rw [htl.out];have:=HKT.out;omega,HR.out.dot (by rw [HC.out,c46.out]) HK0.out,HL,HU,HT,HB,Nat.lt_of_lt_of_le HV.out (Nat.pow_le_pow_right (by decide) (by omega))⟩,?_⟩
         ·have:=hA.out;rw [hF.out,show F+(k+1)=A+1 by omega];rfl
         ·have:=hA.out;show Value.int .i64 _=Value.int .i64 ((first l+k:Nat):Int);rw [hF.out,this]
         ·show N - ((A:Int)+1).toNat<N - ((A:Int)).toNat;have:=HBL.out;have:=HKT.out;have:=hA.out;omega
        ·have rr:=Lib.hid (HBAD.out (by rw [c46.out];rfl) (fun h=>k0 h.2.2))
         have p1:decide (F<A)=false:=by simp;have:=hA.out;omega
         have p2:decide ((F:Int)<(A:Int))=false:=by simp;have:=hA.out;omega
         clear k0
         go_wp2_with fail
         refine bodyPost_ret (v:=.tuple #[.agg #[.int .i64 _,.int .i64 _],.int .i64 _]) (results_cell2 (fn:=Tryz.f99) (p:=2) (u:=3) rfl _ _ w.heap.size _ _ (0,0) _ rfl (HT.out.set _ _) Tryz.underlying30 rfl (by kernel_rfl)) rfl ?_
         exact DpPost.mk rr.out (Below.setCell (Below.setCell HB.out (p:=⟨w.heap.size,0,none⟩) (Nat.le_refl _) _) (p:=⟨w.heap.size,1,none⟩) (Nat.le_refl _) _)
       | some p=>
        have rr:=Lib.hid (HBAD.out (by rw [c46.out];rfl) (fun h=>by cases h.2.1))
        obtain ⟨Q,hQ⟩:∃ q:Nat,first l+p=q:=⟨_,rfl⟩
        rw [show ptv l (some p)=((Q:Nat):Int) from by show ((first l+p:Nat):Int)=_;rw [hQ]]
        have p2:decide ((Q:Int)<0)=false:=by first | (simp;done) | (simp;omega)
        clear hQ
        go_wp2_with fail
        refine bodyPost_ret (v:=.tuple #[.agg #[.int .i64 _,.int .i64 _],.int .i64 _]) (results_cell2 (fn:=Tryz.f99) (p:=2) (u:=3) rfl _ _ w.heap.size _ _ (0,0) _ rfl (HT.out.set _ _) Tryz.underlying30 rfl (by kernel_rfl)) rfl ?_
        exact DpPost.mk rr.out (Below.setCell (Below.setCell HB.out (p:=⟨w.heap.size,0,none⟩) (Nat.le_refl _) _) (p:=⟨w.heap.size,1,none⟩) (Nat.le_refl _) _)
      ·obtain ⟨P5,hP5⟩:∃ z:Int,Hid (ptv l pt=z):=⟨_,rfl⟩
       rw [hP5.out]
       have q1:decide (x=46)=false:=by simpa using x46
       have q2:((x:Int)==46)=false:=by simp;omega
       by_cases x48:x<48
       ·have rr:=Lib.hid (HBAD.out (by unfold isDg;rw [hx.out];simp;omega) (fun h=>x46 (by rw [←hx.out,h.1];rfl)))
        have q3:decide (x<48)=true:=by simpa using x48
        have q4:decide ((x:Int)<48)=true:=by simp;omega
        clear x46 x48
        go_wp2_with fail
        refine bodyPost_ret (v:=.tuple #[.agg #[.int .i64 _,.int .i64 _],.int .i64 _]) (results_cell2 (fn:=Tryz.f99) (p:=2) (u:=3) rfl _ _ w.heap.size _ _ (0,0) _ rfl (HT.out.set _ _) Tryz.underlying30 rfl (by kernel_rfl)) rfl ?_
        exact DpPost.mk rr.out (Below.setCell (Below.setCell HB.out (p:=⟨w.heap.size,0,none⟩) (Nat.le_refl _) _) (p:=⟨w.heap.size,1,none⟩) (Nat.le_refl _) _)
       ·have q3:decide (x<48)=false:=by simpa using x48
        have q4:decide ((x:Int)<48)=false:=by simp;omega
        by_cases x57:57<x
        ·have rr:=Lib.hid (HBAD.out (by unfold isDg;rw [hx.out];simp;omega) (fun h=>x46 (by rw [←hx.out,h.1];rfl)))
         have q5:decide (57<x)=true:=by simpa using x57
         have q6:decide (57<(x:Int))=true:=by simp;omega
         clear x46 x48 x57
         go_wp2_with fail
         refine bodyPost_ret (v:=.tuple #[.agg #[.int .i64 _,.int .i64 _],.int .i64 _]) (results_cell2 (fn:=Tryz.f99) (p:=2) (u:=3) rfl _ _ w.heap.size _ _ (0,0) _ rfl (HT.out.set _ _) Tryz.underlying30 rfl (by kernel_rfl)) rfl ?_
         exact DpPost.mk rr.out (Below.setCell (Below.setCell HB.out (p:=⟨w.heap.size,0,none⟩) (Nat.le_refl _) _) (p:=⟨w.heap.size,1,none⟩) (Nat.le_refl _) _)
        ·have q5:decide (57<x)=false:=by simpa using x57
         have q6:decide (57<(x:Int))=false:=by simp;omega
         have HDG:=Lib.hid (show isDg cc=true from by unfold isDg;rw [hx.out];simp;omega)
         have HX9:=Lib.hid (show 48≤x∧x≤57 from by omega)
         clear x46 x48 x57
         go_upto_region 15 with fail
         have u1:IntKind.u8.wrap ((x:Int) - 48)=(x:Int) - 48:=by rw [IntKind.wrap_u8];have:=HX9.out;omega
         have u2:IntKind.u64.wrap ((x:Int) - 48)=(x:Int) - 48:=by rw [IntKind.wrap_u64];have:=HX9.out;omega
         have WD:=fun w=>word_any ((x:Int) - 48) w (by have:=HX9.out;omega) (by have:=HX9.out;omega)
         have e1:=HL.out.c0;have e2:=HL.out.c1
         have hvx:Hid ((v:Int)*10+((x:Int) - 48)=((v*10+Dt.dv cc:Nat):Int)):=by show _=_;unfold Dt.dv;rw [hx.out];have:=HX9.out;omega
         have hvb:Hid (v*10+Dt.dv cc<10 ^ (k+1)):=by show _<_;have:=HV.out;have:=dv_lt HDG.out;rw [Nat.pow_succ];omega
         have hvc:Hid (((v*10+Dt.dv cc:Nat):Int).natAbs<1000 ^ 8):=by
          show _<_
          rw [Int.natAbs_natCast]
          have h1:=Nat.pow_le_pow_right (n:=10) (by decide) (show k+1≤21 by have:=HKT.out;have:=HBL.out;have:=HN.out;omega)
          have h2:(10:Nat) ^ 21<1000 ^ 8:=by decide
          have:=hvb.out
          omega
         go_region_law (first
          | (go_simp;go_at_call 141;(with_reducible refine (word10 _).mono ?_);rintro e w5 ⟨vz,hz,rfl,b5⟩;obtain ⟨bz,az,nz,cz,rfl⟩:=num_agg hz;have HZ:=Lib.hid hz;have B5:=Lib.hid (show Below wo.heap.size wo w5 from bt ((Below.refl _ _).drew) b5);have g1:=(boxAt_below HL.out B5.out).c0;have g2:=(boxAt_below HL.out B5.out).c1;clear hz b5)
          | (go_simp;go_at_call 135;(with_reducible refine (mul_any 8 7 _ _ (v:Int) 10 _ (num_below HU.out B5.out) HZ.out (by omega) (by omega)).mono ?_);rintro e w6 ⟨vm,hm,rfl,b6⟩;obtain ⟨bm,am,nm,cm,rfl⟩:=num_agg hm;have HM6:=Lib.hid hm;have B6:=Lib.hid (bt B5.out b6);clear hm b6)
          | (go_simp;go_at_call 141;(with_reducible refine (WD _).mono ?_);rintro e w7 ⟨vd,hd,rfl,b7⟩;obtain ⟨bd,ad,nd,cd,rfl⟩:=num_agg hd;have HD7:=Lib.hid hd;have HM7:=Lib.hid (num_below HM6.out b7);have B7:=Lib.hid (bt B6.out b7);clear hd b7)
          | (go_simp;go_at_call 134;(with_reducible refine (add_any (8+7) 7 _ _ ((v:Int)*10) ((x:Int) - 48) _ HM7.out HD7.out (by omega) (by omega)).mono ?_);rintro e w8 ⟨vs,hs,rfl,b8⟩;obtain ⟨bs2,as2,ns2,cs2,rfl⟩:=num_agg hs;have HS8:=Lib.hid hs;have B8:=Lib.hid (bt B7.out b8);have HR8:=Lib.hid (boxAt_below HL.out B8.out);have r0:=HR8.out.c0;have r1:=HR8.out.c1;have r2:=HR8.out.f0;have r3:=HR8.out.f1;clear hs b8))
         all_goals
          go_wp2_with fail
          have hne:w.heap.size ≠ i8:=by have:=L2.out;omega
          refine ⟨⟨k+1,v*10+Dt.dv cc,pt,bs2,as2,ns2,cs2,?_,?_,by show _≤_;rw [htl.out];have:=HKT.out;omega,HR.out.dig HC.out HDG.out,boxAt_set2 _ _ HR8.out,num_set2 _ _ (num_len (num_cast HS8.out hvx.out) hvc.out) HR8.out,?_,((bt HB.out B8.out).setCell (p:=⟨i8,0,none⟩) (by show _≤i8;have:=L2.out;omega) _).setCell (p:=⟨i8,1,none⟩) (by show _≤i8;have:=L2.out;omega) _,hvb⟩,?_⟩
          ·have:=hA.out;rw [hF.out,show F+(k+1)=A+1 by omega];rfl
          ·exact congrArg (Value.int .i64) hP5.out.symm
          ·exact dAt_other _ _ (dAt_other _ _ (show DAt _ _ _ _ from HT.out.below B8.out) hne) hne
          ·show N - ((A:Int)+1).toNat<N - ((A:Int)).toNat;have:=HBL.out;have:=HKT.out;have:=hA.out;omega
     ·have hke:k=tl:=by have:=HK.out;omega
      have a1:decide (A<N)=false:=by simp;have:=hA.out;have:=HBL.out;omega
      have a2:decide ((A:Int)<(N:Int))=false:=by simp;have:=hA.out;have:=HBL.out;omega
      obtain ⟨va,vb,hcut,da,db,hval,hnone,hsome⟩:=Rd.end_ (show Rd (body l) (body l).length pt v from by rw [htl.out,←hke];exact HR.out)
      have EQ:Hid (RES=if wBad va=true∨(pt.isSome=true∧rBad vb=true)∨l=[45,48] then ((0,0),4) else if Fit (sg ng v) then ((sg ng v,(vb.length:Int)),0) else ((0,0),11)):=by
       show _=_
       rw [←hRES.out]
       unfold dparse
       rw [if_neg (by rw [hN.out];exact HN.out),hcut]
       dsimp only
       rw [←hval,show neg l=ng from hng.out]
      have hdig:∀ t:List UInt8,t.all isDg=true→t ≠ []→digs t=true:=fun t h h2=>by
       unfold digs;rw [h];cases t;exact absurd rfl h2;rfl
      have kF:IntKind.i64.wrap ((F:Int)+1)=((F+1:Nat):Int):=by rw [IntWalk.i64_left,IntWalk.wrap64_in _ (by have:=HN.out;have:=HBL.out;omega)];rfl
      obtain ⟨F1,hF1⟩:∃ n,Hid (F+1=n):=⟨_,rfl⟩
      rw [hF1.out] at kF
      have LE:=bs_toList l
      rw [hS.out] at LE
      have hne48:l ≠ [45,48]→(S.toList==[45,48])=false:=fun h=>by rw [LE,beq_eq_false_iff_ne];exact h
      have heq48:l=[45,48]→(S.toList==[45,48])=true:=fun h=>by rw [LE,h];rfl
      have HNE:=Lib.hid hne48;have HEQ:=Lib.hid heq48;have HDI:=Lib.hid hdig
      have b0:=body_at l 0
      rw [hF.out,Nat.add_zero] at b0
      have HB0:=Lib.hid b0.1
      have HDA:=Lib.hid da;have HDB:=Lib.hid db;have HNO:=Lib.hid hnone;have HSO:=Lib.hid hsome
      clear LE hne48 heq48 hdig b0 da db hnone hsome hcut hval blen bat hkt hke
      cases pt with
      | none=>
       rw [show ptv l none=(-1:Int) from rfl]
       obtain ⟨hva,hvb⟩:=HNO.out rfl
       subst hva
       subst hvb
       clear HNO HSO
       by_cases ht0:tl=0
       ·have hb:body l=[]:=List.length_eq_zero_iff.1 (by rw [htl.out];exact ht0)
        have rr:=Lib.hid (show RES=((0,0),4) from EQ.out.trans (if_pos (.inl (by rw [hb];rfl))))
        have g1:decide (N=F)=true:=by simp;have:=HBL.out;omega
        have g2:((N:Int)==(F:Int))=true:=by simp;have:=HBL.out;omega
        clear ht0 hb
        go_wp2_with fail
        refine bodyPost_ret (v:=.tuple #[.agg #[.int .i64 _,.int .i64 _],.int .i64 _]) (results_cell2 (fn:=Tryz.f99) (p:=2) (u:=3) rfl _ _ w.heap.size _ _ (0,0) _ rfl (HT.out.set _ _) Tryz.underlying30 rfl (by kernel_rfl)) rfl ?_
        exact DpPost.mk rr.out (Below.setCell (Below.setCell HB.out (p:=⟨w.heap.size,0,none⟩) (Nat.le_refl _) _) (p:=⟨w.heap.size,1,none⟩) (Nat.le_refl _) _)
       ·have hb:body l ≠ []:=fun h=>ht0 (by rw [←htl.out,h];rfl)
        have hdg:=HDI.out _ HDA.out hb
        have g1:decide (N=F)=false:=by simp;have:=HBL.out;omega
        have g2:((N:Int)==(F:Int))=false:=by simp;have:=HBL.out;omega
        obtain ⟨y,hy⟩:∃ c,(body l)[0]?=some c:=⟨_,List.getElem?_eq_getElem (by rw [htl.out];omega)⟩
        have hy':(body l).head?=some y:=by rw [List.head?_eq_getElem?];exact hy
        have iy:=HXL.out F y (HB0.out.trans hy)
        have g3:(F:Int)<(N:Int):=by have:=HBL.out;omega
        obtain ⟨yy,hyy⟩:∃ n,Hid (y.toNat=n):=⟨_,rfl⟩
        rw [hyy.out] at iy
        have HDG2:=Lib.hid hdg;have HY:=Lib.hid hy'
        clear hb hdg hy hy' ht0
        have key:(1<tl∧yy=48)∨(wBad (body l)=false∧(yy ≠ 48∨(yy=48∧¬1<tl))):=by
         have hw:wBad (body l)=(decide (1<tl) && decide (y=48)):=by unfold wBad;rw [HDG2.out,HY.out,htl.out];simp
         have hyeq:y=48↔yy=48:=⟨fun h=>by rw [←hyy.out,h];rfl,fun h=>UInt8.toNat.inj (by rw [hyy.out,h];rfl)⟩
         by_cases k2:yy=48
         ·by_cases k1:1<tl
          ·exact .inl ⟨k1,k2⟩
          ·exact .inr ⟨by rw [hw];simp [k1],.inr ⟨k2,k1⟩⟩
         ·exact .inr ⟨by rw [hw];simp;intro _ h;exact k2 (hyeq.1 h),.inl k2⟩
        have HKEY:=Lib.hid key
        clear key
        rcases HKEY.out with ⟨k1,k2⟩ | ⟨hwb,kk⟩
        ·have h48:y=48:=UInt8.toNat.inj (by rw [hyy.out,k2];rfl)
         have rr:=Lib.hid (show RES=((0,0),4) from EQ.out.trans (if_pos (.inl (by unfold wBad;rw [HDG2.out,HY.out,htl.out,h48];simp [k1]))))
         have q1:decide (F1<N)=true:=by simp;have:=HBL.out;have:=hF1.out;omega
         have q2:decide ((F1:Int)<(N:Int))=true:=by simp;have:=HBL.out;have:=hF1.out;omega
         subst k2
         clear k1 h48
         go_wp2_with fail
         refine bodyPost_ret (v:=.tuple #[.agg #[.int .i64 _,.int .i64 _],.int .i64 _]) (results_cell2 (fn:=Tryz.f99) (p:=2) (u:=3) rfl _ _ w.heap.size _ _ (0,0) _ rfl (HT.out.set _ _) Tryz.underlying30 rfl (by kernel_rfl)) rfl ?_
         exact DpPost.mk rr.out (Below.setCell (Below.setCell HB.out (p:=⟨w.heap.size,0,none⟩) (Nat.le_refl _) _) (p:=⟨w.heap.size,1,none⟩) (Nat.le_refl _) _)
        ·rcases kk with k2 | ⟨k2,k1⟩
         ·have q1:decide (yy=48)=false:=by simpa using k2
          have q2:((yy:Int)==48)=false:=by simp;omega
          clear k2
          have HWB:=Lib.hid hwb
          clear hwb
          by_cases hm:l=[45,48]
          ·have ec:=HEQ.out hm
           have rr:=Lib.hid (show RES=((0,0),4) from EQ.out.trans (if_pos (.inr (.inr hm))))
           clear hm
           go_wp2_with fail
           refine bodyPost_ret (v:=.tuple #[.agg #[.int .i64 _,.int .i64 _],.int .i64 _]) (results_cell2 (fn:=Tryz.f99) (p:=2) (u:=3) rfl _ _ w.heap.size _ _ (0,0) _ rfl (HT.out.set _ _) Tryz.underlying30 rfl (by kernel_rfl)) rfl ?_
           exact DpPost.mk rr.out (Below.setCell (Below.setCell HB.out (p:=⟨w.heap.size,0,none⟩) (Nat.le_refl _) _) (p:=⟨w.heap.size,1,none⟩) (Nat.le_refl _) _)
          ·have ec:=HNE.out hm
           have er:=Lib.hid (EQ.out.trans (if_neg (by rw [HWB.out];rintro (h | h | h);exact Bool.noConfusion h;exact Bool.noConfusion h.1;exact hm h)))
           rw [show (([]:List UInt8).length:Int)=0 from rfl] at er
           clear hm
           have e1:=HL.out.c0;have e2:=HL.out.c1;have e3:=HL.out.f0;have e4:=HL.out.f1
           cases ng with
           | false=>
            rw [show sg false v=(v:Int) from rfl] at er
            clear f0 f1 c0 c1
            by_cases hf:Fit ((v:Int))
            ·have rr:=Lib.hid (er.out.trans (if_pos hf))
             have SM:=small_f 8 _ (.tuple #[.int .i64 ((v:Int)),.bool true]) ((v:Int)) wo HU.out (by omega) (if_pos hf)
             clear hf
             go_wp2_with (go_at_call 142;(with_reducible refine SM.mono ?_);rintro e9 w9 ⟨rfl,b9⟩;have B9:=Lib.hid (bt HB.out b9);have T9:=Lib.hid (HT.out.below b9);have y0:=T9.out.c0;have y1:=T9.out.c1;have y2:=T9.out.f 0;have y3:=T9.out.f 1;clear b9 SM)
             refine bodyPost_ret (v:=.tuple #[.agg #[.int .i64 _,.int .i64 _],.int .i64 _]) (results_cell2 (fn:=Tryz.f99) (p:=2) (u:=3) rfl _ _ w.heap.size _ _ (0,0) _ rfl (T9.out.set _ _) Tryz.underlying30 rfl (by kernel_rfl)) rfl ?_
             exact DpPost.mk rr.out (Below.setCell (Below.setCell B9.out (p:=⟨w.heap.size,0,none⟩) (Nat.le_refl _) _) (p:=⟨w.heap.size,1,none⟩) (Nat.le_refl _) _)
            ·have rr:=Lib.hid (er.out.trans (if_neg hf))
             have SM:=small_f 8 _ (.tuple #[.int .i64 0,.bool false]) ((v:Int)) wo HU.out (by omega) (if_neg hf)
             clear hf
             go_wp2_with (go_at_call 142;(with_reducible refine SM.mono ?_);rintro e9 w9 ⟨rfl,b9⟩;have B9:=Lib.hid (bt HB.out b9);have T9:=Lib.hid (HT.out.below b9);have y0:=T9.out.c0;have y1:=T9.out.c1;have y2:=T9.out.f 0;have y3:=T9.out.f 1;clear b9 SM)
             refine bodyPost_ret (v:=.tuple #[.agg #[.int .i64 _,.int .i64 _],.int .i64 _]) (results_cell2 (fn:=Tryz.f99) (p:=2) (u:=3) rfl _ _ w.heap.size _ _ (0,0) _ rfl (T9.out.set _ _) Tryz.underlying30 rfl (by kernel_rfl)) rfl ?_
             exact DpPost.mk rr.out (Below.setCell (Below.setCell B9.out (p:=⟨w.heap.size,0,none⟩) (Nat.le_refl _) _) (p:=⟨w.heap.size,1,none⟩) (Nat.le_refl _) _)
           | true=>
            rw [show sg true v= -(v:Int) from rfl] at er
            have NG:=neg_any 8 _ (v:Int) wo HU.out
            clear f0 f1 c0 c1
            go_upto_region 27 with (go_at_call 138;(with_reducible refine NG.mono ?_);rintro e8 w8 ⟨v8,h8,rfl,b8⟩;obtain ⟨b8',a8,n8,c8,rfl⟩:=num_agg h8;have N8:=Lib.hid h8;have B8:=Lib.hid (bt HB.out b8);have T8:=Lib.hid (HT.out.below b8);have X8:=Lib.hid (boxAt_below HL.out b8);have r0:=X8.out.c0;have r1:=X8.out.c1;have r2:=X8.out.f0;have r3:=X8.out.f1;clear h8 b8 NG)
            have hne:w.heap.size ≠ i8:=by have:=L2.out;omega
            have X10:=Lib.hid (boxAt_set2 (.bool b8') (.slice a8 n8 c8) X8.out)
            have N10:=Lib.hid (num_set2 (.bool b8') (.slice a8 n8 c8) N8.out X8.out)
            have T10:Hid (Two ((w8.setCell ⟨i8,0,none⟩ (.bool b8')).setCell ⟨i8,1,none⟩ (.slice a8 n8 c8)) w.heap.size 0 0):=dAt_other _ _ (dAt_other _ _ (show DAt _ _ _ _ from T8.out) hne) hne
            have B10:=Lib.hid ((B8.out.setCell (p:=⟨i8,0,none⟩) (by show _≤i8;have:=L2.out;omega) (.bool b8')).setCell (p:=⟨i8,1,none⟩) (by show _≤i8;have:=L2.out;omega) (.slice a8 n8 c8))
            obtain ⟨w10,hw10⟩:∃ v,Hid (v=(w8.setCell ⟨i8,0,none⟩ (.bool b8')).setCell ⟨i8,1,none⟩ (.slice a8 n8 c8)):=⟨_,rfl⟩
            rw [←hw10.out] at X10 N10 T10 B10⊢
            clear hw10 r0 r1 r2 r3 e1 e2 e3 e4 X8 N8 T8 B8 hne
            have e1:=X10.out.c0;have e2:=X10.out.c1
            by_cases hf:Fit ((-(v:Int)))
            ·have rr:=Lib.hid (er.out.trans (if_pos hf))
             have SM:=small_f 8 _ (.tuple #[.int .i64 ((-(v:Int))),.bool true]) ((-(v:Int))) w10 N10.out (by omega) (if_pos hf)
             clear hf
             go_wp2_with (go_at_call 142;(with_reducible refine SM.mono ?_);rintro e9 w9 ⟨rfl,b9⟩;have B9:=Lib.hid (bt B10.out b9);have T9:=Lib.hid (T10.out.below b9);have y0:=T9.out.c0;have y1:=T9.out.c1;have y2:=T9.out.f 0;have y3:=T9.out.f 1;clear b9 SM)
             refine bodyPost_ret (v:=.tuple #[.agg #[.int .i64 _,.int .i64 _],.int .i64 _]) (results_cell2 (fn:=Tryz.f99) (p:=2) (u:=3) rfl _ _ w.heap.size _ _ (0,0) _ rfl (T9.out.set _ _) Tryz.underlying30 rfl (by kernel_rfl)) rfl ?_
             exact DpPost.mk rr.out (Below.setCell (Below.setCell B9.out (p:=⟨w.heap.size,0,none⟩) (Nat.le_refl _) _) (p:=⟨w.heap.size,1,none⟩) (Nat.le_refl _) _)
            ·have rr:=Lib.hid (er.out.trans (if_neg hf))
             have SM:=small_f 8 _ (.tuple #[.int .i64 0,.bool false]) ((-(v:Int))) w10 N10.out (by omega) (if_neg hf)
             clear hf
             go_wp2_with (go_at_call 142;(with_reducible refine SM.mono ?_);rintro e9 w9 ⟨rfl,b9⟩;have B9:=Lib.hid (bt B10.out b9);have T9:=Lib.hid (T10.out.below b9);have y0:=T9.out.c0;have y1:=T9.out.c1;have y2:=T9.out.f 0;have y3:=T9.out.f 1;clear b9 SM)
             refine bodyPost_ret (v:=.tuple #[.agg #[.int .i64 _,.int .i64 _],.int .i64 _]) (results_cell2 (fn:=Tryz.f99) (p:=2) (u:=3) rfl _ _ w.heap.size _ _ (0,0) _ rfl (T9.out.set _ _) Tryz.underlying30 rfl (by kernel_rfl)) rfl ?_
             exact DpPost.mk rr.out (Below.setCell (Below.setCell B9.out (p:=⟨w.heap.size,0,none⟩) (Nat.le_refl _) _) (p:=⟨w.heap.size,1,none⟩) (Nat.le_refl _) _)
         ·have q1:decide (F1<N)=false:=by simp;have:=HBL.out;have:=hF1.out;omega
          have q2:decide ((F1:Int)<(N:Int))=false:=by simp;have:=HBL.out;have:=hF1.out;omega
          subst k2
          clear k1
          have HWB:=Lib.hid hwb
          clear hwb
          by_cases hm:l=[45,48]
          ·have ec:=HEQ.out hm
           have rr:=Lib.hid (show RES=((0,0),4) from EQ.out.trans (if_pos (.inr (.inr hm))))
           clear hm
           go_wp2_with fail
           refine bodyPost_ret (v:=.tuple #[.agg #[.int .i64 _,.int .i64 _],.int .i64 _]) (results_cell2 (fn:=Tryz.f99) (p:=2) (u:=3) rfl _ _ w.heap.size _ _ (0,0) _ rfl (HT.out.set _ _) Tryz.underlying30 rfl (by kernel_rfl)) rfl ?_
           exact DpPost.mk rr.out (Below.setCell (Below.setCell HB.out (p:=⟨w.heap.size,0,none⟩) (Nat.le_refl _) _) (p:=⟨w.heap.size,1,none⟩) (Nat.le_refl _) _)
          ·have ec:=HNE.out hm
           have er:=Lib.hid (EQ.out.trans (if_neg (by rw [HWB.out];rintro (h | h | h);exact Bool.noConfusion h;exact Bool.noConfusion h.1;exact hm h)))
           rw [show (([]:List UInt8).length:Int)=0 from rfl] at er
           clear hm
           have e1:=HL.out.c0;have e2:=HL.out.c1;have e3:=HL.out.f0;have e4:=HL.out.f1
           cases ng with
           | false=>
            rw [show sg false v=(v:Int) from rfl] at er
            clear f0 f1 c0 c1
            by_cases hf:Fit ((v:Int))
            ·have rr:=Lib.hid (er.out.trans (if_pos hf))
             have SM:=small_f 8 _ (.tuple #[.int .i64 ((v:Int)),.bool true]) ((v:Int)) wo HU.out (by omega) (if_pos hf)
             clear hf
             go_wp2_with (go_at_call 142;(with_reducible refine SM.mono ?_);rintro e9 w9 ⟨rfl,b9⟩;have B9:=Lib.hid (bt HB.out b9);have T9:=Lib.hid (HT.out.below b9);have y0:=T9.out.c0;have y1:=T9.out.c1;have y2:=T9.out.f 0;have y3:=T9.out.f 1;clear b9 SM)
             refine bodyPost_ret (v:=.tuple #[.agg #[.int .i64 _,.int .i64 _],.int .i64 _]) (results_cell2 (fn:=Tryz.f99) (p:=2) (u:=3) rfl _ _ w.heap.size _ _ (0,0) _ rfl (T9.out.set _ _) Tryz.underlying30 rfl (by kernel_rfl)) rfl ?_
             exact DpPost.mk rr.out (Below.setCell (Below.setCell B9.out (p:=⟨w.heap.size,0,none⟩) (Nat.le_refl _) _) (p:=⟨w.heap.size,1,none⟩) (Nat.le_refl _) _)
            ·have rr:=Lib.hid (er.out.trans (if_neg hf))
             have SM:=small_f 8 _ (.tuple #[.int .i64 0,.bool false]) ((v:Int)) wo HU.out (by omega) (if_neg hf)
             clear hf
             go_wp2_with (go_at_call 142;(with_reducible refine SM.mono ?_);rintro e9 w9 ⟨rfl,b9⟩;have B9:=Lib.hid (bt HB.out b9);have T9:=Lib.hid (HT.out.below b9);have y0:=T9.out.c0;have y1:=T9.out.c1;have y2:=T9.out.f 0;have y3:=T9.out.f 1;clear b9 SM)
             refine bodyPost_ret (v:=.tuple #[.agg #[.int .i64 _,.int .i64 _],.int .i64 _]) (results_cell2 (fn:=Tryz.f99) (p:=2) (u:=3) rfl _ _ w.heap.size _ _ (0,0) _ rfl (T9.out.set _ _) Tryz.underlying30 rfl (by kernel_rfl)) rfl ?_
             exact DpPost.mk rr.out (Below.setCell (Below.setCell B9.out (p:=⟨w.heap.size,0,none⟩) (Nat.le_refl _) _) (p:=⟨w.heap.size,1,none⟩) (Nat.le_refl _) _)
           | true=>
            rw [show sg true v= -(v:Int) from rfl] at er
            have NG:=neg_any 8 _ (v:Int) wo HU.out
            clear f0 f1 c0 c1
            go_upto_region 27 with (go_at_call 138;(with_reducible refine NG.mono ?_);rintro e8 w8 ⟨v8,h8,rfl,b8⟩;obtain ⟨b8',a8,n8,c8,rfl⟩:=num_agg h8;have N8:=Lib.hid h8;have B8:=Lib.hid (bt HB.out b8);have T8:=Lib.hid (HT.out.below b8);have X8:=Lib.hid (boxAt_below HL.out b8);have r0:=X8.out.c0;have r1:=X8.out.c1;have r2:=X8.out.f0;have r3:=X8.out.f1;clear h8 b8 NG)
            have hne:w.heap.size ≠ i8:=by have:=L2.out;omega
            have X10:=Lib.hid (boxAt_set2 (.bool b8') (.slice a8 n8 c8) X8.out)
            have N10:=Lib.hid (num_set2 (.bool b8') (.slice a8 n8 c8) N8.out X8.out)
            have T10:Hid (Two ((w8.setCell ⟨i8,0,none⟩ (.bool b8')).setCell ⟨i8,1,none⟩ (.slice a8 n8 c8)) w.heap.size 0 0):=dAt_other _ _ (dAt_other _ _ (show DAt _ _ _ _ from T8.out) hne) hne
            have B10:=Lib.hid ((B8.out.setCell (p:=⟨i8,0,none⟩) (by show _≤i8;have:=L2.out;omega) (.bool b8')).setCell (p:=⟨i8,1,none⟩) (by show _≤i8;have:=L2.out;omega) (.slice a8 n8 c8))
            obtain ⟨w10,hw10⟩:∃ v,Hid (v=(w8.setCell ⟨i8,0,none⟩ (.bool b8')).setCell ⟨i8,1,none⟩ (.slice a8 n8 c8)):=⟨_,rfl⟩
            rw [←hw10.out] at X10 N10 T10 B10⊢
            clear hw10 r0 r1 r2 r3 e1 e2 e3 e4 X8 N8 T8 B8 hne
            have e1:=X10.out.c0;have e2:=X10.out.c1
            by_cases hf:Fit ((-(v:Int)))
            ·have rr:=Lib.hid (er.out.trans (if_pos hf))
             have SM:=small_f 8 _ (.tuple #[.int .i64 ((-(v:Int))),.bool true]) ((-(v:Int))) w10 N10.out (by omega) (if_pos hf)
             clear hf
             go_wp2_with (go_at_call 142;(with_reducible refine SM.mono ?_);rintro e9 w9 ⟨rfl,b9⟩;have B9:=Lib.hid (bt B10.out b9);have T9:=Lib.hid (T10.out.below b9);have y0:=T9.out.c0;have y1:=T9.out.c1;have y2:=T9.out.f 0;have y3:=T9.out.f 1;clear b9 SM)
             refine bodyPost_ret (v:=.tuple #[.agg #[.int .i64 _,.int .i64 _],.int .i64 _]) (results_cell2 (fn:=Tryz.f99) (p:=2) (u:=3) rfl _ _ w.heap.size _ _ (0,0) _ rfl (T9.out.set _ _) Tryz.underlying30 rfl (by kernel_rfl)) rfl ?_
             exact DpPost.mk rr.out (Below.setCell (Below.setCell B9.out (p:=⟨w.heap.size,0,none⟩) (Nat.le_refl _) _) (p:=⟨w.heap.size,1,none⟩) (Nat.le_refl _) _)
            ·have rr:=Lib.hid (er.out.trans (if_neg hf))
             have SM:=small_f 8 _ (.tuple #[.int .i64 0,.bool false]) ((-(v:Int))) w10 N10.out (by omega) (if_neg hf)
             clear hf
             go_wp2_with (go_at_call 142;(with_reducible refine SM.mono ?_);rintro e9 w9 ⟨rfl,b9⟩;have B9:=Lib.hid (bt B10.out b9);have T9:=Lib.hid (T10.out.below b9);have y0:=T9.out.c0;have y1:=T9.out.c1;have y2:=T9.out.f 0;have y3:=T9.out.f 1;clear b9 SM)
             refine bodyPost_ret (v:=.tuple #[.agg #[.int .i64 _,.int .i64 _],.int .i64 _]) (results_cell2 (fn:=Tryz.f99) (p:=2) (u:=3) rfl _ _ w.heap.size _ _ (0,0) _ rfl (T9.out.set _ _) Tryz.underlying30 rfl (by kernel_rfl)) rfl ?_
             exact DpPost.mk rr.out (Below.setCell (Below.setCell B9.out (p:=⟨w.heap.size,0,none⟩) (Nat.le_refl _) _) (p:=⟨w.heap.size,1,none⟩) (Nat.le_refl _) _)
      | some p=>
       obtain ⟨s1,s2,s3,s4,s5⟩:=HSO.out p rfl
       rw [htl.out] at s2
       obtain ⟨Q,hQ⟩:∃ q:Nat,Hid (F+p=q):=⟨_,rfl⟩
       rw [show ptv l (some p)=((Q:Nat):Int) from by show ((first l+p:Nat):Int)=_;rw [hF.out,hQ.out]]
       obtain ⟨R,hR⟩:∃ q:Nat,Hid (vb.length=q):=⟨_,rfl⟩
       rw [hR.out] at EQ s2
       have z1:decide ((0:Int)≤(Q:Int))=true:=by simp
       obtain ⟨R1,hR1⟩:∃ n,Hid (R+1=n):=⟨_,rfl⟩
       obtain ⟨N1,hN1⟩:∃ n,Hid (N - 1=n):=⟨_,rfl⟩
       have HS2:=Lib.hid s2;have HS3:=Lib.hid s3
       have kq1:IntKind.i64.wrap ((N:Int) - (Q:Int))=(R1:Int):=by rw [IntWalk.i64_left,IntWalk.wrap64_in _ (by have:=HBL.out;have:=HN.out;have:=hQ.out;omega)];have:=HBL.out;have:=hQ.out;have:=hR1.out;omega
       have kq2:IntKind.i64.wrap ((R1:Int) - 1)=(R:Int):=by rw [IntWalk.i64_left,IntWalk.wrap64_in _ (by have:=HBL.out;have:=HN.out;have:=hR1.out;omega)];have:=hR1.out;omega
       have kn:IntKind.i64.wrap ((N:Int) - 1)=(N1:Int):=by rw [IntWalk.i64_left,IntWalk.wrap64_in _ (by have:=HN.out;omega)];have:=HBL.out;have:=hN1.out;omega
       have hl48:l ≠ [45,48]∨R=0:=by
        by_cases h:R=0
        ·exact .inr h
        ·exact .inl (fun e=>by have h2:=hN.out;rw [e] at h2;have:=HBL.out;simp at h2;omega)
       have HL48:=Lib.hid hl48
       clear s2 s3 hl48 HNO HSO
       by_cases r0:R=0
       ·have hb:vb=[]:=List.length_eq_zero_iff.1 (by rw [hR.out];exact r0)
        have rr:=Lib.hid (show RES=((0,0),4) from EQ.out.trans (if_pos (.inr (.inl ⟨rfl,by rw [hb];rfl⟩))))
        have g1:decide (R=0)=true:=by simpa using r0
        have g2:((R:Int)==0)=true:=by simp;omega
        clear r0 hb
        go_wp2_with fail
        refine bodyPost_ret (v:=.tuple #[.agg #[.int .i64 _,.int .i64 _],.int .i64 _]) (results_cell2 (fn:=Tryz.f99) (p:=2) (u:=3) rfl _ _ w.heap.size _ _ (0,0) _ rfl (HT.out.set _ _) Tryz.underlying30 rfl (by kernel_rfl)) rfl ?_
        exact DpPost.mk rr.out (Below.setCell (Below.setCell HB.out (p:=⟨w.heap.size,0,none⟩) (Nat.le_refl _) _) (p:=⟨w.heap.size,1,none⟩) (Nat.le_refl _) _)
       ·have g1:decide (R=0)=false:=by simpa using r0
        have g2:((R:Int)==0)=false:=by simp;omega
        have hb:vb ≠ []:=fun h=>r0 (by rw [←hR.out,h];rfl)
        have HDB2:=Lib.hid (HDI.out _ HDB.out hb)
        obtain ⟨y9,hy9⟩:∃ c,vb[R - 1]?=some c:=⟨_,List.getElem?_eq_getElem (by rw [hR.out];omega)⟩
        have hl9:vb.getLast?=some y9:=by rw [List.getLast?_eq_getElem?,hR.out];exact hy9
        have hb9:(body l)[tl - 1]?=some y9:=by
         rw [s4,List.getElem?_drop] at hy9
         rw [←hy9];congr 1;have:=HS2.out;omega
        have ba9:=(body_at l (tl - 1)).1
        rw [hF.out,show F+(tl - 1)=N1 from by have:=HBL.out;have:=hN1.out;have:=HS2.out;omega] at ba9
        have i9:=HXL.out N1 y9 (ba9.trans hb9)
        obtain ⟨x9,hx9⟩:∃ n,Hid (y9.toNat=n):=⟨_,rfl⟩
        rw [hx9.out] at i9
        have b9:(N1:Int)<(N:Int):=by have:=hN1.out;have:=HBL.out;have:=HS2.out;omega
        have b8:(0:Int)≤(N1:Int):=by omega
        have HL9:=Lib.hid hl9;have HR0:=Lib.hid r0
        clear r0 hb hy9 hl9 hb9 ba9
        by_cases k9:9<R
        ·have r1:decide (9<R)=true:=by simpa using k9
         have r2:decide (9<(R:Int))=true:=by simp;omega
         have rr:=Lib.hid (show RES=((0,0),4) from EQ.out.trans (if_pos (.inr (.inl ⟨rfl,by unfold rBad;rw [HDB2.out,hR.out];simp [k9]⟩))))
         clear k9
         go_wp2_with fail
         refine bodyPost_ret (v:=.tuple #[.agg #[.int .i64 _,.int .i64 _],.int .i64 _]) (results_cell2 (fn:=Tryz.f99) (p:=2) (u:=3) rfl _ _ w.heap.size _ _ (0,0) _ rfl (HT.out.set _ _) Tryz.underlying30 rfl (by kernel_rfl)) rfl ?_
         exact DpPost.mk rr.out (Below.setCell (Below.setCell HB.out (p:=⟨w.heap.size,0,none⟩) (Nat.le_refl _) _) (p:=⟨w.heap.size,1,none⟩) (Nat.le_refl _) _)
        ·have r1:decide (9<R)=false:=by simpa using k9
         have r2:decide (9<(R:Int))=false:=by simp;omega
         by_cases k8:x9=48
         ·have h48:y9=48:=UInt8.toNat.inj (by rw [hx9.out,k8];rfl)
          have rr:=Lib.hid (show RES=((0,0),4) from EQ.out.trans (if_pos (.inr (.inl ⟨rfl,by unfold rBad;rw [HDB2.out,HL9.out,h48];simp⟩))))
          subst k8
          clear k9 h48
          go_wp2_with fail
          refine bodyPost_ret (v:=.tuple #[.agg #[.int .i64 _,.int .i64 _],.int .i64 _]) (results_cell2 (fn:=Tryz.f99) (p:=2) (u:=3) rfl _ _ w.heap.size _ _ (0,0) _ rfl (HT.out.set _ _) Tryz.underlying30 rfl (by kernel_rfl)) rfl ?_
          exact DpPost.mk rr.out (Below.setCell (Below.setCell HB.out (p:=⟨w.heap.size,0,none⟩) (Nat.le_refl _) _) (p:=⟨w.heap.size,1,none⟩) (Nat.le_refl _) _)
         ·have r3:decide (x9=48)=false:=by simpa using k8
          have r4:((x9:Int)==48)=false:=by simp;omega
          have hrb:rBad vb=false:=by
           unfold rBad
           rw [HDB2.out,HL9.out,hR.out]
           have:y9 ≠ 48:=fun h=>k8 (by rw [←hx9.out,h];rfl)
           simp [this];omega
          have HRB:=Lib.hid hrb
          have hva0:va ≠ []:=fun h=>by rw [h] at s1;have:=HS3.out;simp at s1;omega
          have HDG2:=Lib.hid (HDI.out _ HDA.out hva0)
          obtain ⟨y,hy⟩:∃ c,va[0]?=some c:=⟨_,List.getElem?_eq_getElem (by rw [s1];exact HS3.out)⟩
          have hy':va.head?=some y:=by rw [List.head?_eq_getElem?];exact hy
          have hyb:(body l)[0]?=some y:=by rw [s5,List.getElem?_take,if_pos HS3.out] at hy;exact hy
          have iy:=HXL.out F y (HB0.out.trans hyb)
          have g3:(F:Int)<(N:Int):=by have:=HBL.out;have:=HS2.out;omega
          have g4:decide (Q=F)=false:=by simp;have:=hQ.out;have:=HS3.out;omega
          have g5:((Q:Int)==(F:Int))=false:=by simp;have:=hQ.out;have:=HS3.out;omega
          obtain ⟨yy,hyy⟩:∃ n,Hid (y.toNat=n):=⟨_,rfl⟩
          rw [hyy.out] at iy
          have HY:=Lib.hid hy';have HS1:=Lib.hid s1
          clear hva0 hy hy' hyb k8 k9 hrb s1 s4 s5
          have key:(1<p∧yy=48)∨(wBad va=false∧(yy ≠ 48∨(yy=48∧¬1<p))):=by
           have hw:wBad va=(decide (1<p) && decide (y=48)):=by unfold wBad;rw [HDG2.out,HY.out,HS1.out];simp
           have hyeq:y=48↔yy=48:=⟨fun h=>by rw [←hyy.out,h];rfl,fun h=>UInt8.toNat.inj (by rw [hyy.out,h];rfl)⟩
           by_cases k2:yy=48
           ·by_cases k1:1<p
            ·exact .inl ⟨k1,k2⟩
            ·exact .inr ⟨by rw [hw];simp [k1],.inr ⟨k2,k1⟩⟩
           ·exact .inr ⟨by rw [hw];simp;intro _ h;exact k2 (hyeq.1 h),.inl k2⟩
          have HKEY:=Lib.hid key
          clear key
          rcases HKEY.out with ⟨k1,k2⟩ | ⟨hwb,kk⟩
          ·have h48:y=48:=UInt8.toNat.inj (by rw [hyy.out,k2];rfl)
           have rr:=Lib.hid (show RES=((0,0),4) from EQ.out.trans (if_pos (.inl (by unfold wBad;rw [HDG2.out,HY.out,HS1.out,h48];simp [k1]))))
           have q1:decide (F1<Q)=true:=by simp;have:=hQ.out;have:=hF1.out;omega
           have q2:decide ((F1:Int)<(Q:Int))=true:=by simp;have:=hQ.out;have:=hF1.out;omega
           subst k2
           clear k1 h48
           go_wp2_with fail
           refine bodyPost_ret (v:=.tuple #[.agg #[.int .i64 _,.int .i64 _],.int .i64 _]) (results_cell2 (fn:=Tryz.f99) (p:=2) (u:=3) rfl _ _ w.heap.size _ _ (0,0) _ rfl (HT.out.set _ _) Tryz.underlying30 rfl (by kernel_rfl)) rfl ?_
           exact DpPost.mk rr.out (Below.setCell (Below.setCell HB.out (p:=⟨w.heap.size,0,none⟩) (Nat.le_refl _) _) (p:=⟨w.heap.size,1,none⟩) (Nat.le_refl _) _)
          ·rcases kk with k2 | ⟨k2,k1⟩
           ·have q1:decide (yy=48)=false:=by simpa using k2
            have q2:((yy:Int)==48)=false:=by simp;omega
            clear k2
            have HWB:=Lib.hid hwb
            clear hwb
            by_cases hm:l=[45,48]
            ·have ec:=HEQ.out hm
             have rr:=Lib.hid (show RES=((0,0),4) from EQ.out.trans (if_pos (.inr (.inr hm))))
             clear hm
             go_wp2_with fail
             refine bodyPost_ret (v:=.tuple #[.agg #[.int .i64 _,.int .i64 _],.int .i64 _]) (results_cell2 (fn:=Tryz.f99) (p:=2) (u:=3) rfl _ _ w.heap.size _ _ (0,0) _ rfl (HT.out.set _ _) Tryz.underlying30 rfl (by kernel_rfl)) rfl ?_
             exact DpPost.mk rr.out (Below.setCell (Below.setCell HB.out (p:=⟨w.heap.size,0,none⟩) (Nat.le_refl _) _) (p:=⟨w.heap.size,1,none⟩) (Nat.le_refl _) _)
            ·have ec:=HNE.out hm
             have er:=Lib.hid (EQ.out.trans (if_neg (by rw [HWB.out];rintro (h | h | h);exact Bool.noConfusion h;rw [HRB.out] at h;exact Bool.noConfusion h.2;exact hm h)))
             clear hm
             have e1:=HL.out.c0;have e2:=HL.out.c1;have e3:=HL.out.f0;have e4:=HL.out.f1
             cases ng with
             | false=>
              rw [show sg false v=(v:Int) from rfl] at er
              clear f0 f1 c0 c1
              by_cases hf:Fit ((v:Int))
              ·have rr:=Lib.hid (er.out.trans (if_pos hf))
               have SM:=small_f 8 _ (.tuple #[.int .i64 ((v:Int)),.bool true]) ((v:Int)) wo HU.out (by omega) (if_pos hf)
               clear hf
               go_wp2_with (go_at_call 142;(with_reducible refine SM.mono ?_);rintro e9 w9 ⟨rfl,b9⟩;have B9:=Lib.hid (bt HB.out b9);have T9:=Lib.hid (HT.out.below b9);have y0:=T9.out.c0;have y1:=T9.out.c1;have y2:=T9.out.f 0;have y3:=T9.out.f 1;clear b9 SM)
               refine bodyPost_ret (v:=.tuple #[.agg #[.int .i64 _,.int .i64 _],.int .i64 _]) (results_cell2 (fn:=Tryz.f99) (p:=2) (u:=3) rfl _ _ w.heap.size _ _ (0,0) _ rfl (T9.out.set _ _) Tryz.underlying30 rfl (by kernel_rfl)) rfl ?_
               exact DpPost.mk rr.out (Below.setCell (Below.setCell B9.out (p:=⟨w.heap.size,0,none⟩) (Nat.le_refl _) _) (p:=⟨w.heap.size,1,none⟩) (Nat.le_refl _) _)
              ·have rr:=Lib.hid (er.out.trans (if_neg hf))
               have SM:=small_f 8 _ (.tuple #[.int .i64 0,.bool false]) ((v:Int)) wo HU.out (by omega) (if_neg hf)
               clear hf
               go_wp2_with (go_at_call 142;(with_reducible refine SM.mono ?_);rintro e9 w9 ⟨rfl,b9⟩;have B9:=Lib.hid (bt HB.out b9);have T9:=Lib.hid (HT.out.below b9);have y0:=T9.out.c0;have y1:=T9.out.c1;have y2:=T9.out.f 0;have y3:=T9.out.f 1;clear b9 SM)
               refine bodyPost_ret (v:=.tuple #[.agg #[.int .i64 _,.int .i64 _],.int .i64 _]) (results_cell2 (fn:=Tryz.f99) (p:=2) (u:=3) rfl _ _ w.heap.size _ _ (0,0) _ rfl (T9.out.set _ _) Tryz.underlying30 rfl (by kernel_rfl)) rfl ?_
               exact DpPost.mk rr.out (Below.setCell (Below.setCell B9.out (p:=⟨w.heap.size,0,none⟩) (Nat.le_refl _) _) (p:=⟨w.heap.size,1,none⟩) (Nat.le_refl _) _)
             | true=>
              rw [show sg true v= -(v:Int) from rfl] at er
              have NG:=neg_any 8 _ (v:Int) wo HU.out
              clear f0 f1 c0 c1
              go_upto_region 27 with (go_at_call 138;(with_reducible refine NG.mono ?_);rintro e8 w8 ⟨v8,h8,rfl,b8⟩;obtain ⟨b8',a8,n8,c8,rfl⟩:=num_agg h8;have N8:=Lib.hid h8;have B8:=Lib.hid (bt HB.out b8);have T8:=Lib.hid (HT.out.below b8);have X8:=Lib.hid (boxAt_below HL.out b8);have r0:=X8.out.c0;have r1:=X8.out.c1;have r2:=X8.out.f0;have r3:=X8.out.f1;clear h8 b8 NG)
              have hne:w.heap.size ≠ i8:=by have:=L2.out;omega
              have X10:=Lib.hid (boxAt_set2 (.bool b8') (.slice a8 n8 c8) X8.out)
              have N10:=Lib.hid (num_set2 (.bool b8') (.slice a8 n8 c8) N8.out X8.out)
              have T10:Hid (Two ((w8.setCell ⟨i8,0,none⟩ (.bool b8')).setCell ⟨i8,1,none⟩ (.slice a8 n8 c8)) w.heap.size 0 0):=dAt_other _ _ (dAt_other _ _ (show DAt _ _ _ _ from T8.out) hne) hne
              have B10:=Lib.hid ((B8.out.setCell (p:=⟨i8,0,none⟩) (by show _≤i8;have:=L2.out;omega) (.bool b8')).setCell (p:=⟨i8,1,none⟩) (by show _≤i8;have:=L2.out;omega) (.slice a8 n8 c8))
              obtain ⟨w10,hw10⟩:∃ v,Hid (v=(w8.setCell ⟨i8,0,none⟩ (.bool b8')).setCell ⟨i8,1,none⟩ (.slice a8 n8 c8)):=⟨_,rfl⟩
              rw [←hw10.out] at X10 N10 T10 B10⊢
              clear hw10 r0 r1 r2 r3 e1 e2 e3 e4 X8 N8 T8 B8 hne
              have e1:=X10.out.c0;have e2:=X10.out.c1
              by_cases hf:Fit ((-(v:Int)))
              ·have rr:=Lib.hid (er.out.trans (if_pos hf))
               have SM:=small_f 8 _ (.tuple #[.int .i64 ((-(v:Int))),.bool true]) ((-(v:Int))) w10 N10.out (by omega) (if_pos hf)
               clear hf
               go_wp2_with (go_at_call 142;(with_reducible refine SM.mono ?_);rintro e9 w9 ⟨rfl,b9⟩;have B9:=Lib.hid (bt B10.out b9);have T9:=Lib.hid (T10.out.below b9);have y0:=T9.out.c0;have y1:=T9.out.c1;have y2:=T9.out.f 0;have y3:=T9.out.f 1;clear b9 SM)
               refine bodyPost_ret (v:=.tuple #[.agg #[.int .i64 _,.int .i64 _],.int .i64 _]) (results_cell2 (fn:=Tryz.f99) (p:=2) (u:=3) rfl _ _ w.heap.size _ _ (0,0) _ rfl (T9.out.set _ _) Tryz.underlying30 rfl (by kernel_rfl)) rfl ?_
               exact DpPost.mk rr.out (Below.setCell (Below.setCell B9.out (p:=⟨w.heap.size,0,none⟩) (Nat.le_refl _) _) (p:=⟨w.heap.size,1,none⟩) (Nat.le_refl _) _)
              ·have rr:=Lib.hid (er.out.trans (if_neg hf))
               have SM:=small_f 8 _ (.tuple #[.int .i64 0,.bool false]) ((-(v:Int))) w10 N10.out (by omega) (if_neg hf)
               clear hf
               go_wp2_with (go_at_call 142;(with_reducible refine SM.mono ?_);rintro e9 w9 ⟨rfl,b9⟩;have B9:=Lib.hid (bt B10.out b9);have T9:=Lib.hid (T10.out.below b9);have y0:=T9.out.c0;have y1:=T9.out.c1;have y2:=T9.out.f 0;have y3:=T9.out.f 1;clear b9 SM)
               refine bodyPost_ret (v:=.tuple #[.agg #[.int .i64 _,.int .i64 _],.int .i64 _]) (results_cell2 (fn:=Tryz.f99) (p:=2) (u:=3) rfl _ _ w.heap.size _ _ (0,0) _ rfl (T9.out.set _ _) Tryz.underlying30 rfl (by kernel_rfl)) rfl ?_
               exact DpPost.mk rr.out (Below.setCell (Below.setCell B9.out (p:=⟨w.heap.size,0,none⟩) (Nat.le_refl _) _) (p:=⟨w.heap.size,1,none⟩) (Nat.le_refl _) _)
           ·have q1:decide (F1<Q)=false:=by simp;have:=hQ.out;have:=hF1.out;omega
            have q2:decide ((F1:Int)<(Q:Int))=false:=by simp;have:=hQ.out;have:=hF1.out;omega
            subst k2
            clear k1
            have HWB:=Lib.hid hwb
            clear hwb
            by_cases hm:l=[45,48]
            ·have ec:=HEQ.out hm
             have rr:=Lib.hid (show RES=((0,0),4) from EQ.out.trans (if_pos (.inr (.inr hm))))
             clear hm
             go_wp2_with fail
             refine bodyPost_ret (v:=.tuple #[.agg #[.int .i64 _,.int .i64 _],.int .i64 _]) (results_cell2 (fn:=Tryz.f99) (p:=2) (u:=3) rfl _ _ w.heap.size _ _ (0,0) _ rfl (HT.out.set _ _) Tryz.underlying30 rfl (by kernel_rfl)) rfl ?_
             exact DpPost.mk rr.out (Below.setCell (Below.setCell HB.out (p:=⟨w.heap.size,0,none⟩) (Nat.le_refl _) _) (p:=⟨w.heap.size,1,none⟩) (Nat.le_refl _) _)
            ·have ec:=HNE.out hm
             have er:=Lib.hid (EQ.out.trans (if_neg (by rw [HWB.out];rintro (h | h | h);exact Bool.noConfusion h;rw [HRB.out] at h;exact Bool.noConfusion h.2;exact hm h)))
             clear hm
             have e1:=HL.out.c0;have e2:=HL.out.c1;have e3:=HL.out.f0;have e4:=HL.out.f1
             cases ng with
             | false=>
              rw [show sg false v=(v:Int) from rfl] at er
              clear f0 f1 c0 c1
              by_cases hf:Fit ((v:Int))
              ·have rr:=Lib.hid (er.out.trans (if_pos hf))
               have SM:=small_f 8 _ (.tuple #[.int .i64 ((v:Int)),.bool true]) ((v:Int)) wo HU.out (by omega) (if_pos hf)
               clear hf
               go_wp2_with (go_at_call 142;(with_reducible refine SM.mono ?_);rintro e9 w9 ⟨rfl,b9⟩;have B9:=Lib.hid (bt HB.out b9);have T9:=Lib.hid (HT.out.below b9);have y0:=T9.out.c0;have y1:=T9.out.c1;have y2:=T9.out.f 0;have y3:=T9.out.f 1;clear b9 SM)
               refine bodyPost_ret (v:=.tuple #[.agg #[.int .i64 _,.int .i64 _],.int .i64 _]) (results_cell2 (fn:=Tryz.f99) (p:=2) (u:=3) rfl _ _ w.heap.size _ _ (0,0) _ rfl (T9.out.set _ _) Tryz.underlying30 rfl (by kernel_rfl)) rfl ?_
               exact DpPost.mk rr.out (Below.setCell (Below.setCell B9.out (p:=⟨w.heap.size,0,none⟩) (Nat.le_refl _) _) (p:=⟨w.heap.size,1,none⟩) (Nat.le_refl _) _)
              ·have rr:=Lib.hid (er.out.trans (if_neg hf))
               have SM:=small_f 8 _ (.tuple #[.int .i64 0,.bool false]) ((v:Int)) wo HU.out (by omega) (if_neg hf)
               clear hf
               go_wp2_with (go_at_call 142;(with_reducible refine SM.mono ?_);rintro e9 w9 ⟨rfl,b9⟩;have B9:=Lib.hid (bt HB.out b9);have T9:=Lib.hid (HT.out.below b9);have y0:=T9.out.c0;have y1:=T9.out.c1;have y2:=T9.out.f 0;have y3:=T9.out.f 1;clear b9 SM)
               refine bodyPost_ret (v:=.tuple #[.agg #[.int .i64 _,.int .i64 _],.int .i64 _]) (results_cell2 (fn:=Tryz.f99) (p:=2) (u:=3) rfl _ _ w.heap.size _ _ (0,0) _ rfl (T9.out.set _ _) Tryz.underlying30 rfl (by kernel_rfl)) rfl ?_
               exact DpPost.mk rr.out (Below.setCell (Below.setCell B9.out (p:=⟨w.heap.size,0,none⟩) (Nat.le_refl _) _) (p:=⟨w.heap.size,1,none⟩) (Nat.le_refl _) _)
             | true=>
              rw [show sg true v= -(v:Int) from rfl] at er
              have NG:=neg_any 8 _ (v:Int) wo HU.out
              clear f0 f1 c0 c1
              go_upto_region 27 with (go_at_call 138;(with_reducible refine NG.mono ?_);rintro e8 w8 ⟨v8,h8,rfl,b8⟩;obtain ⟨b8',a8,n8,c8,rfl⟩:=num_agg h8;have N8:=Lib.hid h8;have B8:=Lib.hid (bt HB.out b8);have T8:=Lib.hid (HT.out.below b8);have X8:=Lib.hid (boxAt_below HL.out b8);have r0:=X8.out.c0;have r1:=X8.out.c1;have r2:=X8.out.f0;have r3:=X8.out.f1;clear h8 b8 NG)
              have hne:w.heap.size ≠ i8:=by have:=L2.out;omega
              have X10:=Lib.hid (boxAt_set2 (.bool b8') (.slice a8 n8 c8) X8.out)
              have N10:=Lib.hid (num_set2 (.bool b8') (.slice a8 n8 c8) N8.out X8.out)
              have T10:Hid (Two ((w8.setCell ⟨i8,0,none⟩ (.bool b8')).setCell ⟨i8,1,none⟩ (.slice a8 n8 c8)) w.heap.size 0 0):=dAt_other _ _ (dAt_other _ _ (show DAt _ _ _ _ from T8.out) hne) hne
              have B10:=Lib.hid ((B8.out.setCell (p:=⟨i8,0,none⟩) (by show _≤i8;have:=L2.out;omega) (.bool b8')).setCell (p:=⟨i8,1,none⟩) (by show _≤i8;have:=L2.out;omega) (.slice a8 n8 c8))
              obtain ⟨w10,hw10⟩:∃ v,Hid (v=(w8.setCell ⟨i8,0,none⟩ (.bool b8')).setCell ⟨i8,1,none⟩ (.slice a8 n8 c8)):=⟨_,rfl⟩
              rw [←hw10.out] at X10 N10 T10 B10⊢
              clear hw10 r0 r1 r2 r3 e1 e2 e3 e4 X8 N8 T8 B8 hne
              have e1:=X10.out.c0;have e2:=X10.out.c1
              by_cases hf:Fit ((-(v:Int)))
              ·have rr:=Lib.hid (er.out.trans (if_pos hf))
               have SM:=small_f 8 _ (.tuple #[.int .i64 ((-(v:Int))),.bool true]) ((-(v:Int))) w10 N10.out (by omega) (if_pos hf)
               clear hf
               go_wp2_with (go_at_call 142;(with_reducible refine SM.mono ?_);rintro e9 w9 ⟨rfl,b9⟩;have B9:=Lib.hid (bt B10.out b9);have T9:=Lib.hid (T10.out.below b9);have y0:=T9.out.c0;have y1:=T9.out.c1;have y2:=T9.out.f 0;have y3:=T9.out.f 1;clear b9 SM)
               refine bodyPost_ret (v:=.tuple #[.agg #[.int .i64 _,.int .i64 _],.int .i64 _]) (results_cell2 (fn:=Tryz.f99) (p:=2) (u:=3) rfl _ _ w.heap.size _ _ (0,0) _ rfl (T9.out.set _ _) Tryz.underlying30 rfl (by kernel_rfl)) rfl ?_
               exact DpPost.mk rr.out (Below.setCell (Below.setCell B9.out (p:=⟨w.heap.size,0,none⟩) (Nat.le_refl _) _) (p:=⟨w.heap.size,1,none⟩) (Nat.le_refl _) _)
              ·have rr:=Lib.hid (er.out.trans (if_neg hf))
               have SM:=small_f 8 _ (.tuple #[.int .i64 0,.bool false]) ((-(v:Int))) w10 N10.out (by omega) (if_neg hf)
               clear hf
               go_wp2_with (go_at_call 142;(with_reducible refine SM.mono ?_);rintro e9 w9 ⟨rfl,b9⟩;have B9:=Lib.hid (bt B10.out b9);have T9:=Lib.hid (T10.out.below b9);have y0:=T9.out.c0;have y1:=T9.out.c1;have y2:=T9.out.f 0;have y3:=T9.out.f 1;clear b9 SM)
               refine bodyPost_ret (v:=.tuple #[.agg #[.int .i64 _,.int .i64 _],.int .i64 _]) (results_cell2 (fn:=Tryz.f99) (p:=2) (u:=3) rfl _ _ w.heap.size _ _ (0,0) _ rfl (T9.out.set _ _) Tryz.underlying30 rfl (by kernel_rfl)) rfl ?_
               exact DpPost.mk rr.out (Below.setCell (Below.setCell B9.out (p:=⟨w.heap.size,0,none⟩) (Nat.le_refl _) _) (p:=⟨w.heap.size,1,none⟩) (Nat.le_refl _) _)
end Go.Proofs.YteagpbkbdlmdiaaGreat.Tx
