/-
  The document's words: Lex, walked.
-/
import Derived.Test.YteagpbkbdlmdiaaGreatQ31
import Derived.Test.YteagpbkbdlmdiaaGreatQ22
import Derived.Test.YteagpbkbdlmdiaaGreatQ32
set_option linter.unusedSimpArgs false
set_option linter.unusedVariables false
namespace Go.Proofs.YteagpbkbdlmdiaaGreat.Lx
open Go Go.RowKit Dt Tx
attribute [local go_sem ↓] Go.wp_at_zero Go.wp_at_succ
theorem endL_le (l:List UInt8):endL l≤l.length:=by
 unfold endL
 split
 ·exact wh_le _ _
 ·split
  ·exact numL_le _
  ·exact sgnL_le
theorem dparse_err (l:List UInt8):(dparse l).2=0∨(dparse l).2=3∨(dparse l).2=4∨(dparse l).2=11:=by
 unfold dparse
 split
 ·exact .inr (.inl rfl)
 ·split
  ·exact .inr (.inr (.inl rfl))
  ·split
   ·exact .inl rfl
   ·exact .inr (.inr (.inr rfl))
theorem drparse_of {l:List UInt8} {a b e:Int} (h:dparse l=((a,b),e)) (hl:l.length≤1000) (w:World):Calls Tryz.prog 99 #[.string (bs l)] w fun e' w'=>e'=.returned (.tuple #[.agg #[.int .i64 a,.int .i64 b],.int .i64 e])∧Below w.heap.size w w':=by
 have:=drparse_is (w:=w) l hl
 unfold DpPost at this
 rw [h] at this
 exact this
set_option maxRecDepth 100000 in
set_option maxHeartbeats 4000000 in
theorem rlex_is {w:World} (l:List UInt8) (hl:l.length≤1000000):Calls Tryz.prog 48 #[.string (bs l)] w (LexPost (lexP l) w):=by
 have hz:(bs l).size=l.length:=bs_size l
 obtain ⟨N,hN⟩:∃ N,Hid (l.length=N):=⟨_,rfl⟩
 rw [hN.out] at hz
 by_cases h400:400<N
 ·have d1:decide (400<N)=true:=by simpa using h400
  have d2:decide ((400:Int)<(N:Int))=true:=by simp;omega
  have E:lexP l=([],0,3):=by unfold lexP;rw [if_pos (by rw [hN.out];exact h400)]
  rw [E]
  obtain ⟨S,hS⟩:∃ S,Hid (bs l=S):=⟨_,rfl⟩
  rw [hS.out] at hz⊢
  clear h400 hS hl E
  go_enter Tryz.func48,Tryz.ntmps48
  go_wp2_with fail
  refine bodyPost_ret (v:=.tuple #[.slice none 0 0,.int .i64 0,.int .i64 3]) (by simp [results,Tryz.results48,go_sem]) rfl ?_
  exact ⟨_,rfl,Elem.Arg.nil _,Below.refl _ _⟩
 ·have d1:decide (400<N)=false:=by simpa using h400
  have d2:decide ((400:Int)<(N:Int))=false:=by simp;omega
  have E:=Lib.hid (lexP_eq (l:=l) (by rw [hN.out];omega))
  have HN4:=Lib.hid (show N≤400 by omega)
  have HL:=Lib.hid (show l.length≤1000 by rw [hN.out];omega)
  obtain ⟨S,hS⟩:∃ S,Hid (bs l=S):=⟨_,rfl⟩
  rw [hS.out] at hz⊢
  clear h400 hl
  go_enter Tryz.func48,Tryz.ntmps48
  go_wp2_with fail
  go_loopw [5,6] (fun v i wr=>∃ (k:Nat) (acc:List Tok),i=.int .i64 (k:Int)∧k≤N∧Hid (acc.length≤k)∧Hid (lexR l k acc=lexP l)∧Hid (tokE.Row wr w.heap.size v acc)∧Hid (Below w.heap.size w wr)) (fun _ i _=>N - (intOf i).toNat)
  case atStart=>exact ⟨0,[],rfl,Nat.zero_le _,Nat.le_refl _,E.out.symm,Elem.Row.nil _ _,Below.refl _ _⟩
  case round=>
   obtain ⟨wo,rfl⟩:∃ wo:World,wo=wr:=⟨_,rfl⟩
   obtain ⟨k,acc,rfl,hk,HAC,HR,RR,B⟩:=hrel
   by_cases hkl:k<N
   ·obtain ⟨c,hc⟩:∃ c,l[k]?=some c:=⟨_,List.getElem?_eq_getElem (by rw [hN.out];exact hkl)⟩
    have kc:=at_byte l k c hc
    rw [hS.out] at kc
    have i0:(0:Int)≤(k:Int):=by omega
    have i1:decide ((k:Int)<(N:Int))=true:=by simp;omega
    have i2:decide (k<N)=true:=by simpa using hkl
    have HK:=Lib.hid hkl
    by_cases h32:c=32
    ·subst h32
     have kw:IntKind.i64.wrap ((k:Int)+1)=(k:Int)+1:=wrap_one k (by have:=HN4.out;omega)
     have HR2:=Lib.hid ((lexR_blank (acc:=acc) hc).symm.trans HR.out)
     clear hc hk hkl HR
     go_wp2_with fail
     refine ⟨⟨k+1,acc,rfl,HK.out,Nat.le_succ_of_le HAC.out,HR2,RR,B⟩,?_⟩
     show N - ((k:Int)+1).toNat<N - (k:Int).toNat
     have:=HK.out;omega
    ·have hcn:¬c.toNat=32:=fun e=>h32 (UInt8.toNat.inj e)
     have SM:=fun w=>small_is c w
     have DG:=fun w=>rdigit_is c w
     have EN:=fun w=>end_is (w:=w) l HL.out k c hc
     have hm0:(l.drop k)[0]?=some c:=by rw [List.getElem?_drop];simpa using hc
     have hnl:endL (l.drop k)≤N - k:=by have:=endL_le (l.drop k);rw [List.length_drop,hN.out] at this;exact this
     have SL:=slice_both l k (k+endL (l.drop k)) (by omega) (by rw [hN.out];omega)
     rw [show k+endL (l.drop k) - k=endL (l.drop k) by omega] at SL
     have htl:((l.drop k).take (endL (l.drop k))).length=endL (l.drop k):=by rw [List.length_take,Nat.min_eq_left (endL_le _)]
     obtain ⟨y,hy⟩:∃ y,Hid (c.toNat=y):=⟨_,rfl⟩
     rw [hy.out] at kc hcn SM DG
     have e1:((y:Int)==32)=false:=by simp;omega
     have e2:decide ((y:Int)=32)=false:=by simp;omega
     have e3:decide (y=32)=false:=by simpa using hcn
     obtain ⟨m,hm⟩:∃ m,Hid (l.drop k=m):=⟨_,rfl⟩
     have hstep:=fun {k' c' s' p' e':Int} {t:List UInt8} (hw:wordP m 0=(⟨k',t,c',s',p'⟩,e'))=>lex_step (acc:=acc) hc h32 (hm.out.symm ▸ hw)
     rw [hm.out] at EN hm0 hnl SL htl
     obtain ⟨n,hn⟩:∃ n,Hid (endL m=n):=⟨_,rfl⟩
     rw [hn.out] at EN hnl SL htl
     rw [hS.out] at EN SL
     obtain ⟨tt,htt⟩:∃ t,Hid (m.take n=t):=⟨_,rfl⟩
     rw [htt.out] at SL htl
     obtain ⟨U,hU⟩:∃ S,Hid (bs tt=S):=⟨_,rfl⟩
     rw [hU.out] at SL
     have HNL:=Lib.hid hnl
     have HTL:=Lib.hid htl
     obtain ⟨av,cv,rfl,hcw,hgw⟩:=RR.out.form
     have ksub:IntKind.i64.wrap (((k+n:Nat):Int) - (k:Int))=(n:Int):=by rw [IntWalk.i64_left,IntWalk.wrap64_in _ (by have:=HN4.out;omega)];omega
     obtain ⟨q,hq⟩:∃ q:Nat,Hid (k+n=q):=⟨_,rfl⟩
     unfold EndPost at EN
     rw [hq.out] at EN SL ksub
     have HWl:=Lib.hid (show w.heap.size≤wo.heap.size from B.out.size)
     have R4:=Lib.hid (Elem.Row.below RR.out (ba wo (.cells #[.int .u8 0,.string U,.int .i64 0,.int .i64 0,.int .i64 (k:Int)] 119)))
     have RL:=Lib.hid (fun g h=>(RR.out.lt g h).2)
     have B4:=Lib.hid (bt B.out (ba wo (.cells #[.int .u8 0,.string U,.int .i64 0,.int .i64 0,.int .i64 (k:Int)] 119)))
     have X4:=Lib.hid (Five.new wo 0 U 0 0 (k:Int))
     obtain ⟨wz,hwz⟩:∃ v,Hid (v=wo.alloc (.cells #[.int .u8 0,.string U,.int .i64 0,.int .i64 0,.int .i64 (k:Int)] 119)):=⟨_,rfl⟩
     obtain ⟨i7,hi7⟩:∃ v,Hid (wo.heap.size=v):=⟨_,rfl⟩
     rw [←hwz.out] at R4 B4 X4
     rw [hi7.out] at X4 RL HWl
     rw [←hN.out] at hnl
     clear hkl hk RR hnl htl hcn hcw hgw E
     cases hlo:isLo c
     ·rw [hlo] at SM
      cases hdg:isDg c
      ·rw [hdg] at DG
       have en:endL m=sgnL m:=by unfold endL;rw [hm0];simp [hlo,hdg]
       rw [hn.out] at en
       by_cases hn0:0<n
       ·have wl:=word_sg (l:=m) (p:=0) (by rw [hm0];exact hlo) (by rw [hm0];exact hdg) (by rw [←en];exact hn0)
        rw [←en,htt.out] at wl
        have d3:decide ((q:Int)=(k:Int))=false:=by have:=hq.out;simp;omega
        have d4:((q:Int)==(k:Int))=false:=by have:=hq.out;simp;omega
        have d5:decide (q=k)=false:=by have:=hq.out;simp;omega
        have HS2:=Lib.hid hn0
        obtain ⟨hs1,_,_⟩:=(hstep wl).1 rfl
        rw [HTL.out] at hs1
        have HR2:=Lib.hid (hs1.symm.trans HR.out)
        clear hs1 hstep wl en hlo hdg hm0 hc h32 hn hn0 hm htt HTL hy HR
        go_upto_region 11 with (first | (go_at_call 96;(with_reducible refine (EN _).mono ?_);rintro e0 w0 ⟨rfl,hq0⟩;obtain rfl:=hq0.symm;clear EN hq0))
        rw [←hwz.out,hi7.out]
        clear hwz hi7
        have g0:=X4.out.c0;have f0:=X4.out.f 0;have g1:=X4.out.c1
        go_upto_region 23 with (first | (go_at_call 97;(with_reducible refine (SM _).mono ?_);rintro e1 w1 ⟨rfl,hq1⟩;obtain rfl:=hq1.symm;clear hq1) | (go_at_call 98;(with_reducible refine (DG _).mono ?_);rintro e2 w2 ⟨rfl,hq2⟩;obtain rfl:=hq2.symm;clear hq2))
        have X5:=Lib.hid (X4.out.s0 3)
        have B5:=Lib.hid (Below.setCell B4.out (p:=⟨i7,0,none⟩) HWl.out (.int .u8 3))
        have R5:Hid (tokE.Row (wz.setCell ⟨i7,0,none⟩ (.int .u8 3)) w.heap.size (.slice av acc.length cv) acc):=Lib.hid (R4.out.block fun g hg=>heap_setCell_other wz ⟨i7,0,none⟩ g _ (Nat.ne_of_lt (RL.out g hg)))
        obtain ⟨wy,hwy⟩:∃ v,Hid (v=wz.setCell ⟨i7,0,none⟩ (.int .u8 3)):=⟨_,rfl⟩
        rw [←hwy.out] at X5 B5 R5⊢
        clear hwy f0 g0 g1
        have g0:=X5.out.c0;have g1:=X5.out.c1;have g2:=X5.out.c2;have g3:=X5.out.c3;have g4:=X5.out.c4
        have SRC:Hid (tokE.Arg (wy.alloc (.cells #[.int .u8 3,.string U,.int .i64 0,.int .i64 0,.int .i64 (k:Int)] 119)) (.slice (some ⟨wy.heap.size,0,none⟩) 1 1) [⟨3,tt,0,0,(k:Int)⟩]):=by
         rw [←hU.out];exact Lib.hid (Elem.arg_one (E:=tokE) (w:=wy) ⟨3,tt,0,0,(k:Int)⟩ 119)
        have RA:=Lib.hid (Elem.Row.below R5.out (ba wy (.cells #[.int .u8 3,.string U,.int .i64 0,.int .i64 0,.int .i64 (k:Int)] 119)))
        have BA:=Lib.hid (bt B5.out (ba wy (.cells #[.int .u8 3,.string U,.int .i64 0,.int .i64 0,.int .i64 (k:Int)] 119)))
        have HFL:Hid (acc.length+1≤1000001):=Lib.hid (by have:=HAC.out;have:=HK.out;have:=HN4.out;omega)
        have HB:=Lib.hid BA.out.size
        go_wp2_with (at_builtin;go_loud (refine Elem.app (E:=tokE) rfl _ _ rfl w.heap.size (.slice av acc.length cv) acc (.slice (some ⟨wy.heap.size,0,none⟩) 1 1) [⟨3,tt,0,0,(k:Int)⟩] rfl rfl RA.out SRC.out HFL.out (by decide) HB.out ?_;intro v6 w6 r6 q6 _;have R6:=Lib.hid r6;have B6:=Lib.hid (BA.out.grown q6 BA.out.size (fun z hz=>(RA.out.lt z hz).1));clear r6 q6))
        refine ⟨⟨q,_,rfl,?_,?_,?_,R6,B6⟩,?_⟩
        ·have:=HNL.out;have:=hq.out;have:=HK.out;omega
        ·show (acc++[_]).length≤q
         rw [List.length_append];have:=HAC.out;have:=HS2.out;have:=hq.out;show acc.length+1≤_;omega
        ·show lexR l q _=_
         rw [←hq.out];exact HR2.out
        ·show N - ((q:Int)).toNat<N - ((k:Int)).toNat
         have:=HS2.out;have:=hq.out;have:=HK.out;omega
       ·have hn00:n=0:=by omega
        have wl:=word_no (l:=m) (p:=0) (by rw [hm0];exact hlo) (by rw [hm0];exact hdg) (by rw [←en];exact hn0)
        have d3:decide ((q:Int)=(k:Int))=true:=by have:=hq.out;simp;omega
        have d4:((q:Int)==(k:Int))=true:=by have:=hq.out;simp;omega
        have d5:decide (q=k)=true:=by have:=hq.out;simp;omega
        have hb:=(hstep wl).2 (by decide)
        have HR2:=Lib.hid (HR.out.symm.trans hb)
        clear hb hstep wl en hlo hdg hm0 hc h32 hn hn0 hn00 hm htt HTL hy HR SM DG
        go_upto_region 11 with (first | (go_at_call 96;(with_reducible refine (EN _).mono ?_);rintro e0 w0 ⟨rfl,hq0⟩;obtain rfl:=hq0.symm;clear EN hq0))
        rw [←hwz.out,hi7.out]
        clear hwz hi7
        have g0:=X4.out.c0;have f0:=X4.out.f 0;have g1:=X4.out.c1
        go_wp2_with fail
        refine bodyPost_ret (v:=.tuple #[.slice none 0 0,.int .i64 (k:Int),.int .i64 4]) (by simp [results,Tryz.results48,go_sem]) rfl ?_
        rw [HR2.out]
        exact ⟨_,rfl,Elem.Arg.nil _,B4.out⟩
      ·rw [hdg] at DG
       have en:endL m=numL m:=by unfold endL;rw [hm0];simp [hlo,hdg]
       rw [hn.out] at en
       have hn0:0<n:=by rw [en];exact numL_pos (by rw [hm0];exact hdg)
       have wl:=word_dg (l:=m) (p:=0) (by rw [hm0];exact hlo) (by rw [hm0];exact hdg)
       rw [←en,htt.out] at wl
       have er:=dparse_err tt
       have PA:=fun (a d e:Int) (h:dparse tt=((a,d),e)) w=>drparse_of h (by rw [HTL.out];have:=HNL.out;have:=HN4.out;omega) w
       obtain ⟨⟨⟨a,d⟩,e⟩,hd⟩:∃ r,Hid (dparse tt=r):=⟨_,rfl⟩
       replace PA:=PA a d e hd.out
       rw [hU.out] at PA
       rw [hd.out] at wl er
       simp only at wl er
       have d3:decide ((q:Int)=(k:Int))=false:=by have:=hq.out;simp;omega
       have d4:((q:Int)==(k:Int))=false:=by have:=hq.out;simp;omega
       have d5:decide (q=k)=false:=by have:=hq.out;simp;omega
       have HS2:=Lib.hid hn0
       have pre:=True.intro
       have X5:=Lib.hid (X4.out.s0 2)
       have B5:=Lib.hid (Below.setCell B4.out (p:=⟨i7,0,none⟩) HWl.out (.int .u8 2))
       have R5:Hid (tokE.Row (wz.setCell ⟨i7,0,none⟩ (.int .u8 2)) w.heap.size (.slice av acc.length cv) acc):=Lib.hid (R4.out.block fun g hg=>heap_setCell_other wz ⟨i7,0,none⟩ g _ (Nat.ne_of_lt (RL.out g hg)))
       by_cases he0:e=0
       ·subst he0
        obtain ⟨hs1,_,_⟩:=(hstep wl).1 (by simp)
        rw [HTL.out] at hs1
        have HR2:=Lib.hid (hs1.symm.trans HR.out)
        clear hs1 hstep wl en hlo hdg hm0 hc h32 hn hn0 hm htt HTL hy HR er hd
        go_upto_region 11 with (first | (go_at_call 96;(with_reducible refine (EN _).mono ?_);rintro e0 w0 ⟨rfl,hq0⟩;obtain rfl:=hq0.symm;clear EN hq0))
        rw [←hwz.out,hi7.out]
        clear hwz hi7
        have g0:=X4.out.c0;have f0:=X4.out.f 0;have g1:=X4.out.c1
        go_upto_region 17 with (first | (go_at_call 97;(with_reducible refine (SM _).mono ?_);rintro e1 w1 ⟨rfl,hq1⟩;obtain rfl:=hq1.symm;clear hq1) | (go_at_call 98;(with_reducible refine (DG _).mono ?_);rintro e2 w2 ⟨rfl,hq2⟩;obtain rfl:=hq2.symm;clear hq2))
        obtain ⟨wx,hwx⟩:∃ v,Hid (v=wz.setCell ⟨i7,0,none⟩ (.int .u8 2)):=⟨_,rfl⟩
        rw [←hwx.out] at X5 B5 R5⊢
        clear hwx f0 g0 g1
        have g1:=X5.out.c1
        go_upto_region 18 with (go_at_call 99;(with_reducible refine (PA _).mono ?_);rintro e5 w5 ⟨rfl,q5⟩;have X6:=Lib.hid ((X5.out.below q5).below (ba w5 (.cells #[.int .i64 a,.int .i64 d] 30)));have R6:=Lib.hid (Elem.Row.below R5.out (bt q5 (ba w5 (.cells #[.int .i64 a,.int .i64 d] 30))));have B6:=Lib.hid (bt B5.out (bt q5 (ba w5 (.cells #[.int .i64 a,.int .i64 d] 30))));have D6:=Lib.hid (Two.new w5 a d);clear q5 PA g1)
        obtain ⟨wv,hwv⟩:∃ v,Hid (v=w5.alloc (.cells #[.int .i64 a,.int .i64 d] 30)):=⟨_,rfl⟩
        obtain ⟨i9,hi9⟩:∃ v,Hid (w5.heap.size=v):=⟨_,rfl⟩
        rw [←hwv.out] at X6 R6 B6 D6⊢
        rw [hi9.out] at D6⊢
        clear hwv hi9 X5 B5 R5 X4 B4 R4
        have c0:=D6.out.c0;have c1:=D6.out.c1
        have g2:=X6.out.c2;have g3:=X6.out.c3;have f2:=X6.out.f 2;have f3:=X6.out.f 3
        go_upto_region 23 with fail
        have X7:=Lib.hid ((X6.out.s2 a).s3 d)
        have B7:=Lib.hid (Below.setCell (Below.setCell B6.out (p:=⟨i7,2,none⟩) HWl.out (.int .i64 a)) (p:=⟨i7,3,none⟩) HWl.out (.int .i64 d))
        have R7:Hid (tokE.Row ((wv.setCell ⟨i7,2,none⟩ (.int .i64 a)).setCell ⟨i7,3,none⟩ (.int .i64 d)) w.heap.size (.slice av acc.length cv) acc):=Lib.hid (R6.out.block fun g hg=>(heap_setCell_other _ ⟨i7,3,none⟩ g _ (Nat.ne_of_lt (RL.out g hg))).trans (heap_setCell_other _ ⟨i7,2,none⟩ g _ (Nat.ne_of_lt (RL.out g hg))))
        obtain ⟨wy,hwy⟩:∃ v,Hid (v=(wv.setCell ⟨i7,2,none⟩ (.int .i64 a)).setCell ⟨i7,3,none⟩ (.int .i64 d)):=⟨_,rfl⟩
        rw [←hwy.out] at X7 B7 R7⊢
        clear hwy c0 c1 g2 g3 f2 f3 X6 B6 R6 D6
        have g0:=X7.out.c0;have g1:=X7.out.c1;have g2:=X7.out.c2;have g3:=X7.out.c3;have g4:=X7.out.c4
        have SRC:Hid (tokE.Arg (wy.alloc (.cells #[.int .u8 2,.string U,.int .i64 a,.int .i64 d,.int .i64 (k:Int)] 119)) (.slice (some ⟨wy.heap.size,0,none⟩) 1 1) [⟨2,tt,a,d,(k:Int)⟩]):=by
         rw [←hU.out];exact Lib.hid (Elem.arg_one (E:=tokE) (w:=wy) ⟨2,tt,a,d,(k:Int)⟩ 119)
        have RA:=Lib.hid (Elem.Row.below R7.out (ba wy (.cells #[.int .u8 2,.string U,.int .i64 a,.int .i64 d,.int .i64 (k:Int)] 119)))
        have BA:=Lib.hid (bt B7.out (ba wy (.cells #[.int .u8 2,.string U,.int .i64 a,.int .i64 d,.int .i64 (k:Int)] 119)))
        have HFL:Hid (acc.length+1≤1000001):=Lib.hid (by have:=HAC.out;have:=HK.out;have:=HN4.out;omega)
        have HB:=Lib.hid BA.out.size
        go_wp2_with (at_builtin;go_loud (refine Elem.app (E:=tokE) rfl _ _ rfl w.heap.size (.slice av acc.length cv) acc (.slice (some ⟨wy.heap.size,0,none⟩) 1 1) [⟨2,tt,a,d,(k:Int)⟩] rfl rfl RA.out SRC.out HFL.out (by decide) HB.out ?_;intro v6 w6 r6 q6 _;have R6:=Lib.hid r6;have B6:=Lib.hid (BA.out.grown q6 BA.out.size (fun z hz=>(RA.out.lt z hz).1));clear r6 q6))
        refine ⟨⟨q,_,rfl,?_,?_,?_,R6,B6⟩,?_⟩
        ·have:=HNL.out;have:=hq.out;have:=HK.out;omega
        ·show (acc++[_]).length≤q
         rw [List.length_append];have:=HAC.out;have:=HS2.out;have:=hq.out;show acc.length+1≤_;omega
        ·show lexR l q _=_
         rw [←hq.out];exact HR2.out
        ·show N - ((q:Int)).toNat<N - ((k:Int)).toNat
         have:=HS2.out;have:=hq.out;have:=HK.out;omega
       ·by_cases he11:e=11
        ·subst he11
         have hb:=(hstep wl).2 (by decide)
         have HR2:=Lib.hid (HR.out.symm.trans hb)
         clear hb hstep wl en hlo hdg hm0 hc h32 hn hn0 hm htt HTL hy HR er hd he0
         go_upto_region 11 with (first | (go_at_call 96;(with_reducible refine (EN _).mono ?_);rintro e0 w0 ⟨rfl,hq0⟩;obtain rfl:=hq0.symm;clear EN hq0))
         rw [←hwz.out,hi7.out]
         clear hwz hi7
         have g0:=X4.out.c0;have f0:=X4.out.f 0;have g1:=X4.out.c1
         go_upto_region 17 with (first | (go_at_call 97;(with_reducible refine (SM _).mono ?_);rintro e1 w1 ⟨rfl,hq1⟩;obtain rfl:=hq1.symm;clear hq1) | (go_at_call 98;(with_reducible refine (DG _).mono ?_);rintro e2 w2 ⟨rfl,hq2⟩;obtain rfl:=hq2.symm;clear hq2))
         obtain ⟨wx,hwx⟩:∃ v,Hid (v=wz.setCell ⟨i7,0,none⟩ (.int .u8 2)):=⟨_,rfl⟩
         rw [←hwx.out] at X5 B5 R5⊢
         clear hwx f0 g0 g1
         have g1:=X5.out.c1
         go_wp2_with (go_at_call 99;(with_reducible refine (PA _).mono ?_);rintro e5 w5 ⟨rfl,q5⟩;have B6:=Lib.hid (bt B5.out (bt q5 (ba w5 (.cells #[.int .i64 a,.int .i64 d] 30))));clear q5 PA g1)
         refine bodyPost_ret (v:=.tuple #[.slice none 0 0,.int .i64 (k:Int),.int .i64 11]) (by simp [results,Tryz.results48,go_sem]) rfl ?_
         rw [HR2.out]
         exact ⟨_,rfl,Elem.Arg.nil _,B6.out⟩
        ·have he4:(if e=3 then (4:Int) else e)=4:=by
          rcases er with h | h | h | h
          ·exact absurd h he0
          ·rw [if_pos h]
          ·rw [h];decide
          ·exact absurd h he11
         rw [he4] at wl
         have hb:=(hstep wl).2 (by decide)
         have HR2:=Lib.hid (HR.out.symm.trans hb)
         have z1:decide (e=0)=false:=by simpa using he0
         have z2:(e==0)=false:=by simpa using he0
         have z3:(e !=0)=true:=by simpa using he0
         have z4:decide (e=11)=false:=by simpa using he11
         have z5:(e==11)=false:=by simpa using he11
         clear hb hstep wl en hlo hdg hm0 hc h32 hn hn0 hm htt HTL hy HR er hd he0 he11 he4
         go_upto_region 11 with (first | (go_at_call 96;(with_reducible refine (EN _).mono ?_);rintro e0 w0 ⟨rfl,hq0⟩;obtain rfl:=hq0.symm;clear EN hq0))
         rw [←hwz.out,hi7.out]
         clear hwz hi7
         have g0:=X4.out.c0;have f0:=X4.out.f 0;have g1:=X4.out.c1
         go_upto_region 17 with (first | (go_at_call 97;(with_reducible refine (SM _).mono ?_);rintro e1 w1 ⟨rfl,hq1⟩;obtain rfl:=hq1.symm;clear hq1) | (go_at_call 98;(with_reducible refine (DG _).mono ?_);rintro e2 w2 ⟨rfl,hq2⟩;obtain rfl:=hq2.symm;clear hq2))
         obtain ⟨wx,hwx⟩:∃ v,Hid (v=wz.setCell ⟨i7,0,none⟩ (.int .u8 2)):=⟨_,rfl⟩
         rw [←hwx.out] at X5 B5 R5⊢
         clear hwx f0 g0 g1
         have g1:=X5.out.c1
         go_wp2_with (go_at_call 99;(with_reducible refine (PA _).mono ?_);rintro e5 w5 ⟨rfl,q5⟩;have B6:=Lib.hid (bt B5.out (bt q5 (ba w5 (.cells #[.int .i64 a,.int .i64 d] 30))));clear q5 PA g1)
         refine bodyPost_ret (v:=.tuple #[.slice none 0 0,.int .i64 (k:Int),.int .i64 4]) (by simp [results,Tryz.results48,go_sem]) rfl ?_
         rw [HR2.out]
         exact ⟨_,rfl,Elem.Arg.nil _,B6.out⟩
     ·have SM':=SM
      rw [hlo] at SM SM'
      have en:endL m=wh isAl m:=by unfold endL;rw [hm0];simp [hlo]
      rw [hn.out] at en
      have wl:=word_lo (l:=m) (p:=0) (by rw [hm0];exact hlo)
      rw [←en,htt.out] at wl
      have hn0:0<n:=by rw [en];exact wh_pos (by rw [hm0];show isAl c=true;unfold isAl;rw [hlo];rfl)
      have d3:decide ((q:Int)=(k:Int))=false:=by have:=hq.out;simp;omega
      have d4:((q:Int)==(k:Int))=false:=by have:=hq.out;simp;omega
      have d5:decide (q=k)=false:=by have:=hq.out;simp;omega
      have HS2:=Lib.hid hn0
      cases h12:decide (12<n)
      ·have h12':=of_decide_eq_false h12
       rw [if_neg h12'] at wl
       have j5:decide ((12:Int)<(n:Int))=false:=by simp;omega
       obtain ⟨hs1,_,_⟩:=(hstep wl).1 rfl
       rw [HTL.out] at hs1
       have HR2:=Lib.hid (hs1.symm.trans HR.out)
       clear hs1 hstep wl en hlo hm0 hc h32 hn hn0 h12' hm htt HTL hy HR SM' DG
       go_upto_region 11 with (first | (go_at_call 96;(with_reducible refine (EN _).mono ?_);rintro e0 w0 ⟨rfl,hq0⟩;obtain rfl:=hq0.symm;clear EN hq0))
       rw [←hwz.out,hi7.out]
       clear hwz hi7
       have g0:=X4.out.c0;have f0:=X4.out.f 0;have g1:=X4.out.c1
       go_upto_region 23 with (first | (go_at_call 97;(with_reducible refine (SM _).mono ?_);rintro e1 w1 ⟨rfl,hq1⟩;obtain rfl:=hq1.symm;clear hq1))
       have X5:=Lib.hid (X4.out.s0 1)
       have B5:=Lib.hid (Below.setCell B4.out (p:=⟨i7,0,none⟩) HWl.out (.int .u8 1))
       have R5:Hid (tokE.Row (wz.setCell ⟨i7,0,none⟩ (.int .u8 1)) w.heap.size (.slice av acc.length cv) acc):=Lib.hid (R4.out.block fun g hg=>heap_setCell_other wz ⟨i7,0,none⟩ g _ (Nat.ne_of_lt (RL.out g hg)))
       obtain ⟨wy,hwy⟩:∃ v,Hid (v=wz.setCell ⟨i7,0,none⟩ (.int .u8 1)):=⟨_,rfl⟩
       rw [←hwy.out] at X5 B5 R5⊢
       clear hwy f0 g0 g1
       have g0:=X5.out.c0;have g1:=X5.out.c1;have g2:=X5.out.c2;have g3:=X5.out.c3;have g4:=X5.out.c4
       have SRC:Hid (tokE.Arg (wy.alloc (.cells #[.int .u8 1,.string U,.int .i64 0,.int .i64 0,.int .i64 (k:Int)] 119)) (.slice (some ⟨wy.heap.size,0,none⟩) 1 1) [⟨1,tt,0,0,(k:Int)⟩]):=by
        rw [←hU.out];exact Lib.hid (Elem.arg_one (E:=tokE) (w:=wy) ⟨1,tt,0,0,(k:Int)⟩ 119)
       have RA:=Lib.hid (Elem.Row.below R5.out (ba wy (.cells #[.int .u8 1,.string U,.int .i64 0,.int .i64 0,.int .i64 (k:Int)] 119)))
       have BA:=Lib.hid (bt B5.out (ba wy (.cells #[.int .u8 1,.string U,.int .i64 0,.int .i64 0,.int .i64 (k:Int)] 119)))
       have HFL:Hid (acc.length+1≤1000001):=Lib.hid (by have:=HAC.out;have:=HK.out;have:=HN4.out;omega)
       have HB:=Lib.hid BA.out.size
       go_wp2_with (at_builtin;go_loud (refine Elem.app (E:=tokE) rfl _ _ rfl w.heap.size (.slice av acc.length cv) acc (.slice (some ⟨wy.heap.size,0,none⟩) 1 1) [⟨1,tt,0,0,(k:Int)⟩] rfl rfl RA.out SRC.out HFL.out (by decide) HB.out ?_;intro v6 w6 r6 q6 _;have R6:=Lib.hid r6;have B6:=Lib.hid (BA.out.grown q6 BA.out.size (fun z hz=>(RA.out.lt z hz).1));clear r6 q6))
       refine ⟨⟨q,_,rfl,?_,?_,?_,R6,B6⟩,?_⟩
       ·have:=HNL.out;have:=hq.out;have:=HK.out;omega
       ·show (acc++[_]).length≤q
        rw [List.length_append];have:=HAC.out;have:=HS2.out;have:=hq.out;show acc.length+1≤_;omega
       ·show lexR l q _=_
        rw [←hq.out];exact HR2.out
       ·show N - ((q:Int)).toNat<N - ((k:Int)).toNat
        have:=HS2.out;have:=hq.out;have:=HK.out;omega
      ·have h12':=of_decide_eq_true h12
       rw [if_pos h12'] at wl
       have j5:decide ((12:Int)<(n:Int))=true:=by simp;omega
       have hb:=(hstep wl).2 (by decide)
       have HR2:=Lib.hid (HR.out.symm.trans hb)
       clear hb hstep wl en hlo hm0 hc h32 hn hn0 h12' hm htt HTL hy HR SM' DG
       go_upto_region 11 with (first | (go_at_call 96;(with_reducible refine (EN _).mono ?_);rintro e0 w0 ⟨rfl,hq0⟩;obtain rfl:=hq0.symm;clear EN hq0))
       rw [←hwz.out,hi7.out]
       clear hwz hi7
       have g0:=X4.out.c0;have f0:=X4.out.f 0;have g1:=X4.out.c1
       go_wp2_with (first | (go_at_call 97;(with_reducible refine (SM _).mono ?_);rintro e1 w1 ⟨rfl,hq1⟩;obtain rfl:=hq1.symm;clear hq1))
       refine bodyPost_ret (v:=.tuple #[.slice none 0 0,.int .i64 (k:Int),.int .i64 4]) (by simp [results,Tryz.results48,go_sem]) rfl ?_
       rw [HR2.out]
       exact ⟨_,rfl,Elem.Arg.nil _,B4.out⟩
   ·have hkN:k=N:=by omega
    subst hkN
    have i1:decide ((k:Int)<(k:Int))=false:=by simp
    have i2:decide (k<k)=false:=by simp
    have HR2:=Lib.hid (HR.out.symm.trans (lexR_done (acc:=acc) (List.getElem?_eq_none (by rw [hN.out];exact Nat.le_refl _))))
    have AR:=Lib.hid RR.out.arg
    clear hk hkl HR
    go_wp2_with fail
    refine bodyPost_ret (v:=.tuple #[_,.int .i64 0,.int .i64 0]) (by simp [results,Tryz.results48,go_sem];rfl) rfl ?_
    rw [HR2.out]
    exact ⟨_,rfl,AR.out,B.out⟩
end Go.Proofs.YteagpbkbdlmdiaaGreat.Lx
