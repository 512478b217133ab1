/-
  The document's Text of a number, walked.
-/
import Derived.Test.YteagpbkbdlmdiaaGreatQ22
set_option linter.unusedSimpArgs false
set_option linter.unusedVariables false
namespace Go.Proofs.YteagpbkbdlmdiaaGreat.Tx
set_option maxRecDepth 100000
set_option maxHeartbeats 4000000
open Go Go.RowKit Dt
attribute [local go_sem ↓] Go.wp_at_zero Go.wp_at_succ
theorem num_abs {k:Nat} {w:World} {b:Bool} {a:Option Addr} {n c:Nat} {z:Int} (h:Num k w (.agg #[.bool b,.slice a n c]) z):b=decide (z<0)∧Num k w (.agg #[.bool false,.slice a n c]) ((z.natAbs:Nat):Int):=by
 obtain ⟨ds,hr,hc,hv,hl,hm,hb⟩:=num_row h
 refine ⟨hb.symm,.slice a n c,ds,?_,hr,hc,by rw [hv];simp,hl⟩
 have:decide (((z.natAbs:Nat):Int)<0)=false:=by simp
 rw [this]
theorem num_digit {k:Nat} {w:World} {b:Bool} {a:Option Addr} {n c:Nat} {q:Nat} (h:Num k w (.agg #[.bool b,.slice a n c]) (q:Int)) (hq:q<10):(n=0↔q=0)∧(0<n→n=1∧∃ g,a=some ⟨g,0,none⟩∧g<w.heap.size∧w.cell? ⟨g,0,none⟩=some (.int .i64 (q:Int))):=by
 obtain ⟨ds,hr,hc,hv,hl,hm,hb⟩:=num_row h
 rw [Int.natAbs_natCast] at hv
 have l1:=Nm.canon_len ds 1 hc (by rw [hv];omega)
 have z:=Nm.canon_zero ds hc
 refine ⟨by rw [←hm,List.length_eq_zero_iff,←z,hv],fun hn=>?_⟩
 have len:ds.length=1:=by omega
 obtain ⟨g,rfl,hg⟩:=rowW_some hr (by omega)
 match ds,len,hv,hr with
 | [d],_,hv,hr=>
  have e:d=q:=by simpa [Nm.val] using hv
  subst e
  exact ⟨by omega,g,rfl,hg,rowW_at hr 0 d rfl⟩
theorem one_digit (w:World) (u d:Nat) (h:u % 10=d):(convert 158 9 (.slice (some ⟨w.heap.size,0,none⟩) 1 1)).run Tryz.prog (w.alloc (.cells #[.int .u8 ((48+d:Nat):Int)] 5))=.ok (.string (bs [dg u])) (w.alloc (.cells #[.int .u8 ((48+d:Nat):Int)] 5)):=by
 have e:BAt (w.alloc (.cells #[.int .u8 ((48+d:Nat):Int)] 5)) w.heap.size [dg u]:=by
  have:=BAt.new w [dg u]
  have h2:([dg u].map bc).toArray=#[.int .u8 ((48+d:Nat):Int)]:=by
   show #[Value.int .u8 ((dg u).toNat:Int)]=_
   rw [dg_nat,h]
  rw [h2] at this
  exact this
 exact back_bytes e 1
theorem one_digit_x (w:World) (u d:Nat) (h:u % 10=d) (x:Int) (hx:x=48+(d:Int)):(convert 158 9 (.slice (some ⟨w.heap.size,0,none⟩) 1 1)).run Tryz.prog (w.alloc (.cells #[.int .u8 x] 5))=.ok (.string (bs [dg u])) (w.alloc (.cells #[.int .u8 x] 5)):=by
 have e:x=((48+d:Nat):Int):=by omega
 rw [e];exact one_digit w u d h
def TR (w:World) (bx i3 i5:Nat) (C:Int) (D a:Nat) (nv:Value) (s4 s6:Value) (wx:World):Prop:=
 ∃ (k:Nat) (b:Bool) (al:Option Addr) (n c:Nat),s4=.string (bs (refT a D k))∧s6=.int .i64 (k:Int)∧Hid (k≤lenT a D)∧Hid (Two wx bx C (D:Int))∧Hid (BoxAt wx i5 (.bool b) (.slice al n c))∧
  Hid (Num 8 wx (.agg #[.bool b,.slice al n c]) ((a / 10 ^ k:Nat):Int))∧Hid (∃ l,BoxAt wx i3 nv l)∧Hid (Below w.heap.size w wx)
def TMid (W:World) (u:Nat) (s7 s8:Value) (wx:World):Prop:=
 ∃ (i j:Nat) (bq br:Bool) (aq ar:Option Addr) (nq nr cq cr:Nat),s7=.pointer (some ⟨i,0,none⟩)∧s8=.pointer (some ⟨j,0,none⟩)∧BoxAt wx i (.bool bq) (.slice aq nq cq)∧BoxAt wx j (.bool br) (.slice ar nr cr)∧
  Num 8 wx (.agg #[.bool bq,.slice aq nq cq]) (((u / 10:Nat)):Int)∧Num 8 wx (.agg #[.bool br,.slice ar nr cr]) (((u % 10:Nat)):Int)∧Below W.heap.size W wx
theorem down10n (va vb:Value) (u:Nat) (w:World) (ha:Num 8 w va (u:Int)) (hb:Num 7 w vb 10) :
  Calls Tryz.prog 140 #[va,vb] w fun e w'=>∃ vq vr:Value,Num 8 w' vq ((u / 10:Nat):Int)∧Num 8 w' vr ((u % 10:Nat):Int)∧e=.returned (.tuple #[vq,vr])∧Below w.heap.size w w':=by
 refine (down10 8 va vb (u:Int) w ha hb (by omega)).mono ?_
 rintro e w' ⟨vq,vr,h1,h2,he,hb⟩
 exact ⟨vq,vr,by simpa using h1,by simpa using h2,he,hb⟩
theorem rtext_no {w:World} (c s:Int) (hb:isB s=false):Calls Tryz.prog 90 #[.agg #[.int .i64 c,.int .i64 s]] w (TextPost c s w):=by
 have B0:=Lib.hid (ba w (.cells #[.int .i64 c,.int .i64 s] 30))
 have T0:=Lib.hid (Two.new w c s)
 have I:=fun w=>rIs_any c s w
 rw [hb] at I
 have r:=Lib.hid (show textS c s=[] from by unfold textS;rw [hb];rfl)
 go_enter Tryz.func90,Tryz.ntmps90
 go_upto_region 1 with fail
 obtain ⟨wa,hwa⟩:∃ v,Hid (v=w.alloc (.cells #[.int .i64 c,.int .i64 s] 30)):=⟨_,rfl⟩
 rw [←hwa.out] at B0 T0⊢
 have c0:=T0.out.c0;have c1:=T0.out.c1
 clear hwa
 go_wp2_with (go_at_call 36;(with_reducible refine (I _).mono ?_);rintro e1 w1 ⟨rfl,b1⟩;have B1:=Lib.hid (bt B0.out b1);clear b1 I)
 go_ret
 exact ⟨by rw [r.out];rfl,B1.out⟩
theorem rtext_yes {w:World} (c s:Int) (hc:Fit c) (hb:isB s=true):Calls Tryz.prog 90 #[.agg #[.int .i64 c,.int .i64 s]] w (TextPost c s w):=by
 have B0:=Lib.hid (ba w (.cells #[.int .i64 c,.int .i64 s] 30))
 have T0:=Lib.hid (Two.new w c s)
 have I:=fun w=>rIs_any c s w
 rw [hb] at I
 have hS:=canS_le (c:=c) hb
 have hC:=trim_fit c s.toNat hc
 have r0:textS c s=dtxt (canC c s) (canS c s):=by unfold textS;rw [if_pos hb]
 have P:∀ w,Calls Tryz.prog 38 #[.agg #[.int .i64 c,.int .i64 s]] w fun e w'=>e=.returned (.tuple #[.agg #[.int .i64 (canC c s),.int .i64 (canS c s:Int)],.int .i64 0])∧Below w.heap.size w w':=fun w=>by
  have e:=putV_ok hc hb
  obtain ⟨n,rfl,hn⟩:=isB_nat hb
  unfold putV at e
  rw [if_pos hb,Int.toNat_natCast,decV_un c n hn] at e
  exact rPut_any c n _ w hc hn e
 unfold TextPost
 rw [r0]
 obtain ⟨C,hC'⟩:∃ C,canC c s=C:=⟨_,rfl⟩
 obtain ⟨D,hD'⟩:∃ C,canS c s=C:=⟨_,rfl⟩
 have hC2:Fit C:=by rw [←hC'];exact hC
 rw [hC',hD'] at P⊢
 rw [hD'] at hS
 have HF:=Lib.hid hC2
 have HS:=Lib.hid hS
 clear hC hC' hD' r0 hb hc hS hC2
 go_enter Tryz.func90,Tryz.ntmps90
 go_upto_region 1 with fail
 obtain ⟨wa,hwa⟩:∃ v,Hid (v=w.alloc (.cells #[.int .i64 c,.int .i64 s] 30)):=⟨_,rfl⟩
 rw [←hwa.out] at B0 T0⊢
 have c0:=T0.out.c0;have c1:=T0.out.c1
 clear hwa
 go_upto_region 4 with (first | (go_at_call 36;(with_reducible refine (I _).mono ?_);rintro e1 w1 ⟨rfl,b1⟩;have B1:=Lib.hid (bt B0.out b1);have T1:=Lib.hid (T0.out.below b1);have y0:=T1.out.c0;have y1:=T1.out.c1;clear b1 I) | (go_at_call 38;(with_reducible refine (P _).mono ?_);rintro e2 w2 ⟨rfl,b2⟩;have B2:=Lib.hid (bt B1.out b2);have T2:=Lib.hid (T1.out.below b2);have x0:=T2.out.c0;have x1:=T2.out.c1;have f0:=T2.out.f 0;have f1:=T2.out.f 1;clear b2 P))
 have T3:=Lib.hid (T2.out.set C (D:Int))
 have B3:=Lib.hid ((B2.out.setCell (p:=⟨w.heap.size,0,none⟩) (Nat.le_refl _) (.int .i64 C)).setCell (p:=⟨w.heap.size,1,none⟩) (Nat.le_refl _) (.int .i64 (D:Int)))
 obtain ⟨w3,hw3⟩:∃ v,Hid (v=(w2.setCell ⟨w.heap.size,0,none⟩ (.int .i64 C)).setCell ⟨w.heap.size,1,none⟩ (.int .i64 (D:Int))):=⟨_,rfl⟩
 rw [←hw3.out] at T3 B3⊢
 clear c0 c1 x0 x1 f0 f1 y0 y1 hw3 T2 B2 T1 B1 T0 B0
 have c0:=T3.out.c0;have c1:=T3.out.c1
 have O:=of_any C w3 HF.out.1 HF.out.2
 go_upto_region 5 with (go_at_call 139;(with_reducible refine O.mono ?_);rintro e4 w4 ⟨v4,hv4,rfl,b4⟩;obtain ⟨bn,al,nl,cl,rfl⟩:=num_agg hv4;have N4:=Lib.hid hv4;have B4:=Lib.hid (bt B3.out b4);have T4:=Lib.hid (T3.out.below b4);clear hv4 b4 O)
 go_upto_region 7 with fail
 obtain ⟨W,hW,hX,hR,hBB⟩:=num_num w4 (.bool bn) (.slice al nl cl) (.bool false) (.slice al nl cl)
 rw [←hW]
 obtain ⟨hbn,hN0⟩:=num_abs N4.out
 have X0:=Lib.hid hX;have R0:=Lib.hid hR;have B5:=Lib.hid (bt B4.out hBB);have T5:=Lib.hid (T4.out.below hBB);have N5:=Lib.hid (num_below hN0 hBB);have HBN:=Lib.hid hbn
 have S5:=Lib.hid (show w.heap.size≤w4.heap.size from B4.out.size)
 have L5:=Lib.hid (show w.heap.size<w4.heap.size from T4.out.lt)
 obtain ⟨a,ha⟩:∃ a,Hid (C.natAbs=a):=⟨_,rfl⟩
 rw [ha.out] at N5
 have hlen:Hid (lenT a D≤19):=by show _≤_;unfold lenT;have:=HS.out;have:=dd_len_le (a:=a) (by rw [←ha.out];have:=HF.out.1;have:=HF.out.2;omega);omega
 clear hX hR hBB hW hN0 hbn N4 T4 B4 c0 c1 T3 B3
 obtain ⟨i3,hi3⟩:∃ i,Hid (w4.heap.size=i):=⟨_,rfl⟩
 rw [hi3.out] at X0 R0 S5 L5⊢
 have HLEN:=hlen
 go_wp2_with fail
 go_loopw [4,6] (fun s4 s6 wr=>TR w w.heap.size i3 (i3+1) C D a (.bool bn) s4 s6 wr) (fun _ s6 _=>lenT a D - (intOf s6).toNat)
 case atStart=>
  refine ⟨0,false,al,nl,cl,by rw [refT_lo (.inr (Nat.zero_le _))];rfl,rfl,Nat.zero_le _,T5,R0,?_,⟨_,X0.out⟩,B5⟩
  show Num _ _ _ _
  rw [Nat.pow_zero,Nat.div_one];exact N5.out
 case round=>
  clear X0 R0 B5 T5 N5
  obtain ⟨wo,rfl⟩:∃ wo:World,wo=wr:=⟨_,rfl⟩
  obtain ⟨k,b,el,n,ec,rfl,rfl,HK,HT,HL,HU,HX,HB⟩:=hrel
  obtain ⟨u,hu⟩:∃ u,Hid (a / 10 ^ k=u):=⟨_,rfl⟩
  rw [hu.out] at HU
  have hn0:=Lib.hid (odd_len HU.out).1
  have e0:=HL.out.c0;have e1:=HL.out.c1
  have t1:=HT.out.c1
  by_cases hcont:k≤D∨n ≠ 0
  ·have HM:=Lib.hid (more_digits (a:=a) (s:=D) (k:=k) (hcont.imp id (fun h e=>h (hn0.out.2 (by rw [←hu.out,e];rfl)))))
   have HCO:=Lib.hid hcont
   clear hcont
   go_upto_region 8 with fail
   go_cut [33] (fun s33 wx=>s33=.bool true∧wo=wx)
   case first=>
    by_cases hkD:k≤D
    ·have d1:decide (k≤D)=true:=by simpa using hkD
     have d2:decide ((k:Int)≤(D:Int))=true:=by simp;omega
     clear hkD
     go_wp2_with fail
     go_meet
     case rel=>exact ⟨rfl,rfl⟩
    ·have d1:decide (k≤D)=false:=by simpa using hkD
     have d2:decide ((k:Int)≤(D:Int))=false:=by simp;omega
     have np:0<n:=by have:=HCO.out.resolve_left hkD;omega
     have d3:decide (0<n)=true:=by simpa using np
     have d4:decide (0<(n:Int))=true:=by simp;omega
     clear hkD np
     go_wp2_with fail
     go_meet
     case rel=>exact ⟨rfl,rfl⟩
   case rest=>
    obtain ⟨rfl,rfl⟩:=hcut
    go_upto_region 10 with fail
    go_cut [7,8] (fun s7 s8 wx=>TMid wo u s7 s8 wx)
    case first=>
     have mkS:∀ w',Below wo.heap.size wo w'→(Below wo.heap.size wo w'∧w'.cell? ⟨i3+1,0,none⟩=some (.bool b)∧w'.cell? ⟨i3+1,1,none⟩=some (.slice el n ec)):=fun w' hb=>⟨hb,(boxAt_below HL.out hb).c0,(boxAt_below HL.out hb).c1⟩
     have HS0:=mkS _ ((Below.refl _ _).drew)
     go_region_held3 (fun w'=>Below wo.heap.size wo w'∧w'.cell? ⟨i3+1,0,none⟩=some (.bool b)∧w'.cell? ⟨i3+1,1,none⟩=some (.slice el n ec))
      (first | with_reducible exact HS0 | with_reducible assumption | (refine mkS _ ?_;(repeat (first | with_reducible exact And.left (by with_reducible assumption) | with_reducible exact Below.refl _ _ | refine Below.setCell ?_ (by first | omega | (simp only [World.size_alloc,hdrew];omega) | (simp<;>omega)) _ | refine Below.alloc ?_ (by first | omega | (simp only [World.size_alloc,hdrew];omega) | (simp<;>omega)) _ | refine Below.drew ?_))))
      (first
       | (go_at_call 141;(with_reducible refine (word10 _).mono ?_);rintro e w5 ⟨v5,hz,rfl,b5⟩;have HS5:=mkS _ (bt (And.left (by assumption)) b5);have T5:=Lib.hid (HS5.1);have N5:=Lib.hid hz;(obtain ⟨hcb5,hfb5⟩:=bcell b5;have zzb5:=Below.size b5;(try simp only [World.size_alloc,hdrew] at zzb5);(try (have llb5:wo.heap.size<w5.heap.size:=by omega));(try (have lmb5:wo.heap.size+1<w5.heap.size:=by omega)));((try replace b5:=undrew b5);(try (have Q0:=Lib.hid (boxAt_below (Hid.out Q0) b5)));(try (have Q0:=Lib.hid (boxAt_below (Hid.out Q0) b5)));first | (have QA:=boxAt_below (boxAt_below (boxAt_new _ _ _) (ba _ _)) b5;(try simp only [World.size_alloc,hdrew] at QA);have QA:=Lib.hid QA;have QB:=boxAt_below (boxAt_new (World.alloc _ _) _ _) b5;(try simp only [World.size_alloc,hdrew] at QB);have QB:=Lib.hid QB) | (have QA:=boxAt_below (boxAt_new _ _ _) b5;(try simp only [World.size_alloc,hdrew] at QA);have QA:=Lib.hid QA) | skip);clear b5 hz)
       | (go_at_call 140;(with_reducible refine (down10n _ _ u _ (num_below HU.out (And.left (by with_reducible assumption))) (by first | with_reducible exact N5.out | with_reducible exact num_below N5.out (ba _ _) | with_reducible exact num_below N5.out (bt (ba _ _) (ba _ _)))).mono ?_);rintro e w6 ⟨vq,vr,hq,hr,rfl,b6⟩;obtain ⟨bq,aq,nq,cq,rfl⟩:=num_agg hq;obtain ⟨br,ar,nr,cr,rfl⟩:=num_agg hr;have N6:=Lib.hid hq;have NR6:=Lib.hid hr;have HS6:=mkS _ (bt (And.left (by assumption)) b6);(obtain ⟨hcb6,hfb6⟩:=bcell b6;have zzb6:=Below.size b6;(try simp only [World.size_alloc,hdrew] at zzb6);(try (have llb6:w5.heap.size<w6.heap.size:=by omega));(try (have lmb6:w5.heap.size+1<w6.heap.size:=by omega)));have B56:Below w5.heap.size w5 w6:=(by first | with_reducible exact b6 | with_reducible exact bt (ba _ _) b6 | with_reducible exact bt (ba _ _) (bt (ba _ _) b6));replace B56:=Lib.hid B56;((try replace b6:=undrew b6);(try (have QC:=Lib.hid (boxAt_below (Hid.out QA) (Hid.out B56))));(try (have QD:=Lib.hid (boxAt_below (Hid.out QB) (Hid.out B56))));first | (have QE:=boxAt_below (boxAt_below (boxAt_new _ _ _) (ba _ _)) b6;(try simp only [World.size_alloc,hdrew] at QE);have QE:=Lib.hid QE;have QF:=boxAt_below (boxAt_new (World.alloc _ _) _ _) b6;(try simp only [World.size_alloc,hdrew] at QF);have QF:=Lib.hid QF) | (have QE:=boxAt_below (boxAt_new _ _ _) b6;(try simp only [World.size_alloc,hdrew] at QE);have QE:=Lib.hid QE) | skip);(try (have ln6:wo.heap.size<w6.heap.size:=by omega));(try (have lo6:wo.heap.size+1<w6.heap.size:=by omega));clear b6 hq hr))
     all_goals
      dsimp only [Exit.then]
      refine ‹∀ (a':Act) (w':World),Met _ a' w'→_› _ _ ?_
      go_meet
      case rel=>
       refine ⟨_,_,bq,br,aq,ar,nq,nr,cq,cr,rfl,rfl,?q3,?q4,?q7,?q8,?q9⟩
       case q3=>(repeat (first | with_reducible exact boxAt_set2 _ _ QC.out | with_reducible exact boxAt_set2 _ _ QD.out | with_reducible exact boxAt_set2 _ _ QE.out | with_reducible exact boxAt_set2 _ _ QF.out | with_reducible exact QC.out | with_reducible exact QD.out | with_reducible exact QE.out | with_reducible exact QF.out | (with_reducible refine boxAt_new' _ _ ?_;first | rfl | (simp;done)) | with_reducible refine boxAt_below ?_ (ba _ _) | with_reducible exact boxAt_set2 _ _ (boxAt_below QC.out (ba _ _)) | with_reducible exact boxAt_set2 _ _ (boxAt_below QE.out (ba _ _)) | with_reducible exact boxAt_set2 _ _ (boxAt_other2 _ _ QC.out (by first | omega | (simp<;>omega))) | with_reducible exact boxAt_set2 _ _ (boxAt_other2 _ _ QD.out (by first | omega | (simp<;>omega))) | with_reducible exact boxAt_set2 _ _ (boxAt_other2 _ _ QE.out (by first | omega | (simp<;>omega))) | with_reducible exact boxAt_set2 _ _ (boxAt_other2 _ _ QF.out (by first | omega | (simp<;>omega))) | with_reducible refine boxAt_other2 _ _ ?_ (by first | omega | (simp<;>omega))))
       case q4=>(repeat (first | with_reducible exact boxAt_set2 _ _ QC.out | with_reducible exact boxAt_set2 _ _ QD.out | with_reducible exact boxAt_set2 _ _ QE.out | with_reducible exact boxAt_set2 _ _ QF.out | with_reducible exact QC.out | with_reducible exact QD.out | with_reducible exact QE.out | with_reducible exact QF.out | (with_reducible refine boxAt_new' _ _ ?_;first | rfl | (simp;done)) | with_reducible refine boxAt_below ?_ (ba _ _) | with_reducible exact boxAt_set2 _ _ (boxAt_below QC.out (ba _ _)) | with_reducible exact boxAt_set2 _ _ (boxAt_below QE.out (ba _ _)) | with_reducible exact boxAt_set2 _ _ (boxAt_other2 _ _ QC.out (by first | omega | (simp<;>omega))) | with_reducible exact boxAt_set2 _ _ (boxAt_other2 _ _ QD.out (by first | omega | (simp<;>omega))) | with_reducible exact boxAt_set2 _ _ (boxAt_other2 _ _ QE.out (by first | omega | (simp<;>omega))) | with_reducible exact boxAt_set2 _ _ (boxAt_other2 _ _ QF.out (by first | omega | (simp<;>omega))) | with_reducible refine boxAt_other2 _ _ ?_ (by first | omega | (simp<;>omega))))
       case q9=>(repeat (first | with_reducible exact And.left (by with_reducible assumption) | with_reducible exact Below.refl _ _ | refine Below.setCell ?_ (by first | omega | (simp only [World.size_alloc,hdrew];omega) | (simp<;>omega)) _ | refine Below.alloc ?_ (by first | omega | (simp only [World.size_alloc,hdrew];omega) | (simp<;>omega)) _ | refine Below.drew ?_))
       case q7=>(repeat (first | with_reducible exact N6.out | with_reducible exact num_below N5.out B56.out | with_reducible refine num_below ?_ (ba _ _) | with_reducible refine num_set2 _ _ ?_ QC.out | with_reducible refine num_set2 _ _ ?_ QD.out | with_reducible refine num_set2 _ _ ?_ QE.out | with_reducible refine num_set2 _ _ ?_ QF.out | with_reducible refine num_set2 _ _ ?_ (boxAt_below QC.out (ba _ _)) | with_reducible refine num_set2 _ _ ?_ (boxAt_below QE.out (ba _ _)) | with_reducible refine num_set2 _ _ ?_ (boxAt_other2 _ _ QC.out (by first | omega | (simp<;>omega))) | with_reducible refine num_set2 _ _ ?_ (boxAt_other2 _ _ QD.out (by first | omega | (simp<;>omega))) | with_reducible refine num_set2 _ _ ?_ (boxAt_other2 _ _ QE.out (by first | omega | (simp<;>omega))) | with_reducible refine num_set2 _ _ ?_ (boxAt_other2 _ _ QF.out (by first | omega | (simp<;>omega)))))
       case q8=>(repeat (first | with_reducible exact NR6.out | with_reducible refine num_below ?_ (ba _ _) | with_reducible refine num_set2 _ _ ?_ QC.out | with_reducible refine num_set2 _ _ ?_ QD.out | with_reducible refine num_set2 _ _ ?_ QE.out | with_reducible refine num_set2 _ _ ?_ QF.out | with_reducible refine num_set2 _ _ ?_ (boxAt_below QC.out (ba _ _)) | with_reducible refine num_set2 _ _ ?_ (boxAt_below QE.out (ba _ _)) | with_reducible refine num_set2 _ _ ?_ (boxAt_other2 _ _ QC.out (by first | omega | (simp<;>omega))) | with_reducible refine num_set2 _ _ ?_ (boxAt_other2 _ _ QD.out (by first | omega | (simp<;>omega))) | with_reducible refine num_set2 _ _ ?_ (boxAt_other2 _ _ QE.out (by first | omega | (simp<;>omega))) | with_reducible refine num_set2 _ _ ?_ (boxAt_other2 _ _ QF.out (by first | omega | (simp<;>omega)))))
    case rest=>
     rename World=>w7
     obtain ⟨wq,rfl⟩:∃ v:World,v=w7:=⟨_,rfl⟩
     obtain ⟨i,j,bq,br,aq,ar,nq,nr,cq,cr,rfl,rfl,h3,h4,h5,h6,h8⟩:=hcut
     have I7:=Lib.hid h3;have J7:=Lib.hid h4;have MQ:=Lib.hid h5;have HD:=Lib.hid (num_digit h6 (by omega));have B7:=Lib.hid (bt HB.out h8)
     have X7:=Lib.hid (boxAt_below HL.out h8);have T7:=Lib.hid (HT.out.below h8)
     obtain ⟨l3,hl3⟩:=HX.out
     have N7:=Lib.hid (boxAt_below hl3 h8)
     have W7:=Lib.hid h8
     clear h3 h4 h5 h6 h8 hl3 HX HL HT HB HU e0 e1 t1 hn0
     have j0:=J7.out.c0;have j1:=J7.out.c1
     have t1:=T7.out.c1
     have hstep:=refT_step a D k
     rw [hu.out] at hstep
     have hq9:u % 10<10:=Nat.mod_lt _ (by decide)
     obtain ⟨d,hd⟩:∃ d,Hid (u % 10=d):=⟨_,rfl⟩
     rw [hd.out] at HD hq9
     have kw:IntKind.i64.wrap ((k:Int)+1)=(k:Int)+1:=by rw [IntWalk.i64_left];exact IntWalk.wrap64_in _ (by have:=HM.out;have:=HLEN.out;omega)
     have lz:(refT a D k).length≤30:=by
      unfold refT
      have:=HM.out;have:=HLEN.out;have:=HS.out
      split
      ·rw [lowD_len];omega
      ·rw [List.length_append,List.length_cons,lowD_len,lowD_len];omega
     have hz:(bs (refT a D k)).size=(refT a D k).length:=bs_size _
     obtain ⟨zl,hzl⟩:∃ z,Hid ((refT a D k).length=z):=⟨_,rfl⟩
     rw [hzl.out] at lz hz
     have HK1:Hid (k+1≤lenT a D):=HM.out
     have HSTEP:=Lib.hid hstep
     have HLZ:=Lib.hid lz
     clear hstep lz
     have dcase:d=0∧nr=0∨d ≠ 0∧0<nr:=by
      have:=HD.out.1
      omega
     have dotc:(k=D∧0<k)∨¬(k=D∧0<k):=Decidable.em _
     have HDC:=Lib.hid dcase;have HDOT:=Lib.hid dotc
     clear dcase dotc
     go_upto_region 11 with fail
     obtain ⟨M,hM⟩:∃ l,Hid ((if k=D∧0<k then 46 :: refT a D k else refT a D k)=l):=⟨_,Lib.hid rfl⟩
     obtain ⟨Q,hQ⟩:∃ q,Hid (decide (k=D∧0<k)=q):=⟨_,rfl⟩
     go_cut [49] (fun s49 wx=>s49=.bool Q∧wq=wx)
     case first=>
      by_cases g0:k=D
      ·have g3:decide (k=D)=true:=by simpa using g0
       have g4:((k:Int)==(D:Int))=true:=by simp;omega
       by_cases k0:0<k
       ·have hq:=hQ.out.symm.trans (show decide (k=D∧0<k)=true from by simp;exact ⟨g0,k0⟩)
        subst hq
        have g1:decide (0<k)=true:=by simpa using k0
        have g2:decide (0<(k:Int))=true:=by simp;omega
        clear k0 g0
        go_wp2_with fail
        go_meet
        case rel=>exact ⟨rfl,rfl⟩
       ·have hq:=hQ.out.symm.trans (show decide (k=D∧0<k)=false from by simp;omega)
        subst hq
        have g1:decide (0<k)=false:=by simpa using k0
        have g2:decide (0<(k:Int))=false:=by simp;omega
        clear k0 g0
        go_wp2_with fail
        go_meet
        case rel=>exact ⟨rfl,rfl⟩
      ·have g3:decide (k=D)=false:=by simpa using g0
       have g4:((k:Int)==(D:Int))=false:=by simp;omega
       have hq:=hQ.out.symm.trans (show decide (k=D∧0<k)=false from by simp;omega)
       subst hq
       clear g0
       go_wp2_with fail
       go_meet
       case rel=>exact ⟨rfl,rfl⟩
     case rest=>
     obtain ⟨rfl,rfl⟩:=hcut
     go_upto_if 49 with fail
     go_cut [4] (fun s4 wx=>s4=.string (bs M)∧wq=wx)
     case first=>
      cases Q with
      | true=>
       have hm:=Lib.hid (hM.out.symm.trans (if_pos (of_decide_eq_true hQ.out)))
       have g4:¬9223372036854775807<1+zl:=by have:=HLZ.out;omega
       have sS:(⟨#[46]⟩:ByteArray).size=1:=rfl
       have e46:(⟨#[46]⟩:ByteArray)++bs (refT a D k)=bs (46 :: refT a D k):=by show bs [46]++bs _=_;rw [bs_cat];rfl
       have E46:=Lib.hid e46
       clear e46
       go_wp2_with fail
       go_meet
       case rel=>exact ⟨congrArg Value.string (by rw [hm.out];exact E46.out),rfl⟩
      | false=>
       have hm:=Lib.hid (hM.out.symm.trans (if_neg (of_decide_eq_false hQ.out)))
       go_wp2_with fail
       go_meet
       case rel=>exact ⟨by rw [hm.out],rfl⟩
     case rest=>
      obtain ⟨rfl,rfl⟩:=hcut
      have hst:Hid (refT a D (k+1)=dg u :: M):=by show _=_;rw [HSTEP.out,hM.out]
      have ml:Hid (M.length≤40):=by show _≤_;rw [←hM.out];have:=hzl.out;have:=HLZ.out;split;rw [List.length_cons];omega;omega
      have hzM:(bs M).size=M.length:=bs_size M
      obtain ⟨mz,hmz⟩:∃ z,Hid (M.length=z):=⟨_,rfl⟩
      rw [hmz.out] at hzM ml
      have g4:¬9223372036854775807<1+mz:=by have:=ml.out;omega
      have sS:(bs [dg u]).size=1:=rfl
      have eM:bs [dg u]++bs M=bs (refT a D (k+1)):=by rw [bs_cat,hst.out];rfl
      have HEM:=Lib.hid eM
      clear eM hz
      obtain ⟨SM,hSM⟩:∃ S,Hid (bs M=S):=⟨_,rfl⟩
      rw [hSM.out] at hzM HEM⊢
      rcases HDC.out with ⟨hd0,hnr⟩ | ⟨hd0,hnr⟩
      ·subst hnr
       subst hd0
       have kc:∀ w:World,(convert 158 9 (.slice (some ⟨w.heap.size,0,none⟩) 1 1)).run Tryz.prog (w.alloc (.cells #[.int .u8 48] 5))=.ok (.string (bs [dg u])) (w.alloc (.cells #[.int .u8 48] 5)):=fun w=>one_digit_x w u 0 hd.out 48 rfl
       have g5:¬9223372036854775807<(bs [dg u]).size+mz:=by rw [bs_size];show ¬_<1+mz;have:=ml.out;omega
       obtain ⟨SD,hSD⟩:∃ S,Hid (bs [dg u]=S):=⟨_,rfl⟩
       rw [hSD.out] at kc sS g5 HEM
       go_upto_region 17 with fail
       have BA:=ba wq (.cells #[.int .u8 48] 5)
       have X8:=Lib.hid (boxAt_below X7.out BA);have I8:=Lib.hid (boxAt_below I7.out BA);have T8:=Lib.hid (T7.out.below BA);have N8:=Lib.hid (boxAt_below N7.out BA);have B8:=Lib.hid (bt B7.out BA);have M8:=Lib.hid (num_below MQ.out BA)
       obtain ⟨w8,hw8⟩:∃ v,Hid (v=wq.alloc (.cells #[.int .u8 48] 5)):=⟨_,rfl⟩
       rw [←hw8.out] at X8 I8 T8 N8 B8 M8⊢
       clear hw8 BA kc j0 j1 t1
       have i0:=I8.out.c0;have i1:=I8.out.c1
       have x0:=X8.out.c0;have x1:=X8.out.c1;have x2:=X8.out.f0;have x3:=X8.out.f1
       go_wp2_with fail
       have hne:w.heap.size ≠ i3+1:=by have:=L5.out;omega
       refine ⟨⟨k+1,bq,aq,nq,cq,congrArg Value.string HEM.out,rfl,HK1,?_,boxAt_set2 _ _ X8.out,?_,⟨_,boxAt_set_other _ _ (boxAt_set_other _ _ N8.out (by omega)) (by omega)⟩,(B8.out.setCell (p:=⟨i3+1,0,none⟩) (by show _≤i3+1;have:=S5.out;omega) _).setCell (p:=⟨i3+1,1,none⟩) (by show _≤i3+1;have:=S5.out;omega) _⟩,?_⟩
       ·exact dAt_other _ _ (dAt_other _ _ (show DAt _ _ _ _ from T8.out) hne) hne
       ·show Num _ _ _ _
        have e:a / 10 ^ (k+1)=u / 10:=by rw [Nat.pow_succ,←Nat.div_div_eq_div_mul,hu.out]
        rw [e]
        exact num_set2 _ _ M8.out X8.out
       ·show lenT a D - ((k:Int)+1).toNat<lenT a D - ((k:Int)).toNat
        have:=HM.out;omega
      ·obtain ⟨hn1,gr,rfl,hg,hc0⟩:=HD.out.2 hnr
       have p1:decide (0<nr)=true:=by simpa using hnr
       have p2:decide (0<(nr:Int))=true:=by simp;omega
       have p3:(0:Int)<(nr:Int):=by omega
       have v1:IntKind.u8.wrap (d:Int)=(d:Int):=by rw [IntKind.wrap_u8];omega
       have v2:IntKind.u8.wrap (48+(d:Int))=48+(d:Int):=by rw [IntKind.wrap_u8];omega
       have kc:∀ w:World,(convert 158 9 (.slice (some ⟨w.heap.size,0,none⟩) 1 1)).run Tryz.prog (w.alloc (.cells #[.int .u8 (48+(d:Int))] 5))=.ok (.string (bs [dg u])) (w.alloc (.cells #[.int .u8 (48+(d:Int))] 5)):=fun w=>one_digit_x w u d hd.out _ rfl
       clear hnr hd0 hn1
       have g5:¬9223372036854775807<(bs [dg u]).size+mz:=by rw [bs_size];show ¬_<1+mz;have:=ml.out;omega
       obtain ⟨SD,hSD⟩:∃ S,Hid (bs [dg u]=S):=⟨_,rfl⟩
       rw [hSD.out] at kc sS g5 HEM
       go_upto_region 17 with fail
       have BA:=ba wq (.cells #[.int .u8 (48+(d:Int))] 5)
       have X8:=Lib.hid (boxAt_below X7.out BA);have I8:=Lib.hid (boxAt_below I7.out BA);have T8:=Lib.hid (T7.out.below BA);have N8:=Lib.hid (boxAt_below N7.out BA);have B8:=Lib.hid (bt B7.out BA);have M8:=Lib.hid (num_below MQ.out BA)
       obtain ⟨w8,hw8⟩:∃ v,Hid (v=wq.alloc (.cells #[.int .u8 (48+(d:Int))] 5)):=⟨_,rfl⟩
       rw [←hw8.out] at X8 I8 T8 N8 B8 M8⊢
       clear hw8 BA kc j0 j1 t1
       have i0:=I8.out.c0;have i1:=I8.out.c1
       have x0:=X8.out.c0;have x1:=X8.out.c1;have x2:=X8.out.f0;have x3:=X8.out.f1
       go_wp2_with fail
       have hne:w.heap.size ≠ i3+1:=by have:=L5.out;omega
       refine ⟨⟨k+1,bq,aq,nq,cq,congrArg Value.string HEM.out,rfl,HK1,?_,boxAt_set2 _ _ X8.out,?_,⟨_,boxAt_set_other _ _ (boxAt_set_other _ _ N8.out (by omega)) (by omega)⟩,(B8.out.setCell (p:=⟨i3+1,0,none⟩) (by show _≤i3+1;have:=S5.out;omega) _).setCell (p:=⟨i3+1,1,none⟩) (by show _≤i3+1;have:=S5.out;omega) _⟩,?_⟩
       ·exact dAt_other _ _ (dAt_other _ _ (show DAt _ _ _ _ from T8.out) hne) hne
       ·show Num _ _ _ _
        have e:a / 10 ^ (k+1)=u / 10:=by rw [Nat.pow_succ,←Nat.div_div_eq_div_mul,hu.out]
        rw [e]
        exact num_set2 _ _ M8.out X8.out
       ·show lenT a D - ((k:Int)+1).toNat<lenT a D - ((k:Int)).toNat
        have:=HM.out;omega
  ·have hex:¬k≤D∧n=0:=by
    constructor
    ·exact fun h=>hcont (.inl h)
    ·by_cases h:n=0
     ·exact h
     ·exact absurd (.inr h) hcont
   obtain ⟨hkD,hn⟩:=hex
   have d1:decide (k≤D)=false:=by simpa using hkD
   have d2:decide ((k:Int)≤(D:Int))=false:=by simp;omega
   have hu0:a / 10 ^ k=0:=by have:=hn0.out.1 hn;rw [hu.out];omega
   have hkl:=Lib.hid (no_digits (by omega) hu0 HK.out)
   subst hn
   obtain ⟨l3,hl3⟩:=HX.out
   have n0:=BoxAt.c0 hl3
   have r:=Lib.hid (show dtxt C D=sgn bn++refT a D k from by unfold dtxt;rw [ha.out,hkl.out,HBN.out])
   have lz:(refT a D k).length≤30:=by
    have:=HLEN.out;have:=HS.out;have:=hkl.out
    unfold refT
    split
    ·rw [lowD_len];omega
    ·rw [List.length_append,List.length_cons,lowD_len,lowD_len];omega
   have hz:(bs (refT a D k)).size=(refT a D k).length:=bs_size _
   obtain ⟨zl,hzl⟩:∃ z,Hid ((refT a D k).length=z):=⟨_,rfl⟩
   rw [hzl.out] at lz hz
   have g4:¬9223372036854775807<1+zl:=by omega
   have sS:(⟨#[45]⟩:ByteArray).size=1:=rfl
   have e45:=Lib.hid (show (⟨#[45]⟩:ByteArray)++bs (refT a D k)=bs (45 :: refT a D k) from by show bs [45]++bs _=_;rw [bs_cat];rfl)
   clear hkD hcont hu0 hl3 lz hn0
   cases bn
   ·go_wp2_with fail
    go_ret
    exact ⟨by rw [r.out];rfl,HB.out⟩
   ·go_wp2_with fail
    go_ret
    exact ⟨by rw [r.out,e45.out];rfl,HB.out⟩
end Go.Proofs.YteagpbkbdlmdiaaGreat.Tx
