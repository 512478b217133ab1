/-
  The document's canonical decimal (corrodyref02.Made), walked.
-/
import Derived.Test.YteagpbkbdlmdiaaGreatQ20
set_option linter.unusedSimpArgs false
set_option linter.unusedVariables false
namespace Go.Proofs.YteagpbkbdlmdiaaGreat
open Go.RowKit
attribute [local go_sem ↓] Go.wp_at_zero Go.wp_at_succ
theorem num_lt {k:Nat} {w:World} {v:Value} {z:Int} (h:Num k w v z):z.natAbs<1000 ^ k:=by
 obtain ⟨s,ds,e,hr,hc,hv,hk⟩:=h
 rw [←hv]
 exact Nat.lt_of_lt_of_le (Nm.val_lt ds hc.1) (Nm.pow_le _ _ hk)
theorem decV_step' (u:Int) (s:Nat) (h:u % 10=0):decV u (s+1)=decV (u / 10) s:=by
 unfold decV;rw [trim_succ,if_pos h]
def MadeR (w:World) (K:Nat) (V s1:Value) (wx:World):Prop:=
 ∃ (u:Int) (s:Nat) (b:Bool) (a:Option Addr) (n c:Nat),s1=.int .i64 (s:Int)∧s≤18∧Hid (BoxAt wx w.heap.size (.bool b) (.slice a n c))∧Hid (Num K wx (.agg #[.bool b,.slice a n c]) u)∧Hid (decV u s=V)∧Hid (DAt wx (w.heap.size+1) 0 0)∧Hid (Below w.heap.size w wx)
def RefMid (W:World) (K:Nat) (u:Int) (s6 s7:Value) (wx:World):Prop:=
 ∃ (i j:Nat) (bq br:Bool) (aq ar:Option Addr) (nq nr cq cr:Nat),s6=.pointer (some ⟨i,0,none⟩)∧s7=.pointer (some ⟨j,0,none⟩)∧BoxAt wx i (.bool bq) (.slice aq nq cq)∧BoxAt wx j (.bool br) (.slice ar nr cr)∧
  Num K wx (.agg #[.bool bq,.slice aq nq cq]) (u / 10)∧(nr=0↔u % 10=0)∧nr≤8∧Below W.heap.size W wx
theorem word10 (w:World):Calls Tryz.prog 141 #[.int .u64 10] w (NumPost 7 10 w):=word_any 10 w (by omega) (by omega)
theorem down10 (K:Nat) (va vb:Value) (u:Int) (w:World) (ha:Num K w va u) (hb:Num 7 w vb 10) (hk:K≤7000) :
  Calls Tryz.prog 140 #[va,vb] w fun e w'=>∃ vq vr:Value,Num K w' vq (u / 10)∧Num 8 w' vr (u % 10)∧e=.returned (.tuple #[vq,vr])∧Below w.heap.size w w':=by
 refine (down_any K 7 va vb u 10 w ha hb (by omega) (by omega) (by omega)).mono ?_
 rintro e w' ⟨vq,vr,h1,h2,he,hb⟩
 refine ⟨vq,vr,num_len h1 (Nat.lt_of_le_of_lt ?_ (num_lt ha)),h2,he,hb⟩
 exact (evenZ_abs u 10 (by omega)).2
theorem small_f (K:Nat) (v u:Value) (z:Int) (w:World) (h:Num K w v z) (hk:K≤7000) (hu:smallV z=u) :
  Calls Tryz.prog 142 #[v] w fun e w'=>e=.returned u∧Below w.heap.size w w':=by rw [←hu];exact small_any K v z w h (by omega)
set_option maxRecDepth 100000 in
set_option maxHeartbeats 4000000 in
theorem madeR_any (K:Nat) (v:Value) (u:Int) (s:Nat) (V:Value) (w:World) (hn:Num K w v u) (hK:K≤7000) (hs:s≤18) (hV:decV u s=V) :
  Calls Tryz.prog 129 #[v,.int .i64 (s:Int)] w fun e w'=>e=.returned V∧Below w.heap.size w w':=by
 obtain ⟨b,a,n,c,rfl⟩:=num_agg hn
 have HN:=Lib.hid hn;have HV:=Lib.hid hV;have HK:=Lib.hid hK
 clear hn hV hK
 go_enter Tryz.func129,Tryz.ntmps129
 go_upto_region 1 with fail
 obtain ⟨W0,hW,hX,hD,hBB⟩:=num_dec w (.bool b) (.slice a n c) 0 0
 rw [←hW]
 have X0:=Lib.hid hX;have D0:=Lib.hid hD;have B0:=Lib.hid hBB;have N0:=Lib.hid (num_below HN.out hBB);clear hX hD hBB hW HN
 go_loopw [1] (fun s1 wr=>MadeR w K V s1 wr) (fun s1 _=>(intOf s1).toNat)
 case atStart=>exact ⟨u,s,b,a,n,c,rfl,hs,X0,N0,HV,D0,B0⟩
 case round=>
  clear X0 D0 B0 N0 HV hs
  rename_i wr
  obtain ⟨wo,rfl⟩:∃ wo:World,wo=wr:=⟨_,rfl⟩
  obtain ⟨u,s,b,a,n,c,rfl,hs,HX,HU,HVm,HD,HB⟩:=hrel
  cases s with
  | zero=>
   have e0:=HX.out.c0;have e1:=HX.out.c1
   rcases small_dec u 0 V (.inl rfl) HVm.out with ⟨hsm,hVe⟩ | ⟨hsm,hVe⟩
   all_goals
    go_wp2_with fail
    refine (small_f K _ _ u _ HU.out HK.out hsm).mono ?_
    rintro e w9 ⟨rfl,b9⟩
    have D9:=Lib.hid (DAt.below HD.out b9)
    have B9:=Lib.hid (bt HB.out b9)
    have r0:=D9.out.c0;have r1:=D9.out.c1;have r2:=D9.out.f0;have r3:=D9.out.f1
    clear b9 e0 e1
    go_wp2_with fail
    refine bodyPost_ret (v:=V) (by rw [hVe];simp [results,Tryz.results129,go_sem,r0,r1]) rfl ⟨rfl,(B9.out.setCell (by simp) _).setCell (by simp) _⟩
  | succ s=>
   have g1:decide (0<((s+1:Nat):Int))=true:=by simp
   have hw:IntKind.i64.wrap (((s+1:Nat):Int) - 1)=(s:Int):=by rw [IntKind.wrap_i64];omega
   go_upto_region 2 with fail
   go_cut [6,7] (fun s6 s7 wx=>RefMid wo K u s6 s7 wx)
   case first=>
    have mkS:∀ w',Below wo.heap.size wo w'→(Below wo.heap.size wo w'∧w'.cell? ⟨w.heap.size,0,none⟩=some (.bool b)∧w'.cell? ⟨w.heap.size,1,none⟩=some (.slice a n c)):=fun w' hb=>⟨hb,(boxAt_below HX.out hb).c0,(boxAt_below HX.out hb).c1⟩
    have HS0:=mkS _ ((Below.refl _ _).drew)
    go_region_held3 (fun w'=>Below wo.heap.size wo w'∧w'.cell? ⟨w.heap.size,0,none⟩=some (.bool b)∧w'.cell? ⟨w.heap.size,1,none⟩=some (.slice a n c))
     (first | with_reducible exact HS0 | with_reducible assumption | (refine mkS _ ?_;(repeat (first | with_reducible exact And.left (by with_reducible assumption) | with_reducible exact Below.refl _ _ | refine Below.setCell ?_ (by first | omega | (simp only [World.size_alloc,hdrew];omega) | (simp<;>omega)) _ | refine Below.alloc ?_ (by first | omega | (simp only [World.size_alloc,hdrew];omega) | (simp<;>omega)) _ | refine Below.drew ?_))))
     (first
      | (go_at_call 141;(with_reducible refine (word10 _).mono ?_);rintro e w5 ⟨v5,hz,rfl,b5⟩;have HS5:=mkS _ (bt (And.left (by assumption)) b5);have T5:=Lib.hid (HS5.1);have N5:=Lib.hid hz;(obtain ⟨hcb5,hfb5⟩:=bcell b5;have zzb5:=Below.size b5;(try simp only [World.size_alloc,hdrew] at zzb5);(try (have llb5:wo.heap.size<w5.heap.size:=by omega));(try (have lmb5:wo.heap.size+1<w5.heap.size:=by omega)));((try replace b5:=undrew b5);(try (have Q0:=Lib.hid (boxAt_below (Hid.out Q0) b5)));(try (have Q0:=Lib.hid (boxAt_below (Hid.out Q0) b5)));first | (have QA:=boxAt_below (boxAt_below (boxAt_new _ _ _) (ba _ _)) b5;(try simp only [World.size_alloc,hdrew] at QA);have QA:=Lib.hid QA;have QB:=boxAt_below (boxAt_new (World.alloc _ _) _ _) b5;(try simp only [World.size_alloc,hdrew] at QB);have QB:=Lib.hid QB) | (have QA:=boxAt_below (boxAt_new _ _ _) b5;(try simp only [World.size_alloc,hdrew] at QA);have QA:=Lib.hid QA) | skip);clear b5 hz)
      | (go_at_call 140;(with_reducible refine (down10 K _ _ u _ (num_below HU.out (And.left (by with_reducible assumption))) (by first | with_reducible exact N5.out | with_reducible exact num_below N5.out (ba _ _) | with_reducible exact num_below N5.out (bt (ba _ _) (ba _ _))) HK.out).mono ?_);rintro e w6 ⟨vq,vr,hq,hr,rfl,b6⟩;obtain ⟨bq,aq,nq,cq,rfl⟩:=num_agg hq;obtain ⟨br,ar,nr,cr,rfl⟩:=num_agg hr;have N6:=Lib.hid hq;have HO6:=Lib.hid (odd_len hr);have HS6:=mkS _ (bt (And.left (by assumption)) b6);(obtain ⟨hcb6,hfb6⟩:=bcell b6;have zzb6:=Below.size b6;(try simp only [World.size_alloc,hdrew] at zzb6);(try (have llb6:w5.heap.size<w6.heap.size:=by omega));(try (have lmb6:w5.heap.size+1<w6.heap.size:=by omega)));have B56:Below w5.heap.size w5 w6:=(by first | with_reducible exact b6 | with_reducible exact bt (ba _ _) b6 | with_reducible exact bt (ba _ _) (bt (ba _ _) b6));replace B56:=Lib.hid B56;((try replace b6:=undrew b6);(try (have QC:=Lib.hid (boxAt_below (Hid.out QA) (Hid.out B56))));(try (have QD:=Lib.hid (boxAt_below (Hid.out QB) (Hid.out B56))));first | (have QE:=boxAt_below (boxAt_below (boxAt_new _ _ _) (ba _ _)) b6;(try simp only [World.size_alloc,hdrew] at QE);have QE:=Lib.hid QE;have QF:=boxAt_below (boxAt_new (World.alloc _ _) _ _) b6;(try simp only [World.size_alloc,hdrew] at QF);have QF:=Lib.hid QF) | (have QE:=boxAt_below (boxAt_new _ _ _) b6;(try simp only [World.size_alloc,hdrew] at QE);have QE:=Lib.hid QE) | skip);(try (have ln6:wo.heap.size<w6.heap.size:=by omega));(try (have lo6:wo.heap.size+1<w6.heap.size:=by omega));clear b6 hq hr))
    all_goals
     dsimp only [Exit.then]
     refine ‹∀ (a':Act) (w':World),Met _ a' w'→_› _ _ ?_
     go_meet
     case rel=>
      refine ⟨_,_,bq,br,aq,ar,nq,nr,cq,cr,rfl,rfl,?q3,?q4,?q7,HO6.out.1,HO6.out.2,?q9⟩
      case q3=>(repeat (first | with_reducible exact boxAt_set2 _ _ QC.out | with_reducible exact boxAt_set2 _ _ QD.out | with_reducible exact boxAt_set2 _ _ QE.out | with_reducible exact boxAt_set2 _ _ QF.out | with_reducible exact QC.out | with_reducible exact QD.out | with_reducible exact QE.out | with_reducible exact QF.out | (with_reducible refine boxAt_new' _ _ ?_;first | rfl | (simp;done)) | with_reducible refine boxAt_below ?_ (ba _ _) | with_reducible exact boxAt_set2 _ _ (boxAt_below QC.out (ba _ _)) | with_reducible exact boxAt_set2 _ _ (boxAt_below QE.out (ba _ _)) | with_reducible exact boxAt_set2 _ _ (boxAt_other2 _ _ QC.out (by first | omega | (simp<;>omega))) | with_reducible exact boxAt_set2 _ _ (boxAt_other2 _ _ QD.out (by first | omega | (simp<;>omega))) | with_reducible exact boxAt_set2 _ _ (boxAt_other2 _ _ QE.out (by first | omega | (simp<;>omega))) | with_reducible exact boxAt_set2 _ _ (boxAt_other2 _ _ QF.out (by first | omega | (simp<;>omega))) | with_reducible refine boxAt_other2 _ _ ?_ (by first | omega | (simp<;>omega))))
      case q4=>(repeat (first | with_reducible exact boxAt_set2 _ _ QC.out | with_reducible exact boxAt_set2 _ _ QD.out | with_reducible exact boxAt_set2 _ _ QE.out | with_reducible exact boxAt_set2 _ _ QF.out | with_reducible exact QC.out | with_reducible exact QD.out | with_reducible exact QE.out | with_reducible exact QF.out | (with_reducible refine boxAt_new' _ _ ?_;first | rfl | (simp;done)) | with_reducible refine boxAt_below ?_ (ba _ _) | with_reducible exact boxAt_set2 _ _ (boxAt_below QC.out (ba _ _)) | with_reducible exact boxAt_set2 _ _ (boxAt_below QE.out (ba _ _)) | with_reducible exact boxAt_set2 _ _ (boxAt_other2 _ _ QC.out (by first | omega | (simp<;>omega))) | with_reducible exact boxAt_set2 _ _ (boxAt_other2 _ _ QD.out (by first | omega | (simp<;>omega))) | with_reducible exact boxAt_set2 _ _ (boxAt_other2 _ _ QE.out (by first | omega | (simp<;>omega))) | with_reducible exact boxAt_set2 _ _ (boxAt_other2 _ _ QF.out (by first | omega | (simp<;>omega))) | with_reducible refine boxAt_other2 _ _ ?_ (by first | omega | (simp<;>omega))))
      case q9=>(repeat (first | with_reducible exact And.left (by with_reducible assumption) | with_reducible exact Below.refl _ _ | refine Below.setCell ?_ (by first | omega | (simp only [World.size_alloc,hdrew];omega) | (simp<;>omega)) _ | refine Below.alloc ?_ (by first | omega | (simp only [World.size_alloc,hdrew];omega) | (simp<;>omega)) _ | refine Below.drew ?_))
      case q7=>(repeat (first | with_reducible exact N6.out | with_reducible exact num_below N5.out B56.out | with_reducible refine num_below ?_ (ba _ _) | with_reducible refine num_set2 _ _ ?_ QC.out | with_reducible refine num_set2 _ _ ?_ QD.out | with_reducible refine num_set2 _ _ ?_ QE.out | with_reducible refine num_set2 _ _ ?_ QF.out | with_reducible refine num_set2 _ _ ?_ (boxAt_below QC.out (ba _ _)) | with_reducible refine num_set2 _ _ ?_ (boxAt_below QE.out (ba _ _)) | with_reducible refine num_set2 _ _ ?_ (boxAt_other2 _ _ QC.out (by first | omega | (simp<;>omega))) | with_reducible refine num_set2 _ _ ?_ (boxAt_other2 _ _ QD.out (by first | omega | (simp<;>omega))) | with_reducible refine num_set2 _ _ ?_ (boxAt_other2 _ _ QE.out (by first | omega | (simp<;>omega))) | with_reducible refine num_set2 _ _ ?_ (boxAt_other2 _ _ QF.out (by first | omega | (simp<;>omega)))))
   case rest=>
    rename_i w7
    obtain ⟨i,j,bq,br,aq,ar,nq,nr,cq,cr,rfl,rfl,h3,h4,h5,h6,h7,h8⟩:=hcut
    have I7:=Lib.hid h3;have J7:=Lib.hid h4;have M7:=Lib.hid h5;have HB7:=Lib.hid (bt HB.out h8)
    have X7:=Lib.hid (boxAt_below HX.out h8);have D7:=Lib.hid (DAt.below HD.out h8);have U7:=Lib.hid (num_below HU.out h8)
    have lx:=HX.out.lt;have HO7:=Lib.hid h6
    clear h3 h4 h5 h6 h8 HX HD HU HB
    by_cases hr:nr=0
    ·have hu0:=HO7.out.1 hr
     subst hr
     have HV3:Hid (decV (u / 10) s=V):=by show _=_;rw [←HVm.out,decV_step' u s hu0]
     have j0:=J7.out.c0;have j1:=J7.out.c1;have i0:=I7.out.c0;have i1:=I7.out.c1
     have x0:=X7.out.c0;have x1:=X7.out.c1;have x2:=X7.out.f0;have x3:=X7.out.f1
     go_wp2_with fail
     go_round
     case rel=>
      refine ⟨u / 10,s,bq,aq,nq,cq,rfl,by omega,boxAt_set2 _ _ X7.out,num_set2 _ _ M7.out X7.out,HV3,dAt_other _ _ (dAt_other _ _ D7.out (by omega)) (by omega),(HB7.out.setCell (Nat.le_refl _) _).setCell (Nat.le_refl _) _⟩
     case measure=>simp [intOf]
    ·have hu0:u % 10 ≠ 0:=fun h=>hr (HO7.out.2 h)
     have d1:decide (0<(nr:Int))=true:=by simp;omega
     have d2:0<nr:=by omega
     have HX:=X7;have HD:=D7;have HU:=U7;have HB:=HB7
     have j0:=J7.out.c0;have j1:=J7.out.c1
     clear X7 D7 U7 HB7 I7 M7 J7
     have e0:=HX.out.c0;have e1:=HX.out.c1
     rcases small_dec u (s+1) V (.inr hu0) HVm.out with ⟨hsm,hVe⟩ | ⟨hsm,hVe⟩
     all_goals
      go_wp2_with fail
      refine (small_f K _ _ u _ HU.out HK.out hsm).mono ?_
      rintro e w9 ⟨rfl,b9⟩
      have D9:=Lib.hid (DAt.below HD.out b9)
      have B9:=Lib.hid (bt HB.out b9)
      have r0:=D9.out.c0;have r1:=D9.out.c1;have r2:=D9.out.f0;have r3:=D9.out.f1
      clear b9 e0 e1
      go_wp2_with fail
      refine bodyPost_ret (v:=V) (by rw [hVe];simp [results,Tryz.results129,go_sem,r0,r1]) rfl ⟨rfl,(B9.out.setCell (by simp) _).setCell (by simp) _⟩
end Go.Proofs.YteagpbkbdlmdiaaGreat
