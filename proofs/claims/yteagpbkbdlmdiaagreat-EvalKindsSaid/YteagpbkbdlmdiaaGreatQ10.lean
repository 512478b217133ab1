/-
  THE WALK of the reference's Down.
-/
import Derived.Test.YteagpbkbdlmdiaaGreatQ9
import Derived.Deep.DeepCutAuto
set_option linter.unusedSimpArgs false
set_option linter.unusedVariables false
namespace Go.Proofs.YteagpbkbdlmdiaaGreat
open Go.RowKit
attribute [local go_sem ↓] Go.wp_at_zero Go.wp_at_succ
def DownPost (k1 k2:Nat) (q r:Int) (w:World) (e:Ending) (w':World):Prop:=∃ vq vr:Value,Num k1 w' vq q∧Num k2 w' vr r∧e=.returned (.tuple #[vq,vr])∧Below w.heap.size w w'
theorem word_nat (n:Nat) (h:n≤999) (w:World):Calls Tryz.prog 141 #[.int .u64 (n:Int)] w (NumPost 7 (n:Int) w):=word_any n w (by omega) (by omega)
structure DownInv (w:World) (P5 P6 na k2:Nat) (xs:List Nat) (Y:Nat) (j:Nat) (wr:World) (qs:List Nat) (R:Nat) (bs:Bool) (sa:Option Addr) (sn sc:Nat):Prop where
 row:RowW wr (.slice (some ⟨P5,0,none⟩) na na) qs
 len:qs.length=na
 digs:Nm.Digs qs
 box:BoxAt wr P6 (.bool bs) (.slice sa sn sc)
 num:Num k2 wr (.agg #[.bool bs,.slice sa sn sc]) (R:Int)
 lt:R<Y
 eq:Nm.val (xs.drop j)=Nm.val (qs.drop j)*Y+R
def DownMid (w1:World) (P5 na k2:Nat) (qs:List Nat) (A:Nat) (wx:World):Prop:=
 ∃ (br:Bool) (ar:Option Addr) (nr cr:Nat),BoxAt wx w1.heap.size (.bool br) (.slice ar nr cr)∧Num (k2+1) wx (.agg #[.bool br,.slice ar nr cr]) (A:Int)∧RowW wx (.slice (some ⟨P5,0,none⟩) na na) qs∧Below P5 w1 wx∧w1.heap.size<wx.heap.size∧(∀ g,ar=some ⟨g,0,none⟩→w1.heap.size<g)
def DownNext (w1:World) (P5 na k2:Nat) (qs:List Nat) (R:Nat) (wx:World):Prop:=
 ∃ (br:Bool) (ar:Option Addr) (nr cr:Nat),BoxAt wx w1.heap.size (.bool br) (.slice ar nr cr)∧Num k2 wx (.agg #[.bool br,.slice ar nr cr]) (R:Int)∧RowW wx (.slice (some ⟨P5,0,none⟩) na na) qs∧Below P5 w1 wx∧w1.heap.size<wx.heap.size
def DownOut (w2:World) (k:Nat) (q:Int) (wx:World):Prop:=
 ∃ (br:Bool) (ar:Option Addr) (nr cr:Nat),BoxAt wx w2.heap.size (.bool br) (.slice ar nr cr)∧Num k wx (.agg #[.bool br,.slice ar nr cr]) q∧Below w2.heap.size w2 wx∧w2.heap.size<wx.heap.size
set_option maxRecDepth 100000 in
set_option maxHeartbeats 8000000 in
theorem down_any (k1 k2:Nat) (va vb:Value) (x:Int) (Y:Nat) (w:World) (ha:Num k1 w va x) (hb:Num k2 w vb (Y:Int)) (hY:0<Y) (l1:k1≤9000) (l2:k2≤9000) :
  Calls Tryz.prog 140 #[va,vb] w (DownPost (k1+8) (k2+1) (x / (Y:Int)) (x % (Y:Int)) w):=by
 obtain ⟨aa,na,ca,xs,rfl,hra,hca,hva,hka,hna⟩:=num_open ha
 obtain ⟨by',ab,nb,cb,rfl⟩:=num_agg hb
 have HB:=Lib.hid hb
 have HYL:Hid (Y<1000 ^ k2):=by
  obtain ⟨_,ys,_,_,hc,hv,hk⟩:=hb
  have:=Nm.val_lt ys hc.1;have p:=Nm.pow_le _ _ hk
  show Y<_
  simp at hv;omega
 have HA:Hid (RowW w (.slice aa na ca) xs∧Nm.Canon xs∧Nm.val xs=x.natAbs∧xs.length≤k1∧xs.length=na):=⟨hra,hca,hva,hka,hna⟩
 have m1:na≤9000:=by omega
 obtain ⟨bx,hbx⟩:∃ b,Hid (decide (x<0)=b):=⟨_,rfl⟩
 rw [hbx.out]
 clear ha hb hra hca hva hka hna
 go_enter Tryz.func140,Tryz.ntmps140
 go_wp2_with (at_make;refine make1 rfl _ _ rfl _ na rfl rfl (by simp) (by omega) ?_)
 intro w1 hrow hb1 hsz1
 try simp only [World.size_alloc] at hrow
 try simp only [World.size_alloc] at hsz1
 replace hb1:Below ((((w.alloc (.cells #[.bool bx,.slice aa na ca] 147)).alloc (.cells #[.bool by',.slice ab nb cb] 147)).alloc (.cells #[.bool false,.slice none 0 0] 147)).alloc (.cells #[.bool false,.slice none 0 0] 147)).heap.size _ w1:=hb1.mono (by simp)
 have C1:Hid (BoxAt w1 w.heap.size (.bool bx) (.slice aa na ca)):=boxAt_below (boxAt_below (boxAt_below (boxAt_below (boxAt_new w _ _) (ba _ _)) (ba _ _)) (ba _ _)) hb1
 have C2:Hid (BoxAt w1 (w.heap.size+1) (.bool by') (.slice ab nb cb)):=by
  have:=boxAt_below (boxAt_below (boxAt_below (boxAt_new (w.alloc (.cells #[.bool bx,.slice aa na ca] 147)) (.bool by') (.slice ab nb cb)) (ba _ (.cells #[.bool false,.slice none 0 0] 147))) (ba _ (.cells #[.bool false,.slice none 0 0] 147))) hb1
  rw [World.size_alloc] at this;exact this
 have C3:Hid (BoxAt w1 (w.heap.size+1+1) (.bool false) (.slice none 0 0)):=by
  have:=boxAt_below (boxAt_below (boxAt_new ((w.alloc (.cells #[.bool bx,.slice aa na ca] 147)).alloc (.cells #[.bool by',.slice ab nb cb] 147)) (.bool false) (.slice none 0 0)) (ba _ (.cells #[.bool false,.slice none 0 0] 147))) hb1
  rw [World.size_alloc,World.size_alloc] at this;exact this
 have C4:Hid (BoxAt w1 (w.heap.size+1+1+1) (.bool false) (.slice none 0 0)):=by
  have:=boxAt_below (boxAt_new (((w.alloc (.cells #[.bool bx,.slice aa na ca] 147)).alloc (.cells #[.bool by',.slice ab nb cb] 147)).alloc (.cells #[.bool false,.slice none 0 0] 147)) (.bool false) (.slice none 0 0)) hb1
  rw [World.size_alloc,World.size_alloc,World.size_alloc] at this;exact this
 have HBW:Hid (Below w.heap.size w w1):=bt (ba _ _) (bt (ba _ _) (bt (ba _ _) (bt (ba _ _) hb1)))
 have HROW:=Lib.hid hrow
 have d1:=C1.out.c1
 have l1':=C1.out.lt
 clear hrow hb1
 go_wp2_with fail
 generalize hW:World.alloc w1 _=W
 have HI0:Hid (DownInv w (w.heap.size+1+1+1+1) w1.heap.size na k2 xs Y na W (List.replicate na 0) 0 false none 0 0):=by
  have hb:=ba w1 (.cells #[.bool false,.slice none 0 0] 147)
  rw [hW] at hb
  refine ⟨rowW_below HROW.out hb,by simp,Nm.digs_rep _,by rw [←hW];exact boxAt_new w1 _ _,⟨.slice none 0 0,[],rfl,rowW_nil _,Nm.canon_nil',rfl,by simp⟩,hY,?_⟩
  rw [List.drop_eq_nil_of_le (by rw [HA.out.2.2.2.2];exact Nat.le_refl _),List.drop_eq_nil_of_le (by simp)];simp [Nm.val]
 have HBW1:Hid (Below w1.heap.size w1 W):=by rw [←hW];exact ba _ _
 have hWs:w1.heap.size<W.heap.size:=by rw [←hW];simp
 clear hW d1 l1' HROW
 go_loopw [8] (fun i wr=>∃ (j:Nat) (qs:List Nat) (R:Nat) (bs:Bool) (sa:Option Addr) (sn sc:Nat),i=.int .i64 ((j:Int) - 1)∧j≤na∧Hid (DownInv w (w.heap.size+1+1+1+1) w1.heap.size na k2 xs Y j wr qs R bs sa sn sc)∧Hid (Below (w.heap.size+1+1+1+1) w1 wr)∧w1.heap.size<wr.heap.size) (fun i _=>(intOf i+1).toNat)
 case atStart=>exact ⟨na,_,_,_,_,_,_,rfl,Nat.le_refl _,HI0.out,HBW1.out.mono (by omega),hWs⟩
 case round=>
  rename_i wr
  obtain ⟨wo,rfl⟩:∃ wo:World,wo=wr:=⟨_,rfl⟩
  obtain ⟨j,qs,R,bs,sa,sn,sc,rfl,hj,hinv,hbl,hsz⟩:=hrel
  clear HI0 HBW1 hWs
  have C1o:=Lib.hid (boxAt_belowB C1.out hbl.out (by omega));have C2o:=Lib.hid (boxAt_belowB C2.out hbl.out (by omega))
  rcases j with _ | j
  ·rw [show (((0:Nat):Int) - 1)= -1 from rfl]
   have e0:=C1o.out.c0
   have l1':=C1o.out.lt
   have hbx6:=hinv.out.box.lt
   have HBo:=Lib.hid (HBW.out.trans (hbl.out.mono (show w.heap.size≤w.heap.size+1+1+1+1 by omega)))
   have HVQ:Hid (Nm.val xs=Nm.val qs*Y+R):=by show _=_;have q:=hinv.out.eq;simpa using q
   have C3o:=Lib.hid (boxAt_belowB C3.out hbl.out (by omega));have C4o:=Lib.hid (boxAt_belowB C4.out hbl.out (by omega))
   go_wp2_with fail
   refine (short_any bx _ qs _ hinv.out.row hinv.out.digs).mono ?_
   rintro e w2 ⟨vq,hq,rfl,b2⟩
   obtain ⟨bq,aq,nq,cq,rfl⟩:=num_agg hq
   have C1w:=Lib.hid (boxAt_below C1o.out b2);have C2w:=Lib.hid (boxAt_below C2o.out b2);have C3w:=Lib.hid (boxAt_below C3o.out b2);have C4w:=Lib.hid (boxAt_below C4o.out b2)
   have C6w:=Lib.hid (boxAt_below hinv.out.box b2)
   have NR:=Lib.hid (num_below hinv.out.num b2)
   have HRL:Hid (R<Y):=hinv.out.lt
   have HLEN:Hid (qs.length=na):=hinv.out.len
   have NQ:=Lib.hid hq
   have HB2:=Lib.hid (bt HBo.out b2)
   have hsn:sn≤9000:=by
    obtain ⟨rs,_,_,_,h4,h5,_⟩:=num_row hinv.out.num;omega
   have HS0:Hid (sn=0↔R=0):=by
    obtain ⟨rs,_,h2,h3,h4,h5,_⟩:=num_row hinv.out.num
    have:=Nm.canon_zero rs h2
    show _↔_
    rw [←h5]
    simp at h3
    constructor
    ·intro h;have h6:=this.2 (List.eq_nil_of_length_eq_zero h);omega
    ·intro h;have h6:=this.1 (by omega);rw [h6];rfl
   have k1':=C1w.out.lt;have k6':=C6w.out.lt;have k3':=C3w.out.lt;have k4':=C4w.out.lt;have k2':=C2w.out.lt
   have e0:=C1w.out.c0;have e6:=C6w.out.c1
   clear hq b2 hinv hbl C1o C2o C3o C4o HBo
   cases bx
   ·go_wp2_with fail
    generalize hW:World.alloc w2 _=W3
    have TQ:Hid (BoxAt W3 w2.heap.size (.bool bq) (.slice aq nq cq)):=by rw [←hW];exact boxAt_new w2 _ _
    have TR:Hid (BoxAt W3 w1.heap.size (.bool bs) (.slice sa sn sc)):=by rw [←hW];exact boxAt_below C6w.out (ba _ _)
    have C3f:Hid (BoxAt W3 (w.heap.size+1+1) (.bool false) (.slice none 0 0)):=by rw [←hW];exact boxAt_below C3w.out (ba _ _)
    have C4f:Hid (BoxAt W3 (w.heap.size+1+1+1) (.bool false) (.slice none 0 0)):=by rw [←hW];exact boxAt_below C4w.out (ba _ _)
    have NQ3:=Lib.hid (num_below NQ.out (show Below w2.heap.size w2 W3 by rw [←hW];exact ba _ _))
    have NR3:=Lib.hid (num_below NR.out (show Below w2.heap.size w2 W3 by rw [←hW];exact ba _ _))
    have HB3:=Lib.hid (bt HB2.out (show Below w2.heap.size w2 W3 by rw [←hW];exact ba _ _))
    clear hW e0 e6
    have NQF:=NQ3;have NRF:=NR3;have HBF:=HB3
    have HQR:Hid (x.natAbs / Y=Nm.val qs∧x.natAbs % Y=R):=down_qr _ _ _ _ (by rw [←HA.out.2.2.1];exact HVQ.out) HRL.out
    have hx0:0≤x:=by have q:=hbx.out;simp at q;exact q
    have HDP:=Lib.hid (down_pos x Y _ hx0 rfl)
    have HQE:Hid (sg false (Nm.val qs)=x / (Y:Int)):=by show _=_;rw [HDP.out.1,HQR.out.1];rfl
    have HRE:Hid ((R:Int)=x % (Y:Int)):=by show _=_;rw [HDP.out.2,HQR.out.2]
    have HLQ:Hid (qs.length≤k1):=by show qs.length≤k1;have q1:=HA.out.2.2.2;have q2:=HLEN.out;omega
    clear hx0
    have l3:=C3f.out.lt;have l4:=C4f.out.lt
    have t1:=TQ.out.c0;have t2:=TQ.out.c1;have t3:=TR.out.c0;have t4:=TR.out.c1
    have u1:=C3f.out.c0;have u2:=C3f.out.c1;have u3:=C3f.out.f0;have u4:=C3f.out.f1
    have v1:=C4f.out.c0;have v2:=C4f.out.c1;have v3:=C4f.out.f0;have v4:=C4f.out.f1
    have n1:w.heap.size+1+1 ≠ w2.heap.size:=by omega
    have n2:w.heap.size+1+1+1 ≠ w2.heap.size:=by omega
    have n3:w.heap.size+1+1 ≠ w1.heap.size:=by omega
    have n4:w.heap.size+1+1+1 ≠ w1.heap.size:=by omega
    go_region_held3 (fun w'=>w'.cell? ⟨w2.heap.size,0,none⟩=some (.bool bq)∧w'.cell? ⟨w2.heap.size,1,none⟩=some (.slice aq nq cq)∧w'.cell? ⟨w1.heap.size,0,none⟩=some (.bool bs)∧w'.cell? ⟨w1.heap.size,1,none⟩=some (.slice sa sn sc)) (first | exact ⟨t1,t2,t3,t4⟩ | go_keep) (fail)
    all_goals
     go_wp2_with fail
     refine bodyPost_ret (v:=.tuple #[.agg #[.bool bq,.slice aq nq cq],.agg #[.bool bs,.slice sa sn sc]]) (by simp [results,Tryz.results140,go_sem,u1,u2,v1,v2]) rfl ⟨_,_,?_,?_,rfl,(two_below _ _ _ _ HBF.out (by omega) (by omega)).drew⟩
     ·exact num_drew (two_out _ _ _ _ C3f.out C4f.out (by omega) (HQE.out ▸ num_mono NQF.out (by have q1:=HLQ.out;omega)))
     ·exact num_drew (two_out _ _ _ _ C3f.out C4f.out (by omega) (HRE.out ▸ num_mono NRF.out (by omega)))
   ·by_cases hR0:R=0
    ·have hs0:sn=0:=HS0.out.2 hR0
     subst hs0
     subst hR0
     go_wp2_with fail
     generalize hW:World.alloc w2 _=W3
     have TQ:Hid (BoxAt W3 w2.heap.size (.bool bq) (.slice aq nq cq)):=by rw [←hW];exact boxAt_new w2 _ _
     have TR:Hid (BoxAt W3 w1.heap.size (.bool bs) (.slice sa 0 sc)):=by rw [←hW];exact boxAt_below C6w.out (ba _ _)
     have C3f:Hid (BoxAt W3 (w.heap.size+1+1) (.bool false) (.slice none 0 0)):=by rw [←hW];exact boxAt_below C3w.out (ba _ _)
     have C4f:Hid (BoxAt W3 (w.heap.size+1+1+1) (.bool false) (.slice none 0 0)):=by rw [←hW];exact boxAt_below C4w.out (ba _ _)
     have NQ3:=Lib.hid (num_below NQ.out (show Below w2.heap.size w2 W3 by rw [←hW];exact ba _ _))
     have NR3:=Lib.hid (num_below NR.out (show Below w2.heap.size w2 W3 by rw [←hW];exact ba _ _))
     have HB3:=Lib.hid (bt HB2.out (show Below w2.heap.size w2 W3 by rw [←hW];exact ba _ _))
     clear hW e0 e6
     have NQF:=NQ3;have NRF:=NR3;have HBF:=HB3
     have HQR:Hid (x.natAbs / Y=Nm.val qs∧x.natAbs % Y=0):=down_qr _ _ _ _ (by rw [←HA.out.2.2.1];exact HVQ.out) HRL.out
     have hx0:x<0:=by have q:=hbx.out;simpa using q
     have HDP:=Lib.hid (down_neg0 x Y _ hx0 rfl HQR.out.2)
     have HQE:Hid (sg true (Nm.val qs)=x / (Y:Int)):=by show _=_;rw [HDP.out.1,HQR.out.1];rfl
     have HRE:Hid (((0:Nat):Int)=x % (Y:Int)):=by show _=_;rw [HDP.out.2];rfl
     have HLQ:Hid (qs.length≤k1):=by show qs.length≤k1;have q1:=HA.out.2.2.2;have q2:=HLEN.out;omega
     clear hx0
     have l3:=C3f.out.lt;have l4:=C4f.out.lt
     have t1:=TQ.out.c0;have t2:=TQ.out.c1;have t3:=TR.out.c0;have t4:=TR.out.c1
     have u1:=C3f.out.c0;have u2:=C3f.out.c1;have u3:=C3f.out.f0;have u4:=C3f.out.f1
     have v1:=C4f.out.c0;have v2:=C4f.out.c1;have v3:=C4f.out.f0;have v4:=C4f.out.f1
     have n1:w.heap.size+1+1 ≠ w2.heap.size:=by omega
     have n2:w.heap.size+1+1+1 ≠ w2.heap.size:=by omega
     have n3:w.heap.size+1+1 ≠ w1.heap.size:=by omega
     have n4:w.heap.size+1+1+1 ≠ w1.heap.size:=by omega
     go_region_held3 (fun w'=>w'.cell? ⟨w2.heap.size,0,none⟩=some (.bool bq)∧w'.cell? ⟨w2.heap.size,1,none⟩=some (.slice aq nq cq)∧w'.cell? ⟨w1.heap.size,0,none⟩=some (.bool bs)∧w'.cell? ⟨w1.heap.size,1,none⟩=some (.slice sa 0 sc)) (first | exact ⟨t1,t2,t3,t4⟩ | go_keep) (fail)
     all_goals
      go_wp2_with fail
      refine bodyPost_ret (v:=.tuple #[.agg #[.bool bq,.slice aq nq cq],.agg #[.bool bs,.slice sa 0 sc]]) (by simp [results,Tryz.results140,go_sem,u1,u2,v1,v2]) rfl ⟨_,_,?_,?_,rfl,(two_below _ _ _ _ HBF.out (by omega) (by omega)).drew⟩
      ·exact num_drew (two_out _ _ _ _ C3f.out C4f.out (by omega) (HQE.out ▸ num_mono NQF.out (by have q1:=HLQ.out;omega)))
      ·exact num_drew (two_out _ _ _ _ C3f.out C4f.out (by omega) (HRE.out ▸ num_mono NRF.out (by omega)))
    ·have hs0:0<sn:=by
      rcases Nat.eq_zero_or_pos sn with e | e
      ·exact (hR0 (HS0.out.1 e)).elim
      ·exact e
     go_wp2_with fail
     generalize hW:World.alloc w2 _=W3
     have TQ:Hid (BoxAt W3 w2.heap.size (.bool bq) (.slice aq nq cq)):=by rw [←hW];exact boxAt_new w2 _ _
     have HW3:Hid (Below w2.heap.size w2 W3):=by rw [←hW];exact ba _ _
     clear hW e0 e6 hs0
     have HQR:Hid (x.natAbs / Y=Nm.val qs∧x.natAbs % Y=R):=down_qr _ _ _ _ (by rw [←HA.out.2.2.1];exact HVQ.out) HRL.out
     have hx0:x<0:=by have q:=hbx.out;simpa using q
     have HDP:=Lib.hid (down_neg1 x Y _ hx0 rfl hY (by rw [HQR.out.2];exact hR0))
     have HQE:Hid (sg true (Nm.val qs) - 1=x / (Y:Int)):=by show _=_;rw [HDP.out.1,HQR.out.1];rfl
     have HRE:Hid ((Y:Int) - (R:Int)=x % (Y:Int)):=by show _=_;rw [HDP.out.2,HQR.out.2]
     have HLQ:Hid (qs.length≤k1):=by show qs.length≤k1;have q1:=HA.out.2.2.2;have q2:=HLEN.out;omega
     clear hx0 hR0
     have t0':=TQ.out.lt
     have t1:=TQ.out.c0;have t2:=TQ.out.c1
     go_cut [] (fun wx=>DownOut w2 (k1+8) (x / (Y:Int)) wx)
     case first=>
      go_region_law (first
       | (go_simp;go_at_call 141;refine (word_any 1 _ (by omega) (by omega)).mono ?_;rintro e w5 ⟨vz,hz,rfl,b5⟩;obtain ⟨bz,az,nz,cz,rfl⟩:=num_agg hz;have HZ:=Lib.hid hz;have B5:=Lib.hid (show Below W3.heap.size W3 w5 from bt ((Below.refl _ _).drew) b5);have e1:=(boxAt_below TQ.out B5.out).c0;have e2:=(boxAt_below TQ.out B5.out).c1;clear hz b5)
       | (go_simp;go_at_call 133;refine (sub_any qs.length 7 _ _ (sg true (Nm.val qs)) 1 _ (num_below NQ.out (bt HW3.out B5.out)) HZ.out (by have:=HLQ.out;omega) (by omega)).mono ?_;rintro e w6 ⟨vs,hz,rfl,b6⟩;obtain ⟨bs2,as2,ns2,cs2,rfl⟩:=num_agg hz;have HS:=Lib.hid hz;have B6:=Lib.hid (bt B5.out b6);have HR6:=Lib.hid (boxAt_below TQ.out B6.out);have r0:=HR6.out.c0;have r1:=HR6.out.c1;have r2:=HR6.out.f0;have r3:=HR6.out.f1;clear hz b6))
      all_goals
       dsimp only [Exit.then]
       refine ‹∀ (a':Act) (w':World),Met _ a' w'→_› _ _ ?_
       go_meet
       case rel=>
        refine ⟨_,_,_,_,boxAt_set2 _ _ HR6.out,num_mono (num_set2 _ _ (HQE.out ▸ HS.out) HR6.out) (by have:=HLQ.out;omega),?_,?_⟩
        ·exact (((HW3.out.trans (B6.out.mono (by omega)))).setCell (Nat.le_refl _) _).setCell (Nat.le_refl _) _
        ·have:=B6.out.size;simp;omega
     case rest=>
      clear t1 t2 t0'
      obtain ⟨bo,ao,no,co,hbox,hnum,hbl,hsz2⟩:=hcut
      have TO:=Lib.hid hbox;have NO:=Lib.hid hnum;have BO:=Lib.hid hbl
      have C2x:=Lib.hid (boxAt_below C2w.out hbl);have C3x:=Lib.hid (boxAt_below C3w.out hbl);have C4x:=Lib.hid (boxAt_below C4w.out hbl);have C6x:=Lib.hid (boxAt_below C6w.out hbl)
      have NRx:=Lib.hid (num_below NR.out hbl)
      have HBx:=Lib.hid (bt HB2.out hbl)
      have d1:=C2x.out.c0;have d2:=C2x.out.c1;have d3:=C6x.out.c0;have d4:=C6x.out.c1
      clear hbox hnum hbl
      go_wp2_with fail
      refine (sub_any k2 k2 _ _ (Y:Int) (R:Int) _ (num_below HB.out HBx.out) NRx.out (by omega) (by omega)).mono ?_
      rintro e w7 ⟨vt,ht,rfl,b7⟩
      obtain ⟨bt',at',nt,ct,rfl⟩:=num_agg ht
      have NT:=Lib.hid ht
      have TO7:=Lib.hid (boxAt_below TO.out b7);have C37:=Lib.hid (boxAt_below C3x.out b7);have C47:=Lib.hid (boxAt_below C4x.out b7);have C67:=Lib.hid (boxAt_below C6x.out b7)
      have NO7:=Lib.hid (num_below NO.out b7)
      have HB7:=Lib.hid (bt HBx.out b7)
      have c1:=C67.out.c0;have c2:=C67.out.c1;have c3:=C67.out.f0;have c4:=C67.out.f1
      clear ht b7 d1 d2 d3 d4
      go_wp2_with fail
      generalize hW:World.setCell (World.setCell w7 _ _) _ _=W8
      have TQ8:Hid (BoxAt W8 w2.heap.size (.bool bo) (.slice ao no co)):=by rw [←hW];exact boxAt_set_other _ _ (boxAt_set_other _ _ TO7.out (by omega)) (by omega)
      have TR:Hid (BoxAt W8 w1.heap.size (.bool bt') (.slice at' nt ct)):=by rw [←hW];exact boxAt_set2 _ _ C67.out
      have C3f:Hid (BoxAt W8 (w.heap.size+1+1) (.bool false) (.slice none 0 0)):=by rw [←hW];exact boxAt_set_other _ _ (boxAt_set_other _ _ C37.out (by omega)) (by omega)
      have C4f:Hid (BoxAt W8 (w.heap.size+1+1+1) (.bool false) (.slice none 0 0)):=by rw [←hW];exact boxAt_set_other _ _ (boxAt_set_other _ _ C47.out (by omega)) (by omega)
      have NQF:Hid (Num (k1+8) W8 (.agg #[.bool bo,.slice ao no co]) (x / (Y:Int))):=by rw [←hW];exact num_set2 _ _ NO7.out C67.out
      have NRF:Hid (Num (max k2 k2+1) W8 (.agg #[.bool bt',.slice at' nt ct]) ((Y:Int) - (R:Int))):=by rw [←hW];exact num_set2 _ _ NT.out C67.out
      have HBF:Hid (Below w.heap.size w W8):=by rw [←hW];exact (HB7.out.setCell (by simp;omega) _).setCell (by simp;omega) _
      replace TQ:=TQ8
      clear hW c1 c2 c3 c4
      have l3:=C3f.out.lt;have l4:=C4f.out.lt
      have t1:=TQ.out.c0;have t2:=TQ.out.c1;have t3:=TR.out.c0;have t4:=TR.out.c1
      have u1:=C3f.out.c0;have u2:=C3f.out.c1;have u3:=C3f.out.f0;have u4:=C3f.out.f1
      have v1:=C4f.out.c0;have v2:=C4f.out.c1;have v3:=C4f.out.f0;have v4:=C4f.out.f1
      have n1:w.heap.size+1+1 ≠ w2.heap.size:=by omega
      have n2:w.heap.size+1+1+1 ≠ w2.heap.size:=by omega
      have n3:w.heap.size+1+1 ≠ w1.heap.size:=by omega
      have n4:w.heap.size+1+1+1 ≠ w1.heap.size:=by omega
      go_region_held3 (fun w'=>w'.cell? ⟨w2.heap.size,0,none⟩=some (.bool bo)∧w'.cell? ⟨w2.heap.size,1,none⟩=some (.slice ao no co)∧w'.cell? ⟨w1.heap.size,0,none⟩=some (.bool bt')∧w'.cell? ⟨w1.heap.size,1,none⟩=some (.slice at' nt ct)) (first | exact ⟨t1,t2,t3,t4⟩ | go_keep) (fail)
      all_goals
       go_wp2_with fail
       refine bodyPost_ret (v:=.tuple #[.agg #[.bool bo,.slice ao no co],.agg #[.bool bt',.slice at' nt ct]]) (by simp [results,Tryz.results140,go_sem,u1,u2,v1,v2]) rfl ⟨_,_,?_,?_,rfl,(two_below _ _ _ _ HBF.out (by omega) (by omega)).drew⟩
       ·exact num_drew (two_out _ _ _ _ C3f.out C4f.out (by omega) (num_mono NQF.out (by omega)))
       ·exact num_drew (two_out _ _ _ _ C3f.out C4f.out (by omega) (HRE.out ▸ num_mono NRF.out (by omega)))
  ·rw [show (((j+1:Nat):Int) - 1)=(j:Int) from by omega]
   obtain ⟨rs,hrs1,hrs2,hrs3,hrs4,hrs5,_⟩:=num_row hinv.out.num
   have HRS:Hid (RowW wo (.slice sa sn sc) rs∧Nm.Canon rs∧Nm.val rs=R∧rs.length≤k2):=⟨hrs1,hrs2,by simpa using hrs3,hrs4⟩
   clear hrs1 hrs2 hrs3 hrs4 hrs5
   have HBo:=Lib.hid (HBW.out.trans (hbl.out.mono (show w.heap.size≤w.heap.size+1+1+1+1 by omega)))
   obtain ⟨g,ea,hcx⟩:=rowW_gd (rowW_below HA.out.1 HBo.out) j (by rw [HA.out.2.2.2.2];omega)
   subst ea
   have hgl:g<wo.heap.size:=by
    obtain ⟨q,e,hq⟩:=rowW_some (rowW_below HA.out.1 HBo.out) (by rw [HA.out.2.2.2.2];omega)
    simp at e;rw [e];exact hq
   have gx:=Nm.gd_lt xs j HA.out.2.1.1
   obtain ⟨X,HX⟩:∃ X,Hid (Nm.gd xs j=X):=⟨_,rfl⟩
   rw [HX.out] at hcx gx
   have d1:=C1o.out.c1;have d2:=hinv.out.box.c1
   have b0:(0:Int)≤(j:Int):=by omega
   have b1:(j:Int)<(na:Int):=by omega
   go_wp2_with fail
   have l1':=C1o.out.lt
   go_cut [] (fun wx=>DownMid w1 (w.heap.size+1+1+1+1) na k2 qs (X+1000*R) wx)
   case first=>
    go_region_law (first
     | (refine step_app (by rfl) _ _ (by rfl) wo.heap.size _ _ [X] rs (by rfl) (by rfl) (by exact rowB_lit wo.drew X _ rfl) (by exact rowW_alloc (rowW_drew HRS.out.1) _) (by simp) (by have:=HRS.out.2.2.2;omega) (by simp) ?_;intro v' w2 hrow2 hb2;obtain ⟨a',c',rfl,hmx⟩:=rowW_form hrow2.row;have HR2:=Lib.hid hrow2;have HM:=Lib.hid hmx;have HB2:Hid (Below wo.heap.size wo w2):=(((Below.refl wo.heap.size wo).drew).alloc (Nat.le_refl _) _).trans hb2;clear hrow2 hb2 hmx)
     | (go_simp;go_at_call 158;refine (short_at false _ _ _ ([X]++rs) _ HR2.out.row rfl HM.out (by exact Nm.digs_append _ _ (by intro q hq;simp at hq;omega) HRS.out.2.1.1)).mono ?_;rintro e w3 ⟨br,nr,hv,rfl,b3⟩;have HV:=Lib.hid hv;have HB3:=Lib.hid (bt HB2.out b3);have HR3:=Lib.hid (boxAt_below hinv.out.box HB3.out);have r0:=HR3.out.c0;have r1:=HR3.out.c1;have r2:=HR3.out.f0;have r3:=HR3.out.f1;have HQ3:=Lib.hid (rowW_below hinv.out.row HB3.out);clear hv b3))
    all_goals
     go_wp2_with fail
     go_meet
     case rel=>
      refine ⟨br,a',nr,c',boxAt_set2 _ _ HR3.out,?_,rowW_set2 _ _ HQ3.out HR3.out,?_,?_,?_⟩
      ·have e:sg false (Nm.val ([X]++rs))=((X+1000*R:Nat):Int):=by
        unfold sg;simp [Nm.val,HRS.out.2.2.1]
       exact num_mono (num_set2 _ _ (e ▸ HV.out) HR3.out) (by have:=HRS.out.2.2.2;simp;omega)
      ·exact ((hbl.out.trans (HB3.out.mono (by omega))).setCell (by simp;omega) _).setCell (by simp;omega) _
      ·have:=HB3.out.size;simp;omega
      ·intro g' e;have:=rowB_far HR2.out g' e;omega
   case rest=>
    have HIN:Hid (R<Y∧Nm.val (xs.drop (j+1))=Nm.val (qs.drop (j+1))*Y+R∧qs.length=na∧Nm.Digs qs):=⟨hinv.out.lt,hinv.out.eq,hinv.out.len,hinv.out.digs⟩
    clear hcx d1 d2 b0 b1 l1' hgl hinv hbl hsz HRS HBo C1o C2o
    obtain ⟨br,ar,nr,cr,hbox6,hnum6,hrow5,hbl6,hsz6,hfar6⟩:=hcut
    have C1c:=Lib.hid (boxAt_belowB C1.out hbl6 (by omega));have C2c:=Lib.hid (boxAt_belowB C2.out hbl6 (by omega))
    have BX6:=Lib.hid hbox6;have NM6:=Lib.hid hnum6;have RW5:=Lib.hid hrow5;have BL6:=Lib.hid hbl6;have FR6:=Lib.hid hfar6
    clear hbox6 hnum6 hrow5 hbl6 hfar6
    obtain ⟨A,hA⟩:∃ A,Hid (X+1000*R=A):=⟨_,rfl⟩
    rw [hA.out] at NM6
    have HBc:Hid (Below w.heap.size w wc):=HBW.out.trans (BL6.out.mono (by omega))
    have HA1:Hid (A<1000*Y):=by
     show A<1000*Y
     rw [←hA.out]
     have:=HIN.out.1
     have:1000*(R+1)≤1000*Y:=Nat.mul_le_mul_left _ this
     omega
    go_wp2_with fail
    go_loopw [9,10] (fun lo hi wr=>∃ l h:Nat,lo=.int .i64 (l:Int)∧hi=.int .i64 (h:Int)∧l≤h∧h≤999∧Hid (l*Y≤A∧A<(h+1)*Y)∧Below wc.heap.size wc wr) (fun lo hi _=>(intOf hi - intOf lo).toNat)
    case atStart=>exact ⟨0,999,rfl,rfl,by omega,by omega,⟨by simp,HA1.out⟩,Below.refl _ _⟩
    case round=>
     rename_i wr
     obtain ⟨wp,rfl⟩:∃ wp:World,wp=wr:=⟨_,rfl⟩
     obtain ⟨l,h,rfl,rfl,hlh,hh,hla,hblp⟩:=hrel
     have HBp:=Lib.hid (bt HBc.out hblp)
     have C2p:=Lib.hid (boxAt_below C2c.out hblp)
     have C6p:=Lib.hid (boxAt_below BX6.out hblp)
     have NM6p:=Lib.hid (num_below NM6.out hblp)
     by_cases hlt:l<h
     ·have l2':=C2p.out.lt;have l6':=C6p.out.lt
      have d1:=C2p.out.c0;have d2:=C2p.out.c1;have d3:=C6p.out.c0;have d4:=C6p.out.c1
      obtain ⟨m,hm⟩:∃ m:Nat,Hid (((l:Int)+(h:Int)+1) / 2=(m:Int)):=⟨(l+h+1) / 2,by show _=_;omega⟩
      have hm1:l<m∧m≤h:=by have q:=hm.out;omega
      obtain ⟨c,hc⟩:∃ c,Hid (cmpZ ((m:Int)*(Y:Int)) (A:Int)=c):=⟨_,rfl⟩
      have HLE:Hid (c≤0↔m*Y≤A):=by
       have:=cmpZ_le _ _ _ hc.out
       show _↔_
       rw [this,←Int.natCast_mul];omega
      have hwm:IntKind.u64.wrap (m:Int)=(m:Int):=by rw [IntKind.wrap_u64];omega
      have hm2:(0:Int)≤((l:Int)+(h:Int)+1) / 2:=by omega
      have hm3:((l:Int)+(h:Int)+1) / 2≤999:=by omega
      go_wp2_with fail
      rw [hm.out]
      go_region_held3 (fun w'=>w'.cell? ⟨w.heap.size+1,0,none⟩=some (.bool by')∧w'.cell? ⟨w.heap.size+1,1,none⟩=some (.slice ab nb cb)∧w'.cell? ⟨w1.heap.size,0,none⟩=some (.bool br)∧w'.cell? ⟨w1.heap.size,1,none⟩=some (.slice ar nr cr))
       (first | exact ⟨d1,d2,d3,d4⟩ | exact ⟨e1,e2,e3,e4⟩ | exact ⟨f1,f2,f3,f4⟩ | exact ⟨g1,g2,g3,g4⟩ | go_keep)
       (first
        | (go_at_call 141;refine (word_nat m (by omega) _).mono ?_;rintro e w2 ⟨vz,hz,rfl,b2⟩;obtain ⟨bz,az,nz,cz,rfl⟩:=num_agg hz;have HZ:=Lib.hid hz;have B2:=Lib.hid (show Below wp.heap.size wp w2 from bt ((Below.refl _ _).drew) b2);have e1:=(boxAt_below C2p.out B2.out).c0;have e2:=(boxAt_below C2p.out B2.out).c1;have e3:=(boxAt_below C6p.out B2.out).c0;have e4:=(boxAt_below C6p.out B2.out).c1;clear hz b2)
        | (go_at_call 135;refine (mul_any 7 k2 _ _ (m:Int) (Y:Int) _ HZ.out (num_below HB.out (bt HBp.out B2.out)) (by omega) (by omega)).mono ?_;rintro e w3 ⟨vy,hz,rfl,b3⟩;obtain ⟨by2,ay,ny,cy,rfl⟩:=num_agg hz;have HY2:=Lib.hid hz;have B3:=Lib.hid (bt B2.out b3);have f1:=(boxAt_below C2p.out B3.out).c0;have f2:=(boxAt_below C2p.out B3.out).c1;have f3:=(boxAt_below C6p.out B3.out).c0;have f4:=(boxAt_below C6p.out B3.out).c1;clear hz b3)
        | (go_at_call 132;refine (cmp_c (7+k2) (k2+1) _ _ _ _ c _ HY2.out (num_below NM6p.out B3.out) (by omega) (by omega) hc.out).mono ?_;rintro e w4 ⟨rfl,b4⟩;have B4:=Lib.hid (bt B3.out b4);have g1:=(boxAt_below C2p.out B4.out).c0;have g2:=(boxAt_below C2p.out B4.out).c1;have g3:=(boxAt_below C6p.out B4.out).c0;have g4:=(boxAt_below C6p.out B4.out).c1;clear b4))
      have HBL4:=Lib.hid (bt hblp B4.out)
      clear hwm d1 d2 d3 d4 e1 e2 e3 e4 f1 f2 f3 f4 g1 g2 g3 g4 l2' l6' hm2 hm3 hblp
      by_cases hcz:c≤0
      ·go_wp2_with fail
       go_roundw
       case rel=>exact ⟨m,h,rfl,rfl,by omega,by omega,⟨HLE.out.1 hcz,hla.out.2⟩,HBL4.out⟩
       case measure=>simp [intOf];omega
      ·go_wp2_with fail
       go_roundw
       case rel=>exact ⟨l,m - 1,rfl,by (rw [show ((m - 1:Nat):Int)=(m:Int) - 1 from by omega]),by omega,by omega,⟨hla.out.1,by rw [show m - 1+1=m from by omega];have q:=mt HLE.out.2 hcz;omega⟩,HBL4.out⟩
       case measure=>simp [intOf];omega
     ·obtain rfl:l=h:=by omega
      have HQ:Hid (l=A / Y):=Nm.down_found A Y l hla.out.1 hla.out.2
      obtain ⟨dq,hq1,hcq⟩:=rowW_at' (rowW_below RW5.out hblp) j (by rw [HIN.out.2.2.1];omega)
      have hfq:=rowW_frozen (rowW_below RW5.out hblp) j
      have hl6:=C6p.out.lt
      have hblp5:=Lib.hid hblp
      clear hq1 hblp
      go_wp2_with fail
      generalize hW:World.setCell wp _ _=W9
      have B69:=Lib.hid (BL6.out.trans (hblp5.out.mono (by omega:w.heap.size+1+1+1+1≤wc.heap.size)))
      have RW9:Hid (RowW W9 (.slice (some ⟨w.heap.size+1+1+1+1,0,none⟩) na na) (qs.set j l)):=by
       rw [←hW];exact rowW_stored (rowW_below RW5.out hblp5.out) j l
      have C29:Hid (BoxAt W9 (w.heap.size+1) (.bool by') (.slice ab nb cb)):=by
       rw [←hW];exact boxAt_set_other _ _ C2p.out (by omega)
      have C69:Hid (BoxAt W9 w1.heap.size (.bool br) (.slice ar nr cr)):=by
       rw [←hW];exact boxAt_set_other _ _ C6p.out (by omega)
      have NM9:Hid (Num (k2+1) W9 (.agg #[.bool br,.slice ar nr cr]) (A:Int)):=by
       rw [←hW];exact num_far NM6p.out (fun g' e=>by have:=FR6.out g' e;simp;omega) _
      have BL9:Hid (Below (w.heap.size+1+1+1+1) w1 W9):=by rw [←hW];exact B69.out.setCell (Nat.le_refl _) _
      have HB9:Hid (Below w.heap.size w W9):=HBW.out.trans (BL9.out.mono (by omega))
      have hs9:w1.heap.size<W9.heap.size:=C69.out.lt
      clear hW hcq hfq hl6 B69
      have l2':=C29.out.lt
      have d1:=C29.out.c0;have d2:=C29.out.c1;have d3:=C69.out.c0;have d4:=C69.out.c1
      have hwm:IntKind.u64.wrap (l:Int)=(l:Int):=by rw [IntKind.wrap_u64];omega
      have HRR:Hid (A - l*Y<Y∧l*Y≤A):=⟨by rw [←hA.out];exact Nm.down_left R X Y l (by rw [hA.out];exact HQ.out) hY,hla.out.1⟩
      go_region_law (first
       | (go_simp;go_at_call 141;refine (word_nat l (by omega) _).mono ?_;rintro e w2 ⟨vz,hz,rfl,b2⟩;obtain ⟨bz,az,nz,cz,rfl⟩:=num_agg hz;have HZ:=Lib.hid hz;have B2:=Lib.hid (show Below W9.heap.size W9 w2 from bt ((Below.refl _ _).drew) b2);have e1:=(boxAt_below C29.out B2.out).c0;have e2:=(boxAt_below C29.out B2.out).c1;have e3:=(boxAt_below C69.out B2.out).c0;have e4:=(boxAt_below C69.out B2.out).c1;clear hz b2)
       | (go_simp;go_at_call 135;refine (mul_any 7 k2 _ _ (l:Int) (Y:Int) _ HZ.out (num_below HB.out (bt HB9.out B2.out)) (by omega) (by omega)).mono ?_;rintro e w3 ⟨vy,hz,rfl,b3⟩;obtain ⟨by2,ay,ny,cy,rfl⟩:=num_agg hz;have HY2:=Lib.hid hz;have B3:=Lib.hid (bt B2.out b3);have f1:=(boxAt_below C29.out B3.out).c0;have f2:=(boxAt_below C29.out B3.out).c1;have f3:=(boxAt_below C69.out B3.out).c0;have f4:=(boxAt_below C69.out B3.out).c1;clear hz b3)
       | (go_simp;go_at_call 133;refine (sub_any (k2+1) (7+k2) _ _ (A:Int) ((l:Int)*(Y:Int)) _ (num_below NM9.out B3.out) HY2.out (by omega) (by omega)).mono ?_;rintro e w4 ⟨vs,hz,rfl,b4⟩;obtain ⟨bs2,as2,ns2,cs2,rfl⟩:=num_agg hz;have HS:=Lib.hid hz;have B4:=Lib.hid (bt B3.out b4);have HR4:=Lib.hid (boxAt_below C69.out B4.out);have r0:=HR4.out.c0;have r1:=HR4.out.c1;have r2:=HR4.out.f0;have r3:=HR4.out.f1;clear hz b4))
      all_goals
       have HN:Hid (DownNext w1 (w.heap.size+1+1+1+1) na k2 (qs.set j l) (A - l*Y) ((w4.setCell ⟨w1.heap.size,0,none⟩ (.bool bs2)).setCell ⟨w1.heap.size,1,none⟩ (.slice as2 ns2 cs2))):=by
        have e:(A:Int) - (l:Int)*(Y:Int)=((A - l*Y:Nat):Int):=by
         have:=HRR.out.2
         rw [←Int.natCast_mul];omega
        refine ⟨_,_,_,_,boxAt_set2 _ _ HR4.out,num_len (num_set2 _ _ (e ▸ HS.out) HR4.out) ?_,rowW_set2 _ _ (rowW_below RW9.out B4.out) HR4.out,?_,?_⟩
        ·have:=HRR.out.1;have:=HYL.out;simp;omega
        ·exact ((BL9.out.trans (B4.out.mono (by omega))).setCell (by simp;omega) _).setCell (by simp;omega) _
        ·have:=B4.out.size;simp;omega
       go_wp2_with fail
       obtain ⟨bs3,as3,ns3,cs3,hbox,hnum,hrow,hbl,hsz⟩:=HN.out
       have HINV:Hid (DownInv w (w.heap.size+1+1+1+1) w1.heap.size na k2 xs Y j ((w4.setCell ⟨w1.heap.size,0,none⟩ (.bool bs2)).setCell ⟨w1.heap.size,1,none⟩ (.slice as2 ns2 cs2)) (qs.set j l) (A - l*Y) bs3 as3 ns3 cs3):=by
        refine ⟨hrow,by simp;exact HIN.out.2.2.1,Nm.digs_set _ _ _ HIN.out.2.2.2 ?_,hbox,hnum,HRR.out.1,?_⟩
        ·rw [HQ.out,←hA.out];exact Nm.down_digit R X Y HIN.out.1 gx hY
        ·rw [Nm.val_drop xs j X (by rw [←HX.out];exact Nm.gd_at xs j (by rw [HA.out.2.2.2.2];omega)),Nm.drop_set _ _ _ (by rw [HIN.out.2.2.1];omega),←hA.out]
         exact Nm.down_step _ _ R X Y l HIN.out.2.1 (by rw [hA.out];exact HQ.out) hY
       have HBLF:=Lib.hid hbl
       clear hbox hnum hrow hbl
       go_roundw
       case rel=>exact ⟨j,_,_,_,_,_,_,by go_num,by omega,HINV.out,HBLF.out,hsz⟩
       case measure=>simp [intOf]
end Go.Proofs.YteagpbkbdlmdiaaGreat
