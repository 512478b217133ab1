/-
  THE WALK of the reference's Wide; THE WALK of the reference's As; THE WALK of the reference's Ten; THE WALK of the reference's Small; THE WALK of math/bits.Div64.
-/
import Derived.Test.YteagpbkbdlmdiaaGreatQ12
import Derived.Test.YteagpbkbdlmdiaaGreatQ3
import Derived.Deep.CutBlock
set_option linter.unusedSimpArgs false
set_option linter.unusedVariables false
namespace Go.Proofs.YteagpbkbdlmdiaaGreat
open Go.RowKit
attribute [local go_sem ↓] Go.wp_at_zero Go.wp_at_succ
def wz (n:Bool) (hi lo:Int):Int:=if n=true then -(hi*18446744073709551616+lo) else hi*18446744073709551616+lo
theorem cell_keep {w w':World} {b o:Nat} {v:Value} (h:Below w.heap.size w w') (d:w.cell? ⟨b,o,none⟩=some v) (hb:b<w.heap.size):w'.cell? ⟨b,o,none⟩=some v:=(h.cell (p:=⟨b,o,none⟩) hb).trans d
def WAt (w:World) (b:Nat) (n:Bool) (hi lo:Int):Prop:=w.heap[b]?=some (.cells #[.bool n,.int .u64 hi,.int .u64 lo] 97 (0,0))
theorem wAt_new (w:World) (n:Bool) (hi lo:Int):WAt (w.alloc (.cells #[.bool n,.int .u64 hi,.int .u64 lo] 97)) w.heap.size n hi lo:=heap_alloc_new w _
section
variable {w:World} {b:Nat} {n:Bool} {hi lo:Int}
theorem WAt.lt (h:WAt w b n hi lo):b<w.heap.size:=(Array.getElem?_eq_some_iff.1 h).1
theorem WAt.below {w':World} (h:WAt w b n hi lo) (hb:Below w.heap.size w w'):WAt w' b n hi lo:=by
 unfold WAt;rw [hb.block b h.lt];exact h
theorem WAt.c0 (h:WAt w b n hi lo):w.cell? ⟨b,0,none⟩=some (.bool n):=by rw [cell_of_row w _ _ _ _ (0,0) h];rfl
theorem WAt.c1 (h:WAt w b n hi lo):w.cell? ⟨b,1,none⟩=some (.int .u64 hi):=by rw [cell_of_row w _ _ _ _ (0,0) h];rfl
theorem WAt.c2 (h:WAt w b n hi lo):w.cell? ⟨b,2,none⟩=some (.int .u64 lo):=by rw [cell_of_row w _ _ _ _ (0,0) h];rfl
theorem WAt.f0 (h:WAt w b n hi lo):w.frozen? ⟨b,0,none⟩=false:=frozen_of_row w _ _ _ _ h
theorem WAt.f1 (h:WAt w b n hi lo):w.frozen? ⟨b,1,none⟩=false:=frozen_of_row w _ _ _ _ h
theorem WAt.f2 (h:WAt w b n hi lo):w.frozen? ⟨b,2,none⟩=false:=frozen_of_row w _ _ _ _ h
theorem wAt_set3 (m:Bool) (x y:Int) (h:WAt w b n hi lo):WAt (((w.setCell ⟨b,0,none⟩ (.bool m)).setCell ⟨b,1,none⟩ (.int .u64 x)).setCell ⟨b,2,none⟩ (.int .u64 y)) b m x y:=heap_set (.int .u64 y) (heap_set (.int .u64 x) (heap_set (.bool m) h))
end
end Go.Proofs.YteagpbkbdlmdiaaGreat
namespace Go.Proofs.YteagpbkbdlmdiaaGreat
open Go.RowKit
attribute [local go_sem ↓] Go.wp_at_zero Go.wp_at_succ
theorem num_abs {k:Nat} {w:World} {b:Bool} {a:Option Addr} {n cap:Nat} {z:Int} (h:Num k w (.agg #[.bool b,.slice a n cap]) z):Num k w (.agg #[.bool false,.slice a n cap]) (z.natAbs:Int):=by
 obtain ⟨ds,h1,h2,h3,h4,h5,h6⟩:=num_row h
 refine ⟨_,ds,?_,h1,h2,by simpa using h3,h4⟩
 have:¬((z.natAbs:Int)<0):=by omega
 simp [this]
theorem num_cast {k:Nat} {w:World} {v:Value} {z z':Int} (h:Num k w v z) (e:z=z'):Num k w v z':=e ▸ h
end Go.Proofs.YteagpbkbdlmdiaaGreat
namespace Go.Proofs.YteagpbkbdlmdiaaGreat
open Go.RowKit
attribute [local go_sem ↓] Go.wp_at_zero Go.wp_at_succ
theorem pow10_lt (j:Nat):((10:Int) ^ j).natAbs<1000 ^ (j+1):=by
 have e:((10:Int) ^ j)=((10 ^ j:Nat):Int):=by simp
 rw [e,Int.natAbs_natCast]
 calc 10 ^ j≤1000 ^ j:=Nat.pow_le_pow_left (by omega) _
  _<1000 ^ (j+1):=Nat.pow_lt_pow_right (by omega) (by omega)
def NumBox (w:World) (b k:Nat) (z:Int):Prop:=∃ (q:Bool) (a:Option Addr) (n c:Nat),BoxAt w b (.bool q) (.slice a n c)∧Num k w (.agg #[.bool q,.slice a n c]) z
set_option maxRecDepth 100000 in
set_option maxHeartbeats 4000000 in
theorem ten_any (n:Int) (w:World) (hn:n≤3000) :
  Calls Tryz.prog 137 #[.int .i64 n] w (NumPost (n.toNat+1) ((10:Int) ^ n.toNat) w):=by
 go_enter Tryz.func137,Tryz.ntmps137
 go_wp2_with fail
 refine (word_any 1 _ (by omega) (by omega)).mono ?_
 rintro e w1 ⟨v1,hv1,rfl,b1⟩
 obtain ⟨q1,a1,n1,c1,rfl⟩:=num_agg hv1
 have Y1:=Lib.hid (boxAt_below (boxAt_new w (.bool false) (.slice none 0 0)) b1)
 have B1:=Lib.hid (bt (ba _ _) b1)
 have N1:Hid (Num 1 w1 (.agg #[.bool q1,.slice a1 n1 c1]) 1):=num_len hv1 (by decide)
 clear hv1 b1
 go_upto_region 2 with fail
 generalize hW:World.alloc w1 _=W2
 have T2:Hid (BoxAt W2 w1.heap.size (.bool q1) (.slice a1 n1 c1)):=by rw [←hW];exact boxAt_new w1 _ _
 have B2:Hid (Below w1.heap.size w1 W2):=by rw [←hW];exact ba _ _
 have Y2:=Lib.hid (boxAt_below Y1.out B2.out)
 have N2:=Lib.hid (num_below N1.out B2.out)
 have BW:=Lib.hid (bt B1.out B2.out)
 have ly:=Y1.out.lt
 clear hW
 go_wp2_with fail
 go_loopw [4] (fun i wr=>∃ j:Nat,i=.int .i64 (j:Int)∧j≤n.toNat∧Hid (NumBox wr w1.heap.size (j+1) ((10:Int) ^ j))∧Hid (Below w1.heap.size W2 wr)) (fun i _=>n.toNat - (intOf i).toNat)
 case atStart=>exact ⟨0,rfl,Nat.zero_le _,⟨_,_,_,_,T2.out,N2.out⟩,(Below.refl _ _)⟩
 case round=>
  rename_i wr
  obtain ⟨wo,rfl⟩:∃ wo:World,wo=wr:=⟨_,rfl⟩
  obtain ⟨j,rfl,hj,hnb,hbl⟩:=hrel
  obtain ⟨q,a,m,c,hbox,hnum⟩:=hnb.out
  have Tb:=Lib.hid hbox;have Nb:=Lib.hid hnum
  have Yo:=Lib.hid (boxAt_belowB Y2.out hbl.out ly)
  have BO:=Lib.hid ((BW.out).trans (hbl.out.mono (by omega)))
  clear hbox hnum
  by_cases hlt:(j:Int)<n
  ·go_upto_region 5 with fail
   have d1:=Tb.out.c0;have d2:=Tb.out.c1
   have f1:=Tb.out.f0;have f2:=Tb.out.f1
   have hw:IntKind.i64.wrap ((j:Int)+1)=(j:Int)+1:=by rw [IntKind.wrap_i64];omega
   go_region_law (first
     | (go_simp;go_at_call 141;refine (word_any 10 _ (by omega) (by omega)).mono ?_;rintro e w5 ⟨vz,hz,rfl,b5⟩;obtain ⟨bz,az,nz,cz,rfl⟩:=num_agg hz;have HZ:=Lib.hid hz;have B5:=Lib.hid (show Below wo.heap.size wo w5 from bt ((Below.refl _ _).drew) b5);have e1:=(boxAt_below Tb.out B5.out).c0;have e2:=(boxAt_below Tb.out B5.out).c1;clear hz b5)
     | (go_simp;go_at_call 135;refine (mul_any (j+1) 7 _ _ ((10:Int) ^ j) 10 _ (num_below Nb.out B5.out) HZ.out (by omega) (by omega)).mono ?_;rintro e w6 ⟨vs,hz,rfl,b6⟩;obtain ⟨bs2,as2,ns2,cs2,rfl⟩:=num_agg hz;have HS:=Lib.hid (num_len (num_cast hz (by rw [Int.pow_succ])) (pow10_lt (j+1)));have B6:=Lib.hid (bt B5.out b6);have HR6:=Lib.hid (boxAt_below Tb.out B6.out);have r0:=HR6.out.c0;have r1:=HR6.out.c1;have r2:=HR6.out.f0;have r3:=HR6.out.f1;clear hz b6))
   all_goals
    go_wp2_with fail
    go_round
    case rel=>
     refine ⟨j+1,by go_num,by omega,⟨_,_,_,_,boxAt_set2 _ _ HR6.out,num_set2 _ _ HS.out HR6.out⟩,?_⟩
     have:=hbl.out.size
     exact hbl.out.trans (((B6.out.mono (show w1.heap.size≤wo.heap.size by have:=Tb.out.lt;omega)).setCell (Nat.le_refl _) _).setCell (Nat.le_refl _) _)
    case measure=>simp [intOf];omega
  ·have hj2:n.toNat=j:=by omega
   subst hj2
   have d1:=Tb.out.c0;have d2:=Tb.out.c1
   have r0:=Yo.out.c0;have r1:=Yo.out.c1;have r2:=Yo.out.f0;have r3:=Yo.out.f1
   go_wp2_with fail
   refine bodyPost_ret (v:=.agg #[.bool q,.slice a m c]) (by simp [results,Tryz.results137,go_sem,r0,r1]) rfl ⟨_,num_set2 _ _ Nb.out Yo.out,rfl,(BO.out.setCell (by simp) _).setCell (by simp) _⟩
end Go.Proofs.YteagpbkbdlmdiaaGreat
namespace Go.Proofs.YteagpbkbdlmdiaaGreat
open Go.RowKit
attribute [local go_sem ↓] Go.wp_at_zero Go.wp_at_succ
def smallV (z:Int):Value:=if -9223372036854775808≤z∧z≤9223372036854775807 then .tuple #[.int .i64 z,.bool true] else .tuple #[.int .i64 0,.bool false]
set_option maxRecDepth 100000 in
set_option maxHeartbeats 4000000 in
theorem small_any (k:Nat) (v:Value) (z:Int) (w:World) (h:Num k w v z) (hk:k≤8000) :
  Calls Tryz.prog 142 #[v] w fun e w'=>e=.returned (smallV z)∧Below w.heap.size w w':=by
 obtain ⟨bx,aa,na,ca,rfl⟩:=num_agg h
 obtain ⟨ds,hr,hcn,hvl,hl,hm,hsg⟩:=num_row h
 have HA:=Lib.hid h
 have HD:Hid (RowW w (.slice aa na ca) ds∧Nm.Canon ds∧Nm.val ds=z.natAbs∧ds.length=na∧decide (z<0)=bx):=⟨hr,hcn,hvl,hm,hsg⟩
 have hna:na≤8000:=by omega
 clear h hr hcn hvl hl hm hsg
 go_enter Tryz.func142,Tryz.ntmps142
 go_upto_region 1 with fail
 generalize hW:World.alloc w _=W1
 have X1:Hid (BoxAt W1 w.heap.size (.bool bx) (.slice aa na ca)):=by rw [←hW];exact boxAt_new w _ _
 have B1:Hid (Below w.heap.size w W1):=by rw [←hW];exact ba _ _
 have A1:=Lib.hid (num_below HA.out B1.out)
 clear hW
 have d0:=X1.out.c0;have d1:=X1.out.c1;have lx:=X1.out.lt
 obtain ⟨pp,hpp⟩:∃ pp:Bool,Hid (pp=decide (z< -9223372036854775808∨9223372036854775807<z)):=⟨_,rfl⟩
 go_cut [15] (fun s15 wx=>s15=.bool pp∧Below W1.heap.size W1 wx)
 case first=>
  obtain ⟨c1,hc1⟩:∃ c,Hid (cmpZ z (-9223372036854775808)=c):=⟨_,rfl⟩
  obtain ⟨c2,hc2⟩:∃ c,Hid (cmpZ z 9223372036854775807=c):=⟨_,rfl⟩
  have hsz:=lx
  obtain ⟨WD,hWD⟩:∃ WD:World,WD=W1.drew:=⟨_,rfl⟩
  by_cases h1:c1= -1
  ·subst h1
   obtain rfl:pp=true:=by
    rw [hpp.out,decide_eq_true_eq]
    have:=hc1.out;unfold cmpZ at this;split at this
    ·omega
    ·split at this<;>omega
   go_region_with (first
     | (go_at_call 139;refine (of_any (-9223372036854775808) _ (by omega) (by omega)).mono ?_;rintro e w5 ⟨v5,hz,rfl,b5⟩;have N5:=Lib.hid hz;have B5:=Lib.hid (undrew b5);have e0:=cell_keep B5.out d0 lx;have e1:=cell_keep B5.out d1 lx;clear hz b5)
     | (go_at_call 132;refine (cmp_c k 8 _ _ _ _ (-1) _ (num_below A1.out B5.out) N5.out (by omega) (by omega) hc1.out).mono ?_;rintro e w6 ⟨rfl,b6⟩;have B6:=Lib.hid (bt B5.out b6);have g0:=cell_keep B6.out d0 lx;have g1:=cell_keep B6.out d1 lx;clear b6))
   all_goals
    go_simp
    refine ‹∀ (a':Act) (w':World),Met _ a' w'→_› _ _ ?_
    go_meet
    case rel=>exact ⟨rfl,B6.out⟩
  ·have hd1:decide (c1<0)=false:=by
    have:=hc1.out;unfold cmpZ at this;rw [decide_eq_false_iff_not];split at this
    ·omega
    ·split at this<;>omega
   have hpp2:Hid (decide (0<c2)=pp):=by
    show _=_
    rw [hpp.out,decide_eq_decide]
    have h3:c1 ≠ -1:=h1
    have:=hc1.out;have h4:=hc2.out;unfold cmpZ at this h4;split at this
    ·split at h4
     ·omega
     ·split at h4<;>omega
    ·split at this
     ·omega
     ·split at h4
      ·omega
      ·split at h4<;>omega
   clear h1
   go_region_with (first
     | (go_at_call 132;have gB:=N7;refine (cmp_c k 8 _ _ _ _ c2 _ (num_below A1.out B7.out) N7.out (by omega) (by omega) hc2.out).mono ?_;rintro e w8 ⟨rfl,b8⟩;have B8:=Lib.hid (bt B7.out b8);clear b8 gB)
     | (go_at_call 139;have gB:=B6;refine (of_any 9223372036854775807 _ (by omega) (by omega)).mono ?_;rintro e w7 ⟨v7,hz,rfl,b7⟩;have N7:=Lib.hid hz;have B7:=Lib.hid (bt B6.out b7);have k0:=cell_keep B7.out d0 lx;have k1:=cell_keep B7.out d1 lx;clear hz b7 gB)
     | (go_at_call 132;refine (cmp_c k 8 _ _ _ _ c1 _ (num_below A1.out B5.out) N5.out (by omega) (by omega) hc1.out).mono ?_;rintro e w6 ⟨rfl,b6⟩;have B6:=Lib.hid (bt B5.out b6);have g0:=cell_keep B6.out d0 lx;have g1:=cell_keep B6.out d1 lx;clear b6)
     | (go_at_call 139;refine (of_any (-9223372036854775808) _ (by omega) (by omega)).mono ?_;rintro e w5 ⟨v5,hz,rfl,b5⟩;have N5:=Lib.hid hz;have B5:=Lib.hid (undrew b5);have e0:=cell_keep B5.out d0 lx;have e1:=cell_keep B5.out d1 lx;clear hz b5))
   all_goals
    go_simp
    refine ‹∀ (a':Act) (w':World),Met _ a' w'→_› _ _ ?_
    go_meet
    case rel=>exact ⟨by rw [hpp2.out],B8.out⟩
 case rest=>
  obtain ⟨rfl,hbl⟩:=hcut
  have X9:=Lib.hid (boxAt_below X1.out hbl)
  have BX:=Lib.hid (bt B1.out hbl)
  have HR:=Lib.hid (rowW_below HD.out.1 BX.out)
  clear d0 d1 lx hbl
  have d0:=X9.out.c0;have d1:=X9.out.c1
  cases pp
  ·have HZ:Hid (-9223372036854775808≤z∧z≤9223372036854775807):=by
    have:=hpp.out;rw [eq_comm,decide_eq_false_iff_not] at this;exact ⟨by omega,by omega⟩
   have HL:Hid (smallV z=.tuple #[.int .i64 z,.bool true]):=by
    show _=_
    unfold smallV;rw [if_pos HZ.out]
   have hw0:IntKind.i64.wrap ((na:Int) - 1)=(na:Int) - 1:=by rw [IntKind.wrap_i64];omega
   go_wp2_with fail
   cases bx
   ·have HP:Hid (0≤z):=by have:=HD.out.2.2.2.2;rw [decide_eq_false_iff_not] at this;show 0≤z;omega
    go_loop [4,5] (fun t i=>∃ (j q:Nat),i=.int .i64 ((j:Int) - 1)∧t=.int .i64 (q:Int)∧j≤na∧Hid (q=Nm.val (ds.drop j))) (fun _ i=>(intOf i+1).toNat)
    case atStart=>exact ⟨na,0,by go_num,rfl,Nat.le_refl _,by show _=_;rw [Nm.val_drop_ge ds na (by rw [HD.out.2.2.2.1];exact Nat.le_refl _)]⟩
    case round=>
     obtain ⟨j,q,rfl,rfl,hj,hq⟩:=hrel
     rcases j with _ | j
     ·rw [show (((0:Nat):Int) - 1)= -1 from rfl]
      have HQ:Hid ((q:Int)=z):=by
       show (q:Int)=z;have h1:=HD.out.2.2.1;have h2:=HP.out;rw [hq.out];show (Nm.val ds:Int)=z;omega
      go_wp2_with fail
      refine bodyPost_ret (v:=.tuple #[.int .i64 (q:Int),.bool true]) (by simp [results,Tryz.results142,go_sem]) rfl ⟨by rw [HL.out,HQ.out],BX.out⟩
     ·rw [show (((j+1:Nat):Int) - 1)=(j:Int) from by omega]
      obtain ⟨g,rfl,hcx,hgl⟩:=rowW_gdl HR.out j (by rw [HD.out.2.2.2.1];omega)
      have gx:=Nm.gd_lt ds j HD.out.2.1.1
      obtain ⟨X,HX⟩:∃ X,Hid (Nm.gd ds j=X):=⟨_,rfl⟩
      rw [HX.out] at hcx gx
      have HV:Hid (Nm.val (ds.drop j)=X+1000*q):=by
       show _=_
       rw [Nm.val_drop ds j X (by rw [←HX.out];exact Nm.gd_at ds j (by rw [HD.out.2.2.2.1];omega)),hq.out]
      have hb1:Hid (((X+1000*q:Nat):Int)≤9223372036854775807):=by
       have:=Nm.val_drop_le ds j;have q1:=HD.out.2.2.1;have q2:=HV.out;have q3:=HZ.out;have q4:=HP.out
       show _≤_;omega
      have w1:IntKind.i64.wrap ((q:Int)*1000)=(q:Int)*1000:=by have:=hb1.out;rw [IntKind.wrap_i64];omega
      have w3:IntKind.i64.wrap ((q:Int)*1000+(X:Int))=(q:Int)*1000+(X:Int):=by have:=hb1.out;rw [IntKind.wrap_i64];omega
      have w4:IntKind.i64.wrap ((j:Int) - 1)=(j:Int) - 1:=by rw [IntKind.wrap_i64];omega
      go_wp2_with fail
      go_round
      case rel=>exact ⟨j,q*1000+X,by go_num,by simp,by omega,by show _=_;rw [HV.out];omega⟩
      case measure=>simp [intOf]
   ·have HP:Hid (z<0):=by have:=HD.out.2.2.2.2;rw [decide_eq_true_eq] at this;exact this
    go_loop [4,5] (fun t i=>∃ (j q:Nat),i=.int .i64 ((j:Int) - 1)∧t=.int .i64 (-(q:Int))∧j≤na∧Hid (q=Nm.val (ds.drop j))) (fun _ i=>(intOf i+1).toNat)
    case atStart=>exact ⟨na,0,by go_num,rfl,Nat.le_refl _,by show _=_;rw [Nm.val_drop_ge ds na (by rw [HD.out.2.2.2.1];exact Nat.le_refl _)]⟩
    case round=>
     obtain ⟨j,q,rfl,rfl,hj,hq⟩:=hrel
     rcases j with _ | j
     ·rw [show (((0:Nat):Int) - 1)= -1 from rfl]
      have HQ:Hid (-(q:Int)=z):=by
       show -(q:Int)=z;have h1:=HD.out.2.2.1;have h2:=HP.out;rw [hq.out];show -(Nm.val ds:Int)=z;omega
      go_wp2_with fail
      refine bodyPost_ret (v:=.tuple #[.int .i64 (-(q:Int)),.bool true]) (by simp [results,Tryz.results142,go_sem]) rfl ⟨by rw [HL.out,HQ.out],BX.out⟩
     ·rw [show (((j+1:Nat):Int) - 1)=(j:Int) from by omega]
      obtain ⟨g,rfl,hcx,hgl⟩:=rowW_gdl HR.out j (by rw [HD.out.2.2.2.1];omega)
      have gx:=Nm.gd_lt ds j HD.out.2.1.1
      obtain ⟨X,HX⟩:∃ X,Hid (Nm.gd ds j=X):=⟨_,rfl⟩
      rw [HX.out] at hcx gx
      have HV:Hid (Nm.val (ds.drop j)=X+1000*q):=by
       show _=_
       rw [Nm.val_drop ds j X (by rw [←HX.out];exact Nm.gd_at ds j (by rw [HD.out.2.2.2.1];omega)),hq.out]
      have hb1:Hid (((X+1000*q:Nat):Int)≤9223372036854775808):=by
       have:=Nm.val_drop_le ds j;have q1:=HD.out.2.2.1;have q2:=HV.out;have q3:=HZ.out;have q4:=HP.out
       show _≤_;omega
      have w1:IntKind.i64.wrap (-(q:Int)*1000)= -(q:Int)*1000:=by have:=hb1.out;rw [IntKind.wrap_i64];omega
      have w3:IntKind.i64.wrap (-(q:Int)*1000 - (X:Int))= -(q:Int)*1000 - (X:Int):=by have:=hb1.out;rw [IntKind.wrap_i64];omega
      have w4:IntKind.i64.wrap ((j:Int) - 1)=(j:Int) - 1:=by rw [IntKind.wrap_i64];omega
      go_wp2_with fail
      go_round
      case rel=>exact ⟨j,q*1000+X,by go_num,by simp;omega,by omega,by show _=_;rw [HV.out];omega⟩
      case measure=>simp [intOf]
  ·have HL:Hid (smallV z=.tuple #[.int .i64 0,.bool false]):=by
    show _=_
    have:=hpp.out;rw [eq_comm,decide_eq_true_eq] at this
    unfold smallV;rw [if_neg (by omega)]
   go_wp2_with fail
   refine bodyPost_ret (v:=.tuple #[.int .i64 0,.bool false]) (by simp [results,Tryz.results142,go_sem]) rfl ⟨by rw [HL.out],BX.out⟩
end Go.Proofs.YteagpbkbdlmdiaaGreat
namespace Go.Proofs.YteagpbkbdlmdiaaGreat
set_option maxRecDepth 100000
open Go.RowKit
theorem sg_cast2 (s:Nat):((2 ^ s:Nat):Int)=(2:Int) ^ s:=by simp
theorem tdivN (a b:Nat) (h:a<18446744073709551616):IntKind.u64.wrap ((a:Int).tdiv (b:Int))=((a / b:Nat):Int):=by
 have e:(a:Int).tdiv (b:Int)=((a / b:Nat):Int):=(Int.ofNat_tdiv a b).symm
 have l:=Nat.div_le_self a b
 rw [e]
 generalize a / b=q at*
 rw [IntKind.wrap_u64];omega
theorem wrapTo (z:Int) (n:Nat) (h:z=(n:Int)) (hn:n<18446744073709551616):IntKind.u64.wrap z=(n:Int):=by
 subst h;rw [IntKind.wrap_u64];omega
set_option maxHeartbeats 4000000 in
theorem div64_pos (hi lo y:Nat) (hy:hi<y) (h1:y<18446744073709551616) (hl:lo<18446744073709551616) (h0:0<hi) (w:World) :
  Calls Tryz.prog 163 #[.int .u64 hi,.int .u64 lo,.int .u64 y] w fun e w'=>e=.returned (.tuple #[.int .u64 (((hi*18446744073709551616+lo) / y:Nat):Int),.int .u64 (((hi*18446744073709551616+lo) % y:Nat):Int)])∧w'=w:=by
 have e1:((y:Int)==0)=false:=by simp;omega
 have e1':decide ((y:Int)=0)=false:=by simp;omega
 have e2:decide ((y:Int)≤hi)=false:=by simp;omega
 have e3:((hi:Int)==0)=false:=by simp;omega
 have e3':decide ((hi:Int)=0)=false:=by simp;omega
 go_enter Tryz.func163,Tryz.ntmps163
 go_wp2_with fail
 refine (lz64_any y _ (by omega) (by omega)).mono ?_
 rintro e w' ⟨rfl,rfl⟩
 have hL:=Bt.len_le y h1 (by omega)
 obtain ⟨s,hs⟩:∃ s:Nat,Hid (s=64 - Lib.bitLen y):=⟨_,rfl⟩
 have es:(64 - (Lib.bitLen (y:Int).toNat:Int))=(s:Int):=by rw [hs.out];simp;omega
 rw [es]
 have hN:=Dv.norm y s h1 (by omega) hs.out
 have hs2:=hN.1
 clear es hL hs
 go_upto_region 15 with fail
 obtain ⟨Y,hY⟩:∃ Y:Nat,Hid (Y=y*2 ^ s):=⟨_,rfl⟩
 obtain ⟨U,hU⟩:∃ U:Nat,Hid (U=hi*2 ^ s+lo / 2 ^ (64 - s)):=⟨_,rfl⟩
 obtain ⟨L,hLL⟩:∃ L:Nat,Hid (L=lo*2 ^ s % 18446744073709551616):=⟨_,rfl⟩
 have up:=Dv.upper hi lo y s hs2 hy hl hN.2.1
 have sh:=Dv.shifted (hi*18446744073709551616+lo) y s
 rw [up.2.2.2,←hY.out,←hU.out,←hLL.out] at sh
 have lU:U<Y:=by rw [hU.out,hY.out];exact up.2.2.1
 have lY:Y<18446744073709551616:=by rw [hY.out];exact hN.2.1
 have gY:9223372036854775808≤Y:=by rw [hY.out];exact hN.2.2
 have lL:L<18446744073709551616:=by rw [hLL.out];exact Nat.mod_lt _ (by decide)
 have fY:IntKind.u64.wrap ((y:Int)*2 ^ s)=(Y:Int):=wrapTo _ _ (by rw [hY.out,←sg_cast2,←Int.natCast_mul]) lY
 have fU:bits .or .u64 (IntKind.u64.wrap ((hi:Int)*2 ^ s)) ((lo:Int) / 2 ^ (64 - s))=(U:Int):=by
  have a:IntKind.u64.wrap ((hi:Int)*2 ^ s)=((hi*2 ^ s:Nat):Int):=wrapTo _ _ (by rw [←sg_cast2,←Int.natCast_mul]) up.1
  have b:(lo:Int) / 2 ^ (64 - s)=((lo / 2 ^ (64 - s):Nat):Int):=by rw [←sg_cast2];exact (Int.natCast_ediv _ _).symm
  have lU2:hi*2 ^ s+lo / 2 ^ (64 - s)<18446744073709551616:=by rw [←hU.out];omega
  rw [a,b,bits_or_u64_nat _ _ up.1 (by omega),Dv.or_parts _ _ _ up.2.1,hU.out]
 have fL:IntKind.u64.wrap ((lo:Int)*2 ^ s)=(L:Int):=by
  rw [←sg_cast2,←Int.natCast_mul,Bt.wrapM,hLL.out]
 obtain ⟨y1,hy1⟩:∃ n:Nat,n=Y / 4294967296:=⟨_,rfl⟩
 obtain ⟨y0,hy0⟩:∃ n:Nat,n=Y % 4294967296:=⟨_,rfl⟩
 obtain ⟨u1,hu1⟩:∃ n:Nat,n=L / 4294967296:=⟨_,rfl⟩
 obtain ⟨u0,hu0⟩:∃ n:Nat,n=L % 4294967296:=⟨_,rfl⟩
 have fy1:(Y:Int) / 4294967296=(y1:Int):=by omega
 have fu1:(L:Int) / 4294967296=(u1:Int):=by omega
 have fy0:bits .and .u64 (Y:Int) 4294967295=(y0:Int):=by rw [Bt.maskN Y lY,hy0]
 have fu0:bits .and .u64 (L:Int) 4294967295=(u0:Int):=by rw [Bt.maskN L lL,hu0]
 have D1:Dv.Div U u1 Y y1 y0:=⟨by omega,by omega,by omega,by omega,lU,by omega⟩
 have hT:U*18446744073709551616+L=(U*4294967296+u1)*4294967296+u0:=by omega
 rw [hT] at sh
 have bo:=Dv.both U u1 u0 Y (by omega)
 rw [bo.1,bo.2] at sh
 obtain ⟨Q1,hQ1⟩:∃ n:Nat,Hid (n=(U*4294967296+u1) / Y):=⟨_,rfl⟩
 obtain ⟨R1,hR1⟩:∃ n:Nat,Hid (n=(U*4294967296+u1) % Y):=⟨_,rfl⟩
 obtain ⟨Q0,hQ0⟩:∃ n:Nat,Hid (n=(R1*4294967296+u0) / Y):=⟨_,rfl⟩
 obtain ⟨R0,hR0⟩:∃ n:Nat,Hid (n=(R1*4294967296+u0) % Y):=⟨_,rfl⟩
 rw [←hQ1.out,←hR1.out,←hQ0.out,←hR0.out] at sh
 have lR1:R1<Y:=by rw [hR1.out];exact Nat.mod_lt _ (by omega)
 have D0:Dv.Div R1 u0 Y y1 y0:=⟨D1.y,D1.l1,D1.h1,D1.l0,lR1,by omega⟩
 simp only [fY,fU,fL,fy1,fu1,fy0,fu0]
 have SH:Hid (Q1*4294967296+Q0=(hi*18446744073709551616+lo) / y∧R0 / 2 ^ s=(hi*18446744073709551616+lo) % y∧s≤63):=⟨sh.1,sh.2,hs2⟩
 have HD1:=Lib.hid D1;have HD0:=Lib.hid D0
 have HY:=Lib.hid (And.intro gY lY)
 clear fY fU fL fy1 fu1 fy0 fu0 up sh hN hY hU hLL hy1 hy0 hu1 hu0 bo hT D1 D0 lU lR1 lY gY lL hs2 e1 e1' e2 e3 e3'
 have ny:¬((y1:Int)=0):=by have:=HD1.out.h1;omega
 obtain ⟨q,hq⟩:∃ n:Nat,n=U / y1:=⟨_,rfl⟩
 obtain ⟨r,hr⟩:∃ n:Nat,n=U % y1:=⟨_,rfl⟩
 have hi1:Hid (Dv.Inv U u1 Y y1 y0 q r):=by have:=Dv.init HD1.out;rw [←hq,←hr] at this;exact this
 have hr1:r<4294967296:=by have:=Nat.mod_lt U (show 0<y1 by omega);have:=HD1.out.l1;omega
 have f1:IntKind.u64.wrap ((U:Int).tdiv (y1:Int))=(q:Int):=by rw [hq];exact tdivN _ _ (by have:=HD1.out.lu;have:=HY.out;omega)
 have f2:IntKind.u64.wrap ((q:Int)*(y1:Int))=(q:Int)*(y1:Int):=by
  have a:=hi1.out.split;have:=HD1.out.lu;have:=HY.out
  rw [←Int.natCast_mul];exact wrapTo _ _ rfl (by omega)
 have f3:IntKind.u64.wrap ((U:Int) - (q:Int)*(y1:Int))=(r:Int):=by
  have a:=hi1.out.split
  exact wrapTo _ _ (by rw [←Int.natCast_mul];omega) (by omega)
 have f1':IntKind.u64.wrap ((U:Int) / (y1:Int))=(q:Int):=by
  rw [hq,←Int.natCast_ediv];exact wrapTo _ _ rfl (by have:=Nat.div_le_self U y1;have:=HD1.out.lu;have:=HY.out;omega)
 clear hq hr
 go_upto_block 0 with fail
 clear f1 f1' f2 f3
 go_cut [15,16] (fun s15 _s16 wx=>s15=.int .u64 (Q1:Int)∧wx=w')
 case first=>
  go_wp2_with fail
  go_loop [15,16] (fun a b=>∃ q r:Nat,a=.int .u64 (q:Int)∧b=.int .u64 (r:Int)∧r<4294967296∧Hid (Dv.Inv U u1 Y y1 y0 q r)) (fun a _=>(intOf a).toNat)
  case atStart=>exact ⟨q,r,rfl,rfl,hr1,hi1⟩
  case round=>
   clear hi1 hr1
   obtain ⟨q,r,rfl,rfl,hr,hi⟩:=hrel
   have q1:=hi.out.small
   have q2:Hid (q*y0<18446744073709551616∨4294967296≤q):=by
    by_cases t:4294967296≤q
    ·exact .inr t
    ·left
     have:=Nat.mul_le_mul (show q≤4294967295 by omega) (show y0≤4294967295 by have:=HD1.out.l0;omega)
     show _<_;omega
   have ul:=HD1.out.l
   have yl:=HD1.out.l1
   have v1:IntKind.u64.wrap (4294967296*(r:Int))=4294967296*(r:Int):=by rw [IntKind.wrap_u64];omega
   have v2:IntKind.u64.wrap (4294967296*(r:Int)+(u1:Int))=4294967296*(r:Int)+(u1:Int):=by rw [IntKind.wrap_u64];omega
   have v3:IntKind.u64.wrap ((r:Int)+(y1:Int))=(r:Int)+(y1:Int):=by rw [IntKind.wrap_u64];omega
   by_cases t:4294967296≤q∨4294967296*r+u1<q*y0
   ·have st:=Dv.step HD1.out hi.out t
    obtain ⟨p,rfl⟩:∃ p,q=p+1:=⟨q - 1,by omega⟩
    rw [Nat.add_sub_cancel] at st
    obtain ⟨_,si,sl⟩:=st
    have SI:=Lib.hid si
    have v4:IntKind.u64.wrap (((p+1:Nat):Int) - 1)=(p:Int):=wrapTo _ _ (by omega) (by omega)
    have v5:IntKind.u64.wrap (p:Int)=(p:Int):=wrapTo _ _ rfl (by omega)
    have v6:IntKind.u64.wrap ((p:Int)+1 - 1)=(p:Int):=wrapTo _ _ (by omega) (by omega)
    clear si hi
    rw [show (((p+1:Nat):Int))=(p:Int)+1 from rfl] at*
    by_cases b:4294967296≤r+y1
    ·have BR:Hid ((p:Int)=(Q1:Int)):=by
      have:=Dv.found HD1.out SI.out (Dv.broke HD1.out sl b)
      show _=_;rw [hQ1.out,←this]
     have db:decide ((4294967296:Int)≤(r:Int)+(y1:Int))=true:=by simp;omega
     by_cases t1:4294967296≤p+1
     ·have d1:decide ((4294967296:Int)≤(p:Int)+1)=true:=by simp;omega
      clear q2 t
      go_wp2_with fail
      go_meet
      case rel=>exact ⟨by rw [←BR.out],rfl⟩
     ·have d1:decide ((4294967296:Int)≤(p:Int)+1)=false:=by simp;omega
      have d2:decide (4294967296*(r:Int)+(u1:Int)<((p:Int)+1)*(y0:Int))=true:=by
       rw [decide_eq_true_eq,show ((p:Int)+1)*(y0:Int)=(((p+1)*y0:Nat):Int) by simp];omega
      have v7:IntKind.u64.wrap (((p:Int)+1)*(y0:Int))=((p:Int)+1)*(y0:Int):=by
       rw [show ((p:Int)+1)*(y0:Int)=(((p+1)*y0:Nat):Int) by simp];exact wrapTo _ _ rfl (by have:=q2.out;omega)
      clear q2 t
      go_wp2_with fail
      go_meet
      case rel=>exact ⟨by rw [←BR.out],rfl⟩
    ·have db:decide ((4294967296:Int)≤(r:Int)+(y1:Int))=false:=by simp;omega
     by_cases t1:4294967296≤p+1
     ·have d1:decide ((4294967296:Int)≤(p:Int)+1)=true:=by simp;omega
      clear q2 t
      go_wp2_with fail
      go_round
      case rel=>exact ⟨p,r+y1,rfl,by simp,by omega,SI⟩
      case measure=>simp [intOf]
     ·have d1:decide ((4294967296:Int)≤(p:Int)+1)=false:=by simp;omega
      have d2:decide (4294967296*(r:Int)+(u1:Int)<((p:Int)+1)*(y0:Int))=true:=by
       rw [decide_eq_true_eq,show ((p:Int)+1)*(y0:Int)=(((p+1)*y0:Nat):Int) by simp];omega
      have v7:IntKind.u64.wrap (((p:Int)+1)*(y0:Int))=((p:Int)+1)*(y0:Int):=by
       rw [show ((p:Int)+1)*(y0:Int)=(((p+1)*y0:Nat):Int) by simp];exact wrapTo _ _ rfl (by have:=q2.out;omega)
      clear q2 t
      go_wp2_with fail
      go_round
      case rel=>exact ⟨p,r+y1,rfl,by simp,by omega,SI⟩
      case measure=>simp [intOf]
   ·have BR:Hid ((q:Int)=(Q1:Int)):=by
     have:=Dv.found HD1.out hi.out (by omega)
     show _=_;rw [hQ1.out,←this]
    have d1:decide ((4294967296:Int)≤(q:Int))=false:=by simp;omega
    have d2:decide (4294967296*(r:Int)+(u1:Int)<(q:Int)*(y0:Int))=false:=by
     rw [decide_eq_false_iff_not,←Int.natCast_mul];omega
    have v7:IntKind.u64.wrap ((q:Int)*(y0:Int))=(q:Int)*(y0:Int):=by
     rw [←Int.natCast_mul];exact wrapTo _ _ rfl (by have:=q2.out;omega)
    clear q2 t hi
    go_wp2_with fail
    go_meet
    case rel=>exact ⟨by rw [←BR.out],rfl⟩
 case rest=>
  obtain ⟨rfl,rfl⟩:=hcut
  clear hi1 hr1
  have k1:Hid ((Q1:Int)*(Y:Int)+(R1:Int)=(U:Int)*4294967296+(u1:Int)):=by
   have:=Nat.div_add_mod (U*4294967296+u1) Y
   rw [←hQ1.out,←hR1.out,Nat.mul_comm] at this
   show _=_;rw [←Int.natCast_mul];omega
  have k0:Hid ((Q0:Int)*(Y:Int)+(R0:Int)=(R1:Int)*4294967296+(u0:Int)):=by
   have:=Nat.div_add_mod (R1*4294967296+u0) Y
   rw [←hQ0.out,←hR0.out,Nat.mul_comm] at this
   show _=_;rw [←Int.natCast_mul];omega
  have lR0:R0<Y:=by rw [hR0.out];exact Nat.mod_lt _ (by have:=HY.out;omega)
  have LR:Hid (R1<18446744073709551616∧R0<18446744073709551616):=⟨by have:=HD0.out.lu;have:=HY.out;omega,by have:=HY.out;omega⟩
  have LQ:Hid (Q1<4294967296∧Q0<4294967296):=by
   have hy':0<Y:=by have:=HY.out;omega
   refine ⟨?_,?_⟩
   ·rw [hQ1.out,Nat.div_lt_iff_lt_mul hy'];have:=HD1.out.lu;have:=HD1.out.l;have:=Nat.mul_comm 4294967296 Y;omega
   ·rw [hQ0.out,Nat.div_lt_iff_lt_mul hy'];have:=HD0.out.lu;have:=HD0.out.l;have:=Nat.mul_comm 4294967296 Y;omega
  clear lR0
  go_upto_region 21 with fail
  go_cut [17] (fun s17 wx=>s17=.int .u64 (R1:Int)∧wx=wc)
  case first=>
   go_wp2_with fail
   go_meet
   case rel=>
    refine ⟨congrArg (Value.int IntKind.u64) ?_,rfl⟩
    have a:=k1.out;have b:=LR.out.1
    simp only [IntKind.wrap_u64]
    generalize (Q1:Int)*(Y:Int)=P at*
    omega
  case rest=>
   obtain ⟨rfl,rfl⟩:=hcut
   obtain ⟨q,hq⟩:∃ n:Nat,n=R1 / y1:=⟨_,rfl⟩
   obtain ⟨r,hr⟩:∃ n:Nat,n=R1 % y1:=⟨_,rfl⟩
   have hi1:Hid (Dv.Inv R1 u0 Y y1 y0 q r):=by have:=Dv.init HD0.out;rw [←hq,←hr] at this;exact this
   have hr1:r<4294967296:=by have:=Nat.mod_lt R1 (show 0<y1 by omega);have:=HD0.out.l1;omega
   have f1:IntKind.u64.wrap ((R1:Int).tdiv (y1:Int))=(q:Int):=by rw [hq];exact tdivN _ _ LR.out.1
   have f1':IntKind.u64.wrap ((R1:Int) / (y1:Int))=(q:Int):=by
    rw [hq,←Int.natCast_ediv];exact wrapTo _ _ rfl (by have:=Nat.div_le_self R1 y1;have:=LR.out.1;omega)
   have f2:IntKind.u64.wrap ((q:Int)*(y1:Int))=(q:Int)*(y1:Int):=by
    have a:=hi1.out.split;have:=LR.out.1
    rw [←Int.natCast_mul];exact wrapTo _ _ rfl (by omega)
   have f3:IntKind.u64.wrap ((R1:Int) - (q:Int)*(y1:Int))=(r:Int):=by
    have a:=hi1.out.split
    exact wrapTo _ _ (by rw [←Int.natCast_mul];omega) (by omega)
   clear hq hr
   go_upto_block 2 with fail
   clear f1 f1' f2 f3
   go_cut [18,16] (fun s18 _s16 wx=>s18=.int .u64 (Q0:Int)∧wx=wc)
   case first=>
    go_wp2_with fail
    go_loop [18,16] (fun a b=>∃ q r:Nat,a=.int .u64 (q:Int)∧b=.int .u64 (r:Int)∧r<4294967296∧Hid (Dv.Inv R1 u0 Y y1 y0 q r)) (fun a _=>(intOf a).toNat)
    case atStart=>exact ⟨q,r,rfl,rfl,hr1,hi1⟩
    case round=>
     clear hi1 hr1
     obtain ⟨q,r,rfl,rfl,hr,hi⟩:=hrel
     have q1:=hi.out.small
     have q2:Hid (q*y0<18446744073709551616∨4294967296≤q):=by
      by_cases t:4294967296≤q
      ·exact .inr t
      ·left
       have:=Nat.mul_le_mul (show q≤4294967295 by omega) (show y0≤4294967295 by have:=HD0.out.l0;omega)
       show _<_;omega
     have ul:=HD0.out.l
     have yl:=HD0.out.l1
     have v1:IntKind.u64.wrap (4294967296*(r:Int))=4294967296*(r:Int):=by rw [IntKind.wrap_u64];omega
     have v2:IntKind.u64.wrap (4294967296*(r:Int)+(u0:Int))=4294967296*(r:Int)+(u0:Int):=by rw [IntKind.wrap_u64];omega
     have v3:IntKind.u64.wrap ((r:Int)+(y1:Int))=(r:Int)+(y1:Int):=by rw [IntKind.wrap_u64];omega
     by_cases t:4294967296≤q∨4294967296*r+u0<q*y0
     ·have st:=Dv.step HD0.out hi.out t
      obtain ⟨p,rfl⟩:∃ p,q=p+1:=⟨q - 1,by omega⟩
      rw [Nat.add_sub_cancel] at st
      obtain ⟨_,si,sl⟩:=st
      have SI:=Lib.hid si
      have v4:IntKind.u64.wrap (((p+1:Nat):Int) - 1)=(p:Int):=wrapTo _ _ (by omega) (by omega)
      have v5:IntKind.u64.wrap (p:Int)=(p:Int):=wrapTo _ _ rfl (by omega)
      have v6:IntKind.u64.wrap ((p:Int)+1 - 1)=(p:Int):=wrapTo _ _ (by omega) (by omega)
      clear si hi
      rw [show (((p+1:Nat):Int))=(p:Int)+1 from rfl] at*
      by_cases b:4294967296≤r+y1
      ·have BR:Hid ((p:Int)=(Q0:Int)):=by
        have:=Dv.found HD0.out SI.out (Dv.broke HD0.out sl b)
        show _=_;rw [hQ0.out,←this]
       have db:decide ((4294967296:Int)≤(r:Int)+(y1:Int))=true:=by simp;omega
       by_cases t1:4294967296≤p+1
       ·have d1:decide ((4294967296:Int)≤(p:Int)+1)=true:=by simp;omega
        clear q2 t
        go_wp2_with fail
        go_meet
        case rel=>exact ⟨by rw [←BR.out],rfl⟩
       ·have d1:decide ((4294967296:Int)≤(p:Int)+1)=false:=by simp;omega
        have d2:decide (4294967296*(r:Int)+(u0:Int)<((p:Int)+1)*(y0:Int))=true:=by
         rw [decide_eq_true_eq,show ((p:Int)+1)*(y0:Int)=(((p+1)*y0:Nat):Int) by simp];omega
        have v7:IntKind.u64.wrap (((p:Int)+1)*(y0:Int))=((p:Int)+1)*(y0:Int):=by
         rw [show ((p:Int)+1)*(y0:Int)=(((p+1)*y0:Nat):Int) by simp];exact wrapTo _ _ rfl (by have:=q2.out;omega)
        clear q2 t
        go_wp2_with fail
        go_meet
        case rel=>exact ⟨by rw [←BR.out],rfl⟩
      ·have db:decide ((4294967296:Int)≤(r:Int)+(y1:Int))=false:=by simp;omega
       by_cases t1:4294967296≤p+1
       ·have d1:decide ((4294967296:Int)≤(p:Int)+1)=true:=by simp;omega
        clear q2 t
        go_wp2_with fail
        go_round
        case rel=>exact ⟨p,r+y1,rfl,by simp,by omega,SI⟩
        case measure=>simp [intOf]
       ·have d1:decide ((4294967296:Int)≤(p:Int)+1)=false:=by simp;omega
        have d2:decide (4294967296*(r:Int)+(u0:Int)<((p:Int)+1)*(y0:Int))=true:=by
         rw [decide_eq_true_eq,show ((p:Int)+1)*(y0:Int)=(((p+1)*y0:Nat):Int) by simp];omega
        have v7:IntKind.u64.wrap (((p:Int)+1)*(y0:Int))=((p:Int)+1)*(y0:Int):=by
         rw [show ((p:Int)+1)*(y0:Int)=(((p+1)*y0:Nat):Int) by simp];exact wrapTo _ _ rfl (by have:=q2.out;omega)
        clear q2 t
        go_wp2_with fail
        go_round
        case rel=>exact ⟨p,r+y1,rfl,by simp,by omega,SI⟩
        case measure=>simp [intOf]
     ·have BR:Hid ((q:Int)=(Q0:Int)):=by
       have:=Dv.found HD0.out hi.out (by omega)
       show _=_;rw [hQ0.out,←this]
      have d1:decide ((4294967296:Int)≤(q:Int))=false:=by simp;omega
      have d2:decide (4294967296*(r:Int)+(u0:Int)<(q:Int)*(y0:Int))=false:=by
       rw [decide_eq_false_iff_not,←Int.natCast_mul];omega
      have v7:IntKind.u64.wrap ((q:Int)*(y0:Int))=(q:Int)*(y0:Int):=by
       rw [←Int.natCast_mul];exact wrapTo _ _ rfl (by have:=q2.out;omega)
      clear q2 t hi
      go_wp2_with fail
      go_meet
      case rel=>exact ⟨by rw [←BR.out],rfl⟩
   case rest=>
    obtain ⟨rfl,rfl⟩:=hcut
    clear hi1 hr1
    go_upto_region 28 with fail
    go_wp2_with fail
    go_ret2
    refine ⟨congrArg Ending.returned (congrArg Value.tuple ?_),rfl⟩
    have g1:=SH.out.1;have g2:=SH.out.2.1;have e4:min s 64=s:=(by have:=SH.out.2.2;omega);have a:=k0.out;have b:=LR.out;have c:=LQ.out
    rw [←g1,←g2]
    have e1:IntKind.u64.wrap (IntKind.u64.wrap ((Q1:Int)*4294967296)+(Q0:Int))=((Q1*4294967296+Q0:Nat):Int):=by
     simp only [IntKind.wrap_u64];omega
    have e2:IntKind.u64.wrap (IntKind.u64.wrap (IntKind.u64.wrap ((R1:Int)*4294967296)+(u0:Int)) - IntKind.u64.wrap ((Q0:Int)*(Y:Int)))=(R0:Int):=by
     simp only [IntKind.wrap_u64]
     generalize (Q0:Int)*(Y:Int)=P at*
     omega
    have e3:(R0:Int) / (2:Int) ^ s=((R0 / 2 ^ s:Nat):Int):=by rw [←sg_cast2];exact (Int.natCast_ediv _ _).symm
    simp only [e1,e2,e4,e3]
    rfl
theorem div64_zero (lo y:Nat) (hy:0<y) (h1:y<18446744073709551616) (hl:lo<18446744073709551616) (w:World) :
  Calls Tryz.prog 163 #[.int .u64 0,.int .u64 lo,.int .u64 y] w fun e w'=>e=.returned (.tuple #[.int .u64 ((lo / y:Nat):Int),.int .u64 ((lo % y:Nat):Int)])∧Below w.heap.size w w':=by
 have e1:((y:Int)==0)=false:=by simp;omega
 have e1':decide ((y:Int)=0)=false:=by simp;omega
 have e2:decide ((y:Int)≤0)=false:=by simp;omega
 have ny:¬((y:Int)=0):=by omega
 have q1:IntKind.u64.wrap ((lo:Int).tdiv (y:Int))=((lo / y:Nat):Int):=tdivN _ _ hl
 have lq:=Nat.div_le_self lo y
 have lr:=Nat.mod_le lo y
 have q2:IntKind.u64.wrap ((lo:Int) / (y:Int))=((lo / y:Nat):Int):=by rw [←Int.natCast_ediv];exact wrapTo _ _ rfl (by omega)
 have q3:IntKind.u64.wrap ((lo:Int).tmod (y:Int))=((lo % y:Nat):Int):=by rw [show (lo:Int).tmod (y:Int)=((lo % y:Nat):Int) from (Int.ofNat_tmod lo y).symm];exact wrapTo _ _ rfl (by omega)
 have q4:IntKind.u64.wrap ((lo:Int) % (y:Int))=((lo % y:Nat):Int):=by rw [←Int.natCast_emod];exact wrapTo _ _ rfl (by omega)
 clear lq lr h1 hl
 go_enter Tryz.func163,Tryz.ntmps163
 go_upto_region 6 with fail
 go_quiet (fail)
 go_wp2_with fail
 go_ret2
 exact ⟨by first | rfl | simp [*],(Below.refl _ _).trans ⟨rfl,rfl,rfl,Nat.le_refl _,fun _ _=>rfl⟩⟩
theorem div64_any (hi lo y:Nat) (hy:hi<y) (h1:y<18446744073709551616) (hl:lo<18446744073709551616) (w:World) :
  Calls Tryz.prog 163 #[.int .u64 hi,.int .u64 lo,.int .u64 y] w fun e w'=>e=.returned (.tuple #[.int .u64 (((hi*18446744073709551616+lo) / y:Nat):Int),.int .u64 (((hi*18446744073709551616+lo) % y:Nat):Int)])∧Below w.heap.size w w':=by
 rcases Nat.eq_zero_or_pos hi with e | e
 ·subst e
  rw [Nat.zero_mul,Nat.zero_add]
  exact div64_zero lo y hy h1 hl w
 ·exact (div64_pos hi lo y hy h1 hl e w).mono fun _ _ ⟨a,b⟩=>⟨a,b ▸ Below.refl _ _⟩
end Go.Proofs.YteagpbkbdlmdiaaGreat
