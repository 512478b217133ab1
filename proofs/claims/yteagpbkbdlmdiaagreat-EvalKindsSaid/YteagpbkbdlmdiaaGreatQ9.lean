/-
  THE WALK of the reference's Mul; PLAIN LAWS of the reference's division (no Go in sight), and the step law of an append in a region that draws its order.
-/
import Derived.Test.YteagpbkbdlmdiaaGreatQ7
import Derived.Test.YteagpbkbdlmdiaaGreatQ8
import Derived.Deep.RegionLaw
set_option linter.unusedSimpArgs false
set_option linter.unusedVariables false
namespace Go.Proofs.YteagpbkbdlmdiaaGreat
open Go.RowKit
attribute [local go_sem ↓] Go.wp_at_zero Go.wp_at_succ
theorem dv_add (q d:Nat):dv ((q+d) % 1000)=.int .i64 (((q:Int)+(d:Int)) % 1000):=by unfold dv;simp
theorem mul_sg (x y:Int) (b c:Bool) (hx:decide (x<0)=b) (hy:decide (y<0)=c):sg (b !=c) (x.natAbs*y.natAbs)=x*y:=by
 unfold sg
 rcases Int.lt_or_le x 0 with h | h<;>rcases Int.lt_or_le y 0 with k | k
 ·have e1:b=true:=by rw [←hx];simpa using h
  have e2:c=true:=by rw [←hy];simpa using k
  subst e1;subst e2
  simp
  rw [show (x.natAbs:Int)= -x from by omega,show (y.natAbs:Int)= -y from by omega,Int.neg_mul_neg]
 ·have e1:b=true:=by rw [←hx];simpa using h
  have e2:c=false:=by rw [←hy];simp;omega
  subst e1;subst e2
  simp
  rw [show (x.natAbs:Int)= -x from by omega,show (y.natAbs:Int)=y from by omega,Int.neg_mul,Int.neg_neg]
 ·have e1:b=false:=by rw [←hx];simp;omega
  have e2:c=true:=by rw [←hy];simpa using k
  subst e1;subst e2
  simp
  rw [show (x.natAbs:Int)=x from by omega,show (y.natAbs:Int)= -y from by omega,Int.mul_neg,Int.neg_neg]
 ·have e1:b=false:=by rw [←hx];simp;omega
  have e2:c=false:=by rw [←hy];simp;omega
  subst e1;subst e2
  simp
  rw [show (x.natAbs:Int)=x from by omega,show (y.natAbs:Int)=y from by omega]
set_option maxHeartbeats 4000000 in
theorem mul_any (k1 k2:Nat) (va vb:Value) (x y:Int) (w:World) (ha:Num k1 w va x) (hb:Num k2 w vb y) (l1:k1≤10000) (l2:k2≤10000) :
  Calls Tryz.prog 135 #[va,vb] w (NumPost (k1+k2) (x*y) w):=by
 obtain ⟨aa,na,ca,xs,rfl,hra,hca,hva,hka,hna⟩:=num_open ha
 obtain ⟨ab,nb,cb,ys,rfl,hrb,hcb,hvb,hkb,hnb⟩:=num_open hb
 have HA:Hid (RowW w (.slice aa na ca) xs∧Nm.Canon xs∧Nm.val xs=x.natAbs∧xs.length≤k1∧xs.length=na):=⟨hra,hca,hva,hka,hna⟩
 have HB:Hid (RowW w (.slice ab nb cb) ys∧Nm.Canon ys∧Nm.val ys=y.natAbs∧ys.length≤k2∧ys.length=nb):=⟨hrb,hcb,hvb,hkb,hnb⟩
 have m1:na≤10000:=by omega
 have m2:nb≤10000:=by omega
 obtain ⟨bx,hbx⟩:∃ b,Hid (decide (x<0)=b):=⟨_,rfl⟩
 obtain ⟨by',hby⟩:∃ b,Hid (decide (y<0)=b):=⟨_,rfl⟩
 rw [hbx.out,hby.out]
 clear ha hb hra hca hva hka hna hrb hcb hvb hkb hnb
 go_enter Tryz.func135,Tryz.ntmps135
 go_wp2_with (at_make;refine make1 rfl _ _ rfl _ (na+nb+1) rfl rfl (by simp) (by omega) ?_)
 intro w1 hrow hb1 hsz1
 try simp only [World.size_alloc] at hrow
 try simp only [World.size_alloc] at hsz1
 replace hb1:Below (((w.alloc (.cells #[.bool bx,.slice aa na ca] 147)).alloc (.cells #[.bool by',.slice ab nb cb] 147)).alloc (.cells #[.bool false,.slice none 0 0] 147)).heap.size _ w1:=hb1.mono (by simp)
 have C1:Hid (BoxAt w1 w.heap.size (.bool bx) (.slice aa na ca)):=boxAt_below (boxAt_below (boxAt_below (boxAt_new w _ _) (ba _ _)) (ba _ _)) hb1
 have C2:Hid (BoxAt w1 (w.heap.size+1) (.bool by') (.slice ab nb cb)):=by
  have:=boxAt_below (boxAt_below (boxAt_new (w.alloc (.cells #[.bool bx,.slice aa na ca] 147)) (.bool by') (.slice ab nb cb)) (ba _ (.cells #[.bool false,.slice none 0 0] 147))) hb1
  rw [World.size_alloc] at this;exact this
 have C3:Hid (BoxAt w1 (w.heap.size+1+1) (.bool false) (.slice none 0 0)):=by
  have:=boxAt_below (boxAt_new ((w.alloc (.cells #[.bool bx,.slice aa na ca] 147)).alloc (.cells #[.bool by',.slice ab nb cb] 147)) (.bool false) (.slice none 0 0)) hb1
  rw [World.size_alloc,World.size_alloc] at this;exact this
 have HBW:Hid (Below w.heap.size w w1):=bt (ba _ _) (bt (ba _ _) (bt (ba _ _) hb1))
 have HROW:=Lib.hid hrow
 clear hrow hb1
 go_wp2_with fail
 go_loopw [6] (fun i wr=>∃ (j:Nat) (out:List Nat),i=.int .i64 (j:Int)∧j≤na∧Hid (RowW wr (.slice (some ⟨w.heap.size+1+1+1,0,none⟩) (na+nb+1) (na+nb+1)) out∧out.length=na+nb+1∧Nm.Digs out∧Nm.val out=Nm.mulAt xs ys j 0)∧Below (w.heap.size+1+1+1) w1 wr) (fun i _=>na - (intOf i).toNat)
 case atStart=>exact ⟨0,_,rfl,by omega,⟨HROW.out,by simp,Nm.digs_rep _,by rw [Nm.val_rep,Nm.mulAt_zero]⟩,Below.refl _ _⟩
 case round=>
  rename_i wr
  obtain ⟨wo,rfl⟩:∃ wo:World,wo=wr:=⟨_,rfl⟩
  obtain ⟨j,out,rfl,hj,hr,hbl⟩:=hrel
  have hsz:w.heap.size+1+1+1<wo.heap.size:=by have:=hbl.size;omega
  have c1:=boxAt_belowB C1.out hbl (by omega);have c2:=boxAt_belowB C2.out hbl (by omega)
  have d1:=c1.c1;have d2:=c2.c1
  by_cases hjn:j<na
  ·clear c1 c2
   go_wp2_with fail
   go_loopw [7] (fun i wr=>∃ (k:Nat) (out:List Nat),i=.int .i64 (k:Int)∧k≤nb∧Hid (RowW wr (.slice (some ⟨w.heap.size+1+1+1,0,none⟩) (na+nb+1) (na+nb+1)) out∧out.length=na+nb+1∧Nm.Digs out∧Nm.val out=Nm.mulAt xs ys j k)∧Below (w.heap.size+1+1+1) w1 wr) (fun i _=>nb - (intOf i).toNat)
   case atStart=>exact ⟨0,out,rfl,by omega,hr,hbl⟩
   case round=>
    clear d1 d2 hsz
    rename_i wr
    obtain ⟨wp,rfl⟩:∃ wp:World,wp=wr:=⟨_,rfl⟩
    clear hr hbl
    obtain ⟨k,out,rfl,hk,hr,hbl⟩:=hrel
    have hsz:w.heap.size+1+1+1<wp.heap.size:=by have:=hbl.size;omega
    have c1:=boxAt_belowB C1.out hbl (by omega);have c2:=boxAt_belowB C2.out hbl (by omega)
    have d1:=c1.c1;have d2:=c2.c1
    clear c1 c2
    by_cases hkn:k<nb
    ·obtain ⟨g,ea,hcx⟩:=rowW_gd (rowW_below HA.out.1 (HBW.out.trans (hbl.mono (by omega)))) j (by rw [HA.out.2.2.2.2];exact hjn)
     obtain ⟨g',eb,hcy⟩:=rowW_gd (rowW_below HB.out.1 (HBW.out.trans (hbl.mono (by omega)))) k (by rw [HB.out.2.2.2.2];exact hkn)
     subst ea eb
     have gx:=Nm.gd_lt xs j HA.out.2.1.1;have gy:=Nm.gd_lt ys k HB.out.2.1.1
     obtain ⟨X,HX⟩:∃ X,Hid (Nm.gd xs j=X):=⟨_,rfl⟩
     obtain ⟨Y,HY⟩:∃ Y,Hid (Nm.gd ys k=Y):=⟨_,rfl⟩
     rw [HX.out] at hcx gx
     rw [HY.out] at hcy gy
     have b0:(0:Int)≤(j:Int):=by omega
     have b1:(j:Int)<(na:Int):=by omega
     have b2:(0:Int)≤(k:Int):=by omega
     have b3:(k:Int)<(nb:Int):=by omega
     have hxy:X*Y≤998001:=Nat.mul_le_mul (show X≤999 by omega) (show Y≤999 by omega)
     have hw:IntKind.i64.wrap ((X:Int)*(Y:Int))=((X*Y:Nat):Int):=by
      rw [←Int.natCast_mul,IntKind.wrap_i64];omega
     have HCI:=Lib.hid (Nm.car_start (na+nb+1) xs ys out j k X Y hr.out.2.1 hr.out.2.2.1 hr.out.2.2.2 HX.out HY.out)
     have HTL:Hid (Nm.mulAt xs ys j (k+1)≤Nm.val xs*Nm.val ys):=Nm.mulAt_le xs ys j (k+1)
     have HROW2:=Lib.hid hr.out.1
     obtain ⟨c0,hc0⟩:∃ c0,Hid (X*Y=c0):=⟨_,rfl⟩
     rw [hc0.out] at hw hxy HCI
     clear hr
     go_wp2_with fail
     go_quiet (fail)
     clear b0 b1 b2 b3 hcx hcy hw d1 d2 hsz
     go_wp2_with fail
     go_loopw [8,9] (fun a c wr=>∃ (p q:Nat) (out:List Nat),a=.int .i64 (p:Int)∧c=.int .i64 (q:Int)∧q≤998001∧p≤na+nb+1∧Hid (RowW wr (.slice (some ⟨w.heap.size+1+1+1,0,none⟩) (na+nb+1) (na+nb+1)) out∧Nm.CarInv (na+nb+1) (Nm.mulAt xs ys j (k+1)) out p q)∧Below (w.heap.size+1+1+1) w1 wr) (fun a _ _=>na+nb+2 - (intOf a).toNat)
     case atStart=>exact ⟨j+k,c0,out,by simp,rfl,by omega,by omega,⟨rowW_below HROW2.out (below_drewN (Below.refl _ _) _),HCI.out⟩,below_drewN hbl _⟩
     case round=>
      rename_i wr
      clear HROW2 HCI hbl
      obtain ⟨p,q,out,rfl,rfl,hq,hp,hr,hbl⟩:=hrel
      by_cases hq0:0<q
      ·have hpl:p<na+nb:=by
        have:=Nm.car_lt xs ys out _ p q (by rw [HA.out.2.2.2.2,HB.out.2.2.2.2];exact hr.out.2) HTL.out HA.out.2.1.1 HB.out.2.1.1 hq0
        rw [HA.out.2.2.2.2,HB.out.2.2.2.2] at this;exact this
       obtain ⟨d,HD,hcd⟩:=rowW_at' hr.out.1 p (by rw [hr.out.2.1];omega)
       have hfd:=rowW_frozen hr.out.1 p
       have hdl:=Nm.digs_at out p d hr.out.2.2.1 HD
       have HCS:=Lib.hid (Nm.car_step _ _ out p q d hr.out.2 HD)
       have HROW3:=Lib.hid (rowW_stored hr.out.1 p ((q+d) % 1000))
       clear HD hr
       go_wp2_with fail
       go_roundw
       case rel=>exact ⟨p+1,(q+d) / 1000,_,by go_num,by simp,by omega,by omega,⟨dv_add q d ▸ HROW3.out,HCS.out⟩,hbl.setCell (Nat.le_refl _) _⟩
       case measure=>simp [intOf];omega
      ·obtain rfl:q=0:=by omega
       go_wp2_with fail
       go_roundw
       case rel=>exact ⟨k+1,out,by go_num,by omega,⟨hr.out.1,hr.out.2.1,hr.out.2.2.1,by simpa using hr.out.2.2.2⟩,hbl⟩
       case measure=>simp [intOf];omega
    ·obtain rfl:k=nb:=by omega
     go_wp2_with fail
     go_roundw
     case rel=>exact ⟨j+1,out,by go_num,by omega,⟨hr.out.1,hr.out.2.1,hr.out.2.2.1,by rw [hr.out.2.2.2];exact Nm.mulAt_i xs ys j _ (by rw [HB.out.2.2.2.2];exact Nat.le_refl _)⟩,hbl⟩
     case measure=>simp [intOf];omega
  ·obtain rfl:j=na:=by omega
   have f1:=c1.c0;have f2:=c2.c0
   have HE:Hid (Nm.val out=Nm.val xs*Nm.val ys):=by show _=_;rw [hr.out.2.2.2];exact Nm.mulAt_end xs ys _ (by rw [HA.out.2.2.2.2];exact Nat.le_refl _)
   have C3':=Lib.hid (boxAt_belowB C3.out hbl (by omega))
   have HBL:=Lib.hid (HBW.out.trans (hbl.mono (show w.heap.size≤w.heap.size+1+1+1 by omega)))
   clear c1 c2 hbl
   go_wp2_with fail
   refine (short_any _ _ out _ hr.out.1 hr.out.2.2.1).mono ?_
   rintro e w2 ⟨vr,hv,rfl,b2⟩
   obtain ⟨br,ar,nr,cr,rfl⟩:=num_agg hv
   have HV:=Lib.hid hv
   have HR:=Lib.hid (boxAt_below C3'.out b2)
   have r0:=HR.out.c0;have r1:=HR.out.c1;have r2:=HR.out.f0;have r3:=HR.out.f1
   have HB2:=Lib.hid b2
   clear hv b2
   go_wp2_with fail
   refine bodyPost_ret (v:=.agg #[.bool br,.slice ar nr cr]) (by simp [results,Tryz.results135,go_sem,r0,r1]) rfl ⟨_,?_,rfl,((bt HBL.out HB2.out).setCell (Nat.le_succ_of_le (Nat.le_succ _)) _).setCell (Nat.le_succ_of_le (Nat.le_succ _)) _⟩
   have e:sg (bx !=by') (Nm.val out)=x*y:=by
    rw [HE.out,HA.out.2.2.1,HB.out.2.2.1];exact mul_sg x y bx by' hbx.out hby.out
   refine num_len (num_set2 _ _ (e ▸ HV.out) HR.out) ?_
   rw [Int.natAbs_mul,←HA.out.2.2.1,←HB.out.2.2.1]
   exact Nm.mul_lt_pow _ _ _ _ (Nat.lt_of_lt_of_le (Nm.val_lt xs HA.out.2.1.1) (Nm.pow_le _ _ HA.out.2.2.2.1)) (Nat.lt_of_lt_of_le (Nm.val_lt ys HB.out.2.1.1) (Nm.pow_le _ _ HB.out.2.2.2.1))
end Go.Proofs.YteagpbkbdlmdiaaGreat
namespace Go.Proofs.YteagpbkbdlmdiaaGreat
open Go.RowKit
namespace Nm
theorem down_step (V Q R x y q:Nat) (h:V=Q*y+R) (hq:q=(x+1000*R) / y) (_hy:0<y):x+1000*V=(q+1000*Q)*y+(x+1000*R - q*y):=by
 have a:q*y≤x+1000*R:=by rw [hq];exact Nat.div_mul_le_self _ _
 rw [Nat.add_mul,h,Nat.mul_add,Nat.mul_assoc];omega
theorem down_left (R x y q:Nat) (hq:q=(x+1000*R) / y) (hy:0<y):x+1000*R - q*y<y:=by
 have:=Nat.mod_lt (x+1000*R) hy
 have e:=Nat.div_add_mod (x+1000*R) y
 rw [Nat.mul_comm,←hq] at e;omega
theorem down_digit (R x y:Nat) (hR:R<y) (hx:x<1000) (hy:0<y):(x+1000*R) / y<1000:=by
 rw [Nat.div_lt_iff_lt_mul hy]
 have:1000*(R+1)≤1000*y:=Nat.mul_le_mul_left _ hR
 omega
theorem down_found (A y l:Nat) (h1:l*y≤A) (h2:A<(l+1)*y):l=A / y:=by
 have hy:0<y:=by
  rcases Nat.eq_zero_or_pos y with e | e
  ·subst e;simp at h2
  ·exact e
 have a:=(Nat.le_div_iff_mul_le hy).2 h1
 have b:=(Nat.div_lt_iff_lt_mul hy).2 h2
 omega
theorem drop_set (l:List Nat) (i d:Nat) (h:i<l.length):val ((l.set i d).drop i)=d+1000*val (l.drop (i+1)):=by
 have e:(l.set i d)[i]?=some d:=by rw [List.getElem?_set_self h]
 rw [val_drop _ _ _ e,List.drop_set_of_lt (by omega)]
end Nm
theorem down_pos (x:Int) (y n:Nat) (h:0≤x) (hn:x.natAbs=n):x / (y:Int)=((n / y:Nat):Int)∧x % (y:Int)=((n % y:Nat):Int):=by
 have e:x=(n:Int):=by omega
 subst e
 exact ⟨(Int.natCast_ediv n y).symm,(Int.natCast_emod n y).symm⟩
theorem down_neg0 (x:Int) (y n:Nat) (h:x<0) (hn:x.natAbs=n) (hr:n % y=0):x / (y:Int)= -((n / y:Nat):Int)∧x % (y:Int)=0:=by
 have e:x= -(n:Int):=by omega
 subst e
 have hd:(y:Int)∣(n:Int):=Int.natCast_dvd_natCast.2 (Nat.dvd_of_mod_eq_zero hr)
 refine ⟨?_,?_⟩
 ·rw [Int.neg_ediv_of_dvd hd];rfl
 ·exact Int.emod_eq_zero_of_dvd (Int.dvd_neg.mpr hd)
theorem down_neg1 (x:Int) (y n:Nat) (h:x<0) (hn:x.natAbs=n) (hy:0<y) (hr:n % y ≠ 0):x / (y:Int)= -((n / y:Nat):Int) - 1∧x % (y:Int)=(y:Int) - ((n % y:Nat):Int):=by
 have e:x= -(n:Int):=by omega
 have d:=Nat.div_add_mod n y
 have l:=Nat.mod_lt n hy
 have key:x=(y:Int)*(-((n / y:Nat):Int) - 1)+((y:Int) - ((n % y:Nat):Int)):=by
  rw [e,Int.mul_sub,Int.mul_neg,←Int.natCast_mul];omega
 have u:=Int.ediv_emod_unique (a:=x) (b:=(y:Int)) (r:=(y:Int) - ((n % y:Nat):Int)) (q:=-((n / y:Nat):Int) - 1) (by omega)
 exact u.2 ⟨by omega,by omega,by omega⟩
theorem step_app {ops:Array Oper} {o:Oper} {a:Act} {w:World} {K:Act→World→Prop} {Q:Exit→Act→World→Prop} {E:Prop} (hgd:o.guard=none) (s x:Operand)
  (ho:o.op=.call {callee:=.builtin .append,args:=#[s,x],argTypes:=#[109,109]}) (B:Nat) (v vs:Value) (ds rs:List Nat) (hs:a.eval s=v) (hx:a.eval x=vs)
  (hown:RowB w B v ds) (hsrc:RowW w vs rs) (h1:ds.length≤100000) (h2:rs.length≤100000) (hB:B≤w.heap.size)
  (h:∀ v' w',RowB w' B v' (ds++rs)→Below B w w'→K (a.put o.dst v') w') :
  if Region.wanted o (yielded ops a.tmps)=true then Oper.wp Tryz.prog o a w K Q else E:=by
 have hw:Region.wanted o (yielded ops a.tmps)=true:=by simp [Region.wanted,hgd]
 rw [if_pos hw]
 obtain ⟨i0,hi,hz0,hz1,hz2⟩:=info_parts info_int
 rcases hsrc.2 with ⟨rfl,hn⟩ | ⟨g,cap,cur,rfl,h0,hg,hnc,hcm,hcs,ht⟩
 ·have e:rs=[]:=List.eq_nil_of_length_eq_zero hn
  subst e
  have hrun:=run_append_owned_none (P:=Tryz.prog) (w:=w) B 109 o.type 3 i0 1 Tryz.underlying109 hi v ds.length _ hown
  unfold Oper.wp
  simp [execOp,ho,resolve,invoke,builtin,hs,hx,hrun,Result.andThen]
  exact h _ _ (by simpa using hown) (Below.refl _ _)
 ·refine wp_append_own _ s x _ ho B 3 i0 (.int .i64 0) 1 8 Tryz.underlying109 hi hz0 hz1 hz2 rfl (by decide) v ds.length _ hs hown ⟨g,0,none⟩ rs.length cap (rs.map dv) hx (by simp) ?_ ?_ ?_ ?_ hB ?_
  ·intro j u hu
   have:=World.ownsRow.cells hsrc rfl j u hu
   exact this
  ·intro u hu;simp at hu;obtain ⟨d,_,rfl⟩:=hu;rfl
  ·simp only [maxLen];omega
  ·omega
  ·intro v' w' k1 k2 _
   refine h v' w' ?_ ((Below.refl _ _).grown k2 hB ?_)
   ·unfold RowB;rw [List.length_append,List.map_append];exact k1
   ·intro k hk;exact (World.ownsRow.lt hown k hk).1
theorem rowB_lit (w:World) (d:Nat) (n:Int) (h:n=(d:Int)):RowB (w.alloc (.cells #[.int .i64 n] 3)) w.heap.size (.slice (some ⟨w.heap.size,0,none⟩) 1 1) [d]:=by
 subst h
 exact World.ownsRow_lit w #[.int .i64 (d:Int)] 1 (Nat.le_refl _) (by decide) rfl
theorem num_row {k:Nat} {w:World} {b:Bool} {a:Option Addr} {n cap:Nat} {z:Int} (h:Num k w (.agg #[.bool b,.slice a n cap]) z):∃ ds,RowW w (.slice a n cap) ds∧Nm.Canon ds∧Nm.val ds=z.natAbs∧ds.length≤k∧ds.length=n∧decide (z<0)=b:=by
 obtain ⟨s,ds,e,hr,hc,hv,hk⟩:=h
 simp at e
 obtain ⟨e1,rfl⟩:=e
 obtain ⟨a',cap',e2,_⟩:=rowW_form hr
 simp at e2
 exact ⟨ds,hr,hc,hv,hk,e2.2.1.symm,e1.symm⟩
theorem num_far {k:Nat} {w:World} {b:Bool} {a:Option Addr} {n cap:Nat} {z:Int} (h:Num k w (.agg #[.bool b,.slice a n cap]) z) {p:Addr} (hp:∀ g,a=some ⟨g,0,none⟩→g ≠ p.block) (u:Value):Num k (w.setCell p u) (.agg #[.bool b,.slice a n cap]) z:=by
 obtain ⟨s,ds,e,hr,hc,hv,hk⟩:=h
 refine ⟨s,ds,e,?_,hc,hv,hk⟩
 simp at e
 obtain ⟨_,rfl⟩:=e
 refine ⟨hr.1,?_⟩
 rcases hr.2 with hn | ⟨g,cap',cur,e2,h0,hg,rest⟩
 ·exact .inl hn
 ·refine .inr ⟨g,cap',cur,e2,h0,?_,rest⟩
  simp at e2
  rw [Below.heap_setCell _ _ _ _ (hp g e2.1)];exact hg
theorem rowB_far {w:World} {B:Nat} {a:Option Addr} {n cap:Nat} {ds:List Nat} (h:RowB w B (.slice a n cap) ds):∀ g,a=some ⟨g,0,none⟩→B≤g:=by
 intro g e
 rcases h.2 with ⟨e2,_⟩ | ⟨g',_,_,e2,h0,_⟩
 ·simp at e2;rw [e] at e2;simp at e2
 ·simp at e2;rw [e] at e2;simp at e2;omega
theorem cmp_c (k1 k2:Nat) (va vb:Value) (x y c:Int) (w:World) (ha:Num k1 w va x) (hb:Num k2 w vb y) (l1:k1≤10000) (l2:k2≤10000) (hc:cmpZ x y=c) :
  Calls Tryz.prog 132 #[va,vb] w (IntPost c w):=by
 rw [←hc];exact cmp_any k1 k2 va vb x y w ha hb l1 l2
theorem cmpZ_le (x y c:Int) (h:cmpZ x y=c):c≤0↔x≤y:=by
 subst h;unfold cmpZ;split
 ·omega
 ·split<;>omega
theorem down_qr (n q R Y:Nat) (h:n=q*Y+R) (hR:R<Y):n / Y=q∧n % Y=R:=by
 subst h
 constructor
 ·rw [Nat.mul_comm,Nat.mul_add_div (by omega),Nat.div_eq_of_lt hR];rfl
 ·rw [Nat.mul_comm,Nat.mul_add_mod,Nat.mod_eq_of_lt hR]
theorem two_out {W:World} {p q:Nat} {a0 a1 b0 b1:Value} (u0 u1 v0 v1:Value) (h:BoxAt W p a0 a1) (k:BoxAt W q b0 b1) (hpq:p ≠ q) {n:Nat} {v:Value} {z:Int} (hv:Num n W v z) :
  Num n ((((W.setCell ⟨p,0,none⟩ u0).setCell ⟨p,1,none⟩ u1).setCell ⟨q,0,none⟩ v0).setCell ⟨q,1,none⟩ v1) v z:=
 num_set2 _ _ (num_set2 _ _ hv h) (boxAt_set_other _ _ (boxAt_set_other _ _ k (fun e=>hpq e.symm)) (fun e=>hpq e.symm))
theorem two_below {w W:World} {p q:Nat} (u0 u1 v0 v1:Value) (h:Below w.heap.size w W) (hp:w.heap.size≤p) (hq:w.heap.size≤q) :
  Below w.heap.size w ((((W.setCell ⟨p,0,none⟩ u0).setCell ⟨p,1,none⟩ u1).setCell ⟨q,0,none⟩ v0).setCell ⟨q,1,none⟩ v1):=
 (((h.setCell hp _).setCell hp _).setCell hq _).setCell hq _
theorem num_drew {n:Nat} {W:World} {v:Value} {z:Int} (h:Num n W v z):Num n W.drew v z:=num_below h ((Below.refl _ _).drew)
end Go.Proofs.YteagpbkbdlmdiaaGreat
