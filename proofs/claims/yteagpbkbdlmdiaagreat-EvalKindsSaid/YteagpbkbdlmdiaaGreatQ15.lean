/-
  THE WALKS of wide's closures, of rounded at each, of Even and Floor; THE WALKS of wide's Even and Floor; THE WALKS of corrodylaw01's told and known; THE WALK of corrodylaw01's known; THE WALKS of cmp.Compare at uint64, cmp.Or at int, and of wide's above; THE WALK of wide's above; THE WALKS of wide's Add, Cmp; THE WALK of wide's Cmp.
-/
import Derived.Test.YteagpbkbdlmdiaaGreatQ14
import Derived.Deep.RegionHeld3
import Derived.Test.YteagpbkbdlmdiaaGreatQ7
import Derived.StillTailTactics
import Derived.Test.YteagpbkbdlmdiaaGreatQ1
set_option linter.unusedSimpArgs false
set_option linter.unusedVariables false
namespace Go.Proofs.YteagpbkbdlmdiaaGreat
set_option maxRecDepth 100000
open Go.RowKit
attribute [local go_sem ↓] Go.wp_at_zero Go.wp_at_succ
def sz (n:Bool) (m:Nat):Int:=if n=true then -(m:Int) else (m:Int)
theorem sz_wz (n:Bool) (h l:Nat):sz n (h*18446744073709551616+l)=wz n h l:=by unfold sz wz;cases n<;>simp
theorem oddN (A:Nat) (hA:A<18446744073709551616) (o:Bool) (ho:decide (A % 2=1)=o):(bits .and .u64 (A:Int) 1==1)=o:=by
 have h:=bits_and_u64_nat A 1 hA (by omega)
 have e:A &&& 1=A % 2:=Nat.and_two_pow_sub_one_eq_mod A 1
 rw [e] at h
 have h2:bits .and .u64 (A:Int) 1=((A % 2:Nat):Int):=h
 rw [h2,←ho]
 by_cases c:A % 2=1<;>simp [c]<;>omega
theorem up_even (o:Bool) (r d:Nat) (p:Nat) (w:World) (hr:r<d) (hd:d<18446744073709551616) (hp:w.cell? ⟨p,0,none⟩=some (.int .u64 (d:Int))) (u:Bool) (hu:u=decide (d<r+r∨(r+r=d∧o=true))) :
  Calls Tryz.prog 151 #[.bool o,.int .u64 (r:Int),.pointer (some ⟨p,0,none⟩)] w fun e w'=>e=.returned (.bool u)∧Below w.heap.size w w':=by
 have e1:IntKind.u64.wrap ((d:Int) - (r:Int))=(d:Int) - (r:Int):=by rw [IntKind.wrap_u64];omega
 by_cases g:d<r+r
 ·obtain rfl:u=true:=by rw [hu];simp [g]
  have t1:decide ((d:Int) - (r:Int)<(r:Int))=true:=by rw [decide_eq_true_eq];omega
  clear hr hd hu g
  go_enter Tryz.func151,Tryz.ntmps151
  go_wp2_with fail
  go_ret
  exact ⟨rfl,Below.refl _ _⟩
 ·have t1:decide ((d:Int) - (r:Int)<(r:Int))=false:=by rw [decide_eq_false_iff_not];omega
  by_cases e:r+r=d
  ·obtain rfl:u=o:=by rw [hu];simp [g,e]
   have t2:((r:Int)==(d:Int) - (r:Int))=true:=by simp;omega
   have t2':(r:Int)=(d:Int) - (r:Int):=by omega
   have t2'':decide ((r:Int)=(d:Int) - (r:Int))=true:=by rw [decide_eq_true_eq];omega
   clear hr hd hu g e t2'
   go_enter Tryz.func151,Tryz.ntmps151
   cases u
   all_goals
    go_wp2_with fail
    go_ret
    exact ⟨rfl,Below.refl _ _⟩
  ·obtain rfl:u=false:=by rw [hu];simp [e];omega
   have t2:((r:Int)==(d:Int) - (r:Int))=false:=by simp;omega
   have t2':¬((r:Int)=(d:Int) - (r:Int)):=by omega
   have t2'':decide ((r:Int)=(d:Int) - (r:Int))=false:=by rw [decide_eq_false_iff_not];omega
   clear hr hd hu g e t2'
   go_enter Tryz.func151,Tryz.ntmps151
   go_wp2_with fail
   go_ret
   exact ⟨rfl,Below.refl _ _⟩
set_option maxHeartbeats 1000000 in
theorem rounded_even (n:Bool) (hi lo d:Nat) (p:Nat) (w:World) (h1:hi<18446744073709551616) (h2:lo<18446744073709551616) (hd:0<d) (h3:d<18446744073709551616) (u o:Bool)
  (ho:decide ((hi*18446744073709551616+lo) / d % 2=1)=o) (hu2:u=true→2≤d)
  (hup:∀ w',Below w.heap.size w w'→Calls Tryz.prog 151 #[.bool o,.int .u64 (((hi*18446744073709551616+lo) % d:Nat):Int),.pointer (some ⟨p,0,none⟩)] w' fun e w''=>e=.returned (.bool u)∧Below w'.heap.size w' w'') :
  Calls Tryz.prog 150 #[.agg #[.bool n,.int .u64 (hi:Int),.int .u64 (lo:Int)],.int .u64 (d:Int),.func (.func 151) #[] #[.pointer (some ⟨p,0,none⟩)]] w fun e w'=>
   e=.returned (.tuple #[wv (sz n ((hi*18446744073709551616+lo) / d+(if u=true then 1 else 0))),.int .i64 0])∧Below w.heap.size w w':=by
 have ny:¬((d:Int)=0):=by omega
 have ny':((d:Int)==0)=false:=by simp;omega
 have HD:Hid (hi<18446744073709551616∧lo<18446744073709551616∧0<d∧d<18446744073709551616):=⟨h1,h2,hd,h3⟩
 have lq:=Nat.lt_of_le_of_lt (Nat.div_le_self hi d) h1
 have la:=parts_lt hi lo d hd h2
 have lq2:u=true→hi / d<18446744073709551615:=by
  intro hu
  have:=Nat.div_le_div_left (hu2 hu) (show 0<2 by decide) (a:=hi)
  omega
 have pp:=(parts_plain hi lo d hd).1
 rw [pp]
 rw [pp] at ho
 obtain ⟨Q,hQ⟩:∃ Q:Nat,Hid (hi / d=Q):=⟨_,rfl⟩
 obtain ⟨A,hA⟩:∃ A:Nat,Hid ((hi % d*18446744073709551616+lo) / d=A):=⟨_,rfl⟩
 obtain ⟨C,hC⟩:∃ C:Nat,Hid ((hi*18446744073709551616+lo) % d=C):=⟨_,rfl⟩
 rw [hQ.out] at lq lq2 ho⊢;rw [hA.out] at la ho⊢;rw [hC.out] at hup
 have hodd:=oddN A la o (by rw [←ho,decide_eq_decide];omega)
 have HL:Hid (Q<18446744073709551616∧A<18446744073709551616∧(u=true→Q<18446744073709551615)):=⟨lq,la,lq2⟩
 have HU:=Lib.hid hup
 obtain ⟨Z,hZ⟩:∃ Z:Int,Hid (sz n (Q*18446744073709551616+A+(if u=true then 1 else 0))=Z):=⟨_,rfl⟩
 rw [hZ.out]
 clear h1 h2 hd h3 lq la lq2 pp ho hu2 hup
 go_enter Tryz.func150,Tryz.ntmps150
 go_wp2_with fail
 refine (parts_any n hi lo d _ HD.out.1 HD.out.2.1 HD.out.2.2.1 HD.out.2.2.2).mono ?_
 rintro e w1 ⟨rfl,b1⟩
 rw [hQ.out,hA.out,hC.out]
 have X:Hid (WAt w1 w.heap.size n hi lo):=WAt.below (WAt.below (wAt_new w n hi lo) (ba _ (.cells #[.bool false,.int .u64 0,.int .u64 0] 97))) b1
 have Y:Hid (WAt w1 (w.heap.size+1) false 0 0):=by
  have:=WAt.below (wAt_new (w.alloc (.cells #[.bool n,.int .u64 (hi:Int),.int .u64 (lo:Int)] 97)) false 0 0) b1
  rw [World.size_alloc] at this;exact this
 have B1:=Lib.hid (bt (ba _ _) (bt (ba _ _) b1))
 clear b1
 go_wp2_with fail
 refine (HU.out _ B1.out).mono ?_
 rintro e w2 ⟨rfl,b2⟩
 have X2:=Lib.hid (WAt.below X.out b2)
 have Y2:=Lib.hid (WAt.below Y.out b2)
 have B2:=Lib.hid (bt B1.out b2)
 have d0:=X2.out.c0
 have r0:=Y2.out.c0;have r1:=Y2.out.c1;have r2:=Y2.out.c2;have f0:=Y2.out.f0;have f1:=Y2.out.f1;have f2:=Y2.out.f2
 clear b2 hodd ny ny' HU
 cases u
 ·have es:Hid (wz n Q A=Z):=by show _=_;rw [←hZ.out,if_neg (by decide),Nat.add_zero,sz_wz]
  go_wp2_with fail
  refine (put_any n Q A _ HL.out.1 HL.out.2.1).mono ?_
  rintro e w3 ⟨rfl,b3⟩
  rw [es.out]
  obtain ⟨nb,nh,nl,hv⟩:=wv_agg Z
  rw [hv.out]
  have Y3:=Lib.hid (WAt.below Y2.out b3)
  have B3:=Lib.hid (bt B2.out b3)
  clear b3 d0 r0 r1 r2 f0 f1 f2
  have r0:=Y3.out.c0;have r1:=Y3.out.c1;have r2:=Y3.out.c2;have f0:=Y3.out.f0;have f1:=Y3.out.f1;have f2:=Y3.out.f2
  go_wp2_with fail
  refine bodyPost_ret (v:=.tuple #[.agg #[.bool nb,.int .u64 (nh:Int),.int .u64 (nl:Int)],.int .i64 0]) (by simp [results,Tryz.results150,go_sem,r0,r1,r2]) rfl ⟨by rw [hv.out],((B3.out.setCell (by simp) _).setCell (by simp) _).setCell (by simp) _⟩
 ·have HL2:Hid (Q<18446744073709551615):=HL.out.2.2 rfl
  obtain ⟨L,hL⟩:∃ L:Nat,Hid ((A+1) % 18446744073709551616=L):=⟨_,rfl⟩
  obtain ⟨K,hK⟩:∃ K:Nat,Hid ((A+1) / 18446744073709551616=K):=⟨_,rfl⟩
  have ad:=fun w=>add64 (A:Int) 1 0 (by omega) (by omega) (by have:=HL.out.2.1;omega) (by omega) (by omega) (by omega) w
  rw [show ((A:Int)+1+0) % 18446744073709551616=(L:Int) from by have:=hL.out;omega,show ((A:Int)+1+0) / 18446744073709551616=(K:Int) from by have:=hK.out;omega] at ad
  have ek:Hid (K≤1):=by have:=hK.out;have:=HL.out.2.1;show K≤1;omega
  have e1:IntKind.u64.wrap ((Q:Int)+(K:Int))=((Q+K:Nat):Int):=wrapTo _ _ rfl (by have:=HL2.out;have:=ek.out;omega)
  obtain ⟨H,hH⟩:∃ H:Nat,Hid (Q+K=H):=⟨_,rfl⟩
  rw [hH.out] at e1
  have es:Hid (wz n H L=Z):=by
   show _=_
   rw [←hZ.out,if_pos rfl,←sz_wz]
   have a:=hL.out;have b:=hK.out;have c:=hH.out
   exact congrArg (sz n) (by omega)
  have lH:Hid (H<18446744073709551616∧L<18446744073709551616):=⟨by have:=hH.out;have:=HL2.out;have:=ek.out;omega,by rw [←hL.out];exact Nat.mod_lt _ (by decide)⟩
  go_wp2_with (simp only [ad])
  refine (put_any n H L _ lH.out.1 lH.out.2).mono ?_
  rintro e w3 ⟨rfl,b3⟩
  rw [es.out]
  obtain ⟨nb,nh,nl,hv⟩:=wv_agg Z
  rw [hv.out]
  have Y3:=Lib.hid (WAt.below Y2.out b3)
  have B3:=Lib.hid (bt B2.out b3)
  clear b3 d0 r0 r1 r2 f0 f1 f2 ad e1
  have r0:=Y3.out.c0;have r1:=Y3.out.c1;have r2:=Y3.out.c2;have f0:=Y3.out.f0;have f1:=Y3.out.f1;have f2:=Y3.out.f2
  go_wp2_with fail
  refine bodyPost_ret (v:=.tuple #[.agg #[.bool nb,.int .u64 (nh:Int),.int .u64 (nl:Int)],.int .i64 0]) (by simp [results,Tryz.results150,go_sem,r0,r1,r2]) rfl ⟨by rw [hv.out],((B3.out.setCell (by simp) _).setCell (by simp) _).setCell (by simp) _⟩
end Go.Proofs.YteagpbkbdlmdiaaGreat
namespace Go.Proofs.YteagpbkbdlmdiaaGreat
open Go.RowKit
attribute [local go_sem ↓] Go.wp_at_zero Go.wp_at_succ
theorem evenZ_nat (q r d:Nat) (hr:r<d):evenZ ((q*d+r:Nat):Int) d=((q+if d<r+r∨(r+r=d∧q % 2=1) then 1 else 0:Nat):Int):=by
 have e1:((q*d+r:Nat):Int) / (d:Int)=q:=by
  rw [←Int.natCast_ediv];congr 1
  rw [Nat.mul_comm,Nat.mul_add_div (by omega),Nat.div_eq_of_lt hr];rfl
 have e2:((q*d+r:Nat):Int) % (d:Int)=r:=by
  rw [←Int.natCast_emod];congr 1
  rw [Nat.mul_comm,Nat.mul_add_mod,Nat.mod_eq_of_lt hr]
 unfold evenZ
 rw [e1,e2]
 by_cases c:d<r+r∨(r+r=d∧q % 2=1)
 ·rw [if_pos c,if_pos (by omega)];omega
 ·rw [if_neg c,if_neg (by omega)];omega
theorem ediv_neg' (q r d:Nat) (hr:r<d):(-((q*d+r:Nat):Int)) / (d:Int)= -(q:Int) - (if r=0 then 0 else 1)∧(-((q*d+r:Nat):Int)) % (d:Int)=(if r=0 then 0 else (d:Int) - r):=by
 by_cases h:r=0
 ·subst h
  rw [if_pos rfl,if_pos rfl]
  have:(-((q*d+0:Nat):Int))=(-(q:Int))*d:=by rw [Int.neg_mul,Nat.add_zero,Int.natCast_mul]
  rw [this]
  exact ⟨by rw [Int.mul_ediv_cancel _ (by omega)];omega,Int.mul_emod_left _ _⟩
 ·rw [if_neg h,if_neg h]
  have:(-((q*d+r:Nat):Int))=((d:Int) - r)+(-(q:Int) - 1)*d:=by
   rw [Int.sub_mul,Int.neg_mul,Int.one_mul];simp;omega
  rw [this]
  have p1:(0:Int)≤(d:Int) - r:=by omega
  have p2:(d:Int) - r<d:=by omega
  exact ⟨by rw [Int.add_mul_ediv_right _ _ (by omega),Int.ediv_eq_zero_of_lt p1 p2];omega,by rw [Int.add_mul_emod_self_right,Int.emod_eq_of_lt p1 p2]⟩
theorem evenZ_neg (q r d:Nat) (hr:r<d):evenZ (-((q*d+r:Nat):Int)) d= -((q+if d<r+r∨(r+r=d∧q % 2=1) then 1 else 0:Nat):Int):=by
 obtain ⟨e1,e2⟩:=ediv_neg' q r d hr
 unfold evenZ
 rw [e1,e2]
 by_cases h:r=0
 ·subst h
  rw [if_pos rfl,if_pos rfl,if_neg (by omega),if_neg (by omega)];omega
 ·rw [if_neg h,if_neg h]
  by_cases c:d<r+r∨(r+r=d∧q % 2=1)
  ·rw [if_pos c,if_neg (by omega)];omega
  ·rw [if_neg c,if_pos (by omega)];omega
theorem sz_even (n:Bool) (hi lo d:Nat) (hd:0<d) (u:Bool)
  (hu:u=decide (d<(hi*18446744073709551616+lo) % d+(hi*18446744073709551616+lo) % d∨((hi*18446744073709551616+lo) % d+(hi*18446744073709551616+lo) % d=d∧(hi*18446744073709551616+lo) / d % 2=1))) :
  sz n ((hi*18446744073709551616+lo) / d+(if u=true then 1 else 0))=evenZ (wz n hi lo) d:=by
 rw [←sz_wz]
 generalize hM:hi*18446744073709551616+lo=M at hu⊢
 have hr:=Nat.mod_lt M hd
 have e:M=M / d*d+M % d:=by rw [Nat.mul_comm];exact (Nat.div_add_mod M d).symm
 have hc:(u=true)↔(d<M % d+M % d∨(M % d+M % d=d∧M / d % 2=1)):=by rw [hu,decide_eq_true_eq]
 simp only [hc]
 unfold sz
 cases n
 ·simp only [Bool.false_eq_true,if_false]
  have:=evenZ_nat (M / d) (M % d) d hr
  rw [←e] at this;exact this.symm
 ·simp only [if_true]
  have:=evenZ_neg (M / d) (M % d) d hr
  rw [←e] at this;exact this.symm
set_option maxRecDepth 100000 in
set_option maxHeartbeats 1000000 in
theorem wEven_any (n:Bool) (hi lo d:Nat) (w:World) (h1:hi<18446744073709551616) (h2:lo<18446744073709551616) (hd:0<d) (h3:d<18446744073709551616) :
  Calls Tryz.prog 106 #[.agg #[.bool n,.int .u64 (hi:Int),.int .u64 (lo:Int)],.int .u64 (d:Int)] w fun e w'=>e=.returned (.tuple #[wv (evenZ (wz n hi lo) d),.int .i64 0])∧Below w.heap.size w w':=by
 obtain ⟨o,ho⟩:∃ o:Bool,Hid (decide ((hi*18446744073709551616+lo) / d % 2=1)=o):=⟨_,rfl⟩
 obtain ⟨r,hr⟩:∃ r:Nat,Hid ((hi*18446744073709551616+lo) % d=r):=⟨_,rfl⟩
 have hrd:r<d:=by rw [←hr.out];exact Nat.mod_lt _ hd
 obtain ⟨u,hu⟩:∃ u:Bool,Hid (u=decide (d<r+r∨(r+r=d∧o=true))):=⟨_,rfl⟩
 have HE:Hid (sz n ((hi*18446744073709551616+lo) / d+(if u=true then 1 else 0))=evenZ (wz n hi lo) d):=by
  refine sz_even n hi lo d hd u ?_
  rw [hu.out,hr.out,←ho.out];simp only [decide_eq_true_eq]
 have HU:Hid (u=true→2≤d):=by
  intro q;rw [hu.out,decide_eq_true_eq] at q;omega
 have HL:Hid (hi<18446744073709551616∧lo<18446744073709551616∧0<d∧d<18446744073709551616∧r<d):=⟨h1,h2,hd,h3,hrd⟩
 obtain ⟨z,hz⟩:∃ z,Hid (evenZ (wz n hi lo) d=z):=⟨_,rfl⟩
 rw [hz.out]
 clear h1 h2 hd h3 hrd
 go_enter Tryz.func106,Tryz.ntmps106
 go_wp2_with fail
 refine (rounded_even n hi lo d (w.heap.size+1) _ HL.out.1 HL.out.2.1 HL.out.2.2.1 HL.out.2.2.2.1 u o ho.out HU.out ?hup).mono ?_
 case hup=>
  intro w' hb
  rw [hr.out]
  refine up_even o r d (w.heap.size+1) w' HL.out.2.2.2.2 HL.out.2.2.2.1 ?_ u hu.out
  refine cell_keep hb ?_ (by simp)
  go_simp
 rintro e w2 ⟨rfl,b2⟩
 rw [HE.out,hz.out]
 obtain ⟨nb,nh,nl,hv⟩:=wv_agg z
 rw [hv.out]
 have Z:Hid (WAt w2 (w.heap.size+1+1) false 0 0):=by
  have:=WAt.below (wAt_new ((w.alloc (.cells #[.bool n,.int .u64 (hi:Int),.int .u64 (lo:Int)] 97)).alloc (.cells #[.int .u64 (d:Int)] 95)) false 0 0) b2
  rw [World.size_alloc,World.size_alloc] at this;exact this
 have B:=Lib.hid (bt (ba _ _) (bt (ba _ _) (bt (ba _ _) b2)))
 clear b2
 have r0:=Z.out.c0;have r1:=Z.out.c1;have r2:=Z.out.c2;have f0:=Z.out.f0;have f1:=Z.out.f1;have f2:=Z.out.f2
 go_wp2_with fail
 refine bodyPost_ret (v:=.tuple #[.agg #[.bool nb,.int .u64 (nh:Int),.int .u64 (nl:Int)],.int .i64 0]) (by simp [results,Tryz.results106,go_sem,r0,r1,r2]) rfl ⟨by rw [hv.out],((B.out.setCell (by simp;omega) _).setCell (by simp;omega) _).setCell (by simp;omega) _⟩
end Go.Proofs.YteagpbkbdlmdiaaGreat
namespace Go.Proofs.YteagpbkbdlmdiaaGreat
open Go.RowKit
attribute [local go_sem ↓] Go.wp_at_zero Go.wp_at_succ
theorem wv_small (z:Int) (h0:-9223372036854775808≤z) (h1:z≤9223372036854775807):∃ (b:Bool) (l:Nat),wv z=.agg #[.bool b,.int .u64 ((0:Nat):Int),.int .u64 (l:Int)]∧l<18446744073709551616∧wz b (0:Nat) l=z:=by
 refine ⟨decide (z<0),z.natAbs,?_,by omega,wz_of z⟩
 unfold wv wr
 rw [show z.natAbs / 18446744073709551616=0 by omega,show z.natAbs % 18446744073709551616=z.natAbs by omega]
end Go.Proofs.YteagpbkbdlmdiaaGreat
namespace Go.Proofs.YteagpbkbdlmdiaaGreat
open Go.RowKit
attribute [local go_sem ↓] Go.wp_at_zero Go.wp_at_succ
theorem wMul_c (a b:Int) (v:Value) (w:World) (a0:-9223372036854775808≤a) (a1:a≤9223372036854775807) (b0:-9223372036854775808≤b) (b1:b≤9223372036854775807) (hv:wv (a*b)=v) :
  Calls Tryz.prog 124 #[.int .i64 a,.int .i64 b] w fun e w'=>e=.returned v∧Below w.heap.size w w':=by
 rw [←hv];exact wMul_any a b w a0 a1 b0 b1
end Go.Proofs.YteagpbkbdlmdiaaGreat
namespace Go.Proofs.YteagpbkbdlmdiaaGreat
open Go.RowKit
attribute [local go_sem ↓] Go.wp_at_zero Go.wp_at_succ
theorem nanU (x:Int) (w:World):Calls Tryz.prog 171 #[.int .u64 x] w fun e w'=>e=.returned (.bool false)∧w'=w:=by
 go_enter Tryz.func171,Tryz.ntmps171
 go_wp2_with fail
 go_ret
 exact ⟨by first | rfl | simp,rfl⟩
theorem cmpU_any (x y:Int) (w:World):Calls Tryz.prog 169 #[.int .u64 x,.int .u64 y] w fun e w'=>e=.returned (.int .i64 (cmpZ x y))∧w'=w:=by
 unfold cmpZ
 by_cases h1:x=y
 ·rw [if_pos h1]
  have d1:decide (x<y)=false:=by rw [decide_eq_false_iff_not];omega
  have d2:decide (y<x)=false:=by rw [decide_eq_false_iff_not];omega
  clear h1
  go_enter Tryz.func169,Tryz.ntmps169
  go_wp2_with (go_at_call 171;refine (nanU _ _).mono ?_;rintro e w' ⟨rfl,rfl⟩)
  go_ret
  exact ⟨rfl,rfl⟩
 ·rw [if_neg h1]
  by_cases h2:x<y
  ·rw [if_pos h2]
   have d1:decide (x<y)=true:=by rw [decide_eq_true_eq];omega
   clear h1
   go_enter Tryz.func169,Tryz.ntmps169
   go_wp2_with (go_at_call 171;refine (nanU _ _).mono ?_;rintro e w' ⟨rfl,rfl⟩)
   go_ret
   exact ⟨rfl,rfl⟩
  ·rw [if_neg h2]
   have d1:decide (x<y)=false:=by rw [decide_eq_false_iff_not];omega
   have d2:decide (y<x)=true:=by rw [decide_eq_true_eq];omega
   clear h1
   go_enter Tryz.func169,Tryz.ntmps169
   go_wp2_with (go_at_call 171;refine (nanU _ _).mono ?_;rintro e w' ⟨rfl,rfl⟩)
   go_ret
   exact ⟨rfl,rfl⟩
def orZ (a b:Int):Int:=if a=0 then b else a
theorem or2_any (g:Nat) (a b:Int) (w:World) (h0:w.cell? ⟨g,0,none⟩=some (.int .i64 a)) (h1:w.cell? ⟨g,1,none⟩=some (.int .i64 b)) :
  Calls Tryz.prog 168 #[.slice (some ⟨g,0,none⟩) 2 2] w fun e w'=>e=.returned (.int .i64 (orZ a b))∧w'=w:=by
 unfold orZ
 by_cases ha:a=0
 ·subst ha
  rw [if_pos rfl]
  by_cases hb:b=0
  ·subst hb
   go_enter Tryz.func168,Tryz.ntmps168
   go_wp2_with fail
   refine wp_loop_rounds 3 ?_
   rw [rounds_succ]
   go_wp2_with fail
   rw [rounds_succ]
   go_wp2_with fail
   rw [rounds_succ]
   go_wp2_with fail
   go_ret
   exact ⟨rfl,rfl⟩
  ·have hb1:(b==0)=false:=by simpa using hb
   have hb2:(b !=0)=true:=by simpa using hb
   clear hb
   go_enter Tryz.func168,Tryz.ntmps168
   go_wp2_with fail
   refine wp_loop_rounds 2 ?_
   rw [rounds_succ]
   go_wp2_with fail
   rw [rounds_succ]
   go_wp2_with fail
   go_ret
   exact ⟨rfl,rfl⟩
 ·rw [if_neg ha]
  have hb1:(a==0)=false:=by simpa using ha
  have hb2:(a !=0)=true:=by simpa using ha
  clear ha
  go_enter Tryz.func168,Tryz.ntmps168
  go_wp2_with fail
  refine wp_loop_rounds 1 ?_
  rw [rounds_succ]
  go_wp2_with fail
  go_ret
  exact ⟨rfl,rfl⟩
end Go.Proofs.YteagpbkbdlmdiaaGreat
namespace Go.Proofs.YteagpbkbdlmdiaaGreat
open Go.RowKit
attribute [local go_sem ↓] Go.wp_at_zero Go.wp_at_succ
theorem orZ_cmp (h1 l1 h2 l2:Nat) (a:l1<18446744073709551616) (b:l2<18446744073709551616) :
  orZ (cmpZ h1 h2) (cmpZ l1 l2)=cmpZ ((h1*18446744073709551616+l1:Nat):Int) ((h2*18446744073709551616+l2:Nat):Int):=by
 unfold orZ cmpZ
 by_cases e:h1=h2
 ·subst e
  by_cases f:l1=l2
  ·subst f;simp
  ·have:((h1*18446744073709551616+l1:Nat):Int) ≠ ((h1*18446744073709551616+l2:Nat):Int):=by omega
   have g:(l1:Int) ≠ l2:=by omega
   rw [if_neg this,if_neg g]
   by_cases k:(l1:Int)<l2
   ·rw [if_pos k,if_pos (show ((h1*18446744073709551616+l1:Nat):Int)<((h1*18446744073709551616+l2:Nat):Int) by omega)];simp
   ·rw [if_neg k,if_neg (show ¬((h1*18446744073709551616+l1:Nat):Int)<((h1*18446744073709551616+l2:Nat):Int) by omega)];simp
 ·have:((h1*18446744073709551616+l1:Nat):Int) ≠ ((h2*18446744073709551616+l2:Nat):Int):=by omega
  have g:(h1:Int) ≠ h2:=by omega
  rw [if_neg this,if_neg g]
  by_cases k:(h1:Int)<h2
  ·rw [if_pos k,if_pos (show ((h1*18446744073709551616+l1:Nat):Int)<((h2*18446744073709551616+l2:Nat):Int) by omega)];simp
  ·rw [if_neg k,if_neg (show ¬((h1*18446744073709551616+l1:Nat):Int)<((h2*18446744073709551616+l2:Nat):Int) by omega)];simp
theorem cmpU_c (x y c:Int) (w:World) (h:cmpZ x y=c):Calls Tryz.prog 169 #[.int .u64 x,.int .u64 y] w fun e w'=>e=.returned (.int .i64 c)∧w'=w:=by
 rw [←h];exact cmpU_any x y w
set_option maxRecDepth 100000 in
set_option maxHeartbeats 1000000 in
theorem above_any (n1 n2:Bool) (h1 l1 h2 l2:Nat) (c:Int) (w:World) (b1:l1<18446744073709551616) (b2:l2<18446744073709551616)
  (hc:cmpZ ((h1*18446744073709551616+l1:Nat):Int) ((h2*18446744073709551616+l2:Nat):Int)=c) :
  Calls Tryz.prog 164 #[.agg #[.bool n1,.int .u64 (h1:Int),.int .u64 (l1:Int)],.agg #[.bool n2,.int .u64 (h2:Int),.int .u64 (l2:Int)]] w (IntPost c w):=by
 obtain ⟨p,hp⟩:∃ p,Hid (cmpZ (h1:Int) (h2:Int)=p):=⟨_,rfl⟩
 obtain ⟨q,hq⟩:∃ q,Hid (cmpZ (l1:Int) (l2:Int)=q):=⟨_,rfl⟩
 have ho:Hid (orZ p q=c):=by show _=_;rw [←hp.out,←hq.out,←hc];exact orZ_cmp h1 l1 h2 l2 b1 b2
 clear b1 b2 hc
 go_enter Tryz.func164,Tryz.ntmps164
 go_upto_region 1 with fail
 obtain ⟨X,Y⟩:=two_wide w n1 n2 h1 l1 h2 l2
 have B:Hid (Below w.heap.size w ((w.alloc (.cells #[.bool n1,.int .u64 h1,.int .u64 l1] 97)).alloc (.cells #[.bool n2,.int .u64 h2,.int .u64 l2] 97))):=bt (ba _ _) (ba _ _)
 generalize World.alloc (World.alloc w _) _=W2 at X Y B⊢
 have XH:=Lib.hid X;have YH:=Lib.hid Y
 have d1:=X.c1;have d2:=X.c2;have d3:=Y.c1;have d4:=Y.c2
 have z1:=X.lt;have z2:=Y.lt
 clear X Y
 refine wp_region_still_tail 10 (by kernel_rfl) (by kernel_rfl) ?_
 simp only [List.take_succ_cons,List.take_zero,List.drop_succ_cons,List.drop_zero]
 iterate 4 still_step
 still_call (cmpU_c (h1:Int) (h2:Int) p _ hp.out)
 iterate 4 still_step
 still_call (cmpU_c (l1:Int) (l2:Int) q _ hq.out)
 refine wpStill_nil ?_
 change wpList _ _ _ _ _ W2.drew
 have BD:Hid (Below w.heap.size w W2.drew):=B.out.drew
 clear d1 d2 d3 d4 z1 z2
 generalize W2.drew=w5 at BD⊢
 go_wp2_with fail
 refine (or2_any _ p q _ (by simp) (by simp)).mono ?_
 rintro e w6 ⟨rfl,rfl⟩
 rw [ho.out]
 go_wp2_with fail
 go_ret
 exact ⟨rfl,BD.out.alloc BD.out.size _⟩
end Go.Proofs.YteagpbkbdlmdiaaGreat
namespace Go.Proofs.YteagpbkbdlmdiaaGreat
set_option maxRecDepth 100000
set_option maxHeartbeats 2000000
open Go.RowKit
attribute [local go_sem ↓] Go.wp_at_zero Go.wp_at_succ
theorem wz_plus (n:Bool) (h1 l1 h2 l2 H L:Nat) (h:h1*18446744073709551616+l1+(h2*18446744073709551616+l2)=H*18446744073709551616+L):wz n h1 l1+wz n h2 l2=wz n H L:=by
 unfold wz;cases n
 ·simp only [Bool.false_eq_true,if_false];omega
 ·simp only [if_true];omega
theorem wz_less (n:Bool) (h1 l1 h2 l2 H L:Nat) (h:h1*18446744073709551616+l1=H*18446744073709551616+L+(h2*18446744073709551616+l2)):wz n h1 l1+wz (!n) h2 l2=wz n H L:=by
 unfold wz;cases n
 ·simp only [Bool.false_eq_true,if_false,Bool.not_false,if_true];omega
 ·simp only [if_true,Bool.not_true,Bool.false_eq_true,if_false];omega
theorem add_nat (h1 l1 h2 l2 L C H O:Nat) (a:l1+l2=C*18446744073709551616+L) (b:h1+h2+C=O*18446744073709551616+H) :
  h1*18446744073709551616+l1+(h2*18446744073709551616+l2)=O*340282366920938463463374607431768211456+(H*18446744073709551616+L):=by omega
theorem divmodB (x C L:Nat) (h1:x / 18446744073709551616=C) (h2:x % 18446744073709551616=L):x=C*18446744073709551616+L:=by omega
theorem wAdd_same (n:Bool) (h1 l1 h2 l2:Nat) (w:World) (b1:h1<18446744073709551616) (b2:l1<18446744073709551616) (b3:h2<18446744073709551616) (b4:l2<18446744073709551616) :
  Calls Tryz.prog 155 #[.agg #[.bool n,.int .u64 (h1:Int),.int .u64 (l1:Int)],.agg #[.bool n,.int .u64 (h2:Int),.int .u64 (l2:Int)]] w fun e w'=>e=.returned (ovV (wz n h1 l1+wz n h2 l2))∧Below w.heap.size w w':=by
 have ad:=fun w=>add64 (l1:Int) (l2:Int) 0 (by omega) (by omega) (by omega) (by omega) (by omega) (by omega) w
 obtain ⟨L,hL⟩:∃ x:Nat,Hid ((l1+l2) % 18446744073709551616=x):=⟨_,rfl⟩
 obtain ⟨C,hC⟩:∃ x:Nat,Hid ((l1+l2) / 18446744073709551616=x):=⟨_,rfl⟩
 rw [show ((l1:Int)+(l2:Int)+0) % 18446744073709551616=(L:Int) from by have:=hL.out;omega,show ((l1:Int)+(l2:Int)+0) / 18446744073709551616=(C:Int) from by have:=hC.out;omega] at ad
 have hC1:C≤1:=by have:=hC.out;omega
 have ad2:=fun w=>add64 (h1:Int) (h2:Int) (C:Int) (by omega) (by omega) (by omega) (by omega) (by omega) (by omega) w
 obtain ⟨H,hH⟩:∃ x:Nat,Hid ((h1+h2+C) % 18446744073709551616=x):=⟨_,rfl⟩
 obtain ⟨O,hO⟩:∃ x:Nat,Hid ((h1+h2+C) / 18446744073709551616=x):=⟨_,rfl⟩
 rw [show ((h1:Int)+(h2:Int)+(C:Int)) % 18446744073709551616=(H:Int) from by have:=hH.out;omega,show ((h1:Int)+(h2:Int)+(C:Int)) / 18446744073709551616=(O:Int) from by have:=hO.out;omega] at ad2
 have HS:Hid (H<18446744073709551616∧L<18446744073709551616):=⟨by have:=hH.out;omega,by have:=hL.out;omega⟩
 have HT:=Lib.hid (add_nat h1 l1 h2 l2 L C H O (divmodB _ _ _ hC.out hL.out) (divmodB _ _ _ hO.out hH.out))
 clear b1 b2 b3 b4
 by_cases hk:O=0
 ·have HE:=Lib.hid (wz_plus n h1 l1 h2 l2 H L (by have:=HT.out;rw [hk,Nat.zero_mul,Nat.zero_add] at this;exact this))
  have HO:Hid (ovV (wz n h1 l1+wz n h2 l2)=.tuple #[wv (wz n H L),.int .i64 0]):=by
   show _=_;unfold ovV;rw [HE.out,wz_abs,if_pos (by have:=HS.out;omega)]
  rw [HO.out]
  subst hk
  clear hC1
  obtain ⟨X,Y⟩:=two_wide w n n h1 l1 h2 l2
  have d0:=X.c0;have d1:=X.c1;have d2:=X.c2;have k0:=Y.c0;have k1:=Y.c1;have k2:=Y.c2
  clear X Y
  go_enter Tryz.func155,Tryz.ntmps155
  go_wp2_with (simp only [ad,ad2])
  refine (put_any n H L _ HS.out.1 HS.out.2).mono ?_
  rintro e w2 ⟨rfl,b2⟩
  obtain ⟨nb,nh,nl,hv⟩:=wv_agg (wz n H L)
  rw [hv.out]
  have Y:Hid (WAt w2 (w.heap.size+1+1) false 0 0):=by
   have:=WAt.below (wAt_new ((w.alloc (.cells #[.bool n,.int .u64 (h1:Int),.int .u64 (l1:Int)] 97)).alloc (.cells #[.bool n,.int .u64 (h2:Int),.int .u64 (l2:Int)] 97)) false 0 0) b2
   rw [World.size_alloc,World.size_alloc] at this;exact this
  have B:=Lib.hid (bt (ba _ _) (bt (ba _ _) (bt (ba _ _) b2)))
  clear b2 ad ad2 d0 d1 d2 k0 k1 k2
  have r0:=Y.out.c0;have r1:=Y.out.c1;have r2:=Y.out.c2;have f0:=Y.out.f0;have f1:=Y.out.f1;have f2:=Y.out.f2
  go_wp2_with fail
  refine bodyPost_ret (v:=.tuple #[.agg #[.bool nb,.int .u64 (nh:Int),.int .u64 (nl:Int)],.int .i64 0]) (by simp [results,Tryz.results155,go_sem,r0,r1,r2]) rfl ⟨by rw [hv.out],((B.out.setCell (by simp;omega) _).setCell (by simp;omega) _).setCell (by simp;omega) _⟩
 ·have HO:Hid (ovV (wz n h1 l1+wz n h2 l2)=.tuple #[.agg #[.bool false,.int .u64 0,.int .u64 0],.int .i64 11]):=by
   have e:(wz n h1 l1+wz n h2 l2).natAbs=h1*18446744073709551616+l1+(h2*18446744073709551616+l2):=by
    unfold wz;cases n
    ·simp only [Bool.false_eq_true,if_false];omega
    ·simp only [if_true];omega
   show _=_;unfold ovV;rw [e,HT.out,if_neg (by omega)]
  rw [HO.out]
  have t1:decide ((0:Int)<(O:Int))=true:=by rw [decide_eq_true_eq];omega
  have t2:0<O:=by omega
  clear hk hC1
  obtain ⟨X,Y⟩:=two_wide w n n h1 l1 h2 l2
  have d0:=X.c0;have d1:=X.c1;have d2:=X.c2;have k0:=Y.c0;have k1:=Y.c1;have k2:=Y.c2
  clear X Y
  have Y:Hid (WAt (((w.alloc (.cells #[.bool n,.int .u64 (h1:Int),.int .u64 (l1:Int)] 97)).alloc (.cells #[.bool n,.int .u64 (h2:Int),.int .u64 (l2:Int)] 97)).alloc (.cells #[.bool false,.int .u64 0,.int .u64 0] 97)) (w.heap.size+1+1) false 0 0):=by
   have:=wAt_new ((w.alloc (.cells #[.bool n,.int .u64 (h1:Int),.int .u64 (l1:Int)] 97)).alloc (.cells #[.bool n,.int .u64 (h2:Int),.int .u64 (l2:Int)] 97)) false 0 0
   rw [World.size_alloc,World.size_alloc] at this;exact this
  have r0:=Y.out.c0;have r1:=Y.out.c1;have r2:=Y.out.c2;have f0:=Y.out.f0;have f1:=Y.out.f1;have f2:=Y.out.f2
  go_enter Tryz.func155,Tryz.ntmps155
  go_wp2_with (simp only [ad,ad2])
  refine bodyPost_ret (v:=.tuple #[.agg #[.bool false,.int .u64 0,.int .u64 0],.int .i64 11]) (by simp [results,Tryz.results155,go_sem,r0,r1,r2]) rfl ⟨rfl,?_⟩
  first | exact bt (ba _ _) (bt (ba _ _) (ba _ _)) | exact (((bt (ba _ _) (bt (ba _ _) (ba _ _))).setCell (by simp;omega) _).setCell (by simp;omega) _).setCell (by simp;omega) _
theorem add_swapped {w:World} {b1 b2 b3:Nat} {n1 n2:Bool} {h1 l1 h2 l2:Int} (X:WAt w b1 n1 h1 l1) (Y:WAt w b2 n2 h2 l2) (Z:WAt w b3 false 0 0) (e12:b1 ≠ b2) (e13:b1 ≠ b3) (e23:b2 ≠ b3) :
  WAt ((((((w.setCell ⟨b1,0,none⟩ (.bool n2)).setCell ⟨b1,1,none⟩ (.int .u64 h2)).setCell ⟨b1,2,none⟩ (.int .u64 l2)).setCell ⟨b2,0,none⟩ (.bool n1)).setCell ⟨b2,1,none⟩ (.int .u64 h1)).setCell ⟨b2,2,none⟩ (.int .u64 l1)) b1 n2 h2 l2∧
  WAt ((((((w.setCell ⟨b1,0,none⟩ (.bool n2)).setCell ⟨b1,1,none⟩ (.int .u64 h2)).setCell ⟨b1,2,none⟩ (.int .u64 l2)).setCell ⟨b2,0,none⟩ (.bool n1)).setCell ⟨b2,1,none⟩ (.int .u64 h1)).setCell ⟨b2,2,none⟩ (.int .u64 l1)) b2 n1 h1 l1∧
  WAt ((((((w.setCell ⟨b1,0,none⟩ (.bool n2)).setCell ⟨b1,1,none⟩ (.int .u64 h2)).setCell ⟨b1,2,none⟩ (.int .u64 l2)).setCell ⟨b2,0,none⟩ (.bool n1)).setCell ⟨b2,1,none⟩ (.int .u64 h1)).setCell ⟨b2,2,none⟩ (.int .u64 l1)) b3 false 0 0:=by
 have other:∀ {w:World} {b b':Nat} {n:Bool} {h l:Int} (o:Nat) (u:Value),WAt w b n h l→b ≠ b'→WAt (w.setCell ⟨b',o,none⟩ u) b n h l:=by
  intro w b b' n h l o u H hb;unfold WAt;rw [Below.heap_setCell _ _ _ _ hb];exact H
 refine ⟨other _ _ (other _ _ (other _ _ (wAt_set3 _ _ _ X) e12) e12) e12,wAt_set3 _ _ _ (other _ _ (other _ _ (other _ _ Y (Ne.symm e12)) (Ne.symm e12)) (Ne.symm e12)),?_⟩
 exact other _ _ (other _ _ (other _ _ (other _ _ (other _ _ (other _ _ Z (Ne.symm e13)) (Ne.symm e13)) (Ne.symm e13)) (Ne.symm e23)) (Ne.symm e23)) (Ne.symm e23)
theorem sub_parts (h1 l1 h2 l2:Nat) (hl1:l1<18446744073709551616) (hl2:l2<18446744073709551616) (b1:h1<18446744073709551616) (b3:h2<18446744073709551616)
  (h:h2*18446744073709551616+l2≤h1*18446744073709551616+l1):∃ H L b:Nat,H<18446744073709551616∧L<18446744073709551616∧b≤1∧h1*18446744073709551616+l1=H*18446744073709551616+L+(h2*18446744073709551616+l2)∧
   ((l1:Int) - l2 - 0) % 18446744073709551616=L∧(if (l1:Int)<l2+0 then (1:Int) else 0)=b∧((h1:Int) - h2 - b) % 18446744073709551616=H:=by
 by_cases c:l1<l2
 ·exact ⟨h1 - h2 - 1,l1+18446744073709551616 - l2,1,by omega,by omega,by omega,by omega,by omega,by rw [if_pos (by omega)];rfl,by omega⟩
 ·exact ⟨h1 - h2,l1 - l2,0,by omega,by omega,by omega,by omega,by omega,by rw [if_neg (by omega)];rfl,by omega⟩
theorem wAdd_diff (n:Bool) (h1 l1 h2 l2:Nat) (w:World) (b1:h1<18446744073709551616) (b2:l1<18446744073709551616) (b3:h2<18446744073709551616) (b4:l2<18446744073709551616) :
  Calls Tryz.prog 155 #[.agg #[.bool n,.int .u64 (h1:Int),.int .u64 (l1:Int)],.agg #[.bool (!n),.int .u64 (h2:Int),.int .u64 (l2:Int)]] w fun e w'=>e=.returned (ovV (wz n h1 l1+wz (!n) h2 l2))∧Below w.heap.size w w':=by
 have HB:Hid (l1<18446744073709551616∧l2<18446744073709551616):=⟨b2,b4⟩
 obtain ⟨c,hc⟩:∃ c,Hid (cmpZ ((h1*18446744073709551616+l1:Nat):Int) ((h2*18446744073709551616+l2:Nat):Int)=c):=⟨_,rfl⟩
 obtain ⟨m,hm⟩:∃ m,Hid ((!n)=m):=⟨_,rfl⟩
 have hnm:(n !=m)=true:=by rw [←hm.out];cases n<;>rfl
 have hmn:(n==m)=false:=by rw [←hm.out];cases n<;>rfl
 rw [hm.out]
 have key:∃ (s:Bool) (g1 k1 g2 k2 H L b:Nat),Hid ((c<0∧s=m∧g1=h2∧k1=l2∧g2=h1∧k2=l1)∨(¬c<0∧s=n∧g1=h1∧k1=l1∧g2=h2∧k2=l2))∧Hid (H<18446744073709551616∧L<18446744073709551616∧wz n h1 l1+wz m h2 l2=wz s H L)∧b≤1∧
   Hid (g1<18446744073709551616∧k1<18446744073709551616∧g2<18446744073709551616∧k2<18446744073709551616)∧
   Hid (((k1:Int) - k2 - 0) % 18446744073709551616=L∧(if (k1:Int)<k2+0 then (1:Int) else 0)=b∧((g1:Int) - g2 - b) % 18446744073709551616=H):=by
  by_cases hlt:h1*18446744073709551616+l1<h2*18446744073709551616+l2
  ·obtain ⟨H,L,b,q1,q2,q3,q4,q5,q6,q7⟩:=sub_parts h2 l2 h1 l1 b4 b2 b3 b1 (by omega)
   have hc1:c<0:=by rw [←hc.out];unfold cmpZ;rw [if_neg (by omega),if_pos (by omega)];decide
   refine ⟨m,h2,l2,h1,l1,H,L,b,.inl ⟨hc1,rfl,rfl,rfl,rfl,rfl⟩,⟨q1,q2,?_⟩,q3,⟨b3,b4,b1,b2⟩,q5,q6,q7⟩
   have:=wz_less m h2 l2 h1 l1 H L q4
   rw [←this,←hm.out,Bool.not_not,Int.add_comm]
  ·obtain ⟨H,L,b,q1,q2,q3,q4,q5,q6,q7⟩:=sub_parts h1 l1 h2 l2 b2 b4 b1 b3 (by omega)
   have hc1:¬c<0:=by rw [←hc.out];unfold cmpZ;split;· omega
                     ·rw [if_neg (by omega)];omega
   refine ⟨n,h1,l1,h2,l2,H,L,b,.inr ⟨hc1,rfl,rfl,rfl,rfl,rfl⟩,⟨q1,q2,?_⟩,q3,⟨b1,b2,b3,b4⟩,q5,q6,q7⟩
   have:=wz_less n h1 l1 h2 l2 H L q4
   rw [←this,hm.out]
 obtain ⟨s,g1,k1,g2,k2,H,L,b,HC,HS,hb1,HG,HD⟩:=key
 have sb:=fun w=>sub64 (k1:Int) (k2:Int) 0 (by omega) (by have:=HG.out;omega) (by omega) (by have:=HG.out;omega) (by omega) (by omega) w
 have sb2:=fun w=>sub64 (g1:Int) (g2:Int) (b:Int) (by omega) (by have:=HG.out;omega) (by omega) (by have:=HG.out;omega) (by omega) (by omega) w
 rw [HD.out.1,HD.out.2.1] at sb
 obtain ⟨bo,hbo⟩:∃ x:Int,Hid ((if (g1:Int)<(g2:Int)+(b:Int) then (1:Int) else 0)=x):=⟨_,rfl⟩
 rw [HD.out.2.2,hbo.out] at sb2
 have HO:Hid (ovV (wz n h1 l1+wz m h2 l2)=.tuple #[wv (wz s H L),.int .i64 0]):=by
  show _=_;unfold ovV;rw [HS.out.2.2,wz_abs,if_pos (by have:=HS.out;omega)]
 rw [HO.out]
 clear b1 b2 b3 b4 hb1
 go_enter Tryz.func155,Tryz.ntmps155
 go_upto_region 2 with fail
 obtain ⟨X0,Y0⟩:=two_wide w n m h1 l1 h2 l2
 have X:=Lib.hid (WAt.below X0 (ba _ (.cells #[.bool false,.int .u64 0,.int .u64 0] 97)))
 have Y:=Lib.hid (WAt.below Y0 (ba _ (.cells #[.bool false,.int .u64 0,.int .u64 0] 97)))
 have Z:Hid (WAt (((w.alloc (.cells #[.bool n,.int .u64 (h1:Int),.int .u64 (l1:Int)] 97)).alloc (.cells #[.bool m,.int .u64 (h2:Int),.int .u64 (l2:Int)] 97)).alloc (.cells #[.bool false,.int .u64 0,.int .u64 0] 97)) (w.heap.size+1+1) false 0 0):=by
  have:=wAt_new ((w.alloc (.cells #[.bool n,.int .u64 (h1:Int),.int .u64 (l1:Int)] 97)).alloc (.cells #[.bool m,.int .u64 (h2:Int),.int .u64 (l2:Int)] 97)) false 0 0
  rw [World.size_alloc,World.size_alloc] at this;exact this
 have B:Hid (Below w.heap.size w (((w.alloc (.cells #[.bool n,.int .u64 (h1:Int),.int .u64 (l1:Int)] 97)).alloc (.cells #[.bool m,.int .u64 (h2:Int),.int .u64 (l2:Int)] 97)).alloc (.cells #[.bool false,.int .u64 0,.int .u64 0] 97))):=bt (ba _ _) (bt (ba _ _) (ba _ _))
 clear X0 Y0
 generalize World.alloc (World.alloc (World.alloc w _) _) _=W3 at X Y Z B⊢
 have d0:=X.out.c0;have d1:=X.out.c1;have d2:=X.out.c2;have e0:=Y.out.c0;have e1:=Y.out.c1;have e2:=Y.out.c2
 go_wp2_with fail
 refine (above_any n m h1 l1 h2 l2 c _ HB.out.1 HB.out.2 hc.out).mono ?_
 rintro e w3 ⟨rfl,b3⟩
 have X3:=Lib.hid (WAt.below X.out b3);have Y3:=Lib.hid (WAt.below Y.out b3);have Z3:=Lib.hid (WAt.below Z.out b3);have B3:=Lib.hid (bt B.out b3)
 clear d0 d1 d2 e0 e1 e2 b3 X Y Z B
 have fin:∀ (W:World),Hid (WAt W w.heap.size s g1 k1)→Hid (WAt W (w.heap.size+1) (!s) g2 k2)→Hid (WAt W (w.heap.size+1+1) false 0 0)→Hid (Below w.heap.size w W)→True:=fun _ _ _ _ _=>trivial
 clear fin
 rcases HC.out with ⟨c1,rfl,rfl,rfl,rfl,rfl⟩ | ⟨c1,rfl,rfl,rfl,rfl,rfl⟩
 ·have c2:decide (c<0)=true:=by simpa using c1
  have d0:=X3.out.c0;have d1:=X3.out.c1;have d2:=X3.out.c2;have e0:=Y3.out.c0;have e1:=Y3.out.c1;have e2:=Y3.out.c2
  have f0:=X3.out.f0;have f1:=X3.out.f1;have f2:=X3.out.f2;have q0:=Y3.out.f0;have q1:=Y3.out.f1;have q2:=Y3.out.f2
  go_upto_region 4 with fail
  generalize hW:World.setCell _ _ _=W5
  have sw:=add_swapped X3.out Y3.out Z3.out (by omega) (by omega) (by omega)
  rw [hW] at sw
  have X5:=Lib.hid sw.1;have Y5:=Lib.hid sw.2.1;have Z5:=Lib.hid sw.2.2
  have B5:Hid (Below w.heap.size w W5):=by
   rw [←hW]
   exact (((((B3.out.setCell (by simp) _).setCell (by simp) _).setCell (by simp) _).setCell (by simp) _).setCell (by simp) _).setCell (by simp) _
  clear hW sw d0 d1 d2 e0 e1 e2 f0 f1 f2 q0 q1 q2
  have d0:=X5.out.c0;have d1:=X5.out.c1;have d2:=X5.out.c2;have e0:=Y5.out.c0;have e1:=Y5.out.c1;have e2:=Y5.out.c2
  go_wp2_with (simp only [sb,sb2])
  refine (put_any s H L _ HS.out.1 HS.out.2.1).mono ?_
  rintro e w6 ⟨rfl,b6⟩
  obtain ⟨nb,nh,nl,hv⟩:=wv_agg (wz s H L)
  rw [hv.out]
  have Z6:=Lib.hid (WAt.below Z5.out b6);have B6:=Lib.hid (bt B5.out b6)
  clear b6 sb sb2 d0 d1 d2 e0 e1 e2
  have r0:=Z6.out.c0;have r1:=Z6.out.c1;have r2:=Z6.out.c2;have f0:=Z6.out.f0;have f1:=Z6.out.f1;have f2:=Z6.out.f2
  go_wp2_with fail
  refine bodyPost_ret (v:=.tuple #[.agg #[.bool nb,.int .u64 (nh:Int),.int .u64 (nl:Int)],.int .i64 0]) (by simp [results,Tryz.results155,go_sem,r0,r1,r2]) rfl ⟨by rw [hv.out],((B6.out.setCell (by simp;omega) _).setCell (by simp;omega) _).setCell (by simp;omega) _⟩
 ·have c2:decide (c<0)=false:=by simpa using c1
  clear c1
  have d0:=X3.out.c0;have d1:=X3.out.c1;have d2:=X3.out.c2;have e0:=Y3.out.c0;have e1:=Y3.out.c1;have e2:=Y3.out.c2
  go_wp2_with (simp only [sb,sb2])
  refine (put_any s H L _ HS.out.1 HS.out.2.1).mono ?_
  rintro e w6 ⟨rfl,b6⟩
  obtain ⟨nb,nh,nl,hv⟩:=wv_agg (wz s H L)
  rw [hv.out]
  have Z6:=Lib.hid (WAt.below Z3.out b6);have B6:=Lib.hid (bt B3.out b6)
  clear b6 sb sb2 d0 d1 d2 e0 e1 e2
  have r0:=Z6.out.c0;have r1:=Z6.out.c1;have r2:=Z6.out.c2;have f0:=Z6.out.f0;have f1:=Z6.out.f1;have f2:=Z6.out.f2
  go_wp2_with fail
  refine bodyPost_ret (v:=.tuple #[.agg #[.bool nb,.int .u64 (nh:Int),.int .u64 (nl:Int)],.int .i64 0]) (by simp [results,Tryz.results155,go_sem,r0,r1,r2]) rfl ⟨by rw [hv.out],((B6.out.setCell (by simp;omega) _).setCell (by simp;omega) _).setCell (by simp;omega) _⟩
theorem wAdd_any (n1 n2:Bool) (h1 l1 h2 l2:Nat) (w:World) (b1:h1<18446744073709551616) (b2:l1<18446744073709551616) (b3:h2<18446744073709551616) (b4:l2<18446744073709551616) :
  Calls Tryz.prog 155 #[.agg #[.bool n1,.int .u64 (h1:Int),.int .u64 (l1:Int)],.agg #[.bool n2,.int .u64 (h2:Int),.int .u64 (l2:Int)]] w fun e w'=>e=.returned (ovV (wz n1 h1 l1+wz n2 h2 l2))∧Below w.heap.size w w':=by
 by_cases h:n1=n2
 ·subst h;exact wAdd_same n1 h1 l1 h2 l2 w b1 b2 b3 b4
 ·obtain rfl:n2=!n1:=by cases n1<;>cases n2<;>simp_all
  exact wAdd_diff n1 h1 l1 h2 l2 w b1 b2 b3 b4
end Go.Proofs.YteagpbkbdlmdiaaGreat
namespace Go.Proofs.YteagpbkbdlmdiaaGreat
open Go.RowKit
attribute [local go_sem ↓] Go.wp_at_zero Go.wp_at_succ
theorem wv_is (n:Bool) (hi lo:Nat) (h:lo<18446744073709551616) (b:Bool) (hb:(n && decide (0<hi∨0<lo))=b):wv (wz n hi lo)=.agg #[.bool b,.int .u64 (hi:Int),.int .u64 (lo:Int)]:=by
 rw [wv_wz n hi lo h,hb];rfl
theorem cmp_parts (n1 n2:Bool) (h1 l1 h2 l2:Nat) (p q:Bool) (hp:(n1 && decide (0<h1∨0<l1))=p) (hq:(n2 && decide (0<h2∨0<l2))=q) :
  cmpZ (wz n1 h1 l1) (wz n2 h2 l2)=if p=true then (if q=true then cmpZ ((h2*18446744073709551616+l2:Nat):Int) ((h1*18446744073709551616+l1:Nat):Int) else -1) else (if q=true then 1 else cmpZ ((h1*18446744073709551616+l1:Nat):Int) ((h2*18446744073709551616+l2:Nat):Int)):=by
 have a1:=wz_abs n1 h1 l1;have a2:=wz_abs n2 h2 l2
 have s1:=wz_neg n1 h1 l1;have s2:=wz_neg n2 h2 l2
 rw [hp] at s1;rw [hq] at s2
 generalize wz n1 h1 l1=x at*
 generalize wz n2 h2 l2=y at*
 have e1:((h1*18446744073709551616+l1:Nat):Int)=(x.natAbs:Int):=by rw [a1]
 have e2:((h2*18446744073709551616+l2:Nat):Int)=(y.natAbs:Int):=by rw [a2]
 rw [e1,e2]
 clear a1 a2 e1 e2 hp hq
 cases p<;>cases q<;>simp only [decide_eq_true_eq,decide_eq_false_iff_not,Bool.false_eq_true,if_false,if_true] at s1 s2⊢<;>unfold cmpZ<;>(repeat' split)<;>omega
def CmpMid (B1:Nat) (w:World) (p q:Bool) (h1 l1 h2 l2:Nat) (wx:World):Prop:=
 WAt wx B1 p h1 l1∧WAt wx (B1+1) q h2 l2∧Below w.heap.size w wx
theorem below_set3 {w w':World} {B b:Nat} (u0 u1 u2:Value) (h:Below B w w') (hb:B≤b):Below B w (((w'.setCell ⟨b,0,none⟩ u0).setCell ⟨b,1,none⟩ u1).setCell ⟨b,2,none⟩ u2):=((h.setCell hb _).setCell hb _).setCell hb _
theorem wAt_other3 {w:World} {b b':Nat} {n:Bool} {h l:Int} (u0 u1 u2:Value) (H:WAt w b n h l) (hb:b ≠ b'):WAt (((w.setCell ⟨b',0,none⟩ u0).setCell ⟨b',1,none⟩ u1).setCell ⟨b',2,none⟩ u2) b n h l:=by
 unfold WAt;rw [Below.heap_setCell _ _ _ _ hb,Below.heap_setCell _ _ _ _ hb,Below.heap_setCell _ _ _ _ hb];exact H
set_option maxRecDepth 100000 in
set_option maxHeartbeats 4000000 in
theorem wCmp_any (n1 n2:Bool) (h1 l1 h2 l2:Nat) (w:World) (b1:h1<18446744073709551616) (b2:l1<18446744073709551616) (b3:h2<18446744073709551616) (b4:l2<18446744073709551616) :
  Calls Tryz.prog 154 #[.agg #[.bool n1,.int .u64 (h1:Int),.int .u64 (l1:Int)],.agg #[.bool n2,.int .u64 (h2:Int),.int .u64 (l2:Int)]] w (IntPost (cmpZ (wz n1 h1 l1) (wz n2 h2 l2)) w):=by
 obtain ⟨p,hp⟩:∃ p:Bool,Hid ((n1 && decide (0<h1∨0<l1))=p):=⟨_,rfl⟩
 obtain ⟨q,hq⟩:∃ q:Bool,Hid ((n2 && decide (0<h2∨0<l2))=q):=⟨_,rfl⟩
 have HV:=Lib.hid (wv_is n1 h1 l1 b2 p hp.out);have HU:=Lib.hid (wv_is n2 h2 l2 b4 q hq.out)
 have HL:Hid (h1<18446744073709551616∧l1<18446744073709551616∧h2<18446744073709551616∧l2<18446744073709551616):=⟨b1,b2,b3,b4⟩
 rw [cmp_parts n1 n2 h1 l1 h2 l2 p q hp.out hq.out]
 obtain ⟨c,hc⟩:∃ c,Hid (cmpZ ((h1*18446744073709551616+l1:Nat):Int) ((h2*18446744073709551616+l2:Nat):Int)=c):=⟨_,rfl⟩
 obtain ⟨d,hd⟩:∃ c,Hid (cmpZ ((h2*18446744073709551616+l2:Nat):Int) ((h1*18446744073709551616+l1:Nat):Int)=c):=⟨_,rfl⟩
 rw [hc.out,hd.out]
 obtain ⟨res,hres⟩:∃ r,Hid ((if p=true then (if q=true then d else -1) else (if q=true then 1 else c))=r):=⟨_,rfl⟩
 rw [hres.out]
 have ne1:w.heap.size ≠ w.heap.size+1:=by omega
 have ne2:w.heap.size+1 ≠ w.heap.size:=by omega
 clear b1 b2 b3 b4
 go_enter Tryz.func154,Tryz.ntmps154
 go_upto_region 1 with fail
 obtain ⟨X0,Y0⟩:=two_wide w n1 n2 h1 l1 h2 l2
 have X:=Lib.hid X0;have Y:=Lib.hid Y0
 have B:Hid (Below w.heap.size w ((w.alloc (.cells #[.bool n1,.int .u64 (h1:Int),.int .u64 (l1:Int)] 97)).alloc (.cells #[.bool n2,.int .u64 (h2:Int),.int .u64 (l2:Int)] 97))):=bt (ba _ _) (ba _ _)
 clear X0 Y0
 generalize World.alloc (World.alloc w _) _=W2 at X Y B⊢
 have d0:=X.out.c0;have d1:=X.out.c1;have d2:=X.out.c2;have e0:=Y.out.c0;have e1:=Y.out.c1;have e2:=Y.out.c2
 go_cut [] (fun wx=>CmpMid w.heap.size w p q h1 l1 h2 l2 wx)
 case first=>
  refine wp_region_head 14 (by kernel_rfl) (by kernel_rfl) ?_
  refine wp_head_held (S:=fun w'=>w'.cell? ⟨w.heap.size,0,none⟩=some (.bool n1)∧w'.cell? ⟨w.heap.size,1,none⟩=some (.int .u64 (h1:Int))∧w'.cell? ⟨w.heap.size,2,none⟩=some (.int .u64 (l1:Int))∧w'.cell? ⟨w.heap.size+1,0,none⟩=some (.bool n2)∧w'.cell? ⟨w.heap.size+1,1,none⟩=some (.int .u64 (h2:Int))∧w'.cell? ⟨w.heap.size+1,2,none⟩=some (.int .u64 (l2:Int))) 14 rfl ?_
  simp only [List.take_succ_cons,List.take_zero,List.drop_succ_cons,List.drop_zero]
  have HS0:(fun w':World=>w'.cell? ⟨w.heap.size,0,none⟩=some (.bool n1)∧w'.cell? ⟨w.heap.size,1,none⟩=some (.int .u64 (h1:Int))∧w'.cell? ⟨w.heap.size,2,none⟩=some (.int .u64 (l1:Int))∧w'.cell? ⟨w.heap.size+1,0,none⟩=some (.bool n2)∧w'.cell? ⟨w.heap.size+1,1,none⟩=some (.int .u64 (h2:Int))∧w'.cell? ⟨w.heap.size+1,2,none⟩=some (.int .u64 (l2:Int))) W2.drew:=⟨d0,d1,d2,e0,e1,e2⟩
  (refine wpAnyH_take (i:=0) (v:=?_) rfl (by kernel_rfl) (by kernel_rfl) (by kernel_rfl) (fun _ _ _ h=>h) (Or.inl ⟨by rfl,?_⟩) HS0 ?_;case refine_2=>(intro w hSw;(try dsimp only at hSw);go_simp;try with_reducible rfl);try simp only [Act.put,List.setIfInBounds_toArray,List.set_cons_zero,List.set_cons_succ])
  (refine wpAnyH_take (i:=1) (v:=?_) rfl (by kernel_rfl) (by kernel_rfl) (by kernel_rfl) (fun _ _ _ h=>h) (Or.inl ⟨by rfl,?_⟩) HS0 ?_;case refine_2=>(intro w hSw;(try dsimp only at hSw);go_simp;try with_reducible rfl);try simp only [Act.put,List.setIfInBounds_toArray,List.set_cons_zero,List.set_cons_succ])
  (refine wpAnyH_take (i:=2) (v:=?_) rfl (by kernel_rfl) (by kernel_rfl) (by kernel_rfl) (fun _ _ _ h=>h) (Or.inl ⟨by rfl,?_⟩) HS0 ?_;case refine_2=>(intro w hSw;(try dsimp only at hSw);go_simp;try with_reducible rfl);try simp only [Act.put,List.setIfInBounds_toArray,List.set_cons_zero,List.set_cons_succ])
  (refine wpAnyH_take (i:=3) (v:=?_) rfl (by kernel_rfl) (by kernel_rfl) (by kernel_rfl) (fun _ _ _ h=>h) (Or.inl ⟨by rfl,?_⟩) HS0 ?_;case refine_2=>(intro w hSw;(try dsimp only at hSw);go_simp;try with_reducible rfl);try simp only [Act.put,List.setIfInBounds_toArray,List.set_cons_zero,List.set_cons_succ])
  (refine wpAnyH_take (i:=4) (v:=?_) rfl (by kernel_rfl) (by kernel_rfl) (by kernel_rfl) (fun _ _ _ h=>h) (Or.inl ⟨by rfl,?_⟩) HS0 ?_;case refine_2=>(intro w hSw;(try dsimp only at hSw);go_simp;try with_reducible rfl);try simp only [Act.put,List.setIfInBounds_toArray,List.set_cons_zero,List.set_cons_succ])
  (refine wpAnyH_take (i:=5) (v:=?_) rfl (by kernel_rfl) (by kernel_rfl) (by kernel_rfl) (fun _ _ _ h=>h) (Or.inl ⟨by rfl,?_⟩) HS0 ?_;case refine_2=>(intro w hSw;(try dsimp only at hSw);go_simp;try with_reducible rfl);try simp only [Act.put,List.setIfInBounds_toArray,List.set_cons_zero,List.set_cons_succ])
  (refine wpAnyH_take (i:=7) (v:=?_) rfl (by kernel_rfl) (by kernel_rfl) (by kernel_rfl) (fun _ _ _ h=>h) (Or.inl ⟨by rfl,?_⟩) HS0 ?_;case refine_2=>(intro w hSw;(try dsimp only at hSw);go_simp;try with_reducible rfl);try simp only [Act.put,List.setIfInBounds_toArray,List.set_cons_zero,List.set_cons_succ])
  (refine wpAnyH_take (i:=8) (v:=?_) rfl (by kernel_rfl) (by kernel_rfl) (by kernel_rfl) (fun _ _ _ h=>h) (Or.inl ⟨by rfl,?_⟩) HS0 ?_;case refine_2=>(intro w hSw;(try dsimp only at hSw);go_simp;try with_reducible rfl);try simp only [Act.put,List.setIfInBounds_toArray,List.set_cons_zero,List.set_cons_succ])
  (refine wpAnyH_take (i:=9) (v:=?_) rfl (by kernel_rfl) (by kernel_rfl) (by kernel_rfl) (fun _ _ _ h=>h) (Or.inl ⟨by rfl,?_⟩) HS0 ?_;case refine_2=>(intro w hSw;(try dsimp only at hSw);go_simp;try with_reducible rfl);try simp only [Act.put,List.setIfInBounds_toArray,List.set_cons_zero,List.set_cons_succ])
  (refine wpAnyH_take (i:=10) (v:=?_) rfl (by kernel_rfl) (by kernel_rfl) (by kernel_rfl) (fun _ _ _ h=>h) (Or.inl ⟨by rfl,?_⟩) HS0 ?_;case refine_2=>(intro w hSw;(try dsimp only at hSw);go_simp;try with_reducible rfl);try simp only [Act.put,List.setIfInBounds_toArray,List.set_cons_zero,List.set_cons_succ])
  (refine wpAnyH_take (i:=11) (v:=?_) rfl (by kernel_rfl) (by kernel_rfl) (by kernel_rfl) (fun _ _ _ h=>h) (Or.inl ⟨by rfl,?_⟩) HS0 ?_;case refine_2=>(intro w hSw;(try dsimp only at hSw);go_simp;try with_reducible rfl);try simp only [Act.put,List.setIfInBounds_toArray,List.set_cons_zero,List.set_cons_succ])
  (refine wpAnyH_take (i:=12) (v:=?_) rfl (by kernel_rfl) (by kernel_rfl) (by kernel_rfl) (fun _ _ _ h=>h) (Or.inl ⟨by rfl,?_⟩) HS0 ?_;case refine_2=>(intro w hSw;(try dsimp only at hSw);go_simp;try with_reducible rfl);try simp only [Act.put,List.setIfInBounds_toArray,List.set_cons_zero,List.set_cons_succ])
  have B0:Below W2.heap.size W2 W2.drew:=(Below.refl _ _).drew
  generalize W2.drew=W3 at HS0 B0⊢
  refine wpAnyH_ready (rs:=[6]) (by kernel_rfl) (by simp) ?_
  refine AllReadyH.cons (o:=_) rfl (fun K hK=>?_) AllReadyH.nil
  go_simp
  go_at_call 110
  (with_reducible refine (put_any n1 h1 l1 _ HL.out.1 HL.out.2.1).mono ?_);rintro e w4 ⟨rfl,b4⟩;rw [HV.out]
  have B4:=bt B0 b4
  refine hK.out _ _ ⟨(WAt.below X.out B4).c0,(WAt.below X.out B4).c1,(WAt.below X.out B4).c2,(WAt.below Y.out B4).c0,(WAt.below Y.out B4).c1,(WAt.below Y.out B4).c2⟩ (fun _=>?_)
  refine wpAnyH_ready (rs:=[13]) (by kernel_rfl) (by simp) ?_
  refine AllReadyH.cons (o:=_) rfl (fun K hK=>?_) AllReadyH.nil
  go_simp
  go_at_call 110
  (with_reducible refine (put_any n2 h2 l2 _ HL.out.2.2.1 HL.out.2.2.2).mono ?_);rintro e w5 ⟨rfl,b5⟩;rw [HU.out]
  have B5:=bt B4 b5
  refine hK.out _ _ ⟨(WAt.below X.out B5).c0,(WAt.below X.out B5).c1,(WAt.below X.out B5).c2,(WAt.below Y.out B5).c0,(WAt.below Y.out B5).c1,(WAt.below Y.out B5).c2⟩ (fun _=>?_)
  refine wpAnyH_done (by kernel_rfl) ?_ _
  have X5:=Lib.hid (WAt.below X.out B5)
  have Y5:=Lib.hid (WAt.below Y.out B5)
  have C5:=Lib.hid B5
  clear b4 b5 B4 B5 HS0 hK
  have x0:=X5.out.c0;have x1:=X5.out.c1;have x2:=X5.out.c2;have x3:=X5.out.f0;have x4:=X5.out.f1;have x5:=X5.out.f2
  have y0:=Y5.out.c0;have y1:=Y5.out.c1;have y2:=Y5.out.c2;have y3:=Y5.out.f0;have y4:=Y5.out.f1;have y5:=Y5.out.f2
  dsimp only [headQ]
  go_wp2_with fail
  go_meet
  case rel=>
   exact ⟨wAt_other3 _ _ _ (wAt_set3 _ _ _ X5.out) ne1,wAt_set3 _ _ _ (wAt_other3 _ _ _ Y5.out ne2),below_set3 _ _ _ (below_set3 _ _ _ (bt B.out C5.out) (Nat.le_refl _)) (Nat.le_succ _)⟩
 case rest=>
  obtain ⟨X5,Y5,B5⟩:=hcut
  have X6:=Lib.hid X5;have Y6:=Lib.hid Y5;have B6:=Lib.hid B5
  clear d0 d1 d2 e0 e1 e2 X5 Y5 B5
  have d0:=X6.out.c0;have d1:=X6.out.c1;have d2:=X6.out.c2;have e0:=Y6.out.c0;have e1:=Y6.out.c1;have e2:=Y6.out.c2
  clear ne1 ne2
  cases p<;>cases q
  ·go_wp2_with fail
   refine (above_any false false h1 l1 h2 l2 c _ HL.out.2.1 HL.out.2.2.2 hc.out).mono ?_
   rintro e w7 ⟨rfl,b7⟩
   rw [show c=res from hres.out]
   go_wp2_with fail
   go_ret
   exact ⟨rfl,bt B6.out b7⟩
  ·obtain rfl:1=res:=hres.out
   go_wp2_with fail
   go_ret
   exact ⟨rfl,B6.out⟩
  ·obtain rfl:-1=res:=hres.out
   go_wp2_with fail
   go_ret
   exact ⟨rfl,B6.out⟩
  ·go_wp2_with fail
   refine (above_any true true h2 l2 h1 l1 d _ HL.out.2.2.2 HL.out.2.1 hd.out).mono ?_
   rintro e w7 ⟨rfl,b7⟩
   rw [show d=res from hres.out]
   go_wp2_with fail
   go_ret
   exact ⟨rfl,bt B6.out b7⟩
end Go.Proofs.YteagpbkbdlmdiaaGreat
