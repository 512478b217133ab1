/-
  THE WALKS of wide's put, size, Of, Neg, Ten; THE WALKS of wide's size, Of, Neg, Mul, Small, Ten, parts, Div; TWO VARIABLES of type api.Wide, just laid; THE WALK of wide's Times; THE WALKS of wide's parts, Div.
-/
import Derived.Test.YteagpbkbdlmdiaaGreatQ13
set_option linter.unusedSimpArgs false
set_option linter.unusedVariables false
namespace Go.Proofs.YteagpbkbdlmdiaaGreat
open Go.RowKit
attribute [local go_sem ↓] Go.wp_at_zero Go.wp_at_succ
def wr (n:Bool) (hi lo:Nat):Value:=.agg #[.bool n,.int .u64 (hi:Int),.int .u64 (lo:Int)]
def wv (z:Int):Value:=wr (decide (z<0)) (z.natAbs / 18446744073709551616) (z.natAbs % 18446744073709551616)
theorem wz_abs (n:Bool) (hi lo:Nat):(wz n hi lo).natAbs=hi*18446744073709551616+lo:=by
 unfold wz;cases n<;>simp<;>omega
theorem wz_neg (n:Bool) (hi lo:Nat):decide (wz n hi lo<0)=(n && decide (0<hi∨0<lo)):=by
 unfold wz
 cases n
 ·rw [if_neg (by decide),Bool.false_and,decide_eq_false_iff_not];omega
 ·rw [if_pos rfl,Bool.true_and,decide_eq_decide];omega
theorem wv_wz (n:Bool) (hi lo:Nat) (hl:lo<18446744073709551616):wv (wz n hi lo)=wr (n && decide (0<hi∨0<lo)) hi lo:=by
 unfold wv
 rw [wz_abs,wz_neg,show (hi*18446744073709551616+lo) / 18446744073709551616=hi by omega,show (hi*18446744073709551616+lo) % 18446744073709551616=lo by omega]
theorem or_ne (hi lo:Nat) (h1:hi<18446744073709551616) (h2:lo<18446744073709551616):(bits .or .u64 (hi:Int) (lo:Int)=0)↔¬(0<hi∨0<lo):=by
 rw [bits_or_u64_nat hi lo h1 h2]
 have a:hi ||| lo=0↔hi=0∧lo=0:=Nat.or_eq_zero_iff
 omega
set_option maxRecDepth 100000 in
theorem put_any (n:Bool) (hi lo:Nat) (w:World) (h1:hi<18446744073709551616) (h2:lo<18446744073709551616) :
  Calls Tryz.prog 110 #[.bool n,.int .u64 (hi:Int),.int .u64 (lo:Int)] w fun e w'=>e=.returned (wv (wz n hi lo))∧Below w.heap.size w w':=by
 rw [wv_wz n hi lo h2]
 have hor:=or_ne hi lo h1 h2
 have r0:=(wAt_new w false 0 0).c0;have r1:=(wAt_new w false 0 0).c1;have r2:=(wAt_new w false 0 0).c2
 have f0:=(wAt_new w false 0 0).f0;have f1:=(wAt_new w false 0 0).f1;have f2:=(wAt_new w false 0 0).f2
 clear h1 h2
 cases n
 ·go_enter Tryz.func110,Tryz.ntmps110
  go_wp2_with fail
  refine bodyPost_ret (v:=wr false hi lo) (by simp [results,Tryz.results110,go_sem,r0,r1,r2,wr]) rfl ⟨rfl,ba _ _⟩
 ·by_cases hz:0<hi∨0<lo
  ·have hb:¬(bits .or .u64 (hi:Int) (lo:Int)=0):=fun h=>hor.1 h hz
   go_enter Tryz.func110,Tryz.ntmps110
   go_wp2_with fail
   refine bodyPost_ret (v:=wr true hi lo) (by simp [results,Tryz.results110,go_sem,r0,r1,r2,wr,hb]) rfl ⟨by simp [hz],ba _ _⟩
  ·have hb:bits .or .u64 (hi:Int) (lo:Int)=0:=hor.2 hz
   go_enter Tryz.func110,Tryz.ntmps110
   go_wp2_with fail
   refine bodyPost_ret (v:=wr false hi lo) (by simp [results,Tryz.results110,go_sem,r0,r1,r2,wr,hb]) rfl ⟨by simp [hz],ba _ _⟩
end Go.Proofs.YteagpbkbdlmdiaaGreat
namespace Go.Proofs.YteagpbkbdlmdiaaGreat
set_option maxRecDepth 100000
open Go.RowKit
attribute [local go_sem ↓] Go.wp_at_zero Go.wp_at_succ
theorem wv_agg (z:Int):∃ (nb:Bool) (nh nl:Nat),Hid (wv z=.agg #[.bool nb,.int .u64 (nh:Int),.int .u64 (nl:Int)]):=⟨_,_,_,rfl⟩
def WvPost (z:Int) (w:World) (e:Ending) (w':World):Prop:=e=.returned (wv z)∧Below w.heap.size w w'
theorem size_any (n:Int) (w:World) (h0:-9223372036854775808≤n) (h1:n≤9223372036854775807) :
  Calls Tryz.prog 111 #[.int .i64 n] w fun e w'=>e=.returned (.int .u64 (n.natAbs:Int))∧w'=w:=by
 by_cases hn:n<0
 ·have e1:IntKind.u64.wrap n=n+18446744073709551616:=by rw [IntKind.wrap_u64];omega
  have e2:IntKind.u64.wrap (-(n+18446744073709551616))=(n.natAbs:Int):=by rw [IntKind.wrap_u64];omega
  go_enter Tryz.func111,Tryz.ntmps111
  go_wp2_with fail
  go_ret
  exact ⟨by first | rfl | (simp only [e1,e2]),rfl⟩
 ·have e1:IntKind.u64.wrap n=(n.natAbs:Int):=by rw [IntKind.wrap_u64];omega
  go_enter Tryz.func111,Tryz.ntmps111
  go_wp2_with fail
  go_ret
  exact ⟨by first | rfl | (simp only [e1]),rfl⟩
theorem wz_of (n:Int):wz (decide (n<0)) (0:Nat) (n.natAbs:Nat)=n:=by
 unfold wz
 by_cases h:n<0
 ·rw [if_pos (by simpa using h)];omega
 ·rw [if_neg (by simpa using h)];omega
theorem wOf_any (n:Int) (w:World) (h0:-9223372036854775808≤n) (h1:n≤9223372036854775807) :
  Calls Tryz.prog 53 #[.int .i64 n] w (WvPost n w):=by
 obtain ⟨b,hb⟩:∃ b:Bool,Hid (decide (n<0)=b):=⟨_,rfl⟩
 have hb':=hb.out
 go_enter Tryz.func53,Tryz.ntmps53
 go_wp2_with fail
 refine (size_any n _ h0 h1).mono ?_
 rintro e w1 ⟨rfl,rfl⟩
 go_wp2_with fail
 refine (put_any b 0 n.natAbs _ (by omega) (by omega)).mono ?_
 rintro e w2 ⟨rfl,b2⟩
 rw [show wz b (0:Nat) (n.natAbs:Nat)=n from by rw [←hb.out];exact wz_of n]
 obtain ⟨nb,nh,nl,hv⟩:=wv_agg n
 rw [hv.out]
 have Y:=Lib.hid (WAt.below (wAt_new w false 0 0) b2)
 have r0:=Y.out.c0;have r1:=Y.out.c1;have r2:=Y.out.c2;have f0:=Y.out.f0;have f1:=Y.out.f1;have f2:=Y.out.f2
 have B:=Lib.hid (bt (ba _ _) b2)
 clear hb hb' h0 h1 b2
 go_wp2_with fail
 refine bodyPost_ret (v:=.agg #[.bool nb,.int .u64 (nh:Int),.int .u64 (nl:Int)]) (by simp [results,Tryz.results53,go_sem,r0,r1,r2]) rfl ⟨by rw [hv.out],((B.out.setCell (Nat.le_refl _) _).setCell (Nat.le_refl _) _).setCell (Nat.le_refl _) _⟩
theorem wNeg_any (n:Bool) (hi lo:Nat) (w:World) (h1:hi<18446744073709551616) (h2:lo<18446744073709551616) :
  Calls Tryz.prog 123 #[.agg #[.bool n,.int .u64 (hi:Int),.int .u64 (lo:Int)]] w (WvPost (-(wz n hi lo)) w):=by
 have HL:Hid (hi<18446744073709551616∧lo<18446744073709551616):=⟨h1,h2⟩
 clear h1 h2
 go_enter Tryz.func123,Tryz.ntmps123
 go_wp2_with fail
 refine (put_any (!n) hi lo _ HL.out.1 HL.out.2).mono ?_
 rintro e w2 ⟨rfl,b2⟩
 rw [show wz (!n) hi lo= -(wz n hi lo) from by unfold wz;cases n<;>simp<;>omega]
 obtain ⟨nb,nh,nl,hv⟩:=wv_agg (-(wz n hi lo))
 rw [hv.out]
 have Y:Hid (WAt w2 (w.heap.size+1) false 0 0):=by
  have:=WAt.below (wAt_new (w.alloc (.cells #[.bool n,.int .u64 (hi:Int),.int .u64 (lo:Int)] 97)) false 0 0) b2
  rw [World.size_alloc] at this;exact this
 have r0:=Y.out.c0;have r1:=Y.out.c1;have r2:=Y.out.c2;have f0:=Y.out.f0;have f1:=Y.out.f1;have f2:=Y.out.f2
 have B:=Lib.hid (bt (ba _ _) (bt (ba _ _) b2))
 clear b2
 go_wp2_with fail
 refine bodyPost_ret (v:=.agg #[.bool nb,.int .u64 (nh:Int),.int .u64 (nl:Int)]) (by simp [results,Tryz.results123,go_sem,r0,r1,r2]) rfl ⟨by rw [hv.out],((B.out.setCell (by simp) _).setCell (by simp) _).setCell (by simp) _⟩
theorem wz_mul (a b:Int):wz (decide (a<0) !=decide (b<0)) (a.natAbs*b.natAbs / 18446744073709551616:Nat) (a.natAbs*b.natAbs % 18446744073709551616:Nat)=a*b:=by
 have e:((a.natAbs*b.natAbs / 18446744073709551616:Nat):Int)*18446744073709551616+((a.natAbs*b.natAbs % 18446744073709551616:Nat):Int)=(a.natAbs:Int)*(b.natAbs:Int):=by
  rw [←Int.natCast_mul];omega
 unfold wz
 rw [e]
 by_cases ha:a<0<;>by_cases hb:b<0<;>simp only [ha,hb,decide_true,decide_false]<;>simp
 ·rw [show (a.natAbs:Int)= -a by omega,show (b.natAbs:Int)= -b by omega,Int.neg_mul_neg]
 ·rw [show (a.natAbs:Int)= -a by omega,show (b.natAbs:Int)=b by omega,Int.neg_mul,Int.neg_neg]
 ·rw [show (a.natAbs:Int)=a by omega,show (b.natAbs:Int)= -b by omega,Int.mul_neg,Int.neg_neg]
 ·rw [show (a.natAbs:Int)=a by omega,show (b.natAbs:Int)=b by omega]
theorem wMul_any (a b:Int) (w:World) (a0:-9223372036854775808≤a) (a1:a≤9223372036854775807) (b0:-9223372036854775808≤b) (b1:b≤9223372036854775807) :
  Calls Tryz.prog 124 #[.int .i64 a,.int .i64 b] w (WvPost (a*b) w):=by
 obtain ⟨p,hp⟩:∃ p:Bool,Hid (decide (a<0)=p):=⟨_,rfl⟩
 obtain ⟨q,hq⟩:∃ q:Bool,Hid (decide (b<0)=q):=⟨_,rfl⟩
 have hp':=hp.out;have hq':=hq.out
 obtain ⟨H,hH⟩:∃ H:Nat,Hid (a.natAbs*b.natAbs / 18446744073709551616=H):=⟨_,rfl⟩
 obtain ⟨L,hL⟩:∃ L:Nat,Hid (a.natAbs*b.natAbs % 18446744073709551616=L):=⟨_,rfl⟩
 have lH:H<18446744073709551616:=by
  rw [←hH.out,Nat.div_lt_iff_lt_mul (by decide)]
  have:=Nat.mul_le_mul (show a.natAbs≤9223372036854775808 by omega) (show b.natAbs≤9223372036854775808 by omega)
  omega
 have lL:L<18446744073709551616:=by rw [←hL.out];exact Nat.mod_lt _ (by decide)
 have HA:Hid (-9223372036854775808≤a∧a≤9223372036854775807∧ -9223372036854775808≤b∧b≤9223372036854775807):=⟨a0,a1,b0,b1⟩
 have LL:=Lib.hid (And.intro lH lL)
 have NA:Hid (a.natAbs<18446744073709551616∧b.natAbs<18446744073709551616):=⟨by omega,by omega⟩
 clear a0 a1 b0 b1 lH lL
 go_enter Tryz.func124,Tryz.ntmps124
 go_wp2_with fail
 refine (size_any a _ HA.out.1 HA.out.2.1).mono ?_
 rintro e w1 ⟨rfl,rfl⟩
 go_wp2_with fail
 refine (size_any b _ HA.out.2.2.1 HA.out.2.2.2).mono ?_
 rintro e w1 ⟨rfl,rfl⟩
 go_wp2_with fail
 refine (mul64_any a.natAbs b.natAbs NA.out.1 NA.out.2 _).mono ?_
 rintro e w1 ⟨rfl,rfl⟩
 rw [hH.out,hL.out]
 go_wp2_with fail
 refine (put_any (p !=q) H L _ LL.out.1 LL.out.2).mono ?_
 rintro e w2 ⟨rfl,b2⟩
 rw [show wz (p !=q) H L=a*b from by rw [←hp.out,←hq.out,←hH.out,←hL.out];exact wz_mul a b]
 obtain ⟨nb,nh,nl,hv⟩:=wv_agg (a*b)
 rw [hv.out]
 have Y:=Lib.hid (WAt.below (wAt_new w false 0 0) b2)
 have r0:=Y.out.c0;have r1:=Y.out.c1;have r2:=Y.out.c2;have f0:=Y.out.f0;have f1:=Y.out.f1;have f2:=Y.out.f2
 have B:=Lib.hid (bt (ba _ _) b2)
 clear hp' hq' b2
 go_wp2_with fail
 refine bodyPost_ret (v:=.agg #[.bool nb,.int .u64 (nh:Int),.int .u64 (nl:Int)]) (by simp [results,Tryz.results124,go_sem,r0,r1,r2]) rfl ⟨by rw [hv.out],((B.out.setCell (Nat.le_refl _) _).setCell (Nat.le_refl _) _).setCell (Nat.le_refl _) _⟩
theorem wSmall_any (n:Bool) (hi lo:Nat) (w:World) (h1:hi<18446744073709551616) (h2:lo<18446744073709551616) :
  Calls Tryz.prog 109 #[.agg #[.bool n,.int .u64 (hi:Int),.int .u64 (lo:Int)]] w fun e w'=>e=.returned (smallV (wz n hi lo))∧Below w.heap.size w w':=by
 by_cases g:-9223372036854775808≤wz n hi lo∧wz n hi lo≤9223372036854775807
 ·have HS:Hid (smallV (wz n hi lo)=.tuple #[.int .i64 (wz n hi lo),.bool true]):=by show _=_;unfold smallV;rw [if_pos g]
  unfold wz at g
  have hh:hi=0:=by cases n<;>simp at g<;>omega
  subst hh
  have t1:decide ((0:Int)<((0:Nat):Int))=false:=by simp
  have t2:decide ((9223372036854775808:Int)<(lo:Int))=false:=by rw [decide_eq_false_iff_not];cases n<;>simp at g<;>omega
  rw [HS.out]
  cases n
  ·have t3:((lo:Int)==9223372036854775808)=false:=by simp at g⊢;omega
   have t3':decide ((lo:Int)=9223372036854775808)=false:=by simp at g⊢;omega
   have t4:¬(9223372036854775808<lo):=by simp at g;omega
   have t5:¬(lo=9223372036854775808):=by simp at g;omega
   have t6:IntKind.i64.wrap (lo:Int)=(lo:Int):=by simp at g;rw [IntKind.wrap_i64];omega
   have ez:Hid (wz false (0:Nat) lo=(lo:Int)):=by show _=_;unfold wz;simp
   rw [ez.out]
   clear g h1 h2
   go_enter Tryz.func109,Tryz.ntmps109
   go_wp2_with fail
   go_ret2
   exact ⟨rfl,ba _ _⟩
  ·have ez:Hid (wz true (0:Nat) lo= -(lo:Int)):=by show _=_;unfold wz;simp
   rw [ez.out]
   have t4:¬(9223372036854775808<lo):=by simp at g;omega
   by_cases e:lo=9223372036854775808
   ·subst e
    clear g h1 h2
    go_enter Tryz.func109,Tryz.ntmps109
    go_wp2_with fail
    go_ret2
    have t:wrap64 (-wrap64 9223372036854775808)= -((9223372036854775808:Nat):Int):=by unfold wrap64;omega
    exact ⟨by rw [←t];rfl,ba _ _⟩
   ·have t3:((lo:Int)==9223372036854775808)=false:=by simp;omega
    have t3':decide ((lo:Int)=9223372036854775808)=false:=by simp;omega
    have t6:IntKind.i64.wrap (lo:Int)=(lo:Int):=by simp at g;rw [IntKind.wrap_i64];omega
    have t7:IntKind.i64.wrap (-(lo:Int))= -(lo:Int):=by simp at g;rw [IntKind.wrap_i64];omega
    clear g h1 h2
    go_enter Tryz.func109,Tryz.ntmps109
    go_wp2_with fail
    go_ret2
    exact ⟨rfl,ba _ _⟩
 ·have HS:Hid (smallV (wz n hi lo)=.tuple #[.int .i64 0,.bool false]):=by show _=_;unfold smallV;rw [if_neg g]
  unfold wz at g
  rw [HS.out]
  by_cases hh:hi=0
  ·subst hh
   by_cases hg:9223372036854775808<lo
   ·have t2:decide ((9223372036854775808:Int)<(lo:Int))=true:=by rw [decide_eq_true_eq];omega
    clear g h1 h2
    go_enter Tryz.func109,Tryz.ntmps109
    go_wp2_with fail
    go_ret2
    exact ⟨rfl,ba _ _⟩
   ·have e:lo=9223372036854775808∧n=false:=by cases n<;>simp at g<;>simp<;>omega
    obtain ⟨rfl,rfl⟩:=e
    clear g h1 h2
    go_enter Tryz.func109,Tryz.ntmps109
    go_wp2_with fail
    go_ret2
    exact ⟨rfl,ba _ _⟩
  ·have t1:decide ((0:Int)<(hi:Int))=true:=by rw [decide_eq_true_eq];omega
   have t1':0<hi:=by omega
   clear g h1 h2
   go_enter Tryz.func109,Tryz.ntmps109
   go_wp2_with fail
   go_ret2
   exact ⟨rfl,ba _ _⟩
theorem wTen_any (n:Int) (w:World) (h0:-9223372036854775808≤n) (h1:n≤9223372036854775807) :
  Calls Tryz.prog 107 #[.int .i64 n] w fun e w'=>e=.returned (.int .u64 (if 0≤n∧n≤19 then ((10 ^ n.toNat:Nat):Int) else 0))∧w'=w:=by
 by_cases g0:n<0
 ·rw [if_neg (by omega)]
  have d1:decide (n<0)=true:=by simpa using g0
  go_enter Tryz.func107,Tryz.ntmps107
  go_wp2_with fail
  go_ret
  exact ⟨rfl,rfl⟩
 ·by_cases g1:19<n
  ·rw [if_neg (by omega)]
   have d1:decide (n<0)=false:=by simpa using g0
   have d2:decide (19<n)=true:=by simpa using g1
   go_enter Tryz.func107,Tryz.ntmps107
   go_wp2_with fail
   go_ret
   exact ⟨rfl,rfl⟩
  ·rw [if_pos (by omega)]
   have d1:decide (n<0)=false:=by simpa using g0
   have d2:decide (19<n)=false:=by simpa using g1
   obtain ⟨m,rfl⟩:=Int.eq_ofNat_of_zero_le (show 0≤n by omega)
   have hm:m≤19:=by omega
   rw [show ((m:Nat):Int).toNat=m from rfl]
   obtain ⟨T,hT⟩:∃ T:Nat,Hid (T=10 ^ m):=⟨_,rfl⟩
   rw [←hT.out]
   clear h0 h1 g0 g1
   go_enter Tryz.func107,Tryz.ntmps107
   go_wp2_with fail
   go_loop [3,11] (fun p i=>∃ k P:Nat,p=.int .u64 (P:Int)∧i=.int .i64 (k:Int)∧k≤m∧Hid (P=10 ^ k)) (fun _ i=>m - (intOf i).toNat)
   case atStart=>exact ⟨0,1,rfl,rfl,Nat.zero_le _,rfl⟩
   case round=>
    obtain ⟨k,P,rfl,rfl,hk,hP⟩:=hrel
    by_cases hlt:k<m
    ·have e1:IntKind.u64.wrap ((P:Int)*10)=(P:Int)*10:=by
      have a:10 ^ k≤10 ^ 18:=Nat.pow_le_pow_right (by decide) (by omega)
      have b:=hP.out
      rw [IntKind.wrap_u64];omega
     have e2:IntKind.i64.wrap ((k:Int)+1)=(k:Int)+1:=by rw [IntKind.wrap_i64];omega
     go_wp2_with fail
     go_round
     case rel=>exact ⟨k+1,P*10,by simp,by simp,by omega,by show _=_;rw [hP.out,Nat.pow_succ]⟩
     case measure=>simp [intOf];omega
    ·have e:k=m:=by omega
     have hP2:Hid (P=T):=by show P=T;rw [hP.out,hT.out,e]
     clear e
     go_wp2_with fail
     go_ret
     exact ⟨by rw [hP2.out];rfl,rfl⟩
end Go.Proofs.YteagpbkbdlmdiaaGreat
namespace Go.Proofs.YteagpbkbdlmdiaaGreat
open Go.RowKit
theorem two_wide (w:World) (n1 n2:Bool) (h1 l1 h2 l2:Int) :
  WAt ((w.alloc (.cells #[.bool n1,.int .u64 h1,.int .u64 l1] 97)).alloc (.cells #[.bool n2,.int .u64 h2,.int .u64 l2] 97)) w.heap.size n1 h1 l1∧
  WAt ((w.alloc (.cells #[.bool n1,.int .u64 h1,.int .u64 l1] 97)).alloc (.cells #[.bool n2,.int .u64 h2,.int .u64 l2] 97)) (w.heap.size+1) n2 h2 l2:=by
 have:=wAt_new (w.alloc (.cells #[.bool n1,.int .u64 h1,.int .u64 l1] 97)) n2 h2 l2
 rw [World.size_alloc] at this
 exact ⟨WAt.below (wAt_new w n1 h1 l1) (ba _ _),this⟩
end Go.Proofs.YteagpbkbdlmdiaaGreat
namespace Go.Proofs.YteagpbkbdlmdiaaGreat
open Go.RowKit
attribute [local go_sem ↓] Go.wp_at_zero Go.wp_at_succ
def ovV (z:Int):Value:=if z.natAbs<340282366920938463463374607431768211456 then .tuple #[wv z,.int .i64 0] else .tuple #[.agg #[.bool false,.int .u64 0,.int .u64 0],.int .i64 11]
theorem times_nat (hi lo m O H0 C L H M:Nat) (a:lo*m=C*18446744073709551616+L) (b:hi*m=O*18446744073709551616+H0) (c:H0+C=M*18446744073709551616+H) :
  (hi*18446744073709551616+lo)*m=(O+M)*340282366920938463463374607431768211456+(H*18446744073709551616+L):=by
 rw [Nat.add_mul,Nat.mul_right_comm,a,b];omega
theorem wz_times (n:Bool) (hi lo m H L:Nat) (h:(hi*18446744073709551616+lo)*m=H*18446744073709551616+L):wz n hi lo*(m:Int)=wz n H L:=by
 have e:((hi:Int)*18446744073709551616+(lo:Int))*(m:Int)=(H:Int)*18446744073709551616+(L:Int):=by
  have:=congrArg (fun x:Nat=>(x:Int)) h
  simpa using this
 unfold wz
 cases n
 ·simpa using e
 ·simp only [if_true,Int.neg_mul,e]
set_option maxRecDepth 100000 in
set_option maxHeartbeats 1000000 in
theorem wTimes_any (n:Bool) (hi lo m:Nat) (w:World) (b1:hi<18446744073709551616) (b2:lo<18446744073709551616) (b3:m<18446744073709551616) :
  Calls Tryz.prog 126 #[.agg #[.bool n,.int .u64 (hi:Int),.int .u64 (lo:Int)],.int .u64 (m:Int)] w fun e w'=>e=.returned (ovV (wz n hi lo*(m:Int)))∧Below w.heap.size w w':=by
 have HB:Hid (hi<18446744073709551616∧lo<18446744073709551616∧m<18446744073709551616):=⟨b1,b2,b3⟩
 have dO:hi*m / 18446744073709551616<18446744073709551615:=by
  rw [Nat.div_lt_iff_lt_mul (by decide)]
  have:=Nat.mul_le_mul (show hi≤18446744073709551615 by omega) (show m≤18446744073709551615 by omega)
  omega
 have dC:lo*m / 18446744073709551616<18446744073709551616:=by
  rw [Nat.div_lt_iff_lt_mul (by decide)]
  have:=Nat.mul_le_mul (show lo≤18446744073709551615 by omega) (show m≤18446744073709551615 by omega)
  omega
 have dL:lo*m % 18446744073709551616<18446744073709551616:=Nat.mod_lt _ (by decide)
 have dH:hi*m % 18446744073709551616<18446744073709551616:=Nat.mod_lt _ (by decide)
 have mA:lo*m=lo*m / 18446744073709551616*18446744073709551616+lo*m % 18446744073709551616:=by omega
 have mD:hi*m=hi*m / 18446744073709551616*18446744073709551616+hi*m % 18446744073709551616:=by omega
 obtain ⟨O,hO⟩:∃ x:Nat,Hid (hi*m / 18446744073709551616=x):=⟨_,rfl⟩
 obtain ⟨H0,hH0⟩:∃ x:Nat,Hid (hi*m % 18446744073709551616=x):=⟨_,rfl⟩
 obtain ⟨C,hC⟩:∃ x:Nat,Hid (lo*m / 18446744073709551616=x):=⟨_,rfl⟩
 obtain ⟨L,hL⟩:∃ x:Nat,Hid (lo*m % 18446744073709551616=x):=⟨_,rfl⟩
 rw [hO.out] at dO mD;rw [hH0.out] at dH mD;rw [hC.out] at dC mA;rw [hL.out] at dL mA
 have ad:=fun w=>add64 (H0:Int) (C:Int) 0 (by omega) (by omega) (by omega) (by omega) (by omega) (by omega) w
 have mS:H0+C=(H0+C) / 18446744073709551616*18446744073709551616+(H0+C) % 18446744073709551616:=by omega
 have kS:(H0+C) / 18446744073709551616≤1:=by omega
 have hS:(H0+C) % 18446744073709551616<18446744073709551616:=Nat.mod_lt _ (by decide)
 obtain ⟨H,hH⟩:∃ x:Nat,Hid ((H0+C) % 18446744073709551616=x):=⟨_,rfl⟩
 obtain ⟨M,hM⟩:∃ x:Nat,Hid ((H0+C) / 18446744073709551616=x):=⟨_,rfl⟩
 rw [show ((H0:Int)+(C:Int)+0) % 18446744073709551616=(H:Int) from by have:=hH.out;omega,show ((H0:Int)+(C:Int)+0) / 18446744073709551616=(M:Int) from by have:=hM.out;omega] at ad
 rw [hM.out] at mS kS;rw [hH.out] at mS hS
 have HT:=Lib.hid (times_nat hi lo m O H0 C L H M mA mD mS)
 have HS:Hid (H<18446744073709551616∧L<18446744073709551616):=⟨hS,dL⟩
 have e1:IntKind.u64.wrap ((O:Int)+(M:Int))=((O+M:Nat):Int):=wrapTo _ _ rfl (by omega)
 obtain ⟨K,hK⟩:∃ x:Nat,Hid (O+M=x):=⟨_,rfl⟩
 rw [hK.out] at e1
 clear b1 b2 b3 dO dC dL dH mA mD mS kS hS
 by_cases hk:K=0
 ·have HE:=Lib.hid (wz_times n hi lo m H L (by rw [HT.out,hK.out,hk];simp))
  have HO:Hid (ovV (wz n hi lo*(m:Int))=.tuple #[wv (wz n H L),.int .i64 0]):=by
   show _=_;unfold ovV;rw [HE.out,wz_abs,if_pos (by have:=HS.out;omega)]
  rw [HO.out]
  subst hk
  go_enter Tryz.func126,Tryz.ntmps126
  go_wp2_with fail
  refine (mul64_any lo m HB.out.2.1 HB.out.2.2 _).mono ?_
  rintro e w1 ⟨rfl,rfl⟩
  rw [hC.out,hL.out]
  go_wp2_with fail
  refine (mul64_any hi m HB.out.1 HB.out.2.2 _).mono ?_
  rintro e w1 ⟨rfl,rfl⟩
  rw [hO.out,hH0.out]
  go_wp2_with (simp only [ad])
  refine (put_any n H L _ HS.out.1 HS.out.2).mono ?_
  rintro e w2 ⟨rfl,b2⟩
  obtain ⟨nb,nh,nl,hv⟩:=wv_agg (wz n H L)
  rw [hv.out]
  have Y:Hid (WAt w2 (w.heap.size+1) false 0 0):=by
   have:=WAt.below (wAt_new (w.alloc (.cells #[.bool n,.int .u64 (hi:Int),.int .u64 (lo:Int)] 97)) false 0 0) b2
   rw [World.size_alloc] at this;exact this
  have r0:=Y.out.c0;have r1:=Y.out.c1;have r2:=Y.out.c2;have f0:=Y.out.f0;have f1:=Y.out.f1;have f2:=Y.out.f2
  have B:=Lib.hid (bt (ba _ _) (bt (ba _ _) b2))
  clear b2 ad e1
  go_wp2_with fail
  refine bodyPost_ret (v:=.tuple #[.agg #[.bool nb,.int .u64 (nh:Int),.int .u64 (nl:Int)],.int .i64 0]) (by simp [results,Tryz.results126,go_sem,r0,r1,r2]) rfl ⟨by rw [hv.out],((B.out.setCell (by simp) _).setCell (by simp) _).setCell (by simp) _⟩
 ·have HO:Hid (ovV (wz n hi lo*(m:Int))=.tuple #[.agg #[.bool false,.int .u64 0,.int .u64 0],.int .i64 11]):=by
   have k1:1≤O+M:=by have:=hK.out;omega
   have k2:=Nat.mul_le_mul_right 340282366920938463463374607431768211456 k1
   show _=_;unfold ovV;rw [Int.natAbs_mul,wz_abs,Int.natAbs_natCast,HT.out,if_neg (by omega)]
  rw [HO.out]
  have t1:decide ((0:Int)<(K:Int))=true:=by rw [decide_eq_true_eq];omega
  have t2:0<K:=by omega
  clear hk
  have Y:=(two_wide w n false hi lo 0 0).2
  have r0:=Y.c0;have r1:=Y.c1;have r2:=Y.c2;have f0:=Y.f0;have f1:=Y.f1;have f2:=Y.f2
  clear Y
  go_enter Tryz.func126,Tryz.ntmps126
  go_wp2_with fail
  refine (mul64_any lo m HB.out.2.1 HB.out.2.2 _).mono ?_
  rintro e w1 ⟨rfl,rfl⟩
  rw [hC.out,hL.out]
  go_wp2_with fail
  refine (mul64_any hi m HB.out.1 HB.out.2.2 _).mono ?_
  rintro e w1 ⟨rfl,rfl⟩
  rw [hO.out,hH0.out]
  go_wp2_with (simp only [ad])
  refine bodyPost_ret (v:=.tuple #[.agg #[.bool false,.int .u64 0,.int .u64 0],.int .i64 11]) (by simp [results,Tryz.results126,go_sem,r0,r1,r2]) rfl ⟨rfl,?_⟩
  first | exact bt (ba _ _) (ba _ _) | exact (((bt (ba _ _) (ba _ _)).setCell (by simp) _).setCell (by simp) _).setCell (by simp) _
end Go.Proofs.YteagpbkbdlmdiaaGreat
namespace Go.Proofs.YteagpbkbdlmdiaaGreat
set_option maxRecDepth 100000
set_option maxHeartbeats 1000000
open Go.RowKit
attribute [local go_sem ↓] Go.wp_at_zero Go.wp_at_succ
theorem parts_plain (hi lo d:Nat) (hd:0<d) :
  (hi*18446744073709551616+lo) / d=hi / d*18446744073709551616+(hi % d*18446744073709551616+lo) / d∧(hi*18446744073709551616+lo) % d=(hi % d*18446744073709551616+lo) % d:=by
 have:=Dv.bothB 18446744073709551616 0 hi lo d hd
 rw [Nat.zero_mul,Nat.zero_add] at this
 exact this
theorem parts_lt (hi lo d:Nat) (hd:0<d) (hl:lo<18446744073709551616):(hi % d*18446744073709551616+lo) / d<18446744073709551616:=by
 rw [Nat.div_lt_iff_lt_mul hd]
 have l:=Nat.mod_lt hi hd
 have:=Nat.mul_le_mul_right 18446744073709551616 (show hi % d+1≤d by omega)
 rw [Nat.add_mul,Nat.one_mul] at this
 rw [Nat.mul_comm 18446744073709551616 d]
 omega
theorem parts_any (n:Bool) (hi lo d:Nat) (w:World) (h1:hi<18446744073709551616) (h2:lo<18446744073709551616) (hd:0<d) (h3:d<18446744073709551616) :
  Calls Tryz.prog 152 #[.agg #[.bool n,.int .u64 (hi:Int),.int .u64 (lo:Int)],.int .u64 (d:Int)] w fun e w'=>
   e=.returned (.tuple #[.int .u64 ((hi / d:Nat):Int),.int .u64 (((hi % d*18446744073709551616+lo) / d:Nat):Int),.int .u64 (((hi*18446744073709551616+lo) % d:Nat):Int)])∧Below w.heap.size w w':=by
 rw [(parts_plain hi lo d hd).2]
 have ny:¬((d:Int)=0):=by omega
 have q1:IntKind.u64.wrap ((hi:Int).tdiv (d:Int))=((hi / d:Nat):Int):=tdivN _ _ h1
 have lq:=Nat.div_le_self hi d
 have lr:=Nat.mod_le hi d
 have lm:=Nat.mod_lt hi hd
 obtain ⟨Q,hQ⟩:∃ Q:Nat,Hid (hi / d=Q):=⟨_,rfl⟩
 obtain ⟨R,hR⟩:∃ R:Nat,Hid (hi % d=R):=⟨_,rfl⟩
 rw [hQ.out] at q1 lq⊢
 rw [hR.out] at lr lm⊢
 have q2:IntKind.u64.wrap ((hi:Int) / (d:Int))=(Q:Int):=by rw [←Int.natCast_ediv,hQ.out];exact wrapTo _ _ rfl (by omega)
 have q3:IntKind.u64.wrap ((hi:Int).tmod (d:Int))=(R:Int):=by rw [show (hi:Int).tmod (d:Int)=((hi % d:Nat):Int) from (Int.ofNat_tmod hi d).symm,hR.out];exact wrapTo _ _ rfl (by omega)
 have q4:IntKind.u64.wrap ((hi:Int) % (d:Int))=(R:Int):=by rw [←Int.natCast_emod,hR.out];exact wrapTo _ _ rfl (by omega)
 have q5:(hi:Int) / (d:Int)=(Q:Int):=by rw [←Int.natCast_ediv,hQ.out]
 have q6:(hi:Int) % (d:Int)=(R:Int):=by rw [←Int.natCast_emod,hR.out]
 have q7:IntKind.u64.wrap (Q:Int)=(Q:Int):=wrapTo _ _ rfl (by omega)
 have HL:Hid (R<d∧d<18446744073709551616∧lo<18446744073709551616):=⟨lm,h3,h2⟩
 clear lq lr lm h1 h2 h3
 go_enter Tryz.func152,Tryz.ntmps152
 go_upto_region 1 with fail
 generalize hW:World.alloc w _=W1
 have X1:Hid (WAt W1 w.heap.size n hi lo):=by rw [←hW];exact wAt_new w _ _ _
 have B1:Hid (Below w.heap.size w W1):=by rw [←hW];exact ba _ _
 clear hW
 have d1:=X1.out.c1;have d2:=X1.out.c2
 go_cut [4,6] (fun s4 s6 wx=>s4=.int .u64 (Q:Int)∧s6=.int .u64 (R:Int)∧Below W1.heap.size W1 wx)
 case first=>
  go_quiet (fail)
  go_wp2_with fail
  go_meet
  case rel=>
   exact ⟨by simp only [q7],by first | rfl | simp only [q6,q4,q3],(Below.refl _ _).trans ⟨rfl,rfl,rfl,Nat.le_refl _,fun _ _=>rfl⟩⟩
 case rest=>
  obtain ⟨rfl,rfl,hbl⟩:=hcut
  have X2:=Lib.hid (WAt.below X1.out hbl)
  have B2:=Lib.hid (bt B1.out hbl)
  clear d1 d2 hbl q1 q2 q3 q4 q5 q6
  have d1:=X2.out.c1;have d2:=X2.out.c2
  go_wp2_with fail
  refine (div64_any R lo d HL.out.1 HL.out.2.1 HL.out.2.2 _).mono ?_
  rintro e w3 ⟨rfl,b3⟩
  have B3:=Lib.hid (bt B2.out b3)
  clear b3 d1 d2
  obtain ⟨A,hA⟩:∃ A:Nat,Hid ((R*18446744073709551616+lo) / d=A):=⟨_,rfl⟩
  obtain ⟨C,hC⟩:∃ C:Nat,Hid ((R*18446744073709551616+lo) % d=C):=⟨_,rfl⟩
  rw [hA.out,hC.out]
  go_wp2_with fail
  refine bodyPost_ret (v:=.tuple #[.int .u64 (Q:Int),.int .u64 (A:Int),.int .u64 (C:Int)]) (by simp [results,Tryz.results152,go_sem]) rfl ⟨by rw [hA.out,hC.out],B3.out⟩
theorem wz_tdiv (n:Bool) (hi lo d:Nat) (hd:0<d):wz n (hi / d:Nat) ((hi % d*18446744073709551616+lo) / d:Nat)=(wz n hi lo).tdiv (d:Int):=by
 have e:=(parts_plain hi lo d hd).1
 have a:wz false hi lo=((hi*18446744073709551616+lo:Nat):Int):=by unfold wz;simp
 have b:wz false (hi / d:Nat) ((hi % d*18446744073709551616+lo) / d:Nat)=(((hi*18446744073709551616+lo) / d:Nat):Int):=by unfold wz;rw [e];simp
 have c:∀ x y:Int,wz true x y= -wz false x y:=by intro x y;unfold wz;simp
 cases n
 ·rw [a,b];exact Int.ofNat_tdiv _ _
 ·rw [c,c,a,b,Int.neg_tdiv];exact congrArg _ (Int.ofNat_tdiv _ _)
def divV (z:Int) (d:Nat):Value:=.tuple #[wv (z.tdiv (d:Int)),.int .u64 ((z.natAbs % d:Nat):Int),.int .i64 0]
theorem wDiv_any (n:Bool) (hi lo d:Nat) (w:World) (h1:hi<18446744073709551616) (h2:lo<18446744073709551616) (hd:0<d) (h3:d<18446744073709551616) :
  Calls Tryz.prog 108 #[.agg #[.bool n,.int .u64 (hi:Int),.int .u64 (lo:Int)],.int .u64 (d:Int)] w fun e w'=>e=.returned (divV (wz n hi lo) d)∧Below w.heap.size w w':=by
 have ny:¬((d:Int)=0):=by omega
 have ny':((d:Int)==0)=false:=by simp;omega
 have HD:Hid (hi<18446744073709551616∧lo<18446744073709551616∧0<d∧d<18446744073709551616):=⟨h1,h2,hd,h3⟩
 have lq:=Nat.lt_of_le_of_lt (Nat.div_le_self hi d) h1
 have la:=parts_lt hi lo d hd h2
 have ez:=wz_tdiv n hi lo d hd
 unfold divV
 rw [wz_abs]
 obtain ⟨Q,hQ⟩:∃ Q:Nat,Hid (hi / d=Q):=⟨_,rfl⟩
 obtain ⟨A,hA⟩:∃ A:Nat,Hid ((hi % d*18446744073709551616+lo) / d=A):=⟨_,rfl⟩
 obtain ⟨C,hC⟩:∃ C:Nat,Hid ((hi*18446744073709551616+lo) % d=C):=⟨_,rfl⟩
 rw [hQ.out] at lq ez;rw [hA.out] at la ez;rw [hC.out]
 obtain ⟨z,hz⟩:∃ z:Int,Hid ((wz n hi lo).tdiv (d:Int)=z):=⟨_,rfl⟩
 rw [hz.out] at ez⊢
 have HZ:=Lib.hid ez;have HL:=Lib.hid (And.intro lq la)
 clear h1 h2 hd h3 lq la ez
 go_enter Tryz.func108,Tryz.ntmps108
 go_wp2_with fail
 refine (parts_any n hi lo d _ HD.out.1 HD.out.2.1 HD.out.2.2.1 HD.out.2.2.2).mono ?_
 rintro e w1 ⟨rfl,b1⟩
 rw [hQ.out,hA.out,hC.out]
 have X:Hid (WAt w1 w.heap.size n hi lo):=WAt.below (WAt.below (wAt_new w n hi lo) (ba _ (.cells #[.bool false,.int .u64 0,.int .u64 0] 97))) b1
 have Y:Hid (WAt w1 (w.heap.size+1) false 0 0):=by
  have:=WAt.below (wAt_new (w.alloc (.cells #[.bool n,.int .u64 (hi:Int),.int .u64 (lo:Int)] 97)) false 0 0) b1
  rw [World.size_alloc] at this;exact this
 have B1:=Lib.hid (bt (ba _ _) (bt (ba _ _) b1))
 have d0:=X.out.c0
 clear b1
 go_wp2_with fail
 refine (put_any n Q A _ HL.out.1 HL.out.2).mono ?_
 rintro e w2 ⟨rfl,b2⟩
 rw [HZ.out]
 obtain ⟨nb,nh,nl,hv⟩:=wv_agg z
 rw [hv.out]
 have Y2:=Lib.hid (WAt.below Y.out b2)
 have r0:=Y2.out.c0;have r1:=Y2.out.c1;have r2:=Y2.out.c2;have f0:=Y2.out.f0;have f1:=Y2.out.f1;have f2:=Y2.out.f2
 have B2:=Lib.hid (bt B1.out b2)
 clear b2 d0 ny ny'
 go_wp2_with fail
 refine bodyPost_ret (v:=.tuple #[.agg #[.bool nb,.int .u64 (nh:Int),.int .u64 (nl:Int)],.int .u64 (C:Int),.int .i64 0]) (by simp [results,Tryz.results108,go_sem,r0,r1,r2]) rfl ⟨by rw [hv.out],((B2.out.setCell (by simp) _).setCell (by simp) _).setCell (by simp) _⟩
end Go.Proofs.YteagpbkbdlmdiaaGreat
