/-
  decimal's functions, walked: Mul, Div, Neg, Abs, Round, Of, May; The document's decimals (corrodyref02), walked.
-/
import Derived.Test.YteagpbkbdlmdiaaGreatQ19
import Derived.Test.YteagpbkbdlmdiaaGreatQ13
set_option linter.unusedSimpArgs false
set_option linter.unusedVariables false
namespace Go.Proofs.YteagpbkbdlmdiaaGreat
set_option maxRecDepth 100000
set_option maxHeartbeats 2000000
open Go.RowKit
attribute [local go_sem ↓] Go.wp_at_zero Go.wp_at_succ
theorem pow_split (a b c:Nat) (h:a+b=c):(10 ^ c:Nat)=10 ^ a*10 ^ b:=by rw [←h,Nat.pow_add]
theorem pow_int (a:Nat):((10 ^ a:Nat):Int)=(10:Int) ^ a:=by simp
theorem ten_pos (a:Nat):0<10 ^ a:=Nat.pow_pos (by omega)
theorem mul_dec (c c':Int) (n n':Nat) (hn:n≤9) (hn':n'≤9) :
  (if 9<n+n' then decV (evenZ (c*c') (10 ^ (n+n' - 9))) 9 else decV (c*c') (n+n'))=decV (evenZ (un c n*un c' n') (10 ^ 9)) 9:=by
 have e:un c n*un c' n'=c*c'*((10 ^ (18 - (n+n')):Nat):Int):=by
  unfold un
  rw [pow_int,show 18 - (n+n')=(9 - n)+(9 - n') by omega,Int.pow_add]
  rw [Int.mul_assoc,Int.mul_assoc];congr 1
  rw [Int.mul_left_comm]
 rw [e]
 by_cases h:9<n+n'
 ·rw [if_pos h,pow_split (n+n' - 9) (18 - (n+n')) 9 (by omega),evenZ_scale _ _ _ (ten_pos _)]
 ·rw [if_neg h,pow_split (9 - (n+n')) 9 (18 - (n+n')) (by omega),Int.natCast_mul,←Int.mul_assoc,evenZ_exact _ _ (ten_pos _)]
  have:=decV_up (c*c') (n+n') (9 - (n+n'))
  rw [show n+n'+(9 - (n+n'))=9 by omega] at this
  rw [←this,pow_int]
def mulV (c s c' s':Int):Value:=ansV c s c' s' (evenZ (un c s.toNat*un c' s'.toNat) (10 ^ 9))
theorem ansV_form (c s c' s' u:Int):∃ p q e:Int,ansV c s c' s' u=.tuple #[.agg #[.int .i64 p,.int .i64 q],.int .i64 e]:=by
 unfold ansV;split
 ·exact decV_form _ _
 ·exact ⟨_,_,_,rfl⟩
theorem mul_w (a b:Int) (v:Value) (w:World) (ha:fits a) (hb:fits b) (hv:wv (a*b)=v) :
  Calls Tryz.prog 124 #[.int .i64 a,.int .i64 b] w fun e w'=>e=.returned v∧Below w.heap.size w w':=wMul_c a b v w ha.1 ha.2 hb.1 hb.2 hv
theorem mul_lt (a b:Int) (ha:fits a) (hb:fits b):(a*b).natAbs<340282366920938463463374607431768211456:=wMul_nat a b ha.1 ha.2 hb.1 hb.2
theorem dMul_any (c s c' s':Int) (V:Value) (w:World) (hc:fits c) (hc':fits c') (hV:mulV c s c' s'=V) :
  Calls Tryz.prog 73 #[.agg #[.int .i64 c,.int .i64 s],.agg #[.int .i64 c',.int .i64 s']] w fun e w'=>e=.returned V∧Below w.heap.size w w':=by
 go_enter Tryz.func73,Tryz.ntmps73
 go_upto_region 1 with fail
 obtain ⟨hX,hY,hR,hB⟩:=three_dec w c s c' s' 0 0
 have X0:=Lib.hid hX;have Y0:=Lib.hid hY;have R0:=Lib.hid hR;have B0:=Lib.hid hB;clear hX hY hR hB
 generalize World.alloc (World.alloc (World.alloc w _) _) _=W0 at X0 Y0 R0 B0⊢
 obtain ⟨iR,hiR⟩:∃ x,Hid (w.heap.size+1+1=x):=⟨_,rfl⟩
 obtain ⟨iY,hiY⟩:∃ x,Hid (w.heap.size+1=x):=⟨_,rfl⟩
 have hlt:w.heap.size<iY∧iY<iR:=by have:=hiR.out;have:=hiY.out;omega
 rw [hiR.out] at R0⊢;rw [hiY.out] at Y0⊢;clear hiR hiY
 have x0:=X0.out.c0
 have x1:=X0.out.c1
 have y0:=Y0.out.c0
 have y1:=Y0.out.c1
 go_wp2_with fail
 refine (is2_any _ c s c' s' _ (by simp) (by simp) (by simp) (by simp) (by simp)).mono ?_
 rintro e w1 ⟨rfl,b1⟩
 have b1:=bt (ba W0 _) b1
 have X1:=Lib.hid (DAt.below X0.out b1)
 have Y1:=Lib.hid (DAt.below Y0.out b1)
 have R1:=Lib.hid (DAt.below R0.out b1)
 have B1:=Lib.hid (bt B0.out b1)
 clear x0 x1 y0 y1
 clear b1
 clear X0 Y0 R0  B0
 unfold mulV ansV at hV
 generalize hb:(isB s && isB s')=bo at hV⊢
 rcases both_bools hb with ⟨rfl,_⟩ | ⟨rfl,n,n',rfl,rfl,hn,hn'⟩
 ·
  rw [if_neg (by simp)] at hV;subst hV
  have r0:=R1.out.c0
  have rf0:=R1.out.f0
  have r1:=R1.out.c1
  have rf1:=R1.out.f1
  go_wp2_with fail
  refine bodyPost_ret (v:=noneV 2) (by simp [results,Tryz.results73,go_sem,noneV,r0,r1]) rfl ⟨rfl,((B1.out.setCell (by simp;omega) _).setCell (by simp;omega) _)⟩
 ·
  rw [if_pos rfl,show ((n:Nat):Int).toNat=n from rfl,show ((n':Nat):Int).toNat=n' from rfl,←mul_dec c c' n n' hn hn'] at hV
  obtain ⟨q,hq⟩:∃ q,Hid (n+n'=q):=⟨_,rfl⟩
  have hw:IntKind.i64.wrap ((n:Int)+(n':Int))=(q:Int):=by have:=hq.out;rw [IntKind.wrap_i64];omega
  rw [hq.out] at hV
  have HQ:Hid (q≤18):=by have:=hq.out;show _≤_;omega
  obtain ⟨pb,ph,pl,hp,HP⟩:=isW_wv (c*c') (mul_lt c c' hc hc')
  obtain ⟨vc,vs,ve,hvv⟩:∃ p q e:Int,V=.tuple #[.agg #[.int .i64 p,.int .i64 q],.int .i64 e]:=by rw [←hV];split;exact decV_form _ _;exact decV_form _ _
  subst hvv;have HV:=Lib.hid hV;have HC:Hid (fits c∧fits c'):=⟨hc,hc'⟩;clear hV hn hn' hc hc' hb hq
  go_upto_region 3 with fail
  have HS0:(fun w':World=>w'.cell? ⟨w.heap.size,0,none⟩=some (.int .i64 c)∧w'.cell? ⟨w.heap.size,1,none⟩=some (.int .i64 (n:Int))∧w'.cell? ⟨iY,0,none⟩=some (.int .i64 c')∧w'.cell? ⟨iY,1,none⟩=some (.int .i64 (n':Int))) w1.drew:=⟨(DAt.below X1.out ((Below.refl _ _).drew)).c0,(DAt.below X1.out ((Below.refl _ _).drew)).c1,(DAt.below Y1.out ((Below.refl _ _).drew)).c0,(DAt.below Y1.out ((Below.refl _ _).drew)).c1⟩
  go_region_held3 (fun w'=>w'.cell? ⟨w.heap.size,0,none⟩=some (.int .i64 c)∧w'.cell? ⟨w.heap.size,1,none⟩=some (.int .i64 (n:Int))∧w'.cell? ⟨iY,0,none⟩=some (.int .i64 c')∧w'.cell? ⟨iY,1,none⟩=some (.int .i64 (n':Int)))
   (first | with_reducible exact HS0 | with_reducible assumption | with_reducible exact ⟨((dAt_other _ _ (dAt_other _ _ (DAt.below X1.out T21.out) (by omega)) (by omega))).c0,((dAt_other _ _ (dAt_other _ _ (DAt.below X1.out T21.out) (by omega)) (by omega))).c1,((dAt_other _ _ (dAt_other _ _ (DAt.below Y1.out T21.out) (by omega)) (by omega))).c0,((dAt_other _ _ (dAt_other _ _ (DAt.below Y1.out T21.out) (by omega)) (by omega))).c1⟩)
   (first
    | (go_at_call 124;(with_reducible refine (mul_w c c' _ _ HC.out.1 HC.out.2 hp.out).mono ?_);rintro e w20 ⟨rfl,b20⟩;have T20:Hid (Below w1.heap.size w1 w20):=bt ((Below.refl _ _).drew) b20;have HS20:w20.cell? ⟨w.heap.size,0,none⟩=some (.int .i64 c)∧w20.cell? ⟨w.heap.size,1,none⟩=some (.int .i64 (n:Int))∧w20.cell? ⟨iY,0,none⟩=some (.int .i64 c')∧w20.cell? ⟨iY,1,none⟩=some (.int .i64 (n':Int)):=⟨(DAt.below X1.out T20.out).c0,(DAt.below X1.out T20.out).c1,(DAt.below Y1.out T20.out).c0,(DAt.below Y1.out T20.out).c1⟩;clear b20)
    | (go_at_call 52;(with_reducible refine (made_any (c*c') pb ph pl q _ _ HP.out HQ.out HV.out).mono ?_);rintro e w21 ⟨rfl,b21⟩;have T21:Hid (Below w1.heap.size w1 w21):=bt T20.out b21;have HS21:w21.cell? ⟨w.heap.size,0,none⟩=some (.int .i64 c)∧w21.cell? ⟨w.heap.size,1,none⟩=some (.int .i64 (n:Int))∧w21.cell? ⟨iY,0,none⟩=some (.int .i64 c')∧w21.cell? ⟨iY,1,none⟩=some (.int .i64 (n':Int)):=⟨(DAt.below X1.out T21.out).c0,(DAt.below X1.out T21.out).c1,(DAt.below Y1.out T21.out).c0,(DAt.below Y1.out T21.out).c1⟩;have B9:=Lib.hid (bt B1.out T21.out);have R9:=Lib.hid (DAt.below R1.out T21.out);have r0:=R9.out.c0;have rf0:=R9.out.f0;have r1:=R9.out.c1;have rf1:=R9.out.f1;clear b21))
  all_goals
   go_wp2_with fail
   refine bodyPost_ret (v:=_) (by simp [results,Tryz.results73,go_sem,noneV,r0,r1]) rfl ⟨rfl,((B9.out.setCell (by simp;omega) _).setCell (by simp;omega) _)⟩
def negV (c s:Int):Value:=ansV 0 0 c s (un 0 0 - un c s.toNat)
def absV (c s:Int):Value:=if c<0 then negV c s else putV c s
theorem putV_form (c s:Int):∃ p q e:Int,putV c s=.tuple #[.agg #[.int .i64 p,.int .i64 q],.int .i64 e]:=by
 unfold putV;split
 ·exact decV_form _ _
 ·exact ⟨_,_,_,rfl⟩
theorem fits0:fits 0:=by unfold fits;omega
theorem dNeg_any (c s:Int) (V:Value) (w:World) (hc:fits c) (hV:negV c s=V) :
  Calls Tryz.prog 77 #[.agg #[.int .i64 c,.int .i64 s]] w fun e w'=>e=.returned V∧Below w.heap.size w w':=by
 obtain ⟨vc,vs,ve,hvv⟩:∃ p q e:Int,V=.tuple #[.agg #[.int .i64 p,.int .i64 q],.int .i64 e]:=by rw [←hV];exact ansV_form _ _ _ _ _
 subst hvv
 go_enter Tryz.func77,Tryz.ntmps77
 go_upto_region 1 with fail
 obtain ⟨hX,hR,hB⟩:=two_dec w c s 0 0
 have X0:=Lib.hid hX;have R0:=Lib.hid hR;have B0:=Lib.hid hB;clear hX hR hB
 generalize World.alloc (World.alloc w _) _=W0 at X0 R0 B0⊢
 have x0:=X0.out.c0
 have x1:=X0.out.c1
 go_wp2_with fail
 refine (dSub_any 0 0 c s _ _ fits0 hc hV).mono ?_
 rintro e w1 ⟨rfl,b1⟩
 have X1:=Lib.hid (DAt.below X0.out b1)
 have R1:=Lib.hid (DAt.below R0.out b1)
 have B1:=Lib.hid (bt B0.out b1)
 clear x0 x1
 clear b1
 clear X0 R0  B0
 have r0:=R1.out.c0
 have rf0:=R1.out.f0
 have r1:=R1.out.c1
 have rf1:=R1.out.f1
 go_wp2_with fail
 refine bodyPost_ret (v:=_) (by simp [results,Tryz.results77,go_sem,noneV,r0,r1]) rfl ⟨rfl,((B1.out.setCell (by simp) _).setCell (by simp) _)⟩
theorem dAbs_any (c s:Int) (V:Value) (w:World) (hc:fits c) (hV:absV c s=V) :
  Calls Tryz.prog 78 #[.agg #[.int .i64 c,.int .i64 s]] w fun e w'=>e=.returned V∧Below w.heap.size w w':=by
 obtain ⟨vc,vs,ve,hvv⟩:∃ p q e:Int,V=.tuple #[.agg #[.int .i64 p,.int .i64 q],.int .i64 e]:=by rw [←hV];unfold absV;split;exact ansV_form _ _ _ _ _;exact putV_form _ _
 subst hvv
 unfold absV at hV
 by_cases hn:c<0
 ·
  rw [if_pos hn] at hV;have d1:decide (c<0)=true:=by simpa using hn
  clear hn
  go_enter Tryz.func78,Tryz.ntmps78
  go_upto_region 1 with fail
  obtain ⟨hX,hR,hB⟩:=two_dec w c s 0 0
  have X0:=Lib.hid hX;have R0:=Lib.hid hR;have B0:=Lib.hid hB;clear hX hR hB
  generalize World.alloc (World.alloc w _) _=W0 at X0 R0 B0⊢
  have x0:=X0.out.c0
  have x1:=X0.out.c1
  go_wp2_with fail
  refine (dNeg_any c s _ _ hc hV).mono ?_
  rintro e w1 ⟨rfl,b1⟩
  have X1:=Lib.hid (DAt.below X0.out b1)
  have R1:=Lib.hid (DAt.below R0.out b1)
  have B1:=Lib.hid (bt B0.out b1)
  clear x0 x1
  clear b1
  clear X0 R0  B0
  have r0:=R1.out.c0
  have rf0:=R1.out.f0
  have r1:=R1.out.c1
  have rf1:=R1.out.f1
  go_wp2_with fail
  refine bodyPost_ret (v:=_) (by simp [results,Tryz.results78,go_sem,noneV,r0,r1]) rfl ⟨rfl,((B1.out.setCell (by simp) _).setCell (by simp) _)⟩
 ·
  rw [if_neg hn] at hV;have d1:decide (c<0)=false:=by simpa using hn
  clear hn
  go_enter Tryz.func78,Tryz.ntmps78
  go_upto_region 1 with fail
  obtain ⟨hX,hR,hB⟩:=two_dec w c s 0 0
  have X0:=Lib.hid hX;have R0:=Lib.hid hR;have B0:=Lib.hid hB;clear hX hR hB
  generalize World.alloc (World.alloc w _) _=W0 at X0 R0 B0⊢
  have x0:=X0.out.c0
  have x1:=X0.out.c1
  go_wp2_with fail
  refine (dPut_any c s _ _ hc hV).mono ?_
  rintro e w1 ⟨rfl,b1⟩
  have X1:=Lib.hid (DAt.below X0.out b1)
  have R1:=Lib.hid (DAt.below R0.out b1)
  have B1:=Lib.hid (bt B0.out b1)
  clear x0 x1
  clear b1
  clear X0 R0  B0
  have r0:=R1.out.c0
  have rf0:=R1.out.f0
  have r1:=R1.out.c1
  have rf1:=R1.out.f1
  go_wp2_with fail
  refine bodyPost_ret (v:=_) (by simp [results,Tryz.results78,go_sem,noneV,r0,r1]) rfl ⟨rfl,((B1.out.setCell (by simp) _).setCell (by simp) _)⟩
def mayB (c s:Int):Bool:=isB s && (decide (s=0) || !decide (c % 10=0))
theorem tmod10 (c:Int):(c.tmod 10=0)↔(c % 10=0):=by
 rw [←Int.dvd_iff_tmod_eq_zero,←Int.dvd_iff_emod_eq_zero]
theorem dMay_any (c s:Int) (w:World) (hc:fits c):Calls Tryz.prog 30 #[.agg #[.int .i64 c,.int .i64 s]] w fun e w'=>e=.returned (.bool (mayB c s))∧Below w.heap.size w w':=by
 have hw:IntKind.i64.wrap (c.tmod 10)=c.tmod 10:=by
  have h1:-9223372036854775808≤c∧c≤9223372036854775807:=hc
  have h2:=Int.natAbs_tmod c 10
  have h3:c.natAbs % (10:Int).natAbs<10:=Nat.mod_lt _ (by decide)
  rw [IntKind.wrap_i64];omega
 cases hs:isB s with
 | false=>
  have hm:mayB c s=false:=by unfold mayB;rw [hs];rfl
  rw [hm]
  go_enter Tryz.func30,Tryz.ntmps30
  go_wp2_with fail
  refine (is1_any _ c s _ (by simp) (by simp) (by simp)).mono ?_
  rintro e w1 ⟨rfl,b1⟩
  rw [hs]
  have B1:=Lib.hid (bt (ba _ _) (bt (ba _ _) b1));clear b1
  go_wp2_with fail
  go_ret
  exact ⟨rfl,B1.out⟩
 | true=>
  by_cases h0:s=0
  ·subst h0
   have hm:mayB c 0=true:=by unfold mayB;rw [hs];rfl
   rw [hm]
   go_enter Tryz.func30,Tryz.ntmps30
   go_wp2_with fail
   refine (is1_any _ c 0 _ (by simp) (by simp) (by simp)).mono ?_
   rintro e w1 ⟨rfl,b1⟩
   rw [hs]
   have X1:=Lib.hid (DAt.below (dAt_new w c 0) (bt (ba _ _) b1))
   have B1:=Lib.hid (bt (ba _ _) (bt (ba _ _) b1));clear b1
   have x0:=X1.out.c0;have x1:=X1.out.c1
   go_wp2_with fail
   go_ret
   exact ⟨rfl,B1.out⟩
  ·have h1:(s==0)=false:=by simpa using h0
   by_cases k0:c.tmod 10=0
   ·have hm:mayB c s=false:=by unfold mayB;rw [hs];have:=(tmod10 c).1 k0;simp [h0,this]
    rw [hm]
    clear h0
    go_enter Tryz.func30,Tryz.ntmps30
    go_wp2_with fail
    refine (is1_any _ c s _ (by simp) (by simp) (by simp)).mono ?_
    rintro e w1 ⟨rfl,b1⟩
    rw [hs]
    have X1:=Lib.hid (DAt.below (dAt_new w c s) (bt (ba _ _) b1))
    have B1:=Lib.hid (bt (ba _ _) (bt (ba _ _) b1));clear b1
    have x0:=X1.out.c0;have x1:=X1.out.c1
    go_wp2_with fail
    go_ret
    exact ⟨rfl,B1.out⟩
   ·have k1:(c.tmod 10 !=0)=true:=by simpa using k0
    have hm:mayB c s=true:=by unfold mayB;rw [hs];have:¬c % 10=0:=fun h=>k0 ((tmod10 c).2 h);simp [this]
    rw [hm]
    clear h0
    go_enter Tryz.func30,Tryz.ntmps30
    go_wp2_with fail
    refine (is1_any _ c s _ (by simp) (by simp) (by simp)).mono ?_
    rintro e w1 ⟨rfl,b1⟩
    rw [hs]
    have X1:=Lib.hid (DAt.below (dAt_new w c s) (bt (ba _ _) b1))
    have B1:=Lib.hid (bt (ba _ _) (bt (ba _ _) b1));clear b1
    have x0:=X1.out.c0;have x1:=X1.out.c1
    go_wp2_with fail
    go_ret
    exact ⟨rfl,B1.out⟩
def roundV (c s t:Int):Value:=if (isB s && isB t)=true then decV (evenZ (un c s.toNat) (10 ^ (9 - t.toNat))) t.toNat else noneV 2
theorem round_lo (c:Int) (n t:Nat) (h:n≤t) (ht:t≤9):decV (evenZ (un c n) (10 ^ (9 - t))) t=decV c n:=by
 have e:un c n=c*(10:Int) ^ (t - n)*((10 ^ (9 - t):Nat):Int):=by
  unfold un;rw [pow_int,Int.mul_assoc,←Int.pow_add,show t - n+(9 - t)=9 - n by omega]
 rw [e,evenZ_exact _ _ (ten_pos _)]
 have:=decV_up c n (t - n)
 rw [show n+(t - n)=t by omega] at this
 exact this
theorem round_hi (c:Int) (n t:Nat) (h:t≤n) (hn:n≤9):evenZ (un c n) (10 ^ (9 - t))=evenZ c (10 ^ (n - t)):=by
 unfold un
 rw [←pow_int,pow_split (n - t) (9 - n) (9 - t) (by omega),evenZ_scale _ _ _ (ten_pos _)]
theorem even_w0 {x:Int} {n1:Bool} {l1:Nat} (d:Nat) (h0:0<d) (hd:d<18446744073709551616) (v:Value) (w:World) (X:IsW x n1 0 l1) (hv:wv (evenZ x d)=v) :
  Calls Tryz.prog 106 #[.agg #[.bool n1,.int .u64 0,.int .u64 (l1:Int)],.int .u64 (d:Int)] w fun e w'=>e=.returned (.tuple #[v,.int .i64 0])∧Below w.heap.size w w':=even_w d h0 hd v w X hv
theorem even_fits (c:Int) (d:Nat) (hc:fits c) (hd:0<d):(evenZ c d).natAbs<340282366920938463463374607431768211456:=by
 have h1:-9223372036854775808≤c∧c≤9223372036854775807:=hc
 have:=(evenZ_abs c d hd).1
 omega
theorem dRound_any (c s t:Int) (V:Value) (w:World) (hc:fits c) (hV:roundV c s t=V) :
  Calls Tryz.prog 80 #[.agg #[.int .i64 c,.int .i64 s],.int .i64 t] w fun e w'=>e=.returned V∧Below w.heap.size w w':=by
 unfold roundV at hV
 cases hs:isB s with
 | false=>
  rw [hs,if_neg (by simp)] at hV;subst hV
  go_enter Tryz.func80,Tryz.ntmps80
  go_upto_region 1 with fail
  obtain ⟨hX,hR,hB⟩:=two_dec w c s 0 0
  have X0:=Lib.hid hX;have R0:=Lib.hid hR;have B0:=Lib.hid hB;clear hX hR hB
  generalize World.alloc (World.alloc w _) _=W0 at X0 R0 B0⊢
  have x0:=X0.out.c0
  have x1:=X0.out.c1
  go_wp2_with fail
  refine (is1_any _ c s _ (by simp) (by simp) (by simp)).mono ?_
  rintro e w1 ⟨rfl,b1⟩
  rw [hs]
  have b1:=bt (ba W0 _) b1
  have X1:=Lib.hid (DAt.below X0.out b1)
  have R1:=Lib.hid (DAt.below R0.out b1)
  have B1:=Lib.hid (bt B0.out b1)
  clear x0 x1
  clear b1
  clear X0 R0  B0
  have r0:=R1.out.c0
  have rf0:=R1.out.f0
  have r1:=R1.out.c1
  have rf1:=R1.out.f1
  go_wp2_with fail
  refine bodyPost_ret (v:=noneV 2) (by simp [results,Tryz.results80,go_sem,noneV,r0,r1]) rfl ⟨rfl,((B1.out.setCell (by simp) _).setCell (by simp) _)⟩
 | true=>
  by_cases t0:t<0
  ·
   have ht:isB t=false:=by unfold isB;simp;omega
   rw [ht,if_neg (by simp)] at hV;subst hV
   have d1:decide (t<0)=true:=by simpa using t0
   clear t0
   go_enter Tryz.func80,Tryz.ntmps80
   go_upto_region 1 with fail
   obtain ⟨hX,hR,hB⟩:=two_dec w c s 0 0
   have X0:=Lib.hid hX;have R0:=Lib.hid hR;have B0:=Lib.hid hB;clear hX hR hB
   generalize World.alloc (World.alloc w _) _=W0 at X0 R0 B0⊢
   have x0:=X0.out.c0
   have x1:=X0.out.c1
   go_wp2_with fail
   refine (is1_any _ c s _ (by simp) (by simp) (by simp)).mono ?_
   rintro e w1 ⟨rfl,b1⟩
   rw [hs]
   have b1:=bt (ba W0 _) b1
   have X1:=Lib.hid (DAt.below X0.out b1)
   have R1:=Lib.hid (DAt.below R0.out b1)
   have B1:=Lib.hid (bt B0.out b1)
   clear x0 x1
   clear b1
   clear X0 R0  B0
   have r0:=R1.out.c0
   have rf0:=R1.out.f0
   have r1:=R1.out.c1
   have rf1:=R1.out.f1
   go_wp2_with fail
   refine bodyPost_ret (v:=noneV 2) (by simp [results,Tryz.results80,go_sem,noneV,r0,r1]) rfl ⟨rfl,((B1.out.setCell (by simp) _).setCell (by simp) _)⟩
  ·
   have d1:decide (t<0)=false:=by simpa using t0
   by_cases t9:9<t
   ·
    have ht:isB t=false:=by unfold isB;simp;omega
    rw [ht,if_neg (by simp)] at hV;subst hV
    have d2:decide (9<t)=true:=by simpa using t9
    clear t0 t9
    go_enter Tryz.func80,Tryz.ntmps80
    go_upto_region 1 with fail
    obtain ⟨hX,hR,hB⟩:=two_dec w c s 0 0
    have X0:=Lib.hid hX;have R0:=Lib.hid hR;have B0:=Lib.hid hB;clear hX hR hB
    generalize World.alloc (World.alloc w _) _=W0 at X0 R0 B0⊢
    have x0:=X0.out.c0
    have x1:=X0.out.c1
    go_wp2_with fail
    refine (is1_any _ c s _ (by simp) (by simp) (by simp)).mono ?_
    rintro e w1 ⟨rfl,b1⟩
    rw [hs]
    have b1:=bt (ba W0 _) b1
    have X1:=Lib.hid (DAt.below X0.out b1)
    have R1:=Lib.hid (DAt.below R0.out b1)
    have B1:=Lib.hid (bt B0.out b1)
    clear x0 x1
    clear b1
    clear X0 R0  B0
    have r0:=R1.out.c0
    have rf0:=R1.out.f0
    have r1:=R1.out.c1
    have rf1:=R1.out.f1
    go_wp2_with fail
    refine bodyPost_ret (v:=noneV 2) (by simp [results,Tryz.results80,go_sem,noneV,r0,r1]) rfl ⟨rfl,((B1.out.setCell (by simp) _).setCell (by simp) _)⟩
   ·
    have d2:decide (9<t)=false:=by simpa using t9
    have ht:isB t=true:=by unfold isB;simp;omega
    rw [hs,ht,if_pos (by simp)] at hV
    obtain ⟨n,rfl,hn⟩:=isB_nat hs
    obtain ⟨m,rfl,hm⟩:=isB_nat ht
    rw [show ((n:Nat):Int).toNat=n from rfl,show ((m:Nat):Int).toNat=m from rfl] at hV
    clear ht t0 t9
    have d3:¬((m:Int)<0):=by omega
    have d4:¬(9<m):=by omega
    by_cases le:n≤m
    ·
     rw [round_lo c n m le hm] at hV
     obtain ⟨vc,vs,ve,hvv⟩:=decV_form c n;rw [hV] at hvv;subst hvv
     have hp:putV c (n:Int)=.tuple #[.agg #[.int .i64 vc,.int .i64 vs],.int .i64 ve]:=by unfold putV;rw [hs,if_pos rfl,show ((n:Nat):Int).toNat=n from rfl,decV_un c n hn,hV]
     have d5:decide ((n:Int)≤(m:Int))=true:=by simpa using le
     clear hV hm hn
     go_enter Tryz.func80,Tryz.ntmps80
     go_upto_region 1 with fail
     obtain ⟨hX,hR,hB⟩:=two_dec w c (n:Int) 0 0
     have X0:=Lib.hid hX;have R0:=Lib.hid hR;have B0:=Lib.hid hB;clear hX hR hB
     generalize World.alloc (World.alloc w _) _=W0 at X0 R0 B0⊢
     have x0:=X0.out.c0
     have x1:=X0.out.c1
     go_wp2_with fail
     refine (is1_any _ c (n:Int) _ (by simp) (by simp) (by simp)).mono ?_
     rintro e w1 ⟨rfl,b1⟩
     rw [hs]
     have b1:=bt (ba W0 _) b1
     have X1:=Lib.hid (DAt.below X0.out b1)
     have R1:=Lib.hid (DAt.below R0.out b1)
     have B1:=Lib.hid (bt B0.out b1)
     clear x0 x1
     clear b1
     clear X0 R0  B0
     have x0:=X1.out.c0
     have x1:=X1.out.c1
     go_wp2_with fail
     refine (dPut_any c (n:Int) _ _ hc hp).mono ?_
     rintro e w2 ⟨rfl,b1⟩
     have X2:=Lib.hid (DAt.below X1.out b1)
     have R2:=Lib.hid (DAt.below R1.out b1)
     have B2:=Lib.hid (bt B1.out b1)
     clear x0 x1
     clear b1
     clear X1 R1  B1
     have r0:=R2.out.c0
     have rf0:=R2.out.f0
     have r1:=R2.out.c1
     have rf1:=R2.out.f1
     go_wp2_with fail
     refine bodyPost_ret (v:=_) (by simp [results,Tryz.results80,go_sem,noneV,r0,r1]) rfl ⟨rfl,((B2.out.setCell (by simp) _).setCell (by simp) _)⟩
    ·
     rw [round_hi c n m (by omega) hn] at hV
     have d5:decide ((n:Int)≤(m:Int))=false:=by simpa using le
     obtain ⟨j,hj⟩:∃ j,Hid (n - m=j):=⟨_,rfl⟩
     have hj9:j≤9:=by have:=hj.out;omega
     have hw:IntKind.i64.wrap ((n:Int) - (m:Int))=(j:Int):=by have:=hj.out;rw [IntKind.wrap_i64];omega
     rw [hj.out] at hV
     obtain ⟨T,hT⟩:∃ T:Nat,Hid (10 ^ j=T):=⟨_,rfl⟩
     have hT0:Hid (0<T∧T<18446744073709551616):=by have:=hT.out;have hp:10 ^ j≤10 ^ 9:=Nat.pow_le_pow_right (by omega) hj9;have hq:=ten_pos j;exact ⟨by omega,by omega⟩
     rw [hT.out] at hV
     obtain ⟨ob,ol,hov,HO⟩:=w_of c hc
     obtain ⟨eb,eh,el,hev,HE⟩:=isW_wv (evenZ c T) (even_fits c T hc hT0.out.1)
     obtain ⟨vc,vs,ve,hvv⟩:=decV_form (evenZ c T) m;rw [hV] at hvv;subst hvv
     have HV:=Lib.hid hV;have HJ:=Lib.hid hj9;have HOV:=Lib.hid hov;have HOO:=Lib.hid HO;have HC:=Lib.hid hc;have HM:=Lib.hid hm;clear hj9 hc hov HO hV hm hn
     go_enter Tryz.func80,Tryz.ntmps80
     go_upto_region 1 with fail
     obtain ⟨hX,hR,hB⟩:=two_dec w c (n:Int) 0 0
     have X0:=Lib.hid hX;have R0:=Lib.hid hR;have B0:=Lib.hid hB;clear hX hR hB
     generalize World.alloc (World.alloc w _) _=W0 at X0 R0 B0⊢
     have x0:=X0.out.c0
     have x1:=X0.out.c1
     go_wp2_with fail
     refine (is1_any _ c (n:Int) _ (by simp) (by simp) (by simp)).mono ?_
     rintro e w1 ⟨rfl,b1⟩
     rw [hs]
     have b1:=bt (ba W0 _) b1
     have X1:=Lib.hid (DAt.below X0.out b1)
     have R1:=Lib.hid (DAt.below R0.out b1)
     have B1:=Lib.hid (bt B0.out b1)
     clear x0 x1
     clear b1
     clear X0 R0  B0
     have x0:=X1.out.c0
     have x1:=X1.out.c1
     go_upto_region 5 with fail
     clear x0 x1
     go_cut [6] (fun s6 wx=>BoxW w1 eb eh el s6 wx)
     case first=>
      have mkS:∀ w',Below w1.heap.size w1 w'→(Below w1.heap.size w1 w'∧w'.cell? ⟨w.heap.size,0,none⟩=some (.int .i64 c)∧w'.cell? ⟨w.heap.size,1,none⟩=some (.int .i64 (n:Int))):=fun w' hb=>⟨hb,(DAt.below X1.out hb).c0,(DAt.below X1.out hb).c1⟩
      have HS0:=mkS _ ((Below.refl _ _).drew)
      go_region_held3 (fun w'=>Below w1.heap.size w1 w'∧w'.cell? ⟨w.heap.size,0,none⟩=some (.int .i64 c)∧w'.cell? ⟨w.heap.size,1,none⟩=some (.int .i64 (n:Int)))
       (first | with_reducible exact HS0 | with_reducible assumption | (refine mkS _ ?_;(repeat (first | with_reducible exact And.left (by with_reducible assumption) | with_reducible exact Below.refl _ _ | refine Below.setCell ?_ (by first | omega | (simp only [World.size_alloc,hdrew];omega) | (simp<;>omega)) _ | refine Below.alloc ?_ (by first | omega | (simp only [World.size_alloc,hdrew];omega) | (simp<;>omega)) _ | refine Below.drew ?_))))
       (first
        | (go_at_call 53;(with_reducible refine (of_w c _ _ HC.out HOV.out).mono ?_);rintro e w20 ⟨rfl,b20⟩;have HS20:=mkS _ (bt (And.left (by assumption)) b20);have T20:=Lib.hid (HS20.1);(obtain ⟨hcb20,hfb20⟩:=bcell b20;have zzb20:=Below.size b20;(try simp only [World.size_alloc,hdrew] at zzb20);(try (have llb20:w1.heap.size<w20.heap.size:=by omega));(try (have lmb20:w1.heap.size+1<w20.heap.size:=by omega)));((try replace b20:=undrew b20);first | (have QA:=Lib.hid (WAt.below (Hid.out Q0) b20)) | (have QA:=WAt.below (wAt_new _ false 0 0) b20;(try simp only [World.size_alloc,hdrew] at QA);have QA:=Lib.hid QA) | skip);(try (have ln20:w1.heap.size<w20.heap.size:=by omega));clear b20)
        | (go_at_call 107;(with_reducible refine (ten_w j T _ (by have:=HJ.out;omega) hT.out).mono ?_);rintro e w21 ⟨rfl,b21⟩;have HS21:=mkS _ (bt (And.left (by assumption)) b21);have T21:=Lib.hid (HS21.1);(obtain ⟨hcb21,hfb21⟩:=bcell b21;have zzb21:=Below.size b21;(try simp only [World.size_alloc,hdrew] at zzb21);(try (have llb21:w20.heap.size<w21.heap.size:=by omega));(try (have lmb21:w20.heap.size+1<w21.heap.size:=by omega)));((try replace b21:=undrew b21);first | (have QB:=Lib.hid (WAt.below (Hid.out QA) b21)) | (have QB:=WAt.below (wAt_new _ false 0 0) b21;(try simp only [World.size_alloc,hdrew] at QB);have QB:=Lib.hid QB) | skip);(try (have ln21:w1.heap.size<w21.heap.size:=by omega));clear b21)
        | (go_at_call 106;(with_reducible refine (even_w0 T hT0.out.1 hT0.out.2 _ _ HOO.out hev.out).mono ?_);rintro e w22 ⟨rfl,b22⟩;have HS22:=mkS _ (bt (And.left (by assumption)) b22);have T22:=Lib.hid (HS22.1);(obtain ⟨hcb22,hfb22⟩:=bcell b22;have zzb22:=Below.size b22;(try simp only [World.size_alloc,hdrew] at zzb22);(try (have llb22:w21.heap.size<w22.heap.size:=by omega));(try (have lmb22:w21.heap.size+1<w22.heap.size:=by omega)));((try replace b22:=undrew b22);first | (have QC:=Lib.hid (WAt.below (Hid.out QB) b22)) | (have QC:=WAt.below (wAt_new _ false 0 0) b22;(try simp only [World.size_alloc,hdrew] at QC);have QC:=Lib.hid QC) | skip);(try (have ln22:w1.heap.size<w22.heap.size:=by omega));clear b22))
      all_goals
       dsimp only [Exit.then]
       refine ‹∀ (a':Act) (w':World),Met _ a' w'→_› _ _ ?_
       go_meet
       case rel=>exact ⟨_,rfl,(by (first | with_reducible exact wAt_set3 _ _ _ QC.out | with_reducible exact wAt_set3 _ _ _ QB.out | with_reducible exact wAt_set3 _ _ _ QA.out | with_reducible exact wAt_new _ _ _ _ | with_reducible exact wAt_set3 _ _ _ (wAt_new _ _ _ _) | exact wAt_new _ _ _ _)),(by (repeat (first | with_reducible exact And.left (by with_reducible assumption) | with_reducible exact Below.refl _ _ | refine Below.setCell ?_ (by first | omega | (simp only [World.size_alloc,hdrew];omega) | (simp<;>omega)) _ | refine Below.alloc ?_ (by first | omega | (simp only [World.size_alloc,hdrew];omega) | (simp<;>omega)) _ | refine Below.drew ?_)))⟩
     case rest=>
      obtain ⟨i5,rfl,h5,b5⟩:=hcut
      have Z2:=Lib.hid h5;clear h5
      rename_i w2
      have X2:=Lib.hid (DAt.below X1.out b5)
      have R2:=Lib.hid (DAt.below R1.out b5)
      have B2:=Lib.hid (bt B1.out b5)
      clear b5
      clear X1 R1  B1
      have z0:=Z2.out.c0
      have z1:=Z2.out.c1
      have z2:=Z2.out.c2
      go_wp2_with fail
      refine (made_lo (evenZ c T) eb eh el m _ _ HE.out HM.out HV.out).mono ?_
      rintro e w5 ⟨rfl,b2⟩
      clear z0 z1 z2
      clear Z2
      have X5:=Lib.hid (DAt.below X2.out b2)
      have R5:=Lib.hid (DAt.below R2.out b2)
      have B5:=Lib.hid (bt B2.out b2)
      clear b2
      clear X2 R2  B2
      have r0:=R5.out.c0
      have rf0:=R5.out.f0
      have r1:=R5.out.c1
      have rf1:=R5.out.f1
      go_wp2_with fail
      refine bodyPost_ret (v:=_) (by simp [results,Tryz.results80,go_sem,noneV,r0,r1]) rfl ⟨rfl,((B5.out.setCell (by simp) _).setCell (by simp) _)⟩
def dvdV (c s c' s':Int):Value:=if (isB s && isB s')=true then (if c'=0 then noneV 12 else decV (evenZ ((if c'<0 then -(un c s.toNat) else un c s.toNat)*((10 ^ 9:Nat):Int)) (un c' s'.toNat).natAbs) 9) else noneV 2
theorem div_dec (c c':Int) (n n':Nat) (hn':n'≤9) (hc':c' ≠ 0) (u:Int) (hu:u=(if c'<0 then -(c*((10 ^ (9 - n):Nat):Int)*((10 ^ n':Nat):Int)) else c*((10 ^ (9 - n):Nat):Int)*((10 ^ n':Nat):Int))) :
  evenZ ((if c'<0 then -(un c n) else un c n)*((10 ^ 9:Nat):Int)) (un c' n').natAbs=evenZ u c'.natAbs:=by
 have e1:(un c' n').natAbs=c'.natAbs*10 ^ (9 - n'):=by unfold un;rw [←pow_int,Int.natAbs_mul,Int.natAbs_natCast]
 have e2:(if c'<0 then -(un c n) else un c n)*((10 ^ 9:Nat):Int)=u*((10 ^ (9 - n'):Nat):Int):=by
  rw [hu,pow_split n' (9 - n') 9 (by omega),Int.natCast_mul,←Int.mul_assoc]
  unfold un
  rw [pow_int (9 - n)]
  split
  ·rw [Int.neg_mul,Int.neg_mul]
  ·rfl
 rw [e1,e2,evenZ_scale _ _ _ (ten_pos _)]
theorem div_abs (c:Int) (n n':Nat) (hc:fits c) (hn':n'≤9):(c*((10 ^ (9 - n):Nat):Int)*((10 ^ n':Nat):Int)).natAbs<340282366920938463463374607431768211456:=by
 have h1:=raised_abs c (9 - n) hc (by omega)
 have hp:10 ^ n'≤10 ^ 9:=Nat.pow_le_pow_right (by omega) hn'
 rw [Int.natAbs_mul,Int.natAbs_natCast]
 have:=Nat.mul_le_mul h1 hp
 omega
def DivMid (W:World) (z:Int) (iX iY iR iA:Nat) (c s c' s':Int) (w:World) (wx:World):Prop:=
 ∃ (b:Bool) (h l:Nat),Hid (WAt wx iA b h l)∧Hid (IsW z b h l)∧Hid (DAt wx iX c s)∧Hid (DAt wx iY c' s')∧Hid (DAt wx iR 0 0)∧Hid (Below w.heap.size w wx)
theorem dDiv_any (c s c' s':Int) (V:Value) (w:World) (hc:fits c) (hc':fits c') (hV:dvdV c s c' s'=V) :
  Calls Tryz.prog 74 #[.agg #[.int .i64 c,.int .i64 s],.agg #[.int .i64 c',.int .i64 s']] w fun e w'=>e=.returned V∧Below w.heap.size w w':=by
 go_enter Tryz.func74,Tryz.ntmps74
 go_upto_region 1 with fail
 obtain ⟨hX,hY,hR,hB⟩:=three_dec w c s c' s' 0 0
 have X0:=Lib.hid hX;have Y0:=Lib.hid hY;have R0:=Lib.hid hR;have B0:=Lib.hid hB;clear hX hY hR hB
 generalize World.alloc (World.alloc (World.alloc w _) _) _=W0 at X0 Y0 R0 B0⊢
 obtain ⟨iR,hiR⟩:∃ x,Hid (w.heap.size+1+1=x):=⟨_,rfl⟩
 obtain ⟨iY,hiY⟩:∃ x,Hid (w.heap.size+1=x):=⟨_,rfl⟩
 have hlt:w.heap.size<iY∧iY<iR:=by have:=hiR.out;have:=hiY.out;omega
 rw [hiR.out] at R0⊢;rw [hiY.out] at Y0⊢;clear hiR hiY
 have x0:=X0.out.c0
 have x1:=X0.out.c1
 have y0:=Y0.out.c0
 have y1:=Y0.out.c1
 go_wp2_with fail
 refine (is2_any _ c s c' s' _ (by simp) (by simp) (by simp) (by simp) (by simp)).mono ?_
 rintro e w1 ⟨rfl,b1⟩
 have b1:=bt (ba W0 _) b1
 have X1:=Lib.hid (DAt.below X0.out b1)
 have Y1:=Lib.hid (DAt.below Y0.out b1)
 have R1:=Lib.hid (DAt.below R0.out b1)
 have B1:=Lib.hid (bt B0.out b1)
 clear x0 x1 y0 y1
 clear b1
 clear X0 Y0 R0  B0
 unfold dvdV at hV
 generalize hb:(isB s && isB s')=bo at hV⊢
 rcases both_bools hb with ⟨rfl,_⟩ | ⟨rfl,n,n',rfl,rfl,hn,hn'⟩
 ·
  rw [if_neg (by simp)] at hV;subst hV
  have r0:=R1.out.c0
  have rf0:=R1.out.f0
  have r1:=R1.out.c1
  have rf1:=R1.out.f1
  go_wp2_with fail
  refine bodyPost_ret (v:=noneV 2) (by simp [results,Tryz.results74,go_sem,noneV,r0,r1]) rfl ⟨rfl,((B1.out.setCell (by simp;omega) _).setCell (by simp;omega) _)⟩
 ·
  rw [if_pos rfl,show ((n:Nat):Int).toNat=n from rfl,show ((n':Nat):Int).toNat=n' from rfl] at hV
  by_cases hz:c'=0
  ·
   subst hz;rw [if_pos rfl] at hV;subst hV
   have y0:=Y1.out.c0
   have y1:=Y1.out.c1
   have r0:=R1.out.c0
   have rf0:=R1.out.f0
   have r1:=R1.out.c1
   have rf1:=R1.out.f1
   go_wp2_with fail
   refine bodyPost_ret (v:=noneV 12) (by simp [results,Tryz.results74,go_sem,noneV,r0,r1]) rfl ⟨rfl,((B1.out.setCell (by simp;omega) _).setCell (by simp;omega) _)⟩
  ·
   rw [if_neg hz] at hV
   have hz1:(c'==0)=false:=by simpa using hz
   obtain ⟨za,hza⟩:∃ z,Hid (c*((10 ^ (9 - n):Nat):Int)=z):=⟨_,rfl⟩
   obtain ⟨zb,hzb⟩:∃ z,Hid (za*((10 ^ n':Nat):Int)=z):=⟨_,rfl⟩
   have hba:=div_abs c n n' hc hn'
   have haa:=raised_lt c (9 - n) hc (by omega)
   rw [hza.out] at haa hba;rw [hzb.out] at hba
   obtain ⟨u,hu⟩:∃ u,Hid ((if c'<0 then -zb else zb)=u):=⟨_,rfl⟩
   rw [div_dec c c' n n' hn' hz u (by rw [hza.out,hzb.out];exact hu.out.symm)] at hV
   have hua:u.natAbs<340282366920938463463374607431768211456:=by rw [←hu.out];split;rw [Int.natAbs_neg];exact hba;exact hba
   obtain ⟨D,hD⟩:∃ D:Nat,Hid (c'.natAbs=D):=⟨_,rfl⟩
   rw [hD.out] at hV
   have hD0:Hid (0<D∧D<18446744073709551616):=by have h1:-9223372036854775808≤c'∧c'≤9223372036854775807:=hc';have:=hD.out;exact ⟨by omega,by omega⟩
   obtain ⟨ab,ah,al,ha,KA⟩:=isW_wv za haa
   obtain ⟨tb,th,tl,ht,KT⟩:=isW_ov zb hba
   have HT0:Hid (ovV (za*((10 ^ n':Nat):Int))=.tuple #[.agg #[.bool tb,.int .u64 (th:Int),.int .u64 (tl:Int)],.int .i64 0]):=by rw [hzb.out];exact ht
   obtain ⟨eb,eh,el,hev,HE⟩:=isW_wv (evenZ u D) (Nat.lt_of_le_of_lt (evenZ_abs u D hD0.out.1).1 hua)
   obtain ⟨vc,vs,ve,hvv⟩:=decV_form (evenZ u D) 9;rw [hV] at hvv;subst hvv
   have HV:=Lib.hid hV;have HN:Hid (n≤9∧n'≤9∧fits c∧fits c'∧10 ^ n'<18446744073709551616):=by refine ⟨hn,hn',hc,hc',?_⟩;have hp:10 ^ n'≤10 ^ 9:=Nat.pow_le_pow_right (by omega) hn';omega
   have HR:Hid (wv (c*((10 ^ (9 - n):Nat):Int))=.agg #[.bool ab,.int .u64 (ah:Int),.int .u64 (al:Int)]):=by rw [hza.out];exact ha
   obtain ⟨T,hT⟩:∃ T:Nat,Hid (10 ^ n'=T):=⟨_,rfl⟩
   rw [hT.out] at HT0;have HT1:Hid (T<18446744073709551616):=by show _<_;rw [←hT.out];exact HN.out.2.2.2.2
   clear hV haa hba hua hn hn' hc hc' hb ha ht hzb hza
   have x0:=X1.out.c0
   have x1:=X1.out.c1
   have y0:=Y1.out.c0
   have y1:=Y1.out.c1
   go_wp2_with fail
   refine (raised_c c n 9 _ _ _ _ HN.out.2.2.1 HN.out.1 (Nat.le_refl _) HR.out).mono ?_
   rintro e w2 ⟨rfl,b2⟩
   have X2:=Lib.hid (DAt.below X1.out b2)
   have Y2:=Lib.hid (DAt.below Y1.out b2)
   have R2:=Lib.hid (DAt.below R1.out b2)
   have B2:=Lib.hid (bt B1.out b2)
   clear x0 x1 y0 y1
   clear b2
   clear X1 Y1 R1  B1
   go_upto_region 6 with fail
   generalize hW:World.alloc w2 _=W3
   obtain ⟨iA,hiA⟩:∃ x,Hid (w2.heap.size=x):=⟨_,rfl⟩
   have hlA:iR<iA:=by have:=R2.out.lt;have:=hiA.out;omega
   have A3:Hid (WAt W3 iA ab ah al):=by rw [←hW,←hiA.out];exact wAt_new _ _ _ _
   have bW:Below w2.heap.size w2 W3:=by rw [←hW];exact ba _ _
   rw [hiA.out];clear hW
   have X3:=Lib.hid (DAt.below X2.out bW)
   have Y3:=Lib.hid (DAt.below Y2.out bW)
   have R3:=Lib.hid (DAt.below R2.out bW)
   have B3:=Lib.hid (bt B2.out bW)
   clear bW hiA
   clear X2 Y2 R2  B2
   have l0:=B3.out.size
   have a0:=A3.out.c0
   have a1:=A3.out.c1
   have a2:=A3.out.c2
   have y0:=Y3.out.c0
   have y1:=Y3.out.c1
   go_cut [] (fun wx=>DivMid W3 zb w.heap.size iY iR iA c (n:Int) c' (n':Int) w wx)
   case first=>
    go_region_law (first
     | (go_simp;go_at_call 107;refine (ten_w n' T _ (by have:=HN.out.2.1;omega) hT.out).mono ?_;rintro e w4 ⟨rfl,b4⟩;have B4:=Lib.hid (show Below W3.heap.size W3 w4 from bt ((Below.refl _ _).drew) b4);have ya:=(DAt.below Y3.out B4.out).c1;have a0:=(WAt.below A3.out B4.out).c0;have a1:=(WAt.below A3.out B4.out).c1;have a2:=(WAt.below A3.out B4.out).c2;clear b4)
     | (go_simp;go_at_call 126;refine (times_w T HT1.out _ _ KA.out HT0.out).mono ?_;rintro e w5 ⟨rfl,b5⟩;have B5:=Lib.hid (bt B4.out b5);have A5:=Lib.hid (WAt.below A3.out B5.out);have q0:=A5.out.c0;have q1:=A5.out.c1;have q2:=A5.out.c2;have q3:=A5.out.f0;have q4:=A5.out.f1;have q5:=A5.out.f2;clear b5))
    all_goals
     go_wp2_with fail
     go_meet
     case rel=>
      refine ⟨tb,th,tl,wAt_set3 _ _ _ A5.out,KT,?_,?_,?_,below_set3 _ _ _ (bt B3.out B5.out) (by omega)⟩
      ·exact dAt_other _ _ (dAt_other _ _ (dAt_other _ _ (DAt.below X3.out B5.out) (by omega)) (by omega)) (by omega)
      ·exact dAt_other _ _ (dAt_other _ _ (dAt_other _ _ (DAt.below Y3.out B5.out) (by omega)) (by omega)) (by omega)
      ·exact dAt_other _ _ (dAt_other _ _ (dAt_other _ _ (DAt.below R3.out B5.out) (by omega)) (by omega)) (by omega)
   case rest=>
    rename_i w6
    obtain ⟨qb,qh,ql,A6,KQ,X6,Y6,R6,B6⟩:=hcut
    clear X3 Y3 R3 A3 B3 a0 a1 a2 y0 y1
    by_cases hneg:c'<0
    ·
     have d1:decide (c'<0)=true:=by simpa using hneg
     obtain rfl:u= -zb:=by rw [←hu.out,if_pos hneg]
     obtain ⟨nb,nh,nl,hng,HG⟩:=isW_wv (-zb) (by rw [Int.natAbs_neg];exact isW_lt KQ.out)
     have hw1:IntKind.u64.wrap (-IntKind.u64.wrap c')=(D:Int):=by have:=hD.out;have h1:-9223372036854775808≤c'∧c'≤9223372036854775807:=HN.out.2.2.2.1;simp only [IntKind.wrap_u64];omega
     have a0:=A6.out.c0
     have a1:=A6.out.c1
     have a2:=A6.out.c2
     have y0:=Y6.out.c0
     have y1:=Y6.out.c1
     go_wp2_with fail
     refine (neg_w _ _ KQ.out hng.out).mono ?_
     rintro e w7 ⟨rfl,b2⟩
     clear a0 a1 a2 y0 y1
     have X7:=Lib.hid (DAt.below X6.out b2)
     have Y7:=Lib.hid (DAt.below Y6.out b2)
     have R7:=Lib.hid (DAt.below R6.out b2)
     have A7:=Lib.hid (WAt.below A6.out b2)
     have B7:=Lib.hid (bt B6.out b2)
     clear b2
     clear X6 Y6 R6 A6  B6
     have a0:=A7.out.c0
     have af0:=A7.out.f0
     have a1:=A7.out.c1
     have af1:=A7.out.f1
     have a2:=A7.out.c2
     have af2:=A7.out.f2
     have y0:=Y7.out.c0
     have y1:=Y7.out.c1
     go_upto_region 9 with fail
     generalize hW:World.setCell (World.setCell (World.setCell w7 _ _) _ _) _ _=W71
     clear a0 a1 a2 af0 af1 af2
     clear y0 y1
     have A71:Hid (WAt W71 iA nb nh nl):=by rw [←hW];exact wAt_set3 _ _ _ A7.out
     have X71:Hid (DAt W71 w.heap.size c (n:Int)):=by rw [←hW];exact dAt_other _ _ (dAt_other _ _ (dAt_other _ _ X7.out (by omega)) (by omega)) (by omega)
     have Y71:Hid (DAt W71 iY c' (n':Int)):=by rw [←hW];exact dAt_other _ _ (dAt_other _ _ (dAt_other _ _ Y7.out (by omega)) (by omega)) (by omega)
     have R71:Hid (DAt W71 iR 0 0):=by rw [←hW];exact dAt_other _ _ (dAt_other _ _ (dAt_other _ _ R7.out (by omega)) (by omega)) (by omega)
     have B71:Hid (Below w.heap.size w W71):=by rw [←hW];exact below_set3 _ _ _ B7.out (by omega)
     clear hW
     clear X7 Y7 R7 A7  B7
     have y0:=Y71.out.c0
     have y1:=Y71.out.c1
     go_upto_region 12 with fail
     (try rw [hw1])
     have a0:=A71.out.c0
     have a1:=A71.out.c1
     have a2:=A71.out.c2
     go_wp2_with fail
     refine (even_w D hD0.out.1 hD0.out.2 _ _ HG.out hev.out).mono ?_
     rintro e w8 ⟨rfl,b2⟩
     clear a0 a1 a2
     have X8:=Lib.hid (DAt.below X71.out b2)
     have Y8:=Lib.hid (DAt.below Y71.out b2)
     have R8:=Lib.hid (DAt.below R71.out b2)
     have A8:=Lib.hid (WAt.below A71.out b2)
     have B8:=Lib.hid (bt B71.out b2)
     clear b2
     clear X71 Y71 R71 A71  B71
     go_upto_region 13 with fail
     generalize hW:World.alloc w8 _=W9
     obtain ⟨iE,hiE⟩:∃ x,Hid (w8.heap.size=x):=⟨_,rfl⟩
     have E9:Hid (WAt W9 iE eb eh el):=by rw [←hW,←hiE.out];exact wAt_new _ _ _ _
     have bW:Below w8.heap.size w8 W9:=by rw [←hW];exact ba _ _
     rw [hiE.out];clear hW
     have X9:=Lib.hid (DAt.below X8.out bW)
     have Y9:=Lib.hid (DAt.below Y8.out bW)
     have R9:=Lib.hid (DAt.below R8.out bW)
     have A9:=Lib.hid (WAt.below A8.out bW)
     have B9:=Lib.hid (bt B8.out bW)
     clear bW hiE
     clear X8 Y8 R8 A8  B8
     have e0:=E9.out.c0
     have e1:=E9.out.c1
     have e2:=E9.out.c2
     go_wp2_with fail
     refine (made_lo _ eb eh el 9 _ _ HE.out (Nat.le_refl _) HV.out).mono ?_
     rintro e w10 ⟨rfl,b2⟩
     clear e0 e1 e2
     clear E9
     have X10:=Lib.hid (DAt.below X9.out b2)
     have Y10:=Lib.hid (DAt.below Y9.out b2)
     have R10:=Lib.hid (DAt.below R9.out b2)
     have A10:=Lib.hid (WAt.below A9.out b2)
     have B10:=Lib.hid (bt B9.out b2)
     clear b2
     clear X9 Y9 R9 A9  B9
     have r0:=R10.out.c0
     have rf0:=R10.out.f0
     have r1:=R10.out.c1
     have rf1:=R10.out.f1
     go_wp2_with fail
     refine bodyPost_ret (v:=_) (by simp [results,Tryz.results74,go_sem,noneV,r0,r1]) rfl ⟨rfl,((B10.out.setCell (by simp;omega) _).setCell (by simp;omega) _)⟩
    ·
     have d1:decide (c'<0)=false:=by simpa using hneg
     obtain rfl:u=zb:=by rw [←hu.out,if_neg hneg]
     have hw1:IntKind.u64.wrap c'=(D:Int):=by have:=hD.out;have h1:-9223372036854775808≤c'∧c'≤9223372036854775807:=HN.out.2.2.2.1;simp only [IntKind.wrap_u64];omega
     have y0:=Y6.out.c0
     have y1:=Y6.out.c1
     go_upto_region 12 with fail
     (try rw [hw1])
     have a0:=A6.out.c0
     have a1:=A6.out.c1
     have a2:=A6.out.c2
     go_wp2_with fail
     refine (even_w D hD0.out.1 hD0.out.2 _ _ KQ.out hev.out).mono ?_
     rintro e w8 ⟨rfl,b2⟩
     clear a0 a1 a2
     have X8:=Lib.hid (DAt.below X6.out b2)
     have Y8:=Lib.hid (DAt.below Y6.out b2)
     have R8:=Lib.hid (DAt.below R6.out b2)
     have A8:=Lib.hid (WAt.below A6.out b2)
     have B8:=Lib.hid (bt B6.out b2)
     clear b2
     clear X6 Y6 R6 A6  B6
     go_upto_region 13 with fail
     generalize hW:World.alloc w8 _=W9
     obtain ⟨iE,hiE⟩:∃ x,Hid (w8.heap.size=x):=⟨_,rfl⟩
     have E9:Hid (WAt W9 iE eb eh el):=by rw [←hW,←hiE.out];exact wAt_new _ _ _ _
     have bW:Below w8.heap.size w8 W9:=by rw [←hW];exact ba _ _
     rw [hiE.out];clear hW
     have X9:=Lib.hid (DAt.below X8.out bW)
     have Y9:=Lib.hid (DAt.below Y8.out bW)
     have R9:=Lib.hid (DAt.below R8.out bW)
     have A9:=Lib.hid (WAt.below A8.out bW)
     have B9:=Lib.hid (bt B8.out bW)
     clear bW hiE
     clear X8 Y8 R8 A8  B8
     have e0:=E9.out.c0
     have e1:=E9.out.c1
     have e2:=E9.out.c2
     go_wp2_with fail
     refine (made_lo _ eb eh el 9 _ _ HE.out (Nat.le_refl _) HV.out).mono ?_
     rintro e w10 ⟨rfl,b2⟩
     clear e0 e1 e2
     clear E9
     have X10:=Lib.hid (DAt.below X9.out b2)
     have Y10:=Lib.hid (DAt.below Y9.out b2)
     have R10:=Lib.hid (DAt.below R9.out b2)
     have A10:=Lib.hid (WAt.below A9.out b2)
     have B10:=Lib.hid (bt B9.out b2)
     clear b2
     clear X9 Y9 R9 A9  B9
     have r0:=R10.out.c0
     have rf0:=R10.out.f0
     have r1:=R10.out.c1
     have rf1:=R10.out.f1
     go_wp2_with fail
     refine bodyPost_ret (v:=_) (by simp [results,Tryz.results74,go_sem,noneV,r0,r1]) rfl ⟨rfl,((B10.out.setCell (by simp;omega) _).setCell (by simp;omega) _)⟩
end Go.Proofs.YteagpbkbdlmdiaaGreat
namespace Go.Proofs.YteagpbkbdlmdiaaGreat
set_option maxRecDepth 100000
set_option maxHeartbeats 1000000
open Go.RowKit
attribute [local go_sem ↓] Go.wp_at_zero Go.wp_at_succ
theorem dec_num (w:World) (c s:Int):∃ W:World,W=((w.alloc (.cells #[.int .i64 c,.int .i64 s] 30)).alloc (.cells #[.bool false,.slice none 0 0] 147))∧
  DAt W w.heap.size c s∧BoxAt W (w.heap.size+1) (.bool false) (.slice none 0 0)∧Below w.heap.size w W:=by
 have:=boxAt_new (w.alloc (.cells #[.int .i64 c,.int .i64 s] 30)) (.bool false) (.slice none 0 0)
 rw [World.size_alloc] at this
 exact ⟨_,rfl,DAt.below (dAt_new w c s) (ba _ _),this,bt (ba _ _) (ba _ _)⟩
theorem num_num (w:World) (v0 v1 u0 u1:Value):∃ W:World,W=((w.alloc (.cells #[v0,v1] 147)).alloc (.cells #[u0,u1] 147))∧
  BoxAt W w.heap.size v0 v1∧BoxAt W (w.heap.size+1) u0 u1∧Below w.heap.size w W:=by
 have:=boxAt_new (w.alloc (.cells #[v0,v1] 147)) u0 u1
 rw [World.size_alloc] at this
 exact ⟨_,rfl,boxAt_below (boxAt_new w v0 v1) (ba _ _),this,bt (ba _ _) (ba _ _)⟩
theorem num_dec (w:World) (v0 v1:Value) (c s:Int):∃ W:World,W=((w.alloc (.cells #[v0,v1] 147)).alloc (.cells #[.int .i64 c,.int .i64 s] 30))∧
  BoxAt W w.heap.size v0 v1∧DAt W (w.heap.size+1) c s∧Below w.heap.size w W:=by
 have:=dAt_new (w.alloc (.cells #[v0,v1] 147)) c s
 rw [World.size_alloc] at this
 exact ⟨_,rfl,boxAt_below (boxAt_new w v0 v1) (ba _ _),this,bt (ba _ _) (ba _ _)⟩
theorem of_f (c:Int) (w:World) (hc:fits c):Calls Tryz.prog 139 #[.int .i64 c] w (NumPost 8 c w):=of_any c w hc.1 hc.2
theorem ten_f (j:Nat) (w:World) (hj:j≤27):Calls Tryz.prog 137 #[.int .i64 (j:Int)] w (NumPost 28 ((10 ^ j:Nat):Int) w):=by
 refine (ten_any (j:Int) w (by omega)).mono ?_
 rintro e w' ⟨v,hv,he,hb⟩
 refine ⟨v,num_mono (num_cast hv ?_) (by show j+1≤28;omega),he,hb⟩
 rw [show ((j:Nat):Int).toNat=j from rfl,pow_int]
theorem units_val (c:Int) (n:Nat) (hn:n≤9):c*((10 ^ (18 - n):Nat):Int)=un c n*((10 ^ 9:Nat):Int):=by
 unfold un
 rw [pow_split (9 - n) 9 (18 - n) (by omega),Int.natCast_mul,←Int.mul_assoc,pow_int (9 - n)]
theorem units_any (c:Int) (n:Nat) (w:World) (hc:fits c) (hn:n≤9) :
  Calls Tryz.prog 131 #[.agg #[.int .i64 c,.int .i64 (n:Int)]] w (NumPost 36 (un c n*((10 ^ 9:Nat):Int)) w):=by
 obtain ⟨j,hj⟩:∃ j,Hid (18 - n=j):=⟨_,rfl⟩
 have hw:IntKind.i64.wrap (18 - (n:Int))=(j:Int):=by have:=hj.out;rw [IntKind.wrap_i64];omega
 have HJ:Hid (j≤27):=by have:=hj.out;show _≤_;omega
 have HV:Hid (c*((10 ^ j:Nat):Int)=un c n*((10 ^ 9:Nat):Int)):=by rw [←hj.out];exact units_val c n hn
 have HC:=Lib.hid hc
 clear hc hn
 go_enter Tryz.func131,Tryz.ntmps131
 go_upto_region 1 with fail
 obtain ⟨W0,hW,hX,hR,hBB⟩:=dec_num w c (n:Int)
 rw [←hW]
 have X0:=Lib.hid hX;have R0:=Lib.hid hR;have B0:=Lib.hid hBB;clear hX hR hBB hW
 have HS0:(fun w':World=>w'.cell? ⟨w.heap.size,0,none⟩=some (.int .i64 c)∧w'.cell? ⟨w.heap.size,1,none⟩=some (.int .i64 (n:Int))) W0.drew:=⟨(DAt.below X0.out ((Below.refl _ _).drew)).c0,(DAt.below X0.out ((Below.refl _ _).drew)).c1⟩
 go_region_held3 (fun w'=>w'.cell? ⟨w.heap.size,0,none⟩=some (.int .i64 c)∧w'.cell? ⟨w.heap.size,1,none⟩=some (.int .i64 (n:Int)))
  (first | with_reducible exact HS0 | with_reducible assumption | with_reducible exact ⟨((dAt_other _ _ (dAt_other _ _ (DAt.below X0.out T22.out) (by omega)) (by omega))).c0,((dAt_other _ _ (dAt_other _ _ (DAt.below X0.out T22.out) (by omega)) (by omega))).c1⟩)
  (first
   | (go_at_call 139;(with_reducible refine (of_f c _ HC.out).mono ?_);rintro e w20 ⟨v20,hz,rfl,b20⟩;have T20:Hid (Below W0.heap.size W0 w20):=bt ((Below.refl _ _).drew) b20;have HS20:w20.cell? ⟨w.heap.size,0,none⟩=some (.int .i64 c)∧w20.cell? ⟨w.heap.size,1,none⟩=some (.int .i64 (n:Int)):=⟨(DAt.below X0.out T20.out).c0,(DAt.below X0.out T20.out).c1⟩;have N20:=Lib.hid hz;clear hz;clear b20)
   | (go_at_call 137;(with_reducible refine (ten_f j _ HJ.out).mono ?_);rintro e w21 ⟨v21,hz,rfl,b21⟩;have T21:Hid (Below W0.heap.size W0 w21):=bt T20.out b21;have HS21:w21.cell? ⟨w.heap.size,0,none⟩=some (.int .i64 c)∧w21.cell? ⟨w.heap.size,1,none⟩=some (.int .i64 (n:Int)):=⟨(DAt.below X0.out T21.out).c0,(DAt.below X0.out T21.out).c1⟩;have N21:=Lib.hid hz;clear hz;have b21h:=Lib.hid b21;clear b21)
   | (go_at_call 135;(with_reducible refine (mul_any 8 28 _ _ c ((10 ^ j:Nat):Int) _ (num_below N20.out b21h.out) N21.out (by omega) (by omega)).mono ?_);rintro e w22 ⟨v22,hz,rfl,b22⟩;have T22:Hid (Below W0.heap.size W0 w22):=bt T21.out b22;have HS22:w22.cell? ⟨w.heap.size,0,none⟩=some (.int .i64 c)∧w22.cell? ⟨w.heap.size,1,none⟩=some (.int .i64 (n:Int)):=⟨(DAt.below X0.out T22.out).c0,(DAt.below X0.out T22.out).c1⟩;obtain ⟨q22,a22,m22,c22,rfl⟩:=num_agg hz;have N22:=Lib.hid hz;clear hz;have B9:=Lib.hid (bt B0.out T22.out);have R9:=Lib.hid (boxAt_below R0.out T22.out);have r0:=R9.out.c0;have rf0:=R9.out.f0;have r1:=R9.out.c1;have rf1:=R9.out.f1;clear b22))
 all_goals
  go_wp2_with fail
  refine bodyPost_ret (v:=.agg #[.bool q22,.slice a22 m22 c22]) (by simp [results,Tryz.results131,go_sem,r0,r1]) rfl ⟨_,num_set2 _ _ (num_cast N22.out HV.out) R9.out,rfl,(B9.out.setCell (by simp) _).setCell (by simp) _⟩
theorem even_f (k:Nat) (va vb:Value) (x:Int) (Y:Nat) (w:World) (ha:Num k w va x) (hb:Num 28 w vb (Y:Int)) (hY:0<Y) (l1:k≤8000) :
  Calls Tryz.prog 136 #[va,vb] w (NumPost (k+9) (evenZ x Y) w):=even_any k 28 va vb x Y w ha hb hY l1 (by omega)
theorem near_any (k:Nat) (v:Value) (u:Int) (t:Nat) (w:World) (hv:Num k w v u) (hk:k≤8000) (ht:t≤9) :
  Calls Tryz.prog 130 #[v,.int .i64 (t:Int)] w (NumPost (k+9) (evenZ u (10 ^ (18 - t))) w):=by
 obtain ⟨j,hj⟩:∃ j,Hid (18 - t=j):=⟨_,rfl⟩
 have hw:IntKind.i64.wrap (18 - (t:Int))=(j:Int):=by have:=hj.out;rw [IntKind.wrap_i64];omega
 have HJ:Hid (j≤27):=by have:=hj.out;show _≤_;omega
 rw [hj.out]
 obtain ⟨bv,av,mv,cv,rfl⟩:=num_agg hv
 have HN:=Lib.hid hv
 clear hv ht
 go_enter Tryz.func130,Tryz.ntmps130
 go_upto_region 1 with fail
 obtain ⟨W0,hW,hX,hR,hBB⟩:=num_num w (.bool bv) (.slice av mv cv) (.bool false) (.slice none 0 0)
 rw [←hW]
 have X0:=Lib.hid hX;have R0:=Lib.hid hR;have B0:=Lib.hid hBB;have NX0:=Lib.hid (num_below HN.out hBB);clear hX hR hBB hW
 have HS0:(fun w':World=>w'.cell? ⟨w.heap.size,0,none⟩=some (.bool bv)∧w'.cell? ⟨w.heap.size,1,none⟩=some (.slice av mv cv)) W0.drew:=⟨(boxAt_below X0.out ((Below.refl _ _).drew)).c0,(boxAt_below X0.out ((Below.refl _ _).drew)).c1⟩
 go_region_held3 (fun w'=>w'.cell? ⟨w.heap.size,0,none⟩=some (.bool bv)∧w'.cell? ⟨w.heap.size,1,none⟩=some (.slice av mv cv))
  (first | with_reducible exact HS0 | with_reducible assumption | with_reducible exact ⟨((boxAt_set_other _ _ (boxAt_set_other _ _ (boxAt_below X0.out T21.out) (by omega)) (by omega))).c0,((boxAt_set_other _ _ (boxAt_set_other _ _ (boxAt_below X0.out T21.out) (by omega)) (by omega))).c1⟩)
  (first
   | (go_at_call 137;(with_reducible refine (ten_f j _ HJ.out).mono ?_);rintro e w20 ⟨v20,hz,rfl,b20⟩;have T20:Hid (Below W0.heap.size W0 w20):=bt ((Below.refl _ _).drew) b20;have HS20:w20.cell? ⟨w.heap.size,0,none⟩=some (.bool bv)∧w20.cell? ⟨w.heap.size,1,none⟩=some (.slice av mv cv):=⟨(boxAt_below X0.out T20.out).c0,(boxAt_below X0.out T20.out).c1⟩;have N20:=Lib.hid hz;clear hz;clear b20)
   | (go_at_call 136;(with_reducible refine (even_f k _ _ u (10 ^ j) _ (num_below NX0.out T20.out) N20.out (ten_pos j) (by omega)).mono ?_);rintro e w21 ⟨v21,hz,rfl,b21⟩;have T21:Hid (Below W0.heap.size W0 w21):=bt T20.out b21;have HS21:w21.cell? ⟨w.heap.size,0,none⟩=some (.bool bv)∧w21.cell? ⟨w.heap.size,1,none⟩=some (.slice av mv cv):=⟨(boxAt_below X0.out T21.out).c0,(boxAt_below X0.out T21.out).c1⟩;obtain ⟨q21,a21,m21,c21,rfl⟩:=num_agg hz;have N21:=Lib.hid hz;clear hz;have B9:=Lib.hid (bt B0.out T21.out);have R9:=Lib.hid (boxAt_below R0.out T21.out);have r0:=R9.out.c0;have rf0:=R9.out.f0;have r1:=R9.out.c1;have rf1:=R9.out.f1;clear b21))
 all_goals
  go_wp2_with fail
  refine bodyPost_ret (v:=.agg #[.bool q21,.slice a21 m21 c21]) (by simp [results,Tryz.results130,go_sem,r0,r1]) rfl ⟨_,num_set2 _ _ N21.out R9.out,rfl,(B9.out.setCell (by simp) _).setCell (by simp) _⟩
end Go.Proofs.YteagpbkbdlmdiaaGreat
