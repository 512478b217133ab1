/-
  decimal's functions, walked: Cmp, Add, Sub.
-/
import Derived.Test.YteagpbkbdlmdiaaGreatQ18
set_option linter.unusedSimpArgs false
set_option linter.unusedVariables false
namespace Go.Proofs.YteagpbkbdlmdiaaGreat
set_option maxRecDepth 100000
set_option maxHeartbeats 2000000
open Go.RowKit
attribute [local go_sem ↓] Go.wp_at_zero Go.wp_at_succ
theorem cmpZ_scale (x y k:Int) (hk:0<k):cmpZ (x*k) (y*k)=cmpZ x y:=by
 unfold cmpZ
 have e1:(x*k=y*k)↔x=y:=Int.mul_eq_mul_right_iff (by omega)
 have e2:(x*k<y*k)↔x<y:=Int.mul_lt_mul_right hk
 simp only [e1,e2]
theorem un_scale (c:Int) (s m:Nat) (h1:s≤m) (h2:m≤9):un c s=c*((10 ^ (m - s):Nat):Int)*((10 ^ (9 - m):Nat):Int):=by
 unfold un
 rw [Int.mul_assoc,←Int.natCast_mul,←Nat.pow_add,show m - s+(9 - m)=9 - s by omega]
 simp
theorem both_bools {s s':Int} {a:Bool} (h:(isB s && isB s')=a):(a=false∧¬(isB s=true∧isB s'=true))∨(a=true∧∃ n n':Nat,s=(n:Int)∧s'=(n':Int)∧n≤9∧n'≤9):=by
 cases a
 ·left;refine ⟨rfl,fun k=>?_⟩;rw [k.1,k.2] at h;simp at h
 ·right;simp only [Bool.and_eq_true] at h
  obtain ⟨n,e,hn⟩:=isB_nat h.1;obtain ⟨n',e',hn'⟩:=isB_nat h.2
  exact ⟨rfl,n,n',e,e',hn,hn'⟩
def cmpV (c s c' s':Int):Value:=if (isB s && isB s')=true then .tuple #[.int .i64 (cmpZ (un c s.toNat) (un c' s'.toNat)),.int .i64 0] else .tuple #[.int .i64 0,.int .i64 2]
def ansV (c s c' s' u:Int):Value:=if (isB s && isB s')=true then decV u 9 else noneV 2
theorem max_raised (c:Int) (s m:Nat) (hc:fits c) (h1:s≤m) (h2:m≤9):∃ (b:Bool) (h l:Nat),Hid (wv (c*((10 ^ (m - s):Nat):Int))=.agg #[.bool b,.int .u64 (h:Int),.int .u64 (l:Int)])∧Hid (IsW (c*((10 ^ (m - s):Nat):Int)) b h l):=
 isW_wv _ (raised_lt c (m - s) hc (by omega))
theorem raised_abs (c:Int) (j:Nat) (hc:fits c) (hj:j≤9):(c*((10 ^ j:Nat):Int)).natAbs≤9223372036854775808000000000:=by
 have h1:-9223372036854775808≤c∧c≤9223372036854775807:=hc
 have hp:10 ^ j≤10 ^ 9:=Nat.pow_le_pow_right (by omega) hj
 rw [Int.natAbs_mul,Int.natAbs_natCast]
 have:=Nat.mul_le_mul (show c.natAbs≤9223372036854775808 by omega) hp
 omega
theorem dCmp_any (c s c' s':Int) (V:Value) (w:World) (hc:fits c) (hc':fits c') (hV:cmpV c s c' s'=V) :
  Calls Tryz.prog 118 #[.agg #[.int .i64 c,.int .i64 s],.agg #[.int .i64 c',.int .i64 s']] w fun e w'=>e=.returned V∧Below w.heap.size w w':=by
 go_enter Tryz.func118,Tryz.ntmps118
 go_upto_region 1 with fail
 obtain ⟨hX,hY,hB⟩:=two_dec w c s c' s'
 have X0:=Lib.hid hX;have Y0:=Lib.hid hY;have B0:=Lib.hid hB;clear hX hY hB
 generalize World.alloc (World.alloc w _) _=W0 at X0 Y0 B0⊢
 have x0:=X0.out.c0
 have x1:=X0.out.c1
 have y0:=Y0.out.c0
 have y1:=Y0.out.c1
 go_wp2_with fail
 refine (is2_any _ c s c' s' _ (by simp) (by simp) (by simp) (by simp) (by simp)).mono ?_
 rintro e w1 ⟨rfl,b1⟩
 have b1:=bt (ba W0 _) b1
 have X1:=Lib.hid (DAt.below X0.out b1)
 have Y1:=Lib.hid (DAt.below Y0.out b1)
 have B1:=Lib.hid (bt B0.out b1)
 clear x0 x1 y0 y1
 clear b1
 clear X0 Y0  B0
 unfold cmpV at hV
 generalize hb:(isB s && isB s')=bo at hV⊢
 rcases both_bools hb with ⟨rfl,_⟩ | ⟨rfl,n,n',rfl,rfl,hn,hn'⟩
 ·
  rw [if_neg (by simp)] at hV;subst hV
  go_wp2_with fail
  go_ret2
  exact ⟨rfl,B1.out⟩
 ·
  rw [if_pos rfl,show ((n:Nat):Int).toNat=n from rfl,show ((n':Nat):Int).toNat=n' from rfl] at hV
  obtain ⟨m,hm⟩:∃ m,max n n'=m:=⟨_,rfl⟩
  obtain ⟨ab,ah,al,HA,KA⟩:=max_raised c n m hc (by omega) (by omega)
  obtain ⟨bb,bh,bl,HB,KB⟩:=max_raised c' n' m hc' (by omega) (by omega)
  have HC:Hid (fits c∧fits c'):=⟨hc,hc'⟩
  have HN:Hid (n≤9∧n'≤9∧max n n'=m):=⟨hn,hn',hm⟩
  rw [un_scale c n m (by omega) (by omega),un_scale c' n' m (by omega) (by omega),cmpZ_scale _ _ _ (by have:=Nat.pow_pos (n:=9 - m) (show 0<10 by omega);omega)] at hV
  obtain ⟨z,hz⟩:∃ z,Hid (cmpZ (c*((10 ^ (m - n):Nat):Int)) (c'*((10 ^ (m - n'):Nat):Int))=z):=⟨_,rfl⟩
  rw [hz.out] at hV;subst hV;clear hm hn hn' hc hc' hb
  have x0:=X1.out.c0
  have x1:=X1.out.c1
  have y0:=Y1.out.c0
  have y1:=Y1.out.c1
  go_wp2_with fail
  refine (both_any c c' n n' m ab bb ah al bh bl _ HC.out.1 HC.out.2 HN.out.1 HN.out.2.1 HN.out.2.2 HA.out HB.out).mono ?_
  rintro e w2 ⟨rfl,b2⟩
  have X2:=Lib.hid (DAt.below X1.out b2)
  have Y2:=Lib.hid (DAt.below Y1.out b2)
  have B2:=Lib.hid (bt B1.out b2)
  clear x0 x1 y0 y1
  clear b2
  clear X1 Y1  B1
  go_upto_region 4 with fail
  generalize hW:World.alloc (World.alloc w2 _) _=W3
  obtain ⟨hP,hQ⟩:=two_wide w2 ab bb ah al bh bl
  have bW:Below w2.heap.size w2 W3:=by rw [←hW];exact bt (ba _ _) (ba _ _)
  rw [hW] at hP hQ
  obtain ⟨iq,hiq⟩:∃ x,Hid (w2.heap.size+1=x):=⟨_,rfl⟩
  obtain ⟨ip,hip⟩:∃ x,Hid (w2.heap.size=x):=⟨_,rfl⟩
  rw [hiq.out] at hQ⊢;rw [hip.out] at hP⊢;clear hW
  have P3:=Lib.hid hP;have Q3:=Lib.hid hQ;clear hP hQ hiq hip
  have X3:=Lib.hid (DAt.below X2.out bW)
  have Y3:=Lib.hid (DAt.below Y2.out bW)
  have B3:=Lib.hid (bt B2.out bW)
  clear bW
  clear X2 Y2  B2
  have p0:=P3.out.c0
  have p1:=P3.out.c1
  have p2:=P3.out.c2
  have q0:=Q3.out.c0
  have q1:=Q3.out.c1
  have q2:=Q3.out.c2
  go_wp2_with fail
  refine (cmp_w z _ KA.out KB.out hz.out).mono ?_
  rintro e w4 ⟨rfl,b2⟩
  have B4:=bt B3.out b2;clear b2
  go_wp2_with fail
  go_ret2
  exact ⟨rfl,B4⟩
theorem same_any (b:Bool) (h l:Int) (w:World) :
  Calls Tryz.prog 122 #[.agg #[.bool b,.int .u64 h,.int .u64 l]] w fun e w'=>e=.returned (.agg #[.bool b,.int .u64 h,.int .u64 l])∧Below w.heap.size w w':=by
 go_enter Tryz.func122,Tryz.ntmps122
 go_upto_region 1 with fail
 obtain ⟨hX,hR⟩:=two_wide w b false h l 0 0
 have B0:Hid (Below w.heap.size w ((w.alloc (.cells #[.bool b,.int .u64 h,.int .u64 l] 97)).alloc (.cells #[.bool false,.int .u64 0,.int .u64 0] 97))):=bt (ba _ _) (ba _ _)
 generalize World.alloc (World.alloc w _) _=W0 at hX hR B0⊢
 have X0:=Lib.hid hX;have R0:=Lib.hid hR;clear hX hR
 have x0:=X0.out.c0;have x1:=X0.out.c1;have x2:=X0.out.c2
 have r0:=R0.out.c0;have r1:=R0.out.c1;have r2:=R0.out.c2;have r3:=R0.out.f0;have r4:=R0.out.f1;have r5:=R0.out.f2
 go_wp2_with fail
 refine bodyPost_ret (v:=.agg #[.bool b,.int .u64 h,.int .u64 l]) (by simp [results,Tryz.results122,go_sem,r0,r1,r2]) rfl ⟨rfl,((B0.out.setCell (by simp) _).setCell (by simp) _).setCell (by simp) _⟩
theorem sumAdd_any (c s c' s':Int) (V:Value) (w:World) (hc:fits c) (hc':fits c') (hV:ansV c s c' s' (un c s.toNat+un c' s'.toNat)=V) :
  Calls Tryz.prog 121 #[.agg #[.int .i64 c,.int .i64 s],.agg #[.int .i64 c',.int .i64 s'],.func (.func 122) #[] #[]] w fun e w'=>e=.returned V∧Below w.heap.size w w':=by
 go_enter Tryz.func121,Tryz.ntmps121
 go_upto_region 1 with fail
 obtain ⟨hX,hY,hR,hB⟩:=three_dec w c s c' s' 0 0
 have X0:=Lib.hid hX;have Y0:=Lib.hid hY;have R0:=Lib.hid hR;have B0:=Lib.hid hB;clear hX hY hR hB
 generalize World.alloc (World.alloc (World.alloc w _) _) _=W0 at X0 Y0 R0 B0⊢
 have x0:=X0.out.c0
 have x1:=X0.out.c1
 have y0:=Y0.out.c0
 have y1:=Y0.out.c1
 go_wp2_with fail
 refine (is2_any _ c s c' s' _ (by simp) (by simp) (by simp) (by simp) (by simp)).mono ?_
 rintro e w1 ⟨rfl,b1⟩
 have b1:=bt (ba W0 _) b1
 have X1:=Lib.hid (DAt.below X0.out b1)
 have Y1:=Lib.hid (DAt.below Y0.out b1)
 have R1:=Lib.hid (DAt.below R0.out b1)
 have B1:=Lib.hid (bt B0.out b1)
 clear x0 x1 y0 y1
 clear b1
 clear X0 Y0 R0  B0
 unfold ansV at hV
 generalize hb:(isB s && isB s')=bo at hV⊢
 rcases both_bools hb with ⟨rfl,_⟩ | ⟨rfl,n,n',rfl,rfl,hn,hn'⟩
 ·
  rw [if_neg (by simp)] at hV;subst hV
  have r0:=R1.out.c0
  have rf0:=R1.out.f0
  have r1:=R1.out.c1
  have rf1:=R1.out.f1
  go_wp2_with fail
  refine bodyPost_ret (v:=noneV 2) (by simp [results,Tryz.results121,go_sem,noneV,r0,r1]) rfl ⟨rfl,((B1.out.setCell (by simp;omega) _).setCell (by simp;omega) _)⟩
 ·
  rw [if_pos rfl,show ((n:Nat):Int).toNat=n from rfl,show ((n':Nat):Int).toNat=n' from rfl] at hV
  obtain ⟨m,hm⟩:∃ m,max n n'=m:=⟨_,rfl⟩
  obtain ⟨ab,ah,al,HA,KA⟩:=max_raised c n m hc (by omega) (by omega)
  obtain ⟨bb,bh,bl,HB,KB⟩:=max_raised c' n' m hc' (by omega) (by omega)
  have HC:Hid (fits c∧fits c'):=⟨hc,hc'⟩
  have HN:Hid (n≤9∧n'≤9∧max n n'=m):=⟨hn,hn',hm⟩
  rw [un_scale c n m (by omega) (by omega),un_scale c' n' m (by omega) (by omega),←Int.add_mul] at hV
  have hA:=raised_abs c (m - n) hc (by omega);have hA':=raised_abs c' (m - n') hc' (by omega)
  have hV:decV (c*((10 ^ (m - n):Nat):Int)+c'*((10 ^ (m - n'):Nat):Int)) m=V:=by rw [←hV];have:=decV_up (c*((10 ^ (m - n):Nat):Int)+c'*((10 ^ (m - n'):Nat):Int)) m (9 - m);rw [show m+(9 - m)=9 by omega] at this;rw [←this];simp
  obtain ⟨za,hza⟩:∃ z,Hid (c*((10 ^ (m - n):Nat):Int)=z):=⟨_,rfl⟩
  obtain ⟨zb,hzb⟩:∃ z,Hid (c'*((10 ^ (m - n'):Nat):Int)=z):=⟨_,rfl⟩
  have HM:Hid (m≤9):=by show _≤_;omega
  rw [hza.out] at hA hV;rw [hzb.out] at hA' hV
  have KA':Hid (IsW za ab ah al):=by rw [←hza.out];exact KA.out
  have KB':Hid (IsW zb bb bh bl):=by rw [←hzb.out];exact KB.out
  obtain ⟨sb,sh,sl,hsv,HS⟩:=isW_ov (za+zb) (by omega)
  obtain ⟨vc,vs,ve,hvv⟩:=decV_form (za+zb) m;rw [hV] at hvv;subst hvv
  have HV:=Lib.hid hV;clear hV hA hA' hm hn hn' hc hc' hb
  have x0:=X1.out.c0
  have x1:=X1.out.c1
  have y0:=Y1.out.c0
  have y1:=Y1.out.c1
  go_wp2_with fail
  refine (both_any c c' n n' m ab bb ah al bh bl _ HC.out.1 HC.out.2 HN.out.1 HN.out.2.1 HN.out.2.2 HA.out HB.out).mono ?_
  rintro e w2 ⟨rfl,b2⟩
  have X2:=Lib.hid (DAt.below X1.out b2)
  have Y2:=Lib.hid (DAt.below Y1.out b2)
  have R2:=Lib.hid (DAt.below R1.out b2)
  have B2:=Lib.hid (bt B1.out b2)
  clear x0 x1 y0 y1
  clear b2
  clear X1 Y1 R1  B1
  go_upto_region 4 with fail
  generalize hW:World.alloc (World.alloc w2 _) _=W3
  obtain ⟨hP,hQ⟩:=two_wide w2 ab bb ah al bh bl
  have bW:Below w2.heap.size w2 W3:=by rw [←hW];exact bt (ba _ _) (ba _ _)
  rw [hW] at hP hQ
  obtain ⟨iq,hiq⟩:∃ x,Hid (w2.heap.size+1=x):=⟨_,rfl⟩
  obtain ⟨ip,hip⟩:∃ x,Hid (w2.heap.size=x):=⟨_,rfl⟩
  rw [hiq.out] at hQ⊢;rw [hip.out] at hP⊢;clear hW
  have P3:=Lib.hid hP;have Q3:=Lib.hid hQ;clear hP hQ hiq hip
  have X3:=Lib.hid (DAt.below X2.out bW)
  have Y3:=Lib.hid (DAt.below Y2.out bW)
  have R3:=Lib.hid (DAt.below R2.out bW)
  have B3:=Lib.hid (bt B2.out bW)
  clear bW
  clear X2 Y2 R2  B2
  go_cut [11] (fun s11 wx=>BoxW W3 sb sh sl s11 wx)
  case first=>
   have mkS:∀ w',Below W3.heap.size W3 w'→(Below W3.heap.size W3 w'∧w'.cell? ⟨ip,0,none⟩=some (.bool ab)∧w'.cell? ⟨ip,1,none⟩=some (.int .u64 ah)∧w'.cell? ⟨ip,2,none⟩=some (.int .u64 al)∧w'.cell? ⟨iq,0,none⟩=some (.bool bb)∧w'.cell? ⟨iq,1,none⟩=some (.int .u64 bh)∧w'.cell? ⟨iq,2,none⟩=some (.int .u64 bl)):=fun w' hb=>⟨hb,(WAt.below P3.out hb).c0,(WAt.below P3.out hb).c1,(WAt.below P3.out hb).c2,(WAt.below Q3.out hb).c0,(WAt.below Q3.out hb).c1,(WAt.below Q3.out hb).c2⟩
   have HS0:=mkS _ ((Below.refl _ _).drew)
   go_region_held3 (fun w'=>Below W3.heap.size W3 w'∧w'.cell? ⟨ip,0,none⟩=some (.bool ab)∧w'.cell? ⟨ip,1,none⟩=some (.int .u64 ah)∧w'.cell? ⟨ip,2,none⟩=some (.int .u64 al)∧w'.cell? ⟨iq,0,none⟩=some (.bool bb)∧w'.cell? ⟨iq,1,none⟩=some (.int .u64 bh)∧w'.cell? ⟨iq,2,none⟩=some (.int .u64 bl))
    (first | with_reducible exact HS0 | with_reducible assumption | (refine mkS _ ?_;(repeat (first | with_reducible exact And.left (by with_reducible assumption) | with_reducible exact Below.refl _ _ | refine Below.setCell ?_ (by first | omega | (simp only [World.size_alloc,hdrew];omega) | (simp<;>omega)) _ | refine Below.alloc ?_ (by first | omega | (simp only [World.size_alloc,hdrew];omega) | (simp<;>omega)) _ | refine Below.drew ?_))))
    (first
     | (go_at_call 122;(with_reducible refine (same_any bb bh bl _).mono ?_);rintro e w20 ⟨rfl,b20⟩;have HS20:=mkS _ (bt (And.left (by assumption)) b20);have T20:=Lib.hid (HS20.1);(obtain ⟨hcb20,hfb20⟩:=bcell b20;have zzb20:=Below.size b20;(try simp only [World.size_alloc,hdrew] at zzb20);(try (have llb20:W3.heap.size<w20.heap.size:=by omega));(try (have lmb20:W3.heap.size+1<w20.heap.size:=by omega)));((try replace b20:=undrew b20);first | (have QA:=Lib.hid (WAt.below (Hid.out Q0) b20)) | (have QA:=WAt.below (wAt_new _ false 0 0) b20;(try simp only [World.size_alloc,hdrew] at QA);have QA:=Lib.hid QA) | skip);(try (have ln20:W3.heap.size<w20.heap.size:=by omega));clear b20)
     | (go_at_call 155;(with_reducible refine (add_w _ _ KA'.out KB'.out hsv.out).mono ?_);rintro e w21 ⟨rfl,b21⟩;have HS21:=mkS _ (bt (And.left (by assumption)) b21);have T21:=Lib.hid (HS21.1);(obtain ⟨hcb21,hfb21⟩:=bcell b21;have zzb21:=Below.size b21;(try simp only [World.size_alloc,hdrew] at zzb21);(try (have llb21:w20.heap.size<w21.heap.size:=by omega));(try (have lmb21:w20.heap.size+1<w21.heap.size:=by omega)));((try replace b21:=undrew b21);first | (have QB:=Lib.hid (WAt.below (Hid.out QA) b21)) | (have QB:=WAt.below (wAt_new _ false 0 0) b21;(try simp only [World.size_alloc,hdrew] at QB);have QB:=Lib.hid QB) | skip);(try (have ln21:W3.heap.size<w21.heap.size:=by omega));clear b21))
   all_goals
    dsimp only [Exit.then]
    refine ‹∀ (a':Act) (w':World),Met _ a' w'→_› _ _ ?_
    go_meet
    case rel=>exact ⟨_,rfl,(by (first | with_reducible exact wAt_set3 _ _ _ QC.out | with_reducible exact wAt_set3 _ _ _ QB.out | with_reducible exact wAt_set3 _ _ _ QA.out | with_reducible exact wAt_new _ _ _ _ | with_reducible exact wAt_set3 _ _ _ (wAt_new _ _ _ _) | exact wAt_new _ _ _ _)),(by (repeat (first | with_reducible exact And.left (by with_reducible assumption) | with_reducible exact Below.refl _ _ | refine Below.setCell ?_ (by first | omega | (simp only [World.size_alloc,hdrew];omega) | (simp<;>omega)) _ | refine Below.alloc ?_ (by first | omega | (simp only [World.size_alloc,hdrew];omega) | (simp<;>omega)) _ | refine Below.drew ?_)))⟩
  case rest=>
   obtain ⟨i5,rfl,h5,b5⟩:=hcut
   have Z4:=Lib.hid h5;clear h5
   rename_i w4
   have X4:=Lib.hid (DAt.below X3.out b5)
   have Y4:=Lib.hid (DAt.below Y3.out b5)
   have R4:=Lib.hid (DAt.below R3.out b5)
   have P4:=Lib.hid (WAt.below P3.out b5)
   have Q4:=Lib.hid (WAt.below Q3.out b5)
   have B4:=Lib.hid (bt B3.out b5)
   clear b5
   clear X3 Y3 R3 P3 Q3  B3
   clear P4 Q4
   have z0:=Z4.out.c0
   have z1:=Z4.out.c1
   have z2:=Z4.out.c2
   go_wp2_with fail
   refine (made_lo (za+zb) sb sh sl m _ _ HS.out HM.out HV.out).mono ?_
   rintro e w5 ⟨rfl,b2⟩
   clear z0 z1 z2
   clear Z4
   have X5:=Lib.hid (DAt.below X4.out b2)
   have Y5:=Lib.hid (DAt.below Y4.out b2)
   have R5:=Lib.hid (DAt.below R4.out b2)
   have B5:=Lib.hid (bt B4.out b2)
   clear b2
   clear X4 Y4 R4  B4
   have r0:=R5.out.c0
   have rf0:=R5.out.f0
   have r1:=R5.out.c1
   have rf1:=R5.out.f1
   go_wp2_with fail
   refine bodyPost_ret (v:=_) (by simp [results,Tryz.results121,go_sem,noneV,r0,r1]) rfl ⟨rfl,((B5.out.setCell (by simp;omega) _).setCell (by simp;omega) _)⟩
theorem sumSub_any (c s c' s':Int) (V:Value) (w:World) (hc:fits c) (hc':fits c') (hV:ansV c s c' s' (un c s.toNat - un c' s'.toNat)=V) :
  Calls Tryz.prog 121 #[.agg #[.int .i64 c,.int .i64 s],.agg #[.int .i64 c',.int .i64 s'],.func (.func 123) #[] #[]] w fun e w'=>e=.returned V∧Below w.heap.size w w':=by
 go_enter Tryz.func121,Tryz.ntmps121
 go_upto_region 1 with fail
 obtain ⟨hX,hY,hR,hB⟩:=three_dec w c s c' s' 0 0
 have X0:=Lib.hid hX;have Y0:=Lib.hid hY;have R0:=Lib.hid hR;have B0:=Lib.hid hB;clear hX hY hR hB
 generalize World.alloc (World.alloc (World.alloc w _) _) _=W0 at X0 Y0 R0 B0⊢
 have x0:=X0.out.c0
 have x1:=X0.out.c1
 have y0:=Y0.out.c0
 have y1:=Y0.out.c1
 go_wp2_with fail
 refine (is2_any _ c s c' s' _ (by simp) (by simp) (by simp) (by simp) (by simp)).mono ?_
 rintro e w1 ⟨rfl,b1⟩
 have b1:=bt (ba W0 _) b1
 have X1:=Lib.hid (DAt.below X0.out b1)
 have Y1:=Lib.hid (DAt.below Y0.out b1)
 have R1:=Lib.hid (DAt.below R0.out b1)
 have B1:=Lib.hid (bt B0.out b1)
 clear x0 x1 y0 y1
 clear b1
 clear X0 Y0 R0  B0
 unfold ansV at hV
 generalize hb:(isB s && isB s')=bo at hV⊢
 rcases both_bools hb with ⟨rfl,_⟩ | ⟨rfl,n,n',rfl,rfl,hn,hn'⟩
 ·
  rw [if_neg (by simp)] at hV;subst hV
  have r0:=R1.out.c0
  have rf0:=R1.out.f0
  have r1:=R1.out.c1
  have rf1:=R1.out.f1
  go_wp2_with fail
  refine bodyPost_ret (v:=noneV 2) (by simp [results,Tryz.results121,go_sem,noneV,r0,r1]) rfl ⟨rfl,((B1.out.setCell (by simp;omega) _).setCell (by simp;omega) _)⟩
 ·
  rw [if_pos rfl,show ((n:Nat):Int).toNat=n from rfl,show ((n':Nat):Int).toNat=n' from rfl] at hV
  obtain ⟨m,hm⟩:∃ m,max n n'=m:=⟨_,rfl⟩
  obtain ⟨ab,ah,al,HA,KA⟩:=max_raised c n m hc (by omega) (by omega)
  obtain ⟨bb,bh,bl,HB,KB⟩:=max_raised c' n' m hc' (by omega) (by omega)
  have HC:Hid (fits c∧fits c'):=⟨hc,hc'⟩
  have HN:Hid (n≤9∧n'≤9∧max n n'=m):=⟨hn,hn',hm⟩
  rw [un_scale c n m (by omega) (by omega),un_scale c' n' m (by omega) (by omega),←Int.sub_mul] at hV
  have hA:=raised_abs c (m - n) hc (by omega);have hA':=raised_abs c' (m - n') hc' (by omega)
  have hV:decV (c*((10 ^ (m - n):Nat):Int) - c'*((10 ^ (m - n'):Nat):Int)) m=V:=by rw [←hV];have:=decV_up (c*((10 ^ (m - n):Nat):Int) - c'*((10 ^ (m - n'):Nat):Int)) m (9 - m);rw [show m+(9 - m)=9 by omega] at this;rw [←this];simp
  obtain ⟨za,hza⟩:∃ z,Hid (c*((10 ^ (m - n):Nat):Int)=z):=⟨_,rfl⟩
  obtain ⟨zb,hzb⟩:∃ z,Hid (c'*((10 ^ (m - n'):Nat):Int)=z):=⟨_,rfl⟩
  have HM:Hid (m≤9):=by show _≤_;omega
  rw [hza.out] at hA hV;rw [hzb.out] at hA' hV
  have KA':Hid (IsW za ab ah al):=by rw [←hza.out];exact KA.out
  have KB':Hid (IsW zb bb bh bl):=by rw [←hzb.out];exact KB.out
  obtain ⟨nb,nh,nl,hng,HG⟩:=isW_wv (-zb) (by omega)
  rw [show za - zb=za+ -zb by omega] at hV
  obtain ⟨sb,sh,sl,hsv,HS⟩:=isW_ov (za+ -zb) (by omega)
  obtain ⟨vc,vs,ve,hvv⟩:=decV_form (za+ -zb) m;rw [hV] at hvv;subst hvv
  have HV:=Lib.hid hV;clear hV hA hA' hm hn hn' hc hc' hb
  have x0:=X1.out.c0
  have x1:=X1.out.c1
  have y0:=Y1.out.c0
  have y1:=Y1.out.c1
  go_wp2_with fail
  refine (both_any c c' n n' m ab bb ah al bh bl _ HC.out.1 HC.out.2 HN.out.1 HN.out.2.1 HN.out.2.2 HA.out HB.out).mono ?_
  rintro e w2 ⟨rfl,b2⟩
  have X2:=Lib.hid (DAt.below X1.out b2)
  have Y2:=Lib.hid (DAt.below Y1.out b2)
  have R2:=Lib.hid (DAt.below R1.out b2)
  have B2:=Lib.hid (bt B1.out b2)
  clear x0 x1 y0 y1
  clear b2
  clear X1 Y1 R1  B1
  go_upto_region 4 with fail
  generalize hW:World.alloc (World.alloc w2 _) _=W3
  obtain ⟨hP,hQ⟩:=two_wide w2 ab bb ah al bh bl
  have bW:Below w2.heap.size w2 W3:=by rw [←hW];exact bt (ba _ _) (ba _ _)
  rw [hW] at hP hQ
  obtain ⟨iq,hiq⟩:∃ x,Hid (w2.heap.size+1=x):=⟨_,rfl⟩
  obtain ⟨ip,hip⟩:∃ x,Hid (w2.heap.size=x):=⟨_,rfl⟩
  rw [hiq.out] at hQ⊢;rw [hip.out] at hP⊢;clear hW
  have P3:=Lib.hid hP;have Q3:=Lib.hid hQ;clear hP hQ hiq hip
  have X3:=Lib.hid (DAt.below X2.out bW)
  have Y3:=Lib.hid (DAt.below Y2.out bW)
  have R3:=Lib.hid (DAt.below R2.out bW)
  have B3:=Lib.hid (bt B2.out bW)
  clear bW
  clear X2 Y2 R2  B2
  go_cut [11] (fun s11 wx=>BoxW W3 sb sh sl s11 wx)
  case first=>
   have mkS:∀ w',Below W3.heap.size W3 w'→(Below W3.heap.size W3 w'∧w'.cell? ⟨ip,0,none⟩=some (.bool ab)∧w'.cell? ⟨ip,1,none⟩=some (.int .u64 ah)∧w'.cell? ⟨ip,2,none⟩=some (.int .u64 al)∧w'.cell? ⟨iq,0,none⟩=some (.bool bb)∧w'.cell? ⟨iq,1,none⟩=some (.int .u64 bh)∧w'.cell? ⟨iq,2,none⟩=some (.int .u64 bl)):=fun w' hb=>⟨hb,(WAt.below P3.out hb).c0,(WAt.below P3.out hb).c1,(WAt.below P3.out hb).c2,(WAt.below Q3.out hb).c0,(WAt.below Q3.out hb).c1,(WAt.below Q3.out hb).c2⟩
   have HS0:=mkS _ ((Below.refl _ _).drew)
   go_region_held3 (fun w'=>Below W3.heap.size W3 w'∧w'.cell? ⟨ip,0,none⟩=some (.bool ab)∧w'.cell? ⟨ip,1,none⟩=some (.int .u64 ah)∧w'.cell? ⟨ip,2,none⟩=some (.int .u64 al)∧w'.cell? ⟨iq,0,none⟩=some (.bool bb)∧w'.cell? ⟨iq,1,none⟩=some (.int .u64 bh)∧w'.cell? ⟨iq,2,none⟩=some (.int .u64 bl))
    (first | with_reducible exact HS0 | with_reducible assumption | (refine mkS _ ?_;(repeat (first | with_reducible exact And.left (by with_reducible assumption) | with_reducible exact Below.refl _ _ | refine Below.setCell ?_ (by first | omega | (simp only [World.size_alloc,hdrew];omega) | (simp<;>omega)) _ | refine Below.alloc ?_ (by first | omega | (simp only [World.size_alloc,hdrew];omega) | (simp<;>omega)) _ | refine Below.drew ?_))))
    (first
     | (go_at_call 123;(with_reducible refine (neg_w _ _ KB'.out hng.out).mono ?_);rintro e w20 ⟨rfl,b20⟩;have HS20:=mkS _ (bt (And.left (by assumption)) b20);have T20:=Lib.hid (HS20.1);(obtain ⟨hcb20,hfb20⟩:=bcell b20;have zzb20:=Below.size b20;(try simp only [World.size_alloc,hdrew] at zzb20);(try (have llb20:W3.heap.size<w20.heap.size:=by omega));(try (have lmb20:W3.heap.size+1<w20.heap.size:=by omega)));((try replace b20:=undrew b20);first | (have QA:=Lib.hid (WAt.below (Hid.out Q0) b20)) | (have QA:=WAt.below (wAt_new _ false 0 0) b20;(try simp only [World.size_alloc,hdrew] at QA);have QA:=Lib.hid QA) | skip);(try (have ln20:W3.heap.size<w20.heap.size:=by omega));clear b20)
     | (go_at_call 155;(with_reducible refine (add_w _ _ KA'.out HG.out hsv.out).mono ?_);rintro e w21 ⟨rfl,b21⟩;have HS21:=mkS _ (bt (And.left (by assumption)) b21);have T21:=Lib.hid (HS21.1);(obtain ⟨hcb21,hfb21⟩:=bcell b21;have zzb21:=Below.size b21;(try simp only [World.size_alloc,hdrew] at zzb21);(try (have llb21:w20.heap.size<w21.heap.size:=by omega));(try (have lmb21:w20.heap.size+1<w21.heap.size:=by omega)));((try replace b21:=undrew b21);first | (have QB:=Lib.hid (WAt.below (Hid.out QA) b21)) | (have QB:=WAt.below (wAt_new _ false 0 0) b21;(try simp only [World.size_alloc,hdrew] at QB);have QB:=Lib.hid QB) | skip);(try (have ln21:W3.heap.size<w21.heap.size:=by omega));clear b21))
   all_goals
    dsimp only [Exit.then]
    refine ‹∀ (a':Act) (w':World),Met _ a' w'→_› _ _ ?_
    go_meet
    case rel=>exact ⟨_,rfl,(by (first | with_reducible exact wAt_set3 _ _ _ QC.out | with_reducible exact wAt_set3 _ _ _ QB.out | with_reducible exact wAt_set3 _ _ _ QA.out | with_reducible exact wAt_new _ _ _ _ | with_reducible exact wAt_set3 _ _ _ (wAt_new _ _ _ _) | exact wAt_new _ _ _ _)),(by (repeat (first | with_reducible exact And.left (by with_reducible assumption) | with_reducible exact Below.refl _ _ | refine Below.setCell ?_ (by first | omega | (simp only [World.size_alloc,hdrew];omega) | (simp<;>omega)) _ | refine Below.alloc ?_ (by first | omega | (simp only [World.size_alloc,hdrew];omega) | (simp<;>omega)) _ | refine Below.drew ?_)))⟩
  case rest=>
   obtain ⟨i5,rfl,h5,b5⟩:=hcut
   have Z4:=Lib.hid h5;clear h5
   rename_i w4
   have X4:=Lib.hid (DAt.below X3.out b5)
   have Y4:=Lib.hid (DAt.below Y3.out b5)
   have R4:=Lib.hid (DAt.below R3.out b5)
   have P4:=Lib.hid (WAt.below P3.out b5)
   have Q4:=Lib.hid (WAt.below Q3.out b5)
   have B4:=Lib.hid (bt B3.out b5)
   clear b5
   clear X3 Y3 R3 P3 Q3  B3
   clear P4 Q4
   have z0:=Z4.out.c0
   have z1:=Z4.out.c1
   have z2:=Z4.out.c2
   go_wp2_with fail
   refine (made_lo (za+ -zb) sb sh sl m _ _ HS.out HM.out HV.out).mono ?_
   rintro e w5 ⟨rfl,b2⟩
   clear z0 z1 z2
   clear Z4
   have X5:=Lib.hid (DAt.below X4.out b2)
   have Y5:=Lib.hid (DAt.below Y4.out b2)
   have R5:=Lib.hid (DAt.below R4.out b2)
   have B5:=Lib.hid (bt B4.out b2)
   clear b2
   clear X4 Y4 R4  B4
   have r0:=R5.out.c0
   have rf0:=R5.out.f0
   have r1:=R5.out.c1
   have rf1:=R5.out.f1
   go_wp2_with fail
   refine bodyPost_ret (v:=_) (by simp [results,Tryz.results121,go_sem,noneV,r0,r1]) rfl ⟨rfl,((B5.out.setCell (by simp;omega) _).setCell (by simp;omega) _)⟩
theorem dAdd_any (c s c' s':Int) (V:Value) (w:World) (hc:fits c) (hc':fits c') (hV:ansV c s c' s' (un c s.toNat+un c' s'.toNat)=V) :
  Calls Tryz.prog 71 #[.agg #[.int .i64 c,.int .i64 s],.agg #[.int .i64 c',.int .i64 s']] w fun e w'=>e=.returned V∧Below w.heap.size w w':=by
 obtain ⟨vc,vs,ve,hvv⟩:∃ p q e:Int,V=.tuple #[.agg #[.int .i64 p,.int .i64 q],.int .i64 e]:=by
  rw [←hV];unfold ansV;split;exact decV_form _ _;exact ⟨_,_,_,rfl⟩
 subst hvv
 go_enter Tryz.func71,Tryz.ntmps71
 go_upto_region 1 with fail
 obtain ⟨hX,hY,hR,hB⟩:=three_dec w c s c' s' 0 0
 have X0:=Lib.hid hX;have Y0:=Lib.hid hY;have R0:=Lib.hid hR;have B0:=Lib.hid hB;clear hX hY hR hB
 generalize World.alloc (World.alloc (World.alloc w _) _) _=W0 at X0 Y0 R0 B0⊢
 have x0:=X0.out.c0
 have x1:=X0.out.c1
 have y0:=Y0.out.c0
 have y1:=Y0.out.c1
 go_wp2_with fail
 refine (sumAdd_any c s c' s' _ _ hc hc' hV).mono ?_
 rintro e w1 ⟨rfl,b1⟩
 have X1:=Lib.hid (DAt.below X0.out b1)
 have Y1:=Lib.hid (DAt.below Y0.out b1)
 have R1:=Lib.hid (DAt.below R0.out b1)
 have B1:=Lib.hid (bt B0.out b1)
 clear x0 x1 y0 y1
 clear b1
 clear X0 Y0 R0  B0
 have r0:=R1.out.c0
 have rf0:=R1.out.f0
 have r1:=R1.out.c1
 have rf1:=R1.out.f1
 go_wp2_with fail
 refine bodyPost_ret (v:=_) (by simp [results,Tryz.results71,go_sem,noneV,r0,r1]) rfl ⟨rfl,((B1.out.setCell (by simp;omega) _).setCell (by simp;omega) _)⟩
theorem dSub_any (c s c' s':Int) (V:Value) (w:World) (hc:fits c) (hc':fits c') (hV:ansV c s c' s' (un c s.toNat - un c' s'.toNat)=V) :
  Calls Tryz.prog 72 #[.agg #[.int .i64 c,.int .i64 s],.agg #[.int .i64 c',.int .i64 s']] w fun e w'=>e=.returned V∧Below w.heap.size w w':=by
 obtain ⟨vc,vs,ve,hvv⟩:∃ p q e:Int,V=.tuple #[.agg #[.int .i64 p,.int .i64 q],.int .i64 e]:=by
  rw [←hV];unfold ansV;split;exact decV_form _ _;exact ⟨_,_,_,rfl⟩
 subst hvv
 go_enter Tryz.func72,Tryz.ntmps72
 go_upto_region 1 with fail
 obtain ⟨hX,hY,hR,hB⟩:=three_dec w c s c' s' 0 0
 have X0:=Lib.hid hX;have Y0:=Lib.hid hY;have R0:=Lib.hid hR;have B0:=Lib.hid hB;clear hX hY hR hB
 generalize World.alloc (World.alloc (World.alloc w _) _) _=W0 at X0 Y0 R0 B0⊢
 have x0:=X0.out.c0
 have x1:=X0.out.c1
 have y0:=Y0.out.c0
 have y1:=Y0.out.c1
 go_wp2_with fail
 refine (sumSub_any c s c' s' _ _ hc hc' hV).mono ?_
 rintro e w1 ⟨rfl,b1⟩
 have X1:=Lib.hid (DAt.below X0.out b1)
 have Y1:=Lib.hid (DAt.below Y0.out b1)
 have R1:=Lib.hid (DAt.below R0.out b1)
 have B1:=Lib.hid (bt B0.out b1)
 clear x0 x1 y0 y1
 clear b1
 clear X0 Y0 R0  B0
 have r0:=R1.out.c0
 have rf0:=R1.out.f0
 have r1:=R1.out.c1
 have rf1:=R1.out.f1
 go_wp2_with fail
 refine bodyPost_ret (v:=_) (by simp [results,Tryz.results72,go_sem,noneV,r0,r1]) rfl ⟨rfl,((B1.out.setCell (by simp;omega) _).setCell (by simp;omega) _)⟩
end Go.Proofs.YteagpbkbdlmdiaaGreat
