/-
  The document's decimals (corrodyref02), walked: Mul, Div.
-/
import Derived.Test.YteagpbkbdlmdiaaGreatM22
/- The document's decimals (corrodyref02), walked: Mul, Div. -/
namespace Go.Proofs.YteagpbkbdlmdiaaGreat
set_option maxRecDepth 100000
set_option maxHeartbeats 40000000
open Go.RowKit
set_option linter.unusedSimpArgs false
set_option linter.unusedVariables false
attribute [local go_sem ↓] Go.wp_at_zero Go.wp_at_succ
def BoxN (W:World) (K:Nat) (z:Int) (s:Value) (wx:World):Prop:=
 ∃ (i:Nat) (b:Bool) (a:Option Addr) (n c:Nat),s=.pointer (some ⟨i,0,none⟩)∧BoxAt wx i (.bool b) (.slice a n c)∧Num K wx (.agg #[.bool b,.slice a n c]) z∧Below W.heap.size W wx
def BoxNN (W:World) (K K':Nat) (z z':Int) (s s':Value) (wx:World):Prop:=
 ∃ (i j:Nat) (b b':Bool) (a a':Option Addr) (n c n' c':Nat),s=.pointer (some ⟨i,0,none⟩)∧s'=.pointer (some ⟨j,0,none⟩)∧i ≠ j∧W.heap.size≤i∧W.heap.size≤j∧BoxAt wx i (.bool b) (.slice a n c)∧BoxAt wx j (.bool b') (.slice a' n' c')∧
  Num K wx (.agg #[.bool b,.slice a n c]) z∧Num K' wx (.agg #[.bool b',.slice a' n' c']) z'∧Below W.heap.size W wx
theorem mul_val (x y:Int):evenZ (x*((10 ^ 9:Nat):Int)*(y*((10 ^ 9:Nat):Int))) (10 ^ 27)=evenZ (x*y) (10 ^ 9):=by
 rw [pow_split 9 18 27 (by omega),pow_split 9 9 18 (by omega)]
 have e:x*((10 ^ 9:Nat):Int)*(y*((10 ^ 9:Nat):Int))=x*y*((10 ^ 9*10 ^ 9:Nat):Int):=by
  rw [Int.natCast_mul,Int.mul_assoc,Int.mul_assoc,Int.mul_left_comm ((10 ^ 9:Nat):Int)]
 rw [e,evenZ_scale _ _ _ (by have:=ten_pos 9;exact Nat.mul_pos this this)]
theorem ten27 (w:World):Calls Tryz.prog 137 #[.int .i64 27] w (NumPost 28 ((10 ^ 27:Nat):Int) w):=ten_f 27 w (by omega)
theorem ten9 (w:World):Calls Tryz.prog 137 #[.int .i64 9] w (NumPost 28 ((10 ^ 9:Nat):Int) w):=ten_f 9 w (by omega)
theorem rMul_any (c c':Int) (n n':Nat) (V:Value) (w:World) (hc:fits c) (hc':fits c') (hn:n≤9) (hn':n'≤9) (hV:decV (evenZ (un c n*un c' n') (10 ^ 9)) 9=V) :
  Calls Tryz.prog 87 #[.agg #[.int .i64 c,.int .i64 (n:Int)],.agg #[.int .i64 c',.int .i64 (n':Int)]] w fun e w'=>e=.returned V∧Below w.heap.size w w':=by
 rw [←mul_val] at hV
 obtain ⟨z,HZZ⟩:∃ z,Hid (un c n*((10 ^ 9:Nat):Int)*(un c' n'*((10 ^ 9:Nat):Int))=z):=⟨_,Lib.hid rfl⟩
 rw [HZZ.out] at hV
 obtain ⟨vc,vs,ve,hvv⟩:=decV_form (evenZ z (10 ^ 27)) 9;rw [hV] at hvv;subst hvv
 have HN:Hid (fits c∧n≤9∧fits c'∧n'≤9):=⟨hc,hn,hc',hn'⟩
 have HV:=Lib.hid hV;clear hV hc hc' hn hn'
 go_enter Tryz.func87,Tryz.ntmps87
 go_upto_region 1 with fail
 obtain ⟨hX,hY,hR,hB⟩:=three_dec w c (n:Int) c' (n':Int) 0 0
 have X0:=Lib.hid hX;have Y0:=Lib.hid hY;have R0:=Lib.hid hR;have B0:=Lib.hid hB;clear hX hY hR hB
 generalize World.alloc (World.alloc (World.alloc w _) _) _=W0 at X0 Y0 R0 B0⊢
 obtain ⟨iR,hiR⟩:∃ x,Hid (w.heap.size+1+1=x):=⟨_,rfl⟩
 obtain ⟨iY,hiY⟩:∃ x,Hid (w.heap.size+1=x):=⟨_,rfl⟩
 have hlt:w.heap.size<iY∧iY<iR:=by have:=hiR.out;have:=hiY.out;omega
 rw [hiR.out] at R0⊢;rw [hiY.out] at Y0⊢;clear hiR hiY
 go_cut [6] (fun s6 wx=>BoxN W0 72 z s6 wx)
 case first=>
  have mkS:∀ w',Below W0.heap.size W0 w'→(Below W0.heap.size W0 w'∧w'.cell? ⟨w.heap.size,0,none⟩=some (.int .i64 c)∧w'.cell? ⟨w.heap.size,1,none⟩=some (.int .i64 (n:Int))∧w'.cell? ⟨iY,0,none⟩=some (.int .i64 c')∧w'.cell? ⟨iY,1,none⟩=some (.int .i64 (n':Int))):=fun w' hb=>⟨hb,(DAt.below X0.out hb).c0,(DAt.below X0.out hb).c1,(DAt.below Y0.out hb).c0,(DAt.below Y0.out hb).c1⟩
  have HS0:=mkS _ ((Below.refl _ _).drew)
  go_region_held3 (fun w'=>Below W0.heap.size W0 w'∧w'.cell? ⟨w.heap.size,0,none⟩=some (.int .i64 c)∧w'.cell? ⟨w.heap.size,1,none⟩=some (.int .i64 (n:Int))∧w'.cell? ⟨iY,0,none⟩=some (.int .i64 c')∧w'.cell? ⟨iY,1,none⟩=some (.int .i64 (n':Int)))
   (first | with_reducible exact HS0 | with_reducible assumption | (refine mkS _ ?_;(repeat (first | with_reducible exact And.left (by with_reducible assumption) | with_reducible exact Below.refl _ _ | refine Below.setCell ?_ (by first | omega | (simp only [World.size_alloc,hdrew];omega) | (simp<;>omega)) _ | refine Below.alloc ?_ (by first | omega | (simp only [World.size_alloc,hdrew];omega) | (simp<;>omega)) _ | refine Below.drew ?_))))
   (first
    | (go_at_call 131;(with_reducible refine (units_any c n _ HN.out.1 HN.out.2.1).mono ?_);rintro e w20 ⟨v20,hz,rfl,b20⟩;have HS20:=mkS _ (bt (And.left (by assumption)) b20);have T20:=Lib.hid (HS20.1);have sz20:=HS20.1.size;(obtain ⟨hcb20,hfb20⟩:=bcell b20;have zzb20:=Below.size b20;(try simp only [World.size_alloc,hdrew] at zzb20);(try (have llb20:W0.heap.size<w20.heap.size:=by omega));(try (have lmb20:W0.heap.size+1<w20.heap.size:=by omega)));have N20:=Lib.hid hz;clear hz;((try replace b20:=undrew b20);(try (replace QA:=Lib.hid (boxAt_below (Hid.out QA) (Hid.out T20))));(try (replace QB:=Lib.hid (boxAt_below (Hid.out QB) (Hid.out T20))));first | (have _t:=QB;clear _t) | (have _t:=QA;clear _t;have QB:=boxAt_below (boxAt_new _ _ _) b20;(try simp only [World.size_alloc,hdrew] at QB);have QB:=Lib.hid QB) | (have QB:=boxAt_below (boxAt_new (World.alloc _ _) _ _) b20;have QA:=boxAt_below (boxAt_below (boxAt_new _ _ _) (ba _ _)) b20;(try simp only [World.size_alloc,hdrew] at QA);(try simp only [World.size_alloc,hdrew] at QB);have QA:=Lib.hid QA;have QB:=Lib.hid QB) | (have QA:=boxAt_below (boxAt_new _ _ _) b20;(try simp only [World.size_alloc,hdrew] at QA);have QA:=Lib.hid QA) | skip);(try (have lp20_0:W0.heap.size<w20.heap.size:=by omega));(try (have lq20_0:W0.heap.size+1<w20.heap.size:=by omega));clear b20)
    | (go_at_call 131;(with_reducible refine (units_any c' n' _ HN.out.2.2.1 HN.out.2.2.2).mono ?_);rintro e w21 ⟨v21,hz,rfl,b21⟩;have HS21:=mkS _ (bt (And.left (by assumption)) b21);have T21:=Lib.hid (HS21.1);have sz21:=HS21.1.size;(obtain ⟨hcb21,hfb21⟩:=bcell b21;have zzb21:=Below.size b21;(try simp only [World.size_alloc,hdrew] at zzb21);(try (have llb21:w20.heap.size<w21.heap.size:=by omega));(try (have lmb21:w20.heap.size+1<w21.heap.size:=by omega)));have V21:Below w20.heap.size w20 w21:=(by first | with_reducible exact b21 | with_reducible exact bt (ba _ _) b21 | with_reducible exact bt (ba _ _) (bt (ba _ _) b21));replace V21:=Lib.hid V21;have N21:=Lib.hid hz;clear hz;((try replace b21:=undrew b21);(try (replace QA:=Lib.hid (boxAt_below (Hid.out QA) (Hid.out V21))));(try (replace QB:=Lib.hid (boxAt_below (Hid.out QB) (Hid.out V21))));first | (have _t:=QB;clear _t) | (have _t:=QA;clear _t;have QB:=boxAt_below (boxAt_new _ _ _) b21;(try simp only [World.size_alloc,hdrew] at QB);have QB:=Lib.hid QB) | (have QB:=boxAt_below (boxAt_new (World.alloc _ _) _ _) b21;have QA:=boxAt_below (boxAt_below (boxAt_new _ _ _) (ba _ _)) b21;(try simp only [World.size_alloc,hdrew] at QA);(try simp only [World.size_alloc,hdrew] at QB);have QA:=Lib.hid QA;have QB:=Lib.hid QB) | (have QA:=boxAt_below (boxAt_new _ _ _) b21;(try simp only [World.size_alloc,hdrew] at QA);have QA:=Lib.hid QA) | skip);(try (have lp21_0:W0.heap.size<w21.heap.size:=by omega));(try (have lq21_0:W0.heap.size+1<w21.heap.size:=by omega));(try (have lp21_1:w20.heap.size<w21.heap.size:=by omega));(try (have lq21_1:w20.heap.size+1<w21.heap.size:=by omega));clear b21)
    | (go_at_call 135;(with_reducible refine (mul_any 36 36 _ _ _ _ _ (by first | with_reducible exact (num_below N20.out V21.out) | with_reducible exact num_below (num_below N20.out V21.out) (ba _ _) | with_reducible exact num_below (num_below N20.out V21.out) (bt (ba _ _) (ba _ _))) (by first | with_reducible exact N21.out | with_reducible exact num_below N21.out (ba _ _) | with_reducible exact num_below N21.out (bt (ba _ _) (ba _ _))) (by omega) (by omega)).mono ?_);rintro e w22 ⟨v22,hz,rfl,b22⟩;have HS22:=mkS _ (bt (And.left (by assumption)) b22);have T22:=Lib.hid (HS22.1);have sz22:=HS22.1.size;(obtain ⟨hcb22,hfb22⟩:=bcell b22;have zzb22:=Below.size b22;(try simp only [World.size_alloc,hdrew] at zzb22);(try (have llb22:w21.heap.size<w22.heap.size:=by omega));(try (have lmb22:w21.heap.size+1<w22.heap.size:=by omega)));have V22:Below w21.heap.size w21 w22:=(by first | with_reducible exact b22 | with_reducible exact bt (ba _ _) b22 | with_reducible exact bt (ba _ _) (bt (ba _ _) b22));replace V22:=Lib.hid V22;obtain ⟨q22,a22,m22,c22,rfl⟩:=num_agg hz;have N22:Hid (Num 72 w22 (.agg #[.bool q22,.slice a22 m22 c22]) z):=(by show Num _ _ _ _;rw [←HZZ.out];exact hz);clear hz;((try replace b22:=undrew b22);(try (replace QA:=Lib.hid (boxAt_below (Hid.out QA) (Hid.out V22))));(try (replace QB:=Lib.hid (boxAt_below (Hid.out QB) (Hid.out V22))));first | (have _t:=QB;clear _t) | (have _t:=QA;clear _t;have QB:=boxAt_below (boxAt_new _ _ _) b22;(try simp only [World.size_alloc,hdrew] at QB);have QB:=Lib.hid QB) | (have QB:=boxAt_below (boxAt_new (World.alloc _ _) _ _) b22;have QA:=boxAt_below (boxAt_below (boxAt_new _ _ _) (ba _ _)) b22;(try simp only [World.size_alloc,hdrew] at QA);(try simp only [World.size_alloc,hdrew] at QB);have QA:=Lib.hid QA;have QB:=Lib.hid QB) | (have QA:=boxAt_below (boxAt_new _ _ _) b22;(try simp only [World.size_alloc,hdrew] at QA);have QA:=Lib.hid QA) | skip);(try (have lp22_0:W0.heap.size<w22.heap.size:=by omega));(try (have lq22_0:W0.heap.size+1<w22.heap.size:=by omega));(try (have lp22_1:w20.heap.size<w22.heap.size:=by omega));(try (have lq22_1:w20.heap.size+1<w22.heap.size:=by omega));(try (have lp22_2:w21.heap.size<w22.heap.size:=by omega));(try (have lq22_2:w21.heap.size+1<w22.heap.size:=by omega));clear b22))
  all_goals
   dsimp only [Exit.then]
   refine ‹∀ (a':Act) (w':World),Met _ a' w'→_› _ _ ?_
   go_meet
   case rel=>
    refine ⟨_,q22,a22,m22,c22,rfl,?q3,?q4,?q5⟩
    case q3=>(repeat (first | with_reducible exact boxAt_set2 _ _ QA.out | with_reducible exact boxAt_set2 _ _ QB.out | with_reducible exact QA.out | with_reducible exact QB.out | (with_reducible refine boxAt_new' _ _ ?_;first | rfl | (simp;done)) | with_reducible refine boxAt_below ?_ (ba _ _) | with_reducible exact boxAt_set2 _ _ (boxAt_below QA.out (ba _ _)) | with_reducible exact boxAt_set2 _ _ (boxAt_below QB.out (ba _ _)) | with_reducible exact boxAt_set2 _ _ (boxAt_other2 _ _ QA.out (by first | omega | (simp<;>omega))) | with_reducible exact boxAt_set2 _ _ (boxAt_other2 _ _ QB.out (by first | omega | (simp<;>omega))) | with_reducible refine boxAt_other2 _ _ ?_ (by first | omega | (simp<;>omega))))
    case q4=>(repeat (first | with_reducible exact N22.out | with_reducible refine num_below ?_ (ba _ _) | with_reducible refine num_set2 _ _ ?_ QA.out | with_reducible refine num_set2 _ _ ?_ QB.out | with_reducible refine num_set2 _ _ ?_ (boxAt_below QA.out (ba _ _)) | with_reducible refine num_set2 _ _ ?_ (boxAt_below QB.out (ba _ _)) | with_reducible refine num_set2 _ _ ?_ (boxAt_other2 _ _ QA.out (by first | omega | (simp<;>omega))) | with_reducible refine num_set2 _ _ ?_ (boxAt_other2 _ _ QB.out (by first | omega | (simp<;>omega)))))
    case q5=>(repeat (first | with_reducible exact And.left (by with_reducible assumption) | with_reducible exact Below.refl _ _ | refine Below.setCell ?_ (by first | omega | (simp only [World.size_alloc,hdrew];omega) | (simp<;>omega)) _ | refine Below.alloc ?_ (by first | omega | (simp only [World.size_alloc,hdrew];omega) | (simp<;>omega)) _ | refine Below.drew ?_))
 case rest=>
  obtain ⟨i6,zb,za,zn,zc,rfl,h6,hn6,b6⟩:=hcut
  have Z1:=Lib.hid h6;have NZ1:=Lib.hid hn6;clear h6 hn6
  have X1:=Lib.hid (DAt.below X0.out b6)
  have Y1:=Lib.hid (DAt.below Y0.out b6)
  have R1:=Lib.hid (DAt.below R0.out b6)
  have B1:=Lib.hid (bt B0.out b6)
  clear b6
  clear X0 Y0 R0  B0
  have hzR:i6 ≠ iR:=fun h=>by have h1:=Z1.out;have h2:=R1.out;subst h;unfold BoxAt at h1;unfold DAt at h2;rw [h1] at h2;simp at h2
  go_upto_region 2 with fail
  have HS0:(fun w':World=>w'.cell? ⟨i6,0,none⟩=some (.bool zb)∧w'.cell? ⟨i6,1,none⟩=some (.slice za zn zc)) wc.drew:=⟨(boxAt_below Z1.out ((Below.refl _ _).drew)).c0,(boxAt_below Z1.out ((Below.refl _ _).drew)).c1⟩
  go_region_held3 (fun w'=>w'.cell? ⟨i6,0,none⟩=some (.bool zb)∧w'.cell? ⟨i6,1,none⟩=some (.slice za zn zc))
   (first | with_reducible exact HS0 | with_reducible assumption | with_reducible exact ⟨((boxAt_set_other _ _ (boxAt_set_other _ _ (boxAt_below Z1.out T22.out) (by omega)) (by omega))).c0,((boxAt_set_other _ _ (boxAt_set_other _ _ (boxAt_below Z1.out T22.out) (by omega)) (by omega))).c1⟩)
   (first
    | (go_at_call 137;(with_reducible refine (ten27 _).mono ?_);rintro e w20 ⟨v20,hz,rfl,b20⟩;have T20:Hid (Below wc.heap.size wc w20):=bt ((Below.refl _ _).drew) b20;have HS20:w20.cell? ⟨i6,0,none⟩=some (.bool zb)∧w20.cell? ⟨i6,1,none⟩=some (.slice za zn zc):=⟨(boxAt_below Z1.out T20.out).c0,(boxAt_below Z1.out T20.out).c1⟩;have N20:=Lib.hid hz;have V20:=Lib.hid b20;clear hz;clear b20)
    | (go_at_call 136;(with_reducible refine (even_f 72 _ _ z (10 ^ 27) _ (num_below NZ1.out T20.out) N20.out (ten_pos 27) (by omega)).mono ?_);rintro e w21 ⟨v21,hz,rfl,b21⟩;have T21:Hid (Below wc.heap.size wc w21):=bt T20.out b21;have HS21:w21.cell? ⟨i6,0,none⟩=some (.bool zb)∧w21.cell? ⟨i6,1,none⟩=some (.slice za zn zc):=⟨(boxAt_below Z1.out T21.out).c0,(boxAt_below Z1.out T21.out).c1⟩;have N21:=Lib.hid hz;have V21:=Lib.hid b21;clear hz;clear b21)
    | (go_at_call 129;(with_reducible refine (made9_any _ _ _ _ _ N21.out (by omega) HV.out).mono ?_);rintro e w22 ⟨rfl,b22⟩;have T22:Hid (Below wc.heap.size wc w22):=bt T21.out b22;have HS22:w22.cell? ⟨i6,0,none⟩=some (.bool zb)∧w22.cell? ⟨i6,1,none⟩=some (.slice za zn zc):=⟨(boxAt_below Z1.out T22.out).c0,(boxAt_below Z1.out T22.out).c1⟩;have B9:=Lib.hid (bt B1.out T22.out);have R9:=Lib.hid (DAt.below R1.out T22.out);have r0:=R9.out.c0;have rf0:=R9.out.f0;have r1:=R9.out.c1;have rf1:=R9.out.f1;clear b22))
  all_goals
   go_wp2_with fail
   refine bodyPost_ret (v:=_) (by simp [results,Tryz.results87,go_sem,noneV,r0,r1]) rfl ⟨rfl,((B9.out.setCell (by simp;omega) _).setCell (by simp;omega) _)⟩
def RDivMid (W:World) (B i j iR:Nat) (z:Int) (Y:Nat) (wx:World):Prop:=
 ∃ (b b':Bool) (a a':Option Addr) (n c n' c':Nat),Hid (BoxAt wx i (.bool b) (.slice a n c))∧Hid (BoxAt wx j (.bool b') (.slice a' n' c'))∧Hid (Num 64 wx (.agg #[.bool b,.slice a n c]) z)∧Hid (Num 36 wx (.agg #[.bool b',.slice a' n' c']) (Y:Int))∧Hid (DAt wx iR 0 0)∧Hid (Below B W wx)
theorem un_neg (c:Int) (n:Nat):decide (un c n*((10 ^ 9:Nat):Int)<0)=decide (c<0):=by
 unfold un
 have h1:(0:Int)<(10:Int) ^ (9 - n):=by have:=ten_pos (9 - n);rw [←pow_int];omega
 have h2:(0:Int)<((10 ^ 9:Nat):Int):=by have:=ten_pos 9;omega
 have e:(c*(10:Int) ^ (9 - n)*((10 ^ 9:Nat):Int)<0)↔c<0:=by
  rw [Int.mul_assoc]
  have h3:=Int.mul_pos h1 h2
  constructor
  ·intro h;by_cases hc:c<0
   ·exact hc
   ·have:=Int.mul_nonneg (show 0≤c by omega) (Int.le_of_lt h3);omega
  ·intro h;exact Int.mul_neg_of_neg_of_pos h h3
 simp only [e]
theorem un_ne (c:Int) (n:Nat) (hc:c ≠ 0):0<(un c n).natAbs:=by
 unfold un
 have h1:(0:Int)<(10:Int) ^ (9 - n):=by have:=ten_pos (9 - n);rw [←pow_int];omega
 have:c*(10:Int) ^ (9 - n) ≠ 0:=Int.mul_ne_zero hc (by omega)
 omega
theorem div_val (c c':Int) (n n':Nat) (s:Int) (hs:s=if c'<0 then -(un c n*((10 ^ 9:Nat):Int)*((10 ^ 9:Nat):Int)) else un c n*((10 ^ 9:Nat):Int)*((10 ^ 9:Nat):Int)) :
  evenZ s ((un c' n').natAbs*10 ^ 9)=evenZ ((if c'<0 then -(un c n) else un c n)*((10 ^ 9:Nat):Int)) (un c' n').natAbs:=by
 have e:s=(if c'<0 then -(un c n) else un c n)*((10 ^ 9:Nat):Int)*((10 ^ 9:Nat):Int):=by
  rw [hs];split
  ·rw [Int.neg_mul,Int.neg_mul]
  ·rfl
 rw [e,evenZ_scale _ _ _ (ten_pos 9)]
theorem abs_val (c:Int) (n:Nat) (hc:c ≠ 0) (s:Int) (hs:s=if c<0 then -(un c n*((10 ^ 9:Nat):Int)) else un c n*((10 ^ 9:Nat):Int)):s=(((un c n).natAbs*10 ^ 9:Nat):Int):=by
 have h:=un_neg c n
 have e:(un c n*((10 ^ 9:Nat):Int)).natAbs=(un c n).natAbs*10 ^ 9:=by rw [Int.natAbs_mul,Int.natAbs_natCast]
 rw [←e,hs]
 by_cases hc:c<0
 ·rw [if_pos hc];have:=of_decide_eq_true (h.trans (decide_eq_true hc));omega
 ·rw [if_neg hc];have:=of_decide_eq_false (h.trans (decide_eq_false hc));omega
theorem rDiv_any (c c':Int) (n n':Nat) (V:Value) (w:World) (hc:fits c) (hc':fits c') (hn:n≤9) (hn':n'≤9) (hc0:c' ≠ 0) (hV:decV (evenZ ((if c'<0 then -(un c n) else un c n)*((10 ^ 9:Nat):Int)) (un c' n').natAbs) 9=V) :
  Calls Tryz.prog 88 #[.agg #[.int .i64 c,.int .i64 (n:Int)],.agg #[.int .i64 c',.int .i64 (n':Int)]] w fun e w'=>e=.returned V∧Below w.heap.size w w':=by
 obtain ⟨s,HS⟩:∃ s,Hid (s=if c'<0 then -(un c n*((10 ^ 9:Nat):Int)*((10 ^ 9:Nat):Int)) else un c n*((10 ^ 9:Nat):Int)*((10 ^ 9:Nat):Int)):=⟨_,Lib.hid rfl⟩
 obtain ⟨t,HT⟩:∃ t,Hid (t=if c'<0 then -(un c' n'*((10 ^ 9:Nat):Int)) else un c' n'*((10 ^ 9:Nat):Int)):=⟨_,Lib.hid rfl⟩
 rw [←div_val c c' n n' s HS.out] at hV
 have HTY:=Lib.hid (abs_val c' n' hc0 t HT.out)
 obtain ⟨Y,HY⟩:∃ Y,Hid ((un c' n').natAbs*10 ^ 9=Y):=⟨_,Lib.hid rfl⟩
 have HY0:Hid (0<Y):=by show _<_;rw [←HY.out];exact Nat.mul_pos (un_ne c' n' hc0) (ten_pos 9)
 rw [HY.out] at hV HTY
 obtain ⟨vc,vs,ve,hvv⟩:=decV_form (evenZ s Y) 9;rw [hV] at hvv;subst hvv
 have HNG:=Lib.hid (un_neg c' n')
 have HN:Hid (fits c∧n≤9∧fits c'∧n'≤9):=⟨hc,hn,hc',hn'⟩
 have HV:=Lib.hid hV;clear hV hc hc' hn hn' hc0
 go_enter Tryz.func88,Tryz.ntmps88
 go_upto_region 1 with fail
 obtain ⟨hX,hY,hR,hB⟩:=three_dec w c (n:Int) c' (n':Int) 0 0
 have X0:=Lib.hid hX;have Y0:=Lib.hid hY;have R0:=Lib.hid hR;have B0:=Lib.hid hB;clear hX hY hR hB
 generalize World.alloc (World.alloc (World.alloc w _) _) _=W0 at X0 Y0 R0 B0⊢
 obtain ⟨iR,hiR⟩:∃ x,Hid (w.heap.size+1+1=x):=⟨_,rfl⟩
 obtain ⟨iY,hiY⟩:∃ x,Hid (w.heap.size+1=x):=⟨_,rfl⟩
 have hlt:w.heap.size<iY∧iY<iR:=by have:=hiR.out;have:=hiY.out;omega
 rw [hiR.out] at R0⊢;rw [hiY.out] at Y0⊢;clear hiR hiY
 go_cut [6,7] (fun s6 s7 wx=>BoxNN W0 64 36 (un c n*((10 ^ 9:Nat):Int)*((10 ^ 9:Nat):Int)) (un c' n'*((10 ^ 9:Nat):Int)) s6 s7 wx)
 case first=>
  have mkS:∀ w',Below W0.heap.size W0 w'→(Below W0.heap.size W0 w'∧w'.cell? ⟨w.heap.size,0,none⟩=some (.int .i64 c)∧w'.cell? ⟨w.heap.size,1,none⟩=some (.int .i64 (n:Int))∧w'.cell? ⟨iY,0,none⟩=some (.int .i64 c')∧w'.cell? ⟨iY,1,none⟩=some (.int .i64 (n':Int))):=fun w' hb=>⟨hb,(DAt.below X0.out hb).c0,(DAt.below X0.out hb).c1,(DAt.below Y0.out hb).c0,(DAt.below Y0.out hb).c1⟩
  have HS0:=mkS _ ((Below.refl _ _).drew)
  go_region_held3 (fun w'=>Below W0.heap.size W0 w'∧w'.cell? ⟨w.heap.size,0,none⟩=some (.int .i64 c)∧w'.cell? ⟨w.heap.size,1,none⟩=some (.int .i64 (n:Int))∧w'.cell? ⟨iY,0,none⟩=some (.int .i64 c')∧w'.cell? ⟨iY,1,none⟩=some (.int .i64 (n':Int)))
   (first | with_reducible exact HS0 | with_reducible assumption | (refine mkS _ ?_;(repeat (first | with_reducible exact And.left (by with_reducible assumption) | with_reducible exact Below.refl _ _ | refine Below.setCell ?_ (by first | omega | (simp only [World.size_alloc,hdrew];omega) | (simp<;>omega)) _ | refine Below.alloc ?_ (by first | omega | (simp only [World.size_alloc,hdrew];omega) | (simp<;>omega)) _ | refine Below.drew ?_))))
   (first
    | (go_at_call 131;(with_reducible refine (units_any c n _ HN.out.1 HN.out.2.1).mono ?_);rintro e w20 ⟨v20,hz,rfl,b20⟩;have HS20:=mkS _ (bt (And.left (by assumption)) b20);have T20:=Lib.hid (HS20.1);have sz20:=HS20.1.size;(obtain ⟨hcb20,hfb20⟩:=bcell b20;have zzb20:=Below.size b20;(try simp only [World.size_alloc,hdrew] at zzb20);(try (have llb20:W0.heap.size<w20.heap.size:=by omega));(try (have lmb20:W0.heap.size+1<w20.heap.size:=by omega)));have N20:=Lib.hid hz;clear hz;((try replace b20:=undrew b20);(try (replace QA:=Lib.hid (boxAt_below (Hid.out QA) (Hid.out T20))));(try (replace QB:=Lib.hid (boxAt_below (Hid.out QB) (Hid.out T20))));first | (have _t:=QB;clear _t) | (have _t:=QA;clear _t;have QB:=boxAt_below (boxAt_new _ _ _) b20;(try simp only [World.size_alloc,hdrew] at QB);have QB:=Lib.hid QB) | (have QB:=boxAt_below (boxAt_new (World.alloc _ _) _ _) b20;have QA:=boxAt_below (boxAt_below (boxAt_new _ _ _) (ba _ _)) b20;(try simp only [World.size_alloc,hdrew] at QA);(try simp only [World.size_alloc,hdrew] at QB);have QA:=Lib.hid QA;have QB:=Lib.hid QB) | (have QA:=boxAt_below (boxAt_new _ _ _) b20;(try simp only [World.size_alloc,hdrew] at QA);have QA:=Lib.hid QA) | skip);(try (have lp20_0:W0.heap.size<w20.heap.size:=by omega));(try (have lq20_0:W0.heap.size+1<w20.heap.size:=by omega));clear b20)
    | (go_at_call 137;(with_reducible refine (ten9 _).mono ?_);rintro e w21 ⟨v21,hz,rfl,b21⟩;have HS21:=mkS _ (bt (And.left (by assumption)) b21);have T21:=Lib.hid (HS21.1);have sz21:=HS21.1.size;(obtain ⟨hcb21,hfb21⟩:=bcell b21;have zzb21:=Below.size b21;(try simp only [World.size_alloc,hdrew] at zzb21);(try (have llb21:w20.heap.size<w21.heap.size:=by omega));(try (have lmb21:w20.heap.size+1<w21.heap.size:=by omega)));have V21:Below w20.heap.size w20 w21:=(by first | with_reducible exact b21 | with_reducible exact bt (ba _ _) b21 | with_reducible exact bt (ba _ _) (bt (ba _ _) b21));replace V21:=Lib.hid V21;have N21:=Lib.hid hz;clear hz;((try replace b21:=undrew b21);(try (replace QA:=Lib.hid (boxAt_below (Hid.out QA) (Hid.out V21))));(try (replace QB:=Lib.hid (boxAt_below (Hid.out QB) (Hid.out V21))));first | (have _t:=QB;clear _t) | (have _t:=QA;clear _t;have QB:=boxAt_below (boxAt_new _ _ _) b21;(try simp only [World.size_alloc,hdrew] at QB);have QB:=Lib.hid QB) | (have QB:=boxAt_below (boxAt_new (World.alloc _ _) _ _) b21;have QA:=boxAt_below (boxAt_below (boxAt_new _ _ _) (ba _ _)) b21;(try simp only [World.size_alloc,hdrew] at QA);(try simp only [World.size_alloc,hdrew] at QB);have QA:=Lib.hid QA;have QB:=Lib.hid QB) | (have QA:=boxAt_below (boxAt_new _ _ _) b21;(try simp only [World.size_alloc,hdrew] at QA);have QA:=Lib.hid QA) | skip);(try (have lp21_0:W0.heap.size<w21.heap.size:=by omega));(try (have lq21_0:W0.heap.size+1<w21.heap.size:=by omega));(try (have lp21_1:w20.heap.size<w21.heap.size:=by omega));(try (have lq21_1:w20.heap.size+1<w21.heap.size:=by omega));clear b21)
    | (go_at_call 135;(with_reducible refine (mul_any 36 28 _ _ _ _ _ (by first | with_reducible exact (num_below N20.out V21.out) | with_reducible exact num_below (num_below N20.out V21.out) (ba _ _) | with_reducible exact num_below (num_below N20.out V21.out) (bt (ba _ _) (ba _ _))) (by first | with_reducible exact N21.out | with_reducible exact num_below N21.out (ba _ _) | with_reducible exact num_below N21.out (bt (ba _ _) (ba _ _))) (by omega) (by omega)).mono ?_);rintro e w22 ⟨v22,hz,rfl,b22⟩;have HS22:=mkS _ (bt (And.left (by assumption)) b22);have T22:=Lib.hid (HS22.1);have sz22:=HS22.1.size;(obtain ⟨hcb22,hfb22⟩:=bcell b22;have zzb22:=Below.size b22;(try simp only [World.size_alloc,hdrew] at zzb22);(try (have llb22:w21.heap.size<w22.heap.size:=by omega));(try (have lmb22:w21.heap.size+1<w22.heap.size:=by omega)));have V22:Below w21.heap.size w21 w22:=(by first | with_reducible exact b22 | with_reducible exact bt (ba _ _) b22 | with_reducible exact bt (ba _ _) (bt (ba _ _) b22));replace V22:=Lib.hid V22;obtain ⟨q22,a22,m22,c22,rfl⟩:=num_agg hz;have N22:=Lib.hid hz;clear hz;((try replace b22:=undrew b22);(try (replace QA:=Lib.hid (boxAt_below (Hid.out QA) (Hid.out V22))));(try (replace QB:=Lib.hid (boxAt_below (Hid.out QB) (Hid.out V22))));first | (have _t:=QB;clear _t) | (have _t:=QA;clear _t;have QB:=boxAt_below (boxAt_new _ _ _) b22;(try simp only [World.size_alloc,hdrew] at QB);have QB:=Lib.hid QB) | (have QB:=boxAt_below (boxAt_new (World.alloc _ _) _ _) b22;have QA:=boxAt_below (boxAt_below (boxAt_new _ _ _) (ba _ _)) b22;(try simp only [World.size_alloc,hdrew] at QA);(try simp only [World.size_alloc,hdrew] at QB);have QA:=Lib.hid QA;have QB:=Lib.hid QB) | (have QA:=boxAt_below (boxAt_new _ _ _) b22;(try simp only [World.size_alloc,hdrew] at QA);have QA:=Lib.hid QA) | skip);(try (have lp22_0:W0.heap.size<w22.heap.size:=by omega));(try (have lq22_0:W0.heap.size+1<w22.heap.size:=by omega));(try (have lp22_1:w20.heap.size<w22.heap.size:=by omega));(try (have lq22_1:w20.heap.size+1<w22.heap.size:=by omega));(try (have lp22_2:w21.heap.size<w22.heap.size:=by omega));(try (have lq22_2:w21.heap.size+1<w22.heap.size:=by omega));clear b22)
    | (go_at_call 131;(with_reducible refine (units_any c' n' _ HN.out.2.2.1 HN.out.2.2.2).mono ?_);rintro e w23 ⟨v23,hz,rfl,b23⟩;have HS23:=mkS _ (bt (And.left (by assumption)) b23);have T23:=Lib.hid (HS23.1);have sz23:=HS23.1.size;(obtain ⟨hcb23,hfb23⟩:=bcell b23;have zzb23:=Below.size b23;(try simp only [World.size_alloc,hdrew] at zzb23);(try (have llb23:w22.heap.size<w23.heap.size:=by omega));(try (have lmb23:w22.heap.size+1<w23.heap.size:=by omega)));have V23:Below w22.heap.size w22 w23:=(by first | with_reducible exact b23 | with_reducible exact bt (ba _ _) b23 | with_reducible exact bt (ba _ _) (bt (ba _ _) b23));replace V23:=Lib.hid V23;obtain ⟨q23,a23,m23,c23,rfl⟩:=num_agg hz;have N23:=Lib.hid hz;clear hz;((try replace b23:=undrew b23);(try (replace QA:=Lib.hid (boxAt_below (Hid.out QA) (Hid.out V23))));(try (replace QB:=Lib.hid (boxAt_below (Hid.out QB) (Hid.out V23))));first | (have _t:=QB;clear _t) | (have _t:=QA;clear _t;have QB:=boxAt_below (boxAt_new _ _ _) b23;(try simp only [World.size_alloc,hdrew] at QB);have QB:=Lib.hid QB) | (have QB:=boxAt_below (boxAt_new (World.alloc _ _) _ _) b23;have QA:=boxAt_below (boxAt_below (boxAt_new _ _ _) (ba _ _)) b23;(try simp only [World.size_alloc,hdrew] at QA);(try simp only [World.size_alloc,hdrew] at QB);have QA:=Lib.hid QA;have QB:=Lib.hid QB) | (have QA:=boxAt_below (boxAt_new _ _ _) b23;(try simp only [World.size_alloc,hdrew] at QA);have QA:=Lib.hid QA) | skip);(try (have lp23_0:W0.heap.size<w23.heap.size:=by omega));(try (have lq23_0:W0.heap.size+1<w23.heap.size:=by omega));(try (have lp23_1:w20.heap.size<w23.heap.size:=by omega));(try (have lq23_1:w20.heap.size+1<w23.heap.size:=by omega));(try (have lp23_2:w21.heap.size<w23.heap.size:=by omega));(try (have lq23_2:w21.heap.size+1<w23.heap.size:=by omega));(try (have lp23_3:w22.heap.size<w23.heap.size:=by omega));(try (have lq23_3:w22.heap.size+1<w23.heap.size:=by omega));clear b23))
  all_goals
   dsimp only [Exit.then]
   refine ‹∀ (a':Act) (w':World),Met _ a' w'→_› _ _ ?_
   go_meet
   case rel=>
    have NN:=Lib.hid (num_below N22.out V23.out)
    refine ⟨_,_,q22,q23,a22,a23,m22,c22,m23,c23,rfl,rfl,?q0,?q1,?q2,?q3,?q4,?q5,?q6,?q7⟩
    case q0=>exact (by first | omega | (simp<;>omega))
    case q1=>exact (by first | omega | (simp only [World.size_alloc,hdrew];omega) | (simp<;>omega))
    case q2=>exact (by first | omega | (simp only [World.size_alloc,hdrew];omega) | (simp<;>omega))
    case q3=>(repeat (first | with_reducible exact boxAt_set2 _ _ QA.out | with_reducible exact boxAt_set2 _ _ QB.out | with_reducible exact QA.out | with_reducible exact QB.out | (with_reducible refine boxAt_new' _ _ ?_;first | rfl | (simp;done)) | with_reducible refine boxAt_below ?_ (ba _ _) | with_reducible exact boxAt_set2 _ _ (boxAt_below QA.out (ba _ _)) | with_reducible exact boxAt_set2 _ _ (boxAt_below QB.out (ba _ _)) | with_reducible exact boxAt_set2 _ _ (boxAt_other2 _ _ QA.out (by first | omega | (simp<;>omega))) | with_reducible exact boxAt_set2 _ _ (boxAt_other2 _ _ QB.out (by first | omega | (simp<;>omega))) | with_reducible refine boxAt_other2 _ _ ?_ (by first | omega | (simp<;>omega))))
    case q4=>(repeat (first | with_reducible exact boxAt_set2 _ _ QA.out | with_reducible exact boxAt_set2 _ _ QB.out | with_reducible exact QA.out | with_reducible exact QB.out | (with_reducible refine boxAt_new' _ _ ?_;first | rfl | (simp;done)) | with_reducible refine boxAt_below ?_ (ba _ _) | with_reducible exact boxAt_set2 _ _ (boxAt_below QA.out (ba _ _)) | with_reducible exact boxAt_set2 _ _ (boxAt_below QB.out (ba _ _)) | with_reducible exact boxAt_set2 _ _ (boxAt_other2 _ _ QA.out (by first | omega | (simp<;>omega))) | with_reducible exact boxAt_set2 _ _ (boxAt_other2 _ _ QB.out (by first | omega | (simp<;>omega))) | with_reducible refine boxAt_other2 _ _ ?_ (by first | omega | (simp<;>omega))))
    case q5=>(repeat (first | with_reducible exact NN.out | with_reducible refine num_below ?_ (ba _ _) | with_reducible refine num_set2 _ _ ?_ QA.out | with_reducible refine num_set2 _ _ ?_ QB.out | with_reducible refine num_set2 _ _ ?_ (boxAt_below QA.out (ba _ _)) | with_reducible refine num_set2 _ _ ?_ (boxAt_below QB.out (ba _ _)) | with_reducible refine num_set2 _ _ ?_ (boxAt_other2 _ _ QA.out (by first | omega | (simp<;>omega))) | with_reducible refine num_set2 _ _ ?_ (boxAt_other2 _ _ QB.out (by first | omega | (simp<;>omega)))))
    case q6=>(repeat (first | with_reducible exact N23.out | with_reducible refine num_below ?_ (ba _ _) | with_reducible refine num_set2 _ _ ?_ QA.out | with_reducible refine num_set2 _ _ ?_ QB.out | with_reducible refine num_set2 _ _ ?_ (boxAt_below QA.out (ba _ _)) | with_reducible refine num_set2 _ _ ?_ (boxAt_below QB.out (ba _ _)) | with_reducible refine num_set2 _ _ ?_ (boxAt_other2 _ _ QA.out (by first | omega | (simp<;>omega))) | with_reducible refine num_set2 _ _ ?_ (boxAt_other2 _ _ QB.out (by first | omega | (simp<;>omega)))))
    case q7=>(repeat (first | with_reducible exact And.left (by with_reducible assumption) | with_reducible exact Below.refl _ _ | refine Below.setCell ?_ (by first | omega | (simp only [World.size_alloc,hdrew];omega) | (simp<;>omega)) _ | refine Below.alloc ?_ (by first | omega | (simp only [World.size_alloc,hdrew];omega) | (simp<;>omega)) _ | refine Below.drew ?_))
 case rest=>
  obtain ⟨i,j,zb,zb',za,za',zn,zc,zn',zc',rfl,rfl,hij,li,lj,h6,h7,hn6,hn7,b6⟩:=hcut
  have Z1:=Lib.hid h6;have Q1:=Lib.hid h7;have NZ1:=Lib.hid hn6;have NQ1:=Lib.hid hn7;have lR:=R0.out.lt;clear h6 h7 hn6 hn7
  have hji:j ≠ i:=fun h=>hij h.symm
  have b6s:=Lib.hid b6.size;have HB0:=Lib.hid B0.out
  have X1:=Lib.hid (DAt.below X0.out b6)
  have Y1:=Lib.hid (DAt.below Y0.out b6)
  have R1:=Lib.hid (DAt.below R0.out b6)
  have B1:=Lib.hid (bt B0.out b6)
  clear b6
  clear X0 Y0 R0  B0
  clear X1 Y1
  obtain ⟨w1,hw1⟩:∃ x,x=wc:=⟨_,rfl⟩;subst hw1
  have hsg:decide (c'<0)=zb':=by rw [←HNG.out];exact num_sign NQ1.out
  have q0:=Q1.out.c0;have q1:=Q1.out.c1;have z0:=Z1.out.c0;have z1:=Z1.out.c1;have z2:=Z1.out.f0;have z3:=Z1.out.f1;have q2:=Q1.out.f0;have q3:=Q1.out.f1
  have hs0:=b6s.out
  go_upto_if 15 with fail
  go_cut [] (fun wx=>RDivMid w1 W0.heap.size i j iR s Y wx)
  case first=>
   by_cases hneg:c'<0
   ·
    obtain rfl:zb'=true:=by rw [←hsg];simpa using hneg
    have hs1:Hid (-(un c n*((10 ^ 9:Nat):Int)*((10 ^ 9:Nat):Int))=s):=by have:=HS.out;rw [if_pos hneg] at this;exact this.symm
    have ht1:Hid (-(un c' n'*((10 ^ 9:Nat):Int))=(Y:Int)):=by have:=HT.out;rw [if_pos hneg] at this;rw [←HTY.out];exact this.symm
    clear hneg hsg
    go_upto_region 3 with fail
    go_region_law (first
     | (go_simp;go_at_call 138;(with_reducible refine (neg_any 64 _ _ _ (num_below NZ1.out ((Below.refl _ _).drew))).mono ?_);rintro e w4 ⟨v4,hz,rfl,b4⟩;obtain ⟨q4,a4,m4,c4,rfl⟩:=num_agg hz;have N4:=Lib.hid hz;have B4:=Lib.hid (show Below w1.heap.size w1 w4 from bt ((Below.refl _ _).drew) b4);have q0:=(boxAt_below Q1.out B4.out).c0;have q1:=(boxAt_below Q1.out B4.out).c1;have z0:=(boxAt_below Z1.out B4.out).c0;have z1:=(boxAt_below Z1.out B4.out).c1;clear hz b4)
     | (go_simp;go_at_call 138;(with_reducible refine (neg_any 36 _ _ _ (num_below NQ1.out B4.out)).mono ?_);rintro e w5 ⟨v5,hz,rfl,b5⟩;obtain ⟨q5,a5,m5,c5,rfl⟩:=num_agg hz;have N5:=Lib.hid hz;have V5:=Lib.hid b5;have B5:=Lib.hid (bt B4.out b5);have Z5:=Lib.hid (boxAt_below Z1.out B5.out);have Q5:=Lib.hid (boxAt_below Q1.out B5.out);have R5:=Lib.hid (DAt.below R1.out B5.out);have e0:=Z5.out.c0;have e1:=Z5.out.c1;have e2:=Z5.out.f0;have e3:=Z5.out.f1;have e4:=Q5.out.c0;have e5:=Q5.out.c1;have e6:=Q5.out.f0;have e7:=Q5.out.f1;clear hz b5))
    all_goals
     go_wp2_with fail
     go_meet
     case rel=>
      refine ⟨q4,q5,a4,a5,m4,c4,m5,c5,boxAt_other2 _ _ (boxAt_set2 _ _ Z5.out) hij,boxAt_set2 _ _ (boxAt_other2 _ _ Q5.out hji),?_,?_,?_,?_⟩
      ·exact num_set2 _ _ (num_set2 _ _ (num_cast (num_below N4.out V5.out) hs1.out) Z5.out) (boxAt_other2 _ _ Q5.out hji)
      ·exact num_set2 _ _ (num_set2 _ _ (num_cast N5.out ht1.out) Z5.out) (boxAt_other2 _ _ Q5.out hji)
      ·exact dAt_other _ _ (dAt_other _ _ (dAt_other _ _ (dAt_other _ _ R5.out (by omega)) (by omega)) (by omega)) (by omega)
      ·exact ((((B5.out.mono hs0).setCell li _).setCell li _).setCell lj _).setCell lj _
   ·
    obtain rfl:zb'=false:=by rw [←hsg];simpa using hneg
    have hs1:un c n*((10 ^ 9:Nat):Int)*((10 ^ 9:Nat):Int)=s:=by have:=HS.out;rw [if_neg hneg] at this;exact this.symm
    have ht1:un c' n'*((10 ^ 9:Nat):Int)=(Y:Int):=by have:=HT.out;rw [if_neg hneg] at this;rw [←HTY.out];exact this.symm
    have NZ2:=Lib.hid (num_cast NZ1.out hs1);have NQ2:=Lib.hid (num_cast NQ1.out ht1);clear hneg hsg hs1 ht1
    go_wp2_with fail
    go_meet
    case rel=>exact ⟨zb,false,za,za',zn,zc,zn',zc',Z1,Q1,NZ2,NQ2,R1,Below.refl _ _⟩
  case rest=>
   obtain ⟨eb,eb',ea,ea',en,ec,en',ec',E2,F2,NE2,NF2,R2,B2⟩:=hcut
   clear Z1 Q1 NZ1 NQ1 R1 q0 q1 q2 q3 z0 z1 z2 z3 hsg
   have e0:=E2.out.c0;have e1:=E2.out.c1;have f0:=F2.out.c0;have f1:=F2.out.c1
   go_wp2_with fail
   refine (even_any 64 36 _ _ s Y _ NE2.out NF2.out HY0.out (by omega) (by omega)).mono ?_
   rintro e w3 ⟨v3,hz,rfl,b3⟩
   have N3:=Lib.hid hz;have T3:=Lib.hid b3;clear hz b3
   go_wp2_with fail
   refine (made9_any _ v3 _ _ _ N3.out (by omega) HV.out).mono ?_
   rintro e w4 ⟨rfl,b4⟩
   have T4:=bt T3.out b4
   have R4:=Lib.hid (DAt.below R2.out T4)
   have B4:Hid (Below w.heap.size w w4):=by have h0:=B1.out.size;have h1:=B2.out.size;have h2:=HB0.out.size;exact (B1.out.trans (B2.out.mono h2)).trans (T4.mono (by omega))
   clear b4 T4 e0 e1 f0 f1
   have r0:=R4.out.c0
   have rf0:=R4.out.f0
   have r1:=R4.out.c1
   have rf1:=R4.out.f1
   go_wp2_with fail
   refine bodyPost_ret (v:=_) (by simp [results,Tryz.results88,go_sem,noneV,r0,r1]) rfl ⟨rfl,((B4.out.setCell (by simp;omega) _).setCell (by simp;omega) _)⟩
end Go.Proofs.YteagpbkbdlmdiaaGreat
