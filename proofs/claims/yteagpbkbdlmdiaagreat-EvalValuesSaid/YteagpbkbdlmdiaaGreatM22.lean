/-
  The document's decimals (corrodyref02), walked: Is, Round, Put, May, Cmp, Add, Sub; dectext: what Text works with: the canonical number; a row of bytes in memory; The document's reading of a number, plain: byte by byte; Values: which may be, their texts, what a text is read as; plain; Values as keys of a map; value.words, walked: the six words, whatever order they come into the map.
-/
import Derived.Test.YteagpbkbdlmdiaaGreatM21
import Derived.Test.YteagpbkbdlmdiaaGreatM3
import Derived.Test.YteagpbkbdlmdiaaGreatM18
import Derived.Laws.IdiomCopy
import Derived.Laws.MakeOwn
import Derived.Laws.IdiomStrings
import Derived.Lib.LazyBuf
import Derived.Test.YteagpbkbdlmdiaaGreatM1
import Derived.DeepKeys4
/- The document's decimals (corrodyref02), walked: Is, Round, Put, May, Cmp, Add, Sub. -/
namespace Go.Proofs.YteagpbkbdlmdiaaGreat
set_option maxRecDepth 100000
set_option maxHeartbeats 1000000
open Go.RowKit
set_option linter.unusedSimpArgs false
attribute [local go_sem ↓] Go.wp_at_zero Go.wp_at_succ
theorem rIs_any (c s:Int) (w:World):Calls Tryz.prog 36 #[.agg #[.int .i64 c,.int .i64 s]] w fun e w'=>e=.returned (.bool (isB s))∧Below w.heap.size w w':=by
 by_cases h0:0≤s
 ·have d1:decide (0≤s)=true:=by simpa using h0
  by_cases h9:s≤9
  ·have d2:decide (s≤9)=true:=by simpa using h9
   have e:isB s=true:=by unfold isB;simp;omega
   rw [e]
   go_enter Tryz.func36,Tryz.ntmps36
   go_wp2_with fail
   go_ret
   exact ⟨rfl,ba _ _⟩
  ·have d2:decide (s≤9)=false:=by simpa using h9
   have e:isB s=false:=by unfold isB;simp;omega
   rw [e]
   go_enter Tryz.func36,Tryz.ntmps36
   go_wp2_with fail
   go_ret
   exact ⟨rfl,ba _ _⟩
 ·have d1:decide (0≤s)=false:=by simpa using h0
  have e:isB s=false:=by unfold isB;simp;omega
  rw [e]
  go_enter Tryz.func36,Tryz.ntmps36
  go_wp2_with fail
  go_ret
  exact ⟨rfl,ba _ _⟩
theorem near_val (u:Int) (t:Nat) (ht:t≤9):evenZ (u*((10 ^ 9:Nat):Int)) (10 ^ (18 - t))=evenZ u (10 ^ (9 - t)):=by
 rw [pow_split (9 - t) 9 (18 - t) (by omega),evenZ_scale _ _ _ (ten_pos _)]
theorem near9_any (k:Nat) (v:Value) (u:Int) (w:World) (hv:Num k w v u) (hk:k≤8000):Calls Tryz.prog 130 #[v,.int .i64 9] w (NumPost (k+9) (evenZ u (10 ^ (18 - 9))) w):=near_any k v u 9 w hv hk (by omega)
theorem made9_any (K:Nat) (v:Value) (u:Int) (V:Value) (w:World) (hn:Num K w v u) (hK:K≤7000) (hV:decV u 9=V):Calls Tryz.prog 129 #[v,.int .i64 9] w fun e w'=>e=.returned V∧Below w.heap.size w w':=madeR_any K v u 9 V w hn hK (by omega) hV
theorem near_val9 (u:Int):evenZ (u*((10 ^ 9:Nat):Int)) (10 ^ (18 - 9))=u:=evenZ_exact u (10 ^ 9) (ten_pos 9)
theorem rRound_any (c:Int) (n t:Nat) (V:Value) (w:World) (hc:fits c) (hn:n≤9) (ht:t≤9) (hV:decV (evenZ (un c n) (10 ^ (9 - t))) t=V) :
  Calls Tryz.prog 83 #[.agg #[.int .i64 c,.int .i64 (n:Int)],.int .i64 (t:Int)] w fun e w'=>e=.returned V∧Below w.heap.size w w':=by
 rw [←near_val _ _ ht] at hV
 obtain ⟨vc,vs,ve,hvv⟩:=decV_form (evenZ (un c n*((10 ^ 9:Nat):Int)) (10 ^ (18 - t))) t;rw [hV] at hvv;subst hvv
 go_enter Tryz.func83,Tryz.ntmps83
 go_upto_region 1 with fail
 obtain ⟨hX,hR,hB⟩:=two_dec w c (n:Int) 0 0
 have X0:=Lib.hid hX;have R0:=Lib.hid hR;have B0:=Lib.hid hB;clear hX hR hB
 generalize World.alloc (World.alloc w _) _=W0 at X0 R0 B0⊢
 have x0:=X0.out.c0;have x1:=X0.out.c1
 go_wp2_with fail
 refine (units_any c n _ hc hn).mono ?_
 rintro e w1 ⟨v1,hz,rfl,b1⟩
 have N1:=Lib.hid hz;have T1:=Lib.hid b1;clear hz b1
 go_wp2_with fail
 refine (near_any 36 v1 _ t _ N1.out (by omega) ht).mono ?_
 rintro e w2 ⟨v2,hz,rfl,b2⟩
 have N2:=Lib.hid hz;have T2:=Lib.hid (bt T1.out b2);clear hz b2
 go_wp2_with fail
 refine (madeR_any 45 v2 _ t _ _ N2.out (by omega) (by omega) hV).mono ?_
 rintro e w3 ⟨rfl,b3⟩
 have T3:=bt T2.out b3
 have R3:=Lib.hid (DAt.below R0.out T3);have B3:=Lib.hid (bt B0.out T3);clear b3 T3 x0 x1
 have r0:=R3.out.c0;have r1:=R3.out.c1;have r2:=R3.out.f0;have r3:=R3.out.f1
 go_wp2_with fail
 refine bodyPost_ret (v:=.tuple #[.agg #[.int .i64 vc,.int .i64 vs],.int .i64 ve]) (by simp [results,Tryz.results83,go_sem,r0,r1]) rfl ⟨rfl,(B3.out.setCell (by simp) _).setCell (by simp) _⟩
theorem rPut_any (c:Int) (n:Nat) (V:Value) (w:World) (hc:fits c) (hn:n≤9) (hV:decV c n=V) :
  Calls Tryz.prog 38 #[.agg #[.int .i64 c,.int .i64 (n:Int)]] w fun e w'=>e=.returned V∧Below w.heap.size w w':=by
 obtain ⟨vc,vs,ve,hvv⟩:=decV_form c n;rw [hV] at hvv;subst hvv
 have hV':decV (evenZ (un c n) (10 ^ (9 - 9))) 9=.tuple #[.agg #[.int .i64 vc,.int .i64 vs],.int .i64 ve]:=by
  rw [show 10 ^ (9 - 9)=1 from rfl,evenZ_one,decV_un c n hn,hV]
 go_enter Tryz.func38,Tryz.ntmps38
 go_upto_region 1 with fail
 obtain ⟨hX,hR,hB⟩:=two_dec w c (n:Int) 0 0
 have X0:=Lib.hid hX;have R0:=Lib.hid hR;have B0:=Lib.hid hB;clear hX hR hB
 generalize World.alloc (World.alloc w _) _=W0 at X0 R0 B0⊢
 have x0:=X0.out.c0;have x1:=X0.out.c1
 go_wp2_with fail
 refine (rRound_any c n 9 _ _ hc hn (by omega) hV').mono ?_
 rintro e w3 ⟨rfl,b3⟩
 have R3:=Lib.hid (DAt.below R0.out b3);have B3:=Lib.hid (bt B0.out b3);clear b3 x0 x1
 have r0:=R3.out.c0;have r1:=R3.out.c1;have r2:=R3.out.f0;have r3:=R3.out.f1
 go_wp2_with fail
 refine bodyPost_ret (v:=.tuple #[.agg #[.int .i64 vc,.int .i64 vs],.int .i64 ve]) (by simp [results,Tryz.results38,go_sem,r0,r1]) rfl ⟨rfl,(B3.out.setCell (by simp) _).setCell (by simp) _⟩
theorem may_cases (c:Int) (n:Nat) (hc:fits c) (hn:n≤9) :
  (mayB c (n:Int)=true∧decV c n=.tuple #[.agg #[.int .i64 c,.int .i64 (n:Int)],.int .i64 0])∨
  (mayB c (n:Int)=false∧∃ p q:Int,decV c n=.tuple #[.agg #[.int .i64 p,.int .i64 q],.int .i64 0]∧(n:Int) ≠ q)∨
  (mayB c (n:Int)=false∧decV c n=.tuple #[.agg #[.int .i64 0,.int .i64 0],.int .i64 11]):=by
 have hi:isB (n:Int)=true:=by unfold isB;simp;omega
 by_cases h:n=0∨c % 10 ≠ 0
 ·left
  refine ⟨?_,?_⟩
  ·unfold mayB;rw [hi]
   rcases h with h | h
   ·subst h;simp
   ·simp [h]
  ·unfold decV;rw [trim_self c n h,if_pos hc]
 ·right
  have hm:mayB c (n:Int)=false:=by
   unfold mayB;rw [hi]
   have h1:n ≠ 0:=fun k=>h (.inl k)
   have h2:c % 10=0:=by rcases Decidable.em (c % 10=0) with k | k;exact k;exact absurd (.inr k) h
   simp [h1,h2]
  cases n with
  | zero=>exact absurd (.inl rfl) h
  | succ n=>
   have h2:c % 10=0:=by rcases Decidable.em (c % 10=0) with k | k;exact k;exact absurd (.inr k) h
   unfold decV
   rw [trim_succ,if_pos h2]
   have hl:=trim_le (c / 10) n
   by_cases hf:fits (trim (c / 10) n).1
   ·left;refine ⟨hm,_,_,by rw [if_pos hf],by omega⟩
   ·right;exact ⟨hm,by rw [if_neg hf]⟩
theorem rMay_any (c s:Int) (w:World) (hc:fits c):Calls Tryz.prog 28 #[.agg #[.int .i64 c,.int .i64 s]] w fun e w'=>e=.returned (.bool (mayB c s))∧Below w.heap.size w w':=by
 cases hs:isB s with
 | false=>
  have hm:mayB c s=false:=by unfold mayB;rw [hs];rfl
  rw [hm]
  go_enter Tryz.func28,Tryz.ntmps28
  go_wp2_with fail
  refine (rIs_any c s _).mono ?_
  rintro e w1 ⟨rfl,b1⟩
  rw [hs]
  have B1:=Lib.hid (bt (ba _ _) b1);clear b1
  go_wp2_with fail
  go_ret
  exact ⟨rfl,B1.out⟩
 | true=>
  obtain ⟨n,rfl,hn⟩:=isB_nat hs
  have main:∀ (p q e:Int) (b:Bool),decV c n=.tuple #[.agg #[.int .i64 p,.int .i64 q],.int .i64 e]→mayB c (n:Int)=b→((e=0∧b=true∧p=c∧q=(n:Int))∨(e=0∧b=false∧(n:Int) ≠ q)∨(e=11∧b=false))→
    Calls Tryz.prog 28 #[.agg #[.int .i64 c,.int .i64 (n:Int)]] w fun e w'=>e=.returned (.bool (mayB c (n:Int)))∧Below w.heap.size w w':=by
   intro p q e b hV hm hcase
   rw [hm]
   have HV:=Lib.hid hV
   clear hV hm
   go_enter Tryz.func28,Tryz.ntmps28
   go_upto_region 1 with fail
   have X0:=Lib.hid (dAt_new w c (n:Int));have B0:=Lib.hid (ba w (.cells #[.int .i64 c,.int .i64 (n:Int)] 30))
   generalize World.alloc w _=W0 at X0 B0⊢
   have x0:=X0.out.c0;have x1:=X0.out.c1
   go_wp2_with fail
   refine (rIs_any c (n:Int) _).mono ?_
   rintro e w1 ⟨rfl,b1⟩
   rw [hs]
   have X1:=Lib.hid (DAt.below X0.out b1);have B1:=Lib.hid (bt B0.out b1);clear b1 x0 x1
   have x0:=X1.out.c0;have x1:=X1.out.c1
   go_wp2_with fail
   refine (rPut_any c n _ _ hc hn HV.out).mono ?_
   rintro e w2 ⟨rfl,b1⟩
   go_upto_region 4 with fail
   generalize hW:World.alloc w2 _=W3
   have P3:Hid (DAt W3 w2.heap.size p q):=by rw [←hW];exact dAt_new _ _ _
   have b3:=bt b1 (ba w2 (.cells #[.int .i64 p,.int .i64 q] 30))
   rw [hW] at b3
   have X3:=Lib.hid (DAt.below X1.out b3);have B3:=Lib.hid (bt B1.out b3);clear b1 b3 hW x0 x1
   have x0:=X3.out.c0;have x1:=X3.out.c1;have p0:=P3.out.c0;have p1:=P3.out.c1
   rcases hcase with ⟨rfl,rfl,rfl,rfl⟩ | ⟨rfl,rfl,hne⟩ | ⟨rfl,rfl⟩
   ·go_wp2_with fail
    go_ret
    exact ⟨rfl,B3.out⟩
   ·have k1:((n:Int)==q)=false:=by simpa using hne
    go_wp2_with fail
    go_ret
    exact ⟨by simp [hne],B3.out⟩
   ·go_wp2_with fail
    go_ret
    exact ⟨rfl,B3.out⟩
  rcases may_cases c n hc hn with ⟨h1,h2⟩ | ⟨h1,p,q,h2,h3⟩ | ⟨h1,h2⟩
  ·exact main _ _ _ _ h2 h1 (.inl ⟨rfl,rfl,rfl,rfl⟩)
  ·exact main _ _ _ _ h2 h1 (.inr (.inl ⟨rfl,rfl,h3⟩))
  ·exact main _ _ _ _ h2 h1 (.inr (.inr ⟨rfl,rfl⟩))
theorem rCmp_any (c c':Int) (n n':Nat) (z:Int) (w:World) (hc:fits c) (hc':fits c') (hn:n≤9) (hn':n'≤9) (hz:cmpZ (un c n) (un c' n')=z) :
  Calls Tryz.prog 84 #[.agg #[.int .i64 c,.int .i64 (n:Int)],.agg #[.int .i64 c',.int .i64 (n':Int)]] w fun e w'=>e=.returned (.int .i64 z)∧Below w.heap.size w w':=by
 rw [←cmpZ_scale _ _ ((10 ^ 9:Nat):Int) (by have:=ten_pos 9;omega)] at hz
 have HN:Hid (fits c∧n≤9∧fits c'∧n'≤9):=⟨hc,hn,hc',hn'⟩
 have HZ:=Lib.hid hz;clear hz hc hc' hn hn'
 go_enter Tryz.func84,Tryz.ntmps84
 go_upto_region 1 with fail
 obtain ⟨hX,hY,hB⟩:=two_dec w c (n:Int) c' (n':Int)
 have X0:=Lib.hid hX;have Y0:=Lib.hid hY;have B0:=Lib.hid hB;clear hX hY hB
 generalize World.alloc (World.alloc w _) _=W0 at X0 Y0 B0⊢
 obtain ⟨iY,hiY⟩:∃ x,Hid (w.heap.size+1=x):=⟨_,rfl⟩
 rw [hiY.out] at Y0⊢;clear hiY
 have HS0:(fun w':World=>w'.cell? ⟨w.heap.size,0,none⟩=some (.int .i64 c)∧w'.cell? ⟨w.heap.size,1,none⟩=some (.int .i64 (n:Int))∧w'.cell? ⟨iY,0,none⟩=some (.int .i64 c')∧w'.cell? ⟨iY,1,none⟩=some (.int .i64 (n':Int))) W0.drew:=⟨(DAt.below X0.out ((Below.refl _ _).drew)).c0,(DAt.below X0.out ((Below.refl _ _).drew)).c1,(DAt.below Y0.out ((Below.refl _ _).drew)).c0,(DAt.below Y0.out ((Below.refl _ _).drew)).c1⟩
 go_region_held3 (fun w'=>w'.cell? ⟨w.heap.size,0,none⟩=some (.int .i64 c)∧w'.cell? ⟨w.heap.size,1,none⟩=some (.int .i64 (n:Int))∧w'.cell? ⟨iY,0,none⟩=some (.int .i64 c')∧w'.cell? ⟨iY,1,none⟩=some (.int .i64 (n':Int)))
  (first | with_reducible exact HS0 | with_reducible assumption)
  (first
   | (go_at_call 131;(with_reducible refine (units_any c n _ HN.out.1 HN.out.2.1).mono ?_);rintro e w20 ⟨v20,hz,rfl,b20⟩;have T20:Hid (Below W0.heap.size W0 w20):=bt ((Below.refl _ _).drew) b20;have HS20:w20.cell? ⟨w.heap.size,0,none⟩=some (.int .i64 c)∧w20.cell? ⟨w.heap.size,1,none⟩=some (.int .i64 (n:Int))∧w20.cell? ⟨iY,0,none⟩=some (.int .i64 c')∧w20.cell? ⟨iY,1,none⟩=some (.int .i64 (n':Int)):=⟨(DAt.below X0.out T20.out).c0,(DAt.below X0.out T20.out).c1,(DAt.below Y0.out T20.out).c0,(DAt.below Y0.out T20.out).c1⟩;have N20:=Lib.hid hz;have V20:=Lib.hid b20;clear hz;clear b20)
   | (go_at_call 131;(with_reducible refine (units_any c' n' _ HN.out.2.2.1 HN.out.2.2.2).mono ?_);rintro e w21 ⟨v21,hz,rfl,b21⟩;have T21:Hid (Below W0.heap.size W0 w21):=bt T20.out b21;have HS21:w21.cell? ⟨w.heap.size,0,none⟩=some (.int .i64 c)∧w21.cell? ⟨w.heap.size,1,none⟩=some (.int .i64 (n:Int))∧w21.cell? ⟨iY,0,none⟩=some (.int .i64 c')∧w21.cell? ⟨iY,1,none⟩=some (.int .i64 (n':Int)):=⟨(DAt.below X0.out T21.out).c0,(DAt.below X0.out T21.out).c1,(DAt.below Y0.out T21.out).c0,(DAt.below Y0.out T21.out).c1⟩;have N21:=Lib.hid hz;have V21:=Lib.hid b21;clear hz;clear b21)
   | (go_at_call 132;(with_reducible refine (cmp_c 36 36 _ _ _ _ z _ (num_below N20.out V21.out) N21.out (by omega) (by omega) HZ.out).mono ?_);rintro e w22 ⟨rfl,b22⟩;have T22:Hid (Below W0.heap.size W0 w22):=bt T21.out b22;have HS22:w22.cell? ⟨w.heap.size,0,none⟩=some (.int .i64 c)∧w22.cell? ⟨w.heap.size,1,none⟩=some (.int .i64 (n:Int))∧w22.cell? ⟨iY,0,none⟩=some (.int .i64 c')∧w22.cell? ⟨iY,1,none⟩=some (.int .i64 (n':Int)):=⟨(DAt.below X0.out T22.out).c0,(DAt.below X0.out T22.out).c1,(DAt.below Y0.out T22.out).c0,(DAt.below Y0.out T22.out).c1⟩;clear b22))
 all_goals
  go_wp2_with fail
  go_ret
  exact ⟨rfl,bt B0.out T22.out⟩
theorem rAdd_any (c c':Int) (n n':Nat) (V:Value) (w:World) (hc:fits c) (hc':fits c') (hn:n≤9) (hn':n'≤9) (hV:decV (un c n+un c' n') 9=V) :
  Calls Tryz.prog 86 #[.agg #[.int .i64 c,.int .i64 (n:Int)],.agg #[.int .i64 c',.int .i64 (n':Int)]] w fun e w'=>e=.returned V∧Below w.heap.size w w':=by
 rw [←near_val9 (un c n+un c' n'),Int.add_mul] at hV
 obtain ⟨vc,vs,ve,hvv⟩:=decV_form (evenZ (un c n*((10 ^ 9:Nat):Int)+un c' n'*((10 ^ 9:Nat):Int)) (10 ^ (18 - 9))) 9;rw [hV] at hvv;subst hvv
 have HN:Hid (fits c∧n≤9∧fits c'∧n'≤9):=⟨hc,hn,hc',hn'⟩
 have HV:=Lib.hid hV;clear hV hc hc' hn hn'
 go_enter Tryz.func86,Tryz.ntmps86
 go_upto_region 1 with fail
 obtain ⟨hX,hY,hR,hB⟩:=three_dec w c (n:Int) c' (n':Int) 0 0
 have X0:=Lib.hid hX;have Y0:=Lib.hid hY;have R0:=Lib.hid hR;have B0:=Lib.hid hB;clear hX hY hR hB
 generalize World.alloc (World.alloc (World.alloc w _) _) _=W0 at X0 Y0 R0 B0⊢
 obtain ⟨iR,hiR⟩:∃ x,Hid (w.heap.size+1+1=x):=⟨_,rfl⟩
 obtain ⟨iY,hiY⟩:∃ x,Hid (w.heap.size+1=x):=⟨_,rfl⟩
 have hlt:w.heap.size<iY∧iY<iR:=by have:=hiR.out;have:=hiY.out;omega
 rw [hiR.out] at R0⊢;rw [hiY.out] at Y0⊢;clear hiR hiY
 have HS0:(fun w':World=>w'.cell? ⟨w.heap.size,0,none⟩=some (.int .i64 c)∧w'.cell? ⟨w.heap.size,1,none⟩=some (.int .i64 (n:Int))∧w'.cell? ⟨iY,0,none⟩=some (.int .i64 c')∧w'.cell? ⟨iY,1,none⟩=some (.int .i64 (n':Int))) W0.drew:=⟨(DAt.below X0.out ((Below.refl _ _).drew)).c0,(DAt.below X0.out ((Below.refl _ _).drew)).c1,(DAt.below Y0.out ((Below.refl _ _).drew)).c0,(DAt.below Y0.out ((Below.refl _ _).drew)).c1⟩
 go_region_held3 (fun w'=>w'.cell? ⟨w.heap.size,0,none⟩=some (.int .i64 c)∧w'.cell? ⟨w.heap.size,1,none⟩=some (.int .i64 (n:Int))∧w'.cell? ⟨iY,0,none⟩=some (.int .i64 c')∧w'.cell? ⟨iY,1,none⟩=some (.int .i64 (n':Int)))
  (first | with_reducible exact HS0 | with_reducible assumption | with_reducible exact ⟨((dAt_other _ _ (dAt_other _ _ (DAt.below X0.out T24.out) (by omega)) (by omega))).c0,((dAt_other _ _ (dAt_other _ _ (DAt.below X0.out T24.out) (by omega)) (by omega))).c1,((dAt_other _ _ (dAt_other _ _ (DAt.below Y0.out T24.out) (by omega)) (by omega))).c0,((dAt_other _ _ (dAt_other _ _ (DAt.below Y0.out T24.out) (by omega)) (by omega))).c1⟩)
  (first
   | (go_at_call 131;(with_reducible refine (units_any c n _ HN.out.1 HN.out.2.1).mono ?_);rintro e w20 ⟨v20,hz,rfl,b20⟩;have T20:Hid (Below W0.heap.size W0 w20):=bt ((Below.refl _ _).drew) b20;have HS20:w20.cell? ⟨w.heap.size,0,none⟩=some (.int .i64 c)∧w20.cell? ⟨w.heap.size,1,none⟩=some (.int .i64 (n:Int))∧w20.cell? ⟨iY,0,none⟩=some (.int .i64 c')∧w20.cell? ⟨iY,1,none⟩=some (.int .i64 (n':Int)):=⟨(DAt.below X0.out T20.out).c0,(DAt.below X0.out T20.out).c1,(DAt.below Y0.out T20.out).c0,(DAt.below Y0.out T20.out).c1⟩;have N20:=Lib.hid hz;have V20:=Lib.hid b20;clear hz;clear b20)
   | (go_at_call 131;(with_reducible refine (units_any c' n' _ HN.out.2.2.1 HN.out.2.2.2).mono ?_);rintro e w21 ⟨v21,hz,rfl,b21⟩;have T21:Hid (Below W0.heap.size W0 w21):=bt T20.out b21;have HS21:w21.cell? ⟨w.heap.size,0,none⟩=some (.int .i64 c)∧w21.cell? ⟨w.heap.size,1,none⟩=some (.int .i64 (n:Int))∧w21.cell? ⟨iY,0,none⟩=some (.int .i64 c')∧w21.cell? ⟨iY,1,none⟩=some (.int .i64 (n':Int)):=⟨(DAt.below X0.out T21.out).c0,(DAt.below X0.out T21.out).c1,(DAt.below Y0.out T21.out).c0,(DAt.below Y0.out T21.out).c1⟩;have N21:=Lib.hid hz;have V21:=Lib.hid b21;clear hz;clear b21)
   | (go_at_call 134;(with_reducible refine (add_any 36 36 _ _ _ _ _ (num_below N20.out V21.out) N21.out (by omega) (by omega)).mono ?_);rintro e w22 ⟨v22,hz,rfl,b22⟩;have T22:Hid (Below W0.heap.size W0 w22):=bt T21.out b22;have HS22:w22.cell? ⟨w.heap.size,0,none⟩=some (.int .i64 c)∧w22.cell? ⟨w.heap.size,1,none⟩=some (.int .i64 (n:Int))∧w22.cell? ⟨iY,0,none⟩=some (.int .i64 c')∧w22.cell? ⟨iY,1,none⟩=some (.int .i64 (n':Int)):=⟨(DAt.below X0.out T22.out).c0,(DAt.below X0.out T22.out).c1,(DAt.below Y0.out T22.out).c0,(DAt.below Y0.out T22.out).c1⟩;have N22:=Lib.hid hz;have V22:=Lib.hid b22;clear hz;clear b22)
   | (go_at_call 130;(with_reducible refine (near9_any _ _ _ _ N22.out (by omega)).mono ?_);rintro e w23 ⟨v23,hz,rfl,b23⟩;have T23:Hid (Below W0.heap.size W0 w23):=bt T22.out b23;have HS23:w23.cell? ⟨w.heap.size,0,none⟩=some (.int .i64 c)∧w23.cell? ⟨w.heap.size,1,none⟩=some (.int .i64 (n:Int))∧w23.cell? ⟨iY,0,none⟩=some (.int .i64 c')∧w23.cell? ⟨iY,1,none⟩=some (.int .i64 (n':Int)):=⟨(DAt.below X0.out T23.out).c0,(DAt.below X0.out T23.out).c1,(DAt.below Y0.out T23.out).c0,(DAt.below Y0.out T23.out).c1⟩;have N23:=Lib.hid hz;have V23:=Lib.hid b23;clear hz;clear b23)
   | (go_at_call 129;(with_reducible refine (made9_any _ _ _ _ _ N23.out (by omega) HV.out).mono ?_);rintro e w24 ⟨rfl,b24⟩;have T24:Hid (Below W0.heap.size W0 w24):=bt T23.out b24;have HS24:w24.cell? ⟨w.heap.size,0,none⟩=some (.int .i64 c)∧w24.cell? ⟨w.heap.size,1,none⟩=some (.int .i64 (n:Int))∧w24.cell? ⟨iY,0,none⟩=some (.int .i64 c')∧w24.cell? ⟨iY,1,none⟩=some (.int .i64 (n':Int)):=⟨(DAt.below X0.out T24.out).c0,(DAt.below X0.out T24.out).c1,(DAt.below Y0.out T24.out).c0,(DAt.below Y0.out T24.out).c1⟩;have B9:=Lib.hid (bt B0.out T24.out);have R9:=Lib.hid (DAt.below R0.out T24.out);have r0:=R9.out.c0;have rf0:=R9.out.f0;have r1:=R9.out.c1;have rf1:=R9.out.f1;clear b24))
 all_goals
  go_wp2_with fail
  refine bodyPost_ret (v:=_) (by simp [results,Tryz.results86,go_sem,noneV,r0,r1]) rfl ⟨rfl,((B9.out.setCell (by simp;omega) _).setCell (by simp;omega) _)⟩
theorem rSub_any (c c':Int) (n n':Nat) (V:Value) (w:World) (hc:fits c) (hc':fits c') (hn:n≤9) (hn':n'≤9) (hV:decV (un c n - un c' n') 9=V) :
  Calls Tryz.prog 85 #[.agg #[.int .i64 c,.int .i64 (n:Int)],.agg #[.int .i64 c',.int .i64 (n':Int)]] w fun e w'=>e=.returned V∧Below w.heap.size w w':=by
 rw [←near_val9 (un c n - un c' n'),Int.sub_mul] at hV
 obtain ⟨vc,vs,ve,hvv⟩:=decV_form (evenZ (un c n*((10 ^ 9:Nat):Int) - un c' n'*((10 ^ 9:Nat):Int)) (10 ^ (18 - 9))) 9;rw [hV] at hvv;subst hvv
 have HN:Hid (fits c∧n≤9∧fits c'∧n'≤9):=⟨hc,hn,hc',hn'⟩
 have HV:=Lib.hid hV;clear hV hc hc' hn hn'
 go_enter Tryz.func85,Tryz.ntmps85
 go_upto_region 1 with fail
 obtain ⟨hX,hY,hR,hB⟩:=three_dec w c (n:Int) c' (n':Int) 0 0
 have X0:=Lib.hid hX;have Y0:=Lib.hid hY;have R0:=Lib.hid hR;have B0:=Lib.hid hB;clear hX hY hR hB
 generalize World.alloc (World.alloc (World.alloc w _) _) _=W0 at X0 Y0 R0 B0⊢
 obtain ⟨iR,hiR⟩:∃ x,Hid (w.heap.size+1+1=x):=⟨_,rfl⟩
 obtain ⟨iY,hiY⟩:∃ x,Hid (w.heap.size+1=x):=⟨_,rfl⟩
 have hlt:w.heap.size<iY∧iY<iR:=by have:=hiR.out;have:=hiY.out;omega
 rw [hiR.out] at R0⊢;rw [hiY.out] at Y0⊢;clear hiR hiY
 have HS0:(fun w':World=>w'.cell? ⟨w.heap.size,0,none⟩=some (.int .i64 c)∧w'.cell? ⟨w.heap.size,1,none⟩=some (.int .i64 (n:Int))∧w'.cell? ⟨iY,0,none⟩=some (.int .i64 c')∧w'.cell? ⟨iY,1,none⟩=some (.int .i64 (n':Int))) W0.drew:=⟨(DAt.below X0.out ((Below.refl _ _).drew)).c0,(DAt.below X0.out ((Below.refl _ _).drew)).c1,(DAt.below Y0.out ((Below.refl _ _).drew)).c0,(DAt.below Y0.out ((Below.refl _ _).drew)).c1⟩
 go_region_held3 (fun w'=>w'.cell? ⟨w.heap.size,0,none⟩=some (.int .i64 c)∧w'.cell? ⟨w.heap.size,1,none⟩=some (.int .i64 (n:Int))∧w'.cell? ⟨iY,0,none⟩=some (.int .i64 c')∧w'.cell? ⟨iY,1,none⟩=some (.int .i64 (n':Int)))
  (first | with_reducible exact HS0 | with_reducible assumption | with_reducible exact ⟨((dAt_other _ _ (dAt_other _ _ (DAt.below X0.out T24.out) (by omega)) (by omega))).c0,((dAt_other _ _ (dAt_other _ _ (DAt.below X0.out T24.out) (by omega)) (by omega))).c1,((dAt_other _ _ (dAt_other _ _ (DAt.below Y0.out T24.out) (by omega)) (by omega))).c0,((dAt_other _ _ (dAt_other _ _ (DAt.below Y0.out T24.out) (by omega)) (by omega))).c1⟩)
  (first
   | (go_at_call 131;(with_reducible refine (units_any c n _ HN.out.1 HN.out.2.1).mono ?_);rintro e w20 ⟨v20,hz,rfl,b20⟩;have T20:Hid (Below W0.heap.size W0 w20):=bt ((Below.refl _ _).drew) b20;have HS20:w20.cell? ⟨w.heap.size,0,none⟩=some (.int .i64 c)∧w20.cell? ⟨w.heap.size,1,none⟩=some (.int .i64 (n:Int))∧w20.cell? ⟨iY,0,none⟩=some (.int .i64 c')∧w20.cell? ⟨iY,1,none⟩=some (.int .i64 (n':Int)):=⟨(DAt.below X0.out T20.out).c0,(DAt.below X0.out T20.out).c1,(DAt.below Y0.out T20.out).c0,(DAt.below Y0.out T20.out).c1⟩;have N20:=Lib.hid hz;have V20:=Lib.hid b20;clear hz;clear b20)
   | (go_at_call 131;(with_reducible refine (units_any c' n' _ HN.out.2.2.1 HN.out.2.2.2).mono ?_);rintro e w21 ⟨v21,hz,rfl,b21⟩;have T21:Hid (Below W0.heap.size W0 w21):=bt T20.out b21;have HS21:w21.cell? ⟨w.heap.size,0,none⟩=some (.int .i64 c)∧w21.cell? ⟨w.heap.size,1,none⟩=some (.int .i64 (n:Int))∧w21.cell? ⟨iY,0,none⟩=some (.int .i64 c')∧w21.cell? ⟨iY,1,none⟩=some (.int .i64 (n':Int)):=⟨(DAt.below X0.out T21.out).c0,(DAt.below X0.out T21.out).c1,(DAt.below Y0.out T21.out).c0,(DAt.below Y0.out T21.out).c1⟩;have N21:=Lib.hid hz;have V21:=Lib.hid b21;clear hz;clear b21)
   | (go_at_call 133;(with_reducible refine (sub_any 36 36 _ _ _ _ _ (num_below N20.out V21.out) N21.out (by omega) (by omega)).mono ?_);rintro e w22 ⟨v22,hz,rfl,b22⟩;have T22:Hid (Below W0.heap.size W0 w22):=bt T21.out b22;have HS22:w22.cell? ⟨w.heap.size,0,none⟩=some (.int .i64 c)∧w22.cell? ⟨w.heap.size,1,none⟩=some (.int .i64 (n:Int))∧w22.cell? ⟨iY,0,none⟩=some (.int .i64 c')∧w22.cell? ⟨iY,1,none⟩=some (.int .i64 (n':Int)):=⟨(DAt.below X0.out T22.out).c0,(DAt.below X0.out T22.out).c1,(DAt.below Y0.out T22.out).c0,(DAt.below Y0.out T22.out).c1⟩;have N22:=Lib.hid hz;have V22:=Lib.hid b22;clear hz;clear b22)
   | (go_at_call 130;(with_reducible refine (near9_any _ _ _ _ N22.out (by omega)).mono ?_);rintro e w23 ⟨v23,hz,rfl,b23⟩;have T23:Hid (Below W0.heap.size W0 w23):=bt T22.out b23;have HS23:w23.cell? ⟨w.heap.size,0,none⟩=some (.int .i64 c)∧w23.cell? ⟨w.heap.size,1,none⟩=some (.int .i64 (n:Int))∧w23.cell? ⟨iY,0,none⟩=some (.int .i64 c')∧w23.cell? ⟨iY,1,none⟩=some (.int .i64 (n':Int)):=⟨(DAt.below X0.out T23.out).c0,(DAt.below X0.out T23.out).c1,(DAt.below Y0.out T23.out).c0,(DAt.below Y0.out T23.out).c1⟩;have N23:=Lib.hid hz;have V23:=Lib.hid b23;clear hz;clear b23)
   | (go_at_call 129;(with_reducible refine (made9_any _ _ _ _ _ N23.out (by omega) HV.out).mono ?_);rintro e w24 ⟨rfl,b24⟩;have T24:Hid (Below W0.heap.size W0 w24):=bt T23.out b24;have HS24:w24.cell? ⟨w.heap.size,0,none⟩=some (.int .i64 c)∧w24.cell? ⟨w.heap.size,1,none⟩=some (.int .i64 (n:Int))∧w24.cell? ⟨iY,0,none⟩=some (.int .i64 c')∧w24.cell? ⟨iY,1,none⟩=some (.int .i64 (n':Int)):=⟨(DAt.below X0.out T24.out).c0,(DAt.below X0.out T24.out).c1,(DAt.below Y0.out T24.out).c0,(DAt.below Y0.out T24.out).c1⟩;have B9:=Lib.hid (bt B0.out T24.out);have R9:=Lib.hid (DAt.below R0.out T24.out);have r0:=R9.out.c0;have rf0:=R9.out.f0;have r1:=R9.out.c1;have rf1:=R9.out.f1;clear b24))
 all_goals
  go_wp2_with fail
  refine bodyPost_ret (v:=_) (by simp [results,Tryz.results85,go_sem,noneV,r0,r1]) rfl ⟨rfl,((B9.out.setCell (by simp;omega) _).setCell (by simp;omega) _)⟩
end Go.Proofs.YteagpbkbdlmdiaaGreat
/- dectext: what Text works with: the canonical number; a row of bytes in memory. -/
namespace Go.Proofs.YteagpbkbdlmdiaaGreat.Tx
open Go Go.RowKit Dt
def bc (c:UInt8):Value:=.int .u8 (c.toNat:Int)
def BAt (w:World) (g:Nat) (l:List UInt8):Prop:=w.heap[g]?=some (.cells (l.map bc).toArray 5 (0,0))
theorem BAt.lt {w:World} {g:Nat} {l:List UInt8} (h:BAt w g l):g<w.heap.size:=(Array.getElem?_eq_some_iff.1 h).1
theorem BAt.cell {w:World} {g:Nat} {l:List UInt8} (h:BAt w g l) (j:Nat):w.cell? ⟨g,j,none⟩=(l[j]?).map bc:=by
 rw [cell_of_row w _ _ _ _ (0,0) h];simp
theorem BAt.f {w:World} {g:Nat} {l:List UInt8} (h:BAt w g l) (i:Nat):w.frozen? ⟨g,i,none⟩=false:=frozen_of_row w _ _ _ _ h
theorem BAt.set {w:World} {g:Nat} {l:List UInt8} (h:BAt w g l) (i:Nat) (c:UInt8):BAt (w.setCell ⟨g,i,none⟩ (bc c)) g (l.set i c):=by
 unfold BAt
 rw [heap_setCell_same w g i _ _ _ h,List.setIfInBounds_toArray,List.map_set]
theorem BAt.new (w:World) (l:List UInt8):BAt (w.alloc (.cells (l.map bc).toArray 5)) w.heap.size l:=by
 show (w.heap.push _)[w.heap.size]?=_
 rw [Array.getElem?_push_size]
end Go.Proofs.YteagpbkbdlmdiaaGreat.Tx
/- The document's reading of a number, plain: byte by byte. -/
namespace Go.Proofs.YteagpbkbdlmdiaaGreat.Tx
open Go Dt
structure Rd (t:List UInt8) (k:Nat) (pt:Option Nat) (v:Nat):Prop where
 no:pt=none→(t.take k).all isDg=true∧v=val (t.take k)
 yes:∀ p,pt=some p→p<k∧0<p∧t[p]?=some 46∧(t.take p).all isDg=true∧((t.take k).drop (p+1)).all isDg=true∧v=val (t.take p++(t.take k).drop (p+1))
theorem Rd.start (t:List UInt8):Rd t 0 none 0:=⟨fun _=>⟨rfl,rfl⟩,fun _ h=>by cases h⟩
theorem Rd.dig {t:List UInt8} {k v:Nat} {pt:Option Nat} (h:Rd t k pt v) {c:UInt8} (hc:t[k]?=some c) (hd:isDg c=true):Rd t (k+1) pt (v*10+Dt.dv c):=by
 have hk:k<t.length:=(List.getElem?_eq_some_iff.1 hc).1
 have e:t.take (k+1)=t.take k++[c]:=by rw [List.take_add_one,hc];rfl
 refine ⟨fun hp=>?_,fun p hp=>?_⟩
 ·obtain ⟨a,b⟩:=h.no hp
  rw [e]
  exact ⟨by rw [List.all_append,a];simp [hd],by rw [val_snoc,b]⟩
 ·obtain ⟨a1,a2,a3,a4,a5,a6⟩:=h.yes p hp
  have e2:(t.take (k+1)).drop (p+1)=(t.take k).drop (p+1)++[c]:=by
   rw [e,List.drop_append_of_le_length (by rw [List.length_take];omega)]
  refine ⟨by omega,a2,a3,a4,?_,?_⟩
  ·rw [e2,List.all_append,a5];simp [hd]
  ·rw [e2,←List.append_assoc,val_snoc,a6]
theorem Rd.dot {t:List UInt8} {k v:Nat} (h:Rd t k none v) (hc:t[k]?=some 46) (hk:0<k):Rd t (k+1) (some k) v:=by
 have hl:k<t.length:=(List.getElem?_eq_some_iff.1 hc).1
 obtain ⟨a,b⟩:=h.no rfl
 have e:(t.take (k+1)).drop (k+1)=[]:=List.drop_eq_nil_of_le (by rw [List.length_take];omega)
 refine ⟨fun hp=>(by cases hp),fun p hp=>?_⟩
 cases hp
 refine ⟨by omega,hk,hc,a,by rw [e];rfl,?_⟩
 rw [e,List.append_nil,b]
theorem cutP_cases2 (l:List UInt8):(cutP l=(l,[],false)∧∀ j:Nat,l[j]? ≠ some 46)∨∃ i:Nat,cutP l=(l.take i,l.drop (i+1),true)∧i<l.length∧l[i]?=some 46∧∀ j:Nat,j<i→l[j]? ≠ some 46:=by
 rcases cutP_cases l with e | h
 ·refine .inl ⟨e,fun j k=>?_⟩
  have hj:j<l.length:=(List.getElem?_eq_some_iff.1 k).1
  unfold cutP Lib.cut at e
  rcases Lib.index_spec l [46] with ⟨h,ho⟩ | ⟨i,h,hi,ho,hn⟩
  ·have:=ho j (by omega)
   rw [Lib.occAt_iff_take l [46] j (by show j+1≤_;omega),List.length_singleton,List.take_one,List.head?_drop,k] at this
   simp at this
  ·rw [h,if_pos (by omega)] at e
   simp at e
 ·exact .inr h
theorem dg_no {c:UInt8} (h:isDg c=true):c ≠ 46:=by rintro rfl;simp [isDg] at h
theorem cutP_none {t:List UInt8} (h:t.all isDg=true):cutP t=(t,[],false):=by
 rcases cutP_cases2 t with ⟨e,_⟩ | ⟨i,_,_,k,_⟩
 ·exact e
 ·exact absurd rfl (dg_no (List.all_eq_true.1 h 46 (List.mem_of_getElem? k)))
theorem cutP_some {t:List UInt8} {p:Nat} (h:(t.take p).all isDg=true) (hp:t[p]?=some 46):cutP t=(t.take p,t.drop (p+1),true):=by
 rcases cutP_cases2 t with ⟨_,k⟩ | ⟨i,e,_,k,kn⟩
 ·exact absurd hp (k p)
 ·have:i=p:=by
   rcases Nat.lt_trichotomy i p with g | g | g
   ·have:(t.take p)[i]?=some 46:=by rw [List.getElem?_take,if_pos g];exact k
    exact absurd rfl (dg_no (List.all_eq_true.1 h 46 (List.mem_of_getElem? this)))
   ·exact g
   ·exact absurd hp (kn p g)
  subst this;exact e
theorem digs_false {l:List UInt8} {c:UInt8} (h:c ∈ l) (hc:isDg c=false):digs l=false:=by
 unfold digs
 have:l.all isDg=false:=by
  cases e:l.all isDg
  ·rfl
  ·rw [List.all_eq_true.1 e c h] at hc;cases hc
 rw [this,Bool.and_false]
theorem bad_form {l:List UInt8} (h21:¬21<l.length) (h:wBad (cutP (body l)).1=true∨((cutP (body l)).2.2=true∧rBad (cutP (body l)).2.1=true)∨l=[45,48]):dparse l=((0,0),4):=by
 unfold dparse;rw [if_neg h21,if_pos h]
theorem wBad_of {v:List UInt8} (h:digs v=false):wBad v=true:=by unfold wBad;rw [h];rfl
theorem rBad_of {v:List UInt8} (h:digs v=false):rBad v=true:=by unfold rBad;rw [h];rfl
theorem Rd.bad {l:List UInt8} {k v:Nat} {pt:Option Nat} (h21:¬21<l.length) (h:Rd (body l) k pt v) {c:UInt8} (hc:(body l)[k]?=some c) (hd:isDg c=false) (hdot:¬(c=46∧pt=none∧0<k)):dparse l=((0,0),4):=by
 apply bad_form h21
 have hk:k<(body l).length:=(List.getElem?_eq_some_iff.1 hc).1
 cases pt with
 | none=>
  obtain ⟨a,_⟩:=h.no rfl
  by_cases c46:c=46
  ·subst c46
   have k0:k=0:=by
    rcases Nat.eq_zero_or_pos k with g | g
    ·exact g
    ·exact absurd ⟨rfl,rfl,g⟩ hdot
   subst k0
   rw [cutP_some a hc]
   exact .inl rfl
  ·left
   rcases cutP_cases2 (body l) with ⟨e,_⟩ | ⟨i,e,_,k1,k2⟩
   ·rw [e];exact wBad_of (digs_false (List.mem_of_getElem? hc) hd)
   ·rw [e]
    have:k<i:=by
     rcases Nat.lt_trichotomy k i with g | g | g
     ·exact g
     ·subst g;rw [hc] at k1;cases k1;exact absurd rfl c46
     ·have:((body l).take k)[i]?=some 46:=by rw [List.getElem?_take,if_pos g];exact k1
      exact absurd rfl (dg_no (List.all_eq_true.1 a 46 (List.mem_of_getElem? this)))
    exact wBad_of (digs_false (c:=c) (List.mem_of_getElem? (i:=k) (by rw [List.getElem?_take,if_pos this];exact hc)) hd)
 | some p=>
  obtain ⟨a1,a2,a3,a4,a5,a6⟩:=h.yes p rfl
  right;left
  rw [cutP_some a4 a3]
  refine ⟨rfl,rBad_of (digs_false (c:=c) (List.mem_of_getElem? (i:=k - (p+1)) ?_) hd)⟩
  rw [List.getElem?_drop,show p+1+(k - (p+1))=k by omega];exact hc
end Go.Proofs.YteagpbkbdlmdiaaGreat.Tx
/- Values: which may be, their texts, what a text is read as; plain. -/
namespace Go.Proofs.YteagpbkbdlmdiaaGreat.Va
open Go Dt Tx
def wAbsent:List UInt8:=[97,98,115,101,110,116]
def wTrue:List UInt8:=[116,114,117,101]
def wFalse:List UInt8:=[102,97,108,115,101]
def wOver:List UInt8:=[111,118,101,114]
def wDiv:List UInt8:=[100,105,118]
def wMissing:List UInt8:=[109,105,115,115,105,110,103]
structure V where
 k:Int
 c:Int
 s:Int
 e:Int
deriving DecidableEq
def V.ok (v:V):Prop:=(0≤v.k∧v.k≤255)∧fits v.c∧fits v.s∧fits v.e
def six:List (V × List UInt8):=[(⟨0,0,0,0⟩,wAbsent),(⟨2,0,0,0⟩,wTrue),(⟨3,0,0,0⟩,wFalse),(⟨4,0,0,11⟩,wOver),(⟨4,0,0,12⟩,wDiv),(⟨4,0,0,13⟩,wMissing)]
def lookV (v:V):List (V × List UInt8)→Option (List UInt8)
 | []=>none
 | x :: r=>if v=x.1 then some x.2 else lookV v r
def lookW (l:List UInt8):List (V × List UInt8)→Option V
 | []=>none
 | x :: r=>if l=x.2 then some x.1 else lookW l r
def isNum (v:V):Bool:=decide (v.k=1∧v.e=0)
def mayV (v:V):Bool:=if isNum v=true then mayB v.c v.s else (lookV v six).isSome
theorem lookV_six {v:V} {l:List UInt8} (h:lookV v six=some l):(v,l) ∈ six:=by
 simp only [six,lookV] at h
 simp only [six]
 repeat' (split at h)
 all_goals first
  | (rename_i e;cases h;subst e;simp)
  | cases h
theorem lookW_six {v:V} {l:List UInt8} (h:lookW l six=some v):(v,l) ∈ six:=by
 simp only [six,lookW] at h
 simp only [six]
 repeat' (split at h)
 all_goals first
  | (rename_i e;cases h;subst e;simp)
  | cases h
theorem six_look {v:V} {l:List UInt8} (h:(v,l) ∈ six):lookV v six=some l∧lookW l six=some v∧isNum v=false∧l ≠ []:=by
 simp only [six,List.mem_cons,Prod.mk.injEq,List.mem_nil_iff,or_false] at h
 rcases h with ⟨rfl,rfl⟩ | ⟨rfl,rfl⟩ | ⟨rfl,rfl⟩ | ⟨rfl,rfl⟩ | ⟨rfl,rfl⟩ | ⟨rfl,rfl⟩<;>exact ⟨by decide,by decide,by decide,by decide⟩
theorem may_canon {c s:Int} (h:mayB c s=true):isB s=true∧(s.toNat=0∨c % 10 ≠ 0):=by
 unfold mayB at h
 simp only [Bool.and_eq_true,Bool.or_eq_true,decide_eq_true_eq,Bool.not_eq_true',decide_eq_false_iff_not] at h
 exact ⟨h.1,h.2.imp (fun e=>by omega) id⟩
theorem num_eq {v:V} (h:isNum v=true):v=⟨1,v.c,v.s,0⟩:=by
 obtain ⟨k,c,s,e⟩:=v
 simp [isNum] at h
 obtain ⟨rfl,rfl⟩:=h
 rfl
end Go.Proofs.YteagpbkbdlmdiaaGreat.Va
/- Values as keys of a map. -/
namespace Go.Proofs.YteagpbkbdlmdiaaGreat.Va
open Go Go.RowKit Dt Tx
set_option linter.unusedSimpArgs false
def vv (v:V):Value:=.agg #[.int .u8 v.k,.int .i64 v.c,.int .i64 v.s,.int .i64 v.e]
theorem vv_inj {a b:V} (h:vv a=vv b):a=b:=by
 obtain ⟨k,c,s,e⟩:=a
 obtain ⟨k',c',s',e'⟩:=b
 simp [vv] at h
 obtain ⟨rfl,rfl,rfl,rfl⟩:=h
 rfl
def domV (x:Value):Prop:=∃ l,keyOf Tryz.prog 33 x=some l
theorem kl_V:KL Tryz.prog 33 domV:=
 KL.of_keyed (Maps.Keyed.of_law (deep_law_laid (by kernel_rfl) (m:=3) (by omega) (of_decide_eq_true (by kernel_rfl)) (by kernel_rfl) (by rw [Tryz.underlying33])))
theorem lits_V (v:V) (h:v.ok) (d:Nat):∃ l,Tryz.prog.keyLits (d+3) 33 (vv v).cells.toList=some l:=by
 obtain ⟨h1,h2,h3,h4⟩:=h
 have w1:(Lit.int .u8 v.k).wf=true:=by simp [Lit.wf,IntKind.has,IntKind.min,IntKind.max,IntKind.signed,IntKind.bits];omega
 have w2:(Lit.int .i64 v.c).wf=true:=by have:=h2.1;have:=h2.2;refine WalkArith.wf_i64 ?_<;>omega
 have w3:(Lit.int .i64 v.s).wf=true:=by have:=h3.1;have:=h3.2;refine WalkArith.wf_i64 ?_<;>omega
 have w4:(Lit.int .i64 v.e).wf=true:=by have:=h4.1;have:=h4.2;refine WalkArith.wf_i64 ?_<;>omega
 have c1:Tryz.prog.cellsOf 33=4:=by kernel_rfl
 have c2:Tryz.prog.cellsOf 30=2:=by kernel_rfl
 have c3:Tryz.prog.cellsOf 5=1:=by kernel_rfl
 have c4:Tryz.prog.cellsOf 31=1:=by kernel_rfl
 have c5:Tryz.prog.cellsOf 3=1:=by kernel_rfl
 have c6:Tryz.prog.cellsOf 2=1:=by kernel_rfl
 simp+decide [Program.keyLits,Tryz.underlying33,Tryz.underlying30,Tryz.underlying5,Tryz.underlying3,Tryz.underlying2,Tryz.underlying31,vv,Value.cells,w1,w2,w3,w4,c1,c2,c3,c4,c5,c6]
theorem dom_V (v:V) (h:v.ok):domV (vv v):=by
 obtain ⟨n,hn⟩:∃ n,Tryz.prog.types.size+1=n+3:=⟨Tryz.prog.types.size - 2,by
  have:3≤Tryz.prog.types.size:=of_decide_eq_true (by kernel_rfl)
  omega⟩
 obtain ⟨l,hl⟩:=lits_V v h n
 have hk:Tryz.prog.keyType 33=true:=by kernel_rfl
 have hf:(vv v).formed Tryz.prog 33=true:=by
  have c1:Tryz.prog.cellsOf 33=4:=by kernel_rfl
  simp [vv,Value.formed,Tryz.underlying33,c1]
 unfold domV keyOf
 rw [Tryz.underlying33]
 simp only [hk,hf,hn,hl,Bool.and_self,if_true,Option.map_some]
 exact ⟨_,rfl⟩
end Go.Proofs.YteagpbkbdlmdiaaGreat.Va
/- value.words, walked: the six words, whatever order they come into the map. -/
namespace Go.Proofs.YteagpbkbdlmdiaaGreat.Va
open Go Go.RowKit Dt Tx
set_option linter.unusedSimpArgs false
set_option linter.unusedVariables false
attribute [local go_sem ↓] Go.wp_at_zero Go.wp_at_succ
def keyI:Nat→V
 | 0=>⟨0,0,0,0⟩
 | 1=>⟨2,0,0,0⟩
 | 2=>⟨3,0,0,0⟩
 | 3=>⟨4,0,0,11⟩
 | 4=>⟨4,0,0,12⟩
 | _=>⟨4,0,0,13⟩
def wordI:Nat→List UInt8
 | 0=>wAbsent
 | 1=>wTrue
 | 2=>wFalse
 | 3=>wOver
 | 4=>wDiv
 | _=>wMissing
def entI (i:Nat):Value × Value:=(vv (keyI i),.string (bs (wordI i)))
def sixT:List (Value × Value):=six.map fun x=>(vv x.1,.string (bs x.2))
theorem six_ent:sixT=(List.range 6).map entI:=rfl
theorem key_inj {i j:Nat} (hi:i<6) (hj:j<6) (h:keyI i=keyI j):i=j:=by
 have:∀ i,i<6→∀ j,j<6→keyI i=keyI j→i=j:=by decide
 exact this i hi j hj h
theorem key_ok (i:Nat):(keyI i).ok:=by
 unfold keyI;split<;>(unfold V.ok;refine ⟨by decide,by decide,by decide,by decide⟩)
theorem ent_nodup:((List.range 6).map entI).Nodup:=by
 rw [List.Nodup,List.pairwise_map]
 refine List.Pairwise.imp_of_mem ?_ (List.nodup_range (n:=6))
 intro a b ha hb hne e
 exact hne (key_inj (List.mem_range.1 ha) (List.mem_range.1 hb) (vv_inj (congrArg Prod.fst e)))
structure Jw (w0:World) (b:Nat) (l:Array Bool) (a:Act) (w:World):Prop where
 size:l.size=13
 ex:∃ (m:Value) (k:Nat→Value),a=⟨#[.map none,m,k 0,k 1,k 2,k 3,k 4,k 5,undef],[]⟩∧(∀ i,i<6→l.getD (2*i+1) false=true→k i=vv (keyI i))∧
  ((l.getD 0 false=false∧w=w0∧∀ i,i<6→l.getD (2*i+2) false=false)∨
   (l.getD 0 false=true∧m=.map (some b)∧Below b w0 w∧∃ T,MapAt w b domV T∧T.Nodup∧∀ x,x ∈ T↔∃ i,i<6∧l.getD (2*i+2) false=true∧x=entI i))
theorem Jw.start (w:World):Jw w w.heap.size (Array.replicate 13 false) ⟨#[.map none,undef,undef,undef,undef,undef,undef,undef,undef],[]⟩ w:=
 ⟨by simp,undef,fun _=>undef,rfl,fun i hi h=>(by rw [none_set] at h;cases h),.inl ⟨none_set _ _,rfl,fun i hi=>none_set _ _⟩⟩
theorem Jw.made {w0 w:World} {l:Array Bool} {m:Value} {k:Nat→Value} (h:Jw w0 w0.heap.size l ⟨#[.map none,m,k 0,k 1,k 2,k 3,k 4,k 5,undef],[]⟩ w) (hf:l.getD 0 false=false) :
  Jw w0 w0.heap.size (l.setIfInBounds 0 true) ⟨#[.map none,.map (some w.heap.size),k 0,k 1,k 2,k 3,k 4,k 5,undef],[]⟩ (w.alloc (.map #[] 0)):=by
 obtain ⟨hz,m',k',ea,hk,hm⟩:=h
 simp at ea
 obtain ⟨rfl,e0,e1,e2,e3,e4,e5⟩:=ea
 rcases hm with ⟨_,rfl,hn⟩ | ⟨h0,_⟩
 ·refine ⟨by simpa using hz,_,k,rfl,fun i hi hl=>?_,.inr ⟨set_same (by omega),rfl,ba _ _,[],MapAt.new _ _,List.nodup_nil,fun x=>⟨fun hx=>(by cases hx),?_⟩⟩⟩
  ·rw [set_other (by omega)] at hl
   have:=hk i hi hl
   match i,hi with
   | 0,_=>rw [e0];exact this
   | 1,_=>rw [e1];exact this
   | 2,_=>rw [e2];exact this
   | 3,_=>rw [e3];exact this
   | 4,_=>rw [e4];exact this
   | 5,_=>rw [e5];exact this
  ·rintro ⟨i,hi,hl,_⟩
   rw [set_other (by omega),hn i hi] at hl
   cases hl
 ·rw [hf] at h0;cases h0
def WordsPost (w:World) (e:Ending) (w':World):Prop:=∃ b,e=.returned (.map (some b))∧w.heap.size≤b∧MapAt w' b domV sixT∧Below w.heap.size w w'
theorem Jw.built {w0 w:World} {l:Array Bool} {m:Value} {k:Nat→Value} (j:Nat) (hj:j<6) (h:Jw w0 w0.heap.size l ⟨#[.map none,m,k 0,k 1,k 2,k 3,k 4,k 5,undef],[]⟩ w) (k':Nat→Value) (hk':k'=fun i=>if i=j then vv (keyI j) else k i) :
  Jw w0 w0.heap.size (l.setIfInBounds (2*j+1) true) ⟨#[.map none,m,k' 0,k' 1,k' 2,k' 3,k' 4,k' 5,undef],[]⟩ w:=by
 obtain ⟨hz,m1,k1,ea,hk,hm⟩:=h
 simp at ea
 obtain ⟨rfl,e0,e1,e2,e3,e4,e5⟩:=ea
 refine ⟨by simpa using hz,m,k',rfl,fun i hi hl=>?_,?_⟩
 ·subst hk'
  by_cases hij:i=j
  ·subst hij;simp
  ·simp only [hij,if_false]
   rw [set_other (by omega)] at hl
   have:=hk i hi hl
   match i,hi with
   | 0,_=>rw [e0];exact this
   | 1,_=>rw [e1];exact this
   | 2,_=>rw [e2];exact this
   | 3,_=>rw [e3];exact this
   | 4,_=>rw [e4];exact this
   | 5,_=>rw [e5];exact this
 ·rcases hm with ⟨h0,hw,hn⟩ | ⟨h0,rfl,hb,T,h1,h2,h3⟩
  ·refine .inl ⟨by rw [set_other (by omega)];exact h0,hw,fun i hi=>by rw [set_other (by omega)];exact hn i hi⟩
  ·refine .inr ⟨by rw [set_other (by omega)];exact h0,rfl,hb,T,h1,h2,fun x=>(h3 x).trans ⟨?_,?_⟩⟩
   ·rintro ⟨i,hi,hl,e⟩;exact ⟨i,hi,by rw [set_other (by omega)];exact hl,e⟩
   ·rintro ⟨i,hi,hl,e⟩;rw [set_other (by omega)] at hl;exact ⟨i,hi,hl,e⟩
theorem Jw.put {w0 w:World} {l:Array Bool} {m:Value} {k:Nat→Value} (j:Nat) (hj:j<6) (h:Jw w0 w0.heap.size l ⟨#[.map none,m,k 0,k 1,k 2,k 3,k 4,k 5,undef],[]⟩ w) (hf:l.getD (2*j+2) false=false) (h0:l.getD 0 false=true) (h1:l.getD (2*j+1) false=true) :
  m=.map (some w0.heap.size)∧k j=vv (keyI j)∧∃ w',(Instr.mapUpdate 65 (.map (some w0.heap.size)) (vv (keyI j)) (.string (bs (wordI j)))).run Tryz.prog w=.ok () w'∧Jw w0 w0.heap.size (l.setIfInBounds (2*j+2) true) ⟨#[.map none,m,k 0,k 1,k 2,k 3,k 4,k 5,undef],[]⟩ w':=by
 obtain ⟨hz,m1,k1,ea,hk,hm⟩:=h
 simp at ea
 obtain ⟨rfl,e0,e1,e2,e3,e4,e5⟩:=ea
 have hkj:k j=k1 j:=by
  match j,hj with
  | 0,_=>exact e0
  | 1,_=>exact e1
  | 2,_=>exact e2
  | 3,_=>exact e3
  | 4,_=>exact e4
  | 5,_=>exact e5
 rcases hm with ⟨hn,_⟩ | ⟨_,rfl,hb,T,t1,t2,t3⟩
 ·rw [h0] at hn;cases hn
 ·refine ⟨rfl,hkj.trans (hk j hj h1),?_⟩
  obtain ⟨w',hrun,t1',hbel,_,_⟩:=t1.put kl_V Tryz.underlying65 (x:=vv (keyI j)) (v:=.string (bs (wordI j))) (dom_V _ (key_ok j)) (fun y hy e=>by
   obtain ⟨i,hi,hl,rfl⟩:=(t3 y).1 hy
   have:=key_inj hi hj (vv_inj e)
   subst this
   rw [hf] at hl;cases hl)
  refine ⟨w',hrun,by simpa using hz,_,k1,by rw [e0,e1,e2,e3,e4,e5],fun i hi hl=>hk i hi (by rw [set_other (by omega)] at hl;exact hl),.inr ⟨by rw [set_other (by omega)];exact h0,rfl,hbel _ (Nat.le_refl _) _ hb,_,t1',?_,?_⟩⟩
  ·refine List.nodup_cons.2 ⟨fun hx=>?_,t2⟩
   obtain ⟨i,hi,hl,e⟩:=(t3 _).1 hx
   have:=key_inj hj hi (vv_inj (congrArg Prod.fst e))
   subst this
   rw [hf] at hl;cases hl
  ·intro x
   rw [List.mem_cons,t3]
   constructor
   ·rintro (rfl | ⟨i,hi,hl,e⟩)
    ·exact ⟨j,hj,set_same (by omega),rfl⟩
    ·refine ⟨i,hi,?_,e⟩
     rw [set_other (fun q=>?_)]
     ·exact hl
     ·have:j=i:=by omega
      subst this;rw [hf] at hl;cases hl
   ·rintro ⟨i,hi,hl,e⟩
    by_cases hij:j=i
    ·subst hij;exact .inl e
    ·rw [set_other (by omega)] at hl;exact .inr ⟨i,hi,hl,e⟩
theorem Jw.full {w0 w:World} {l:Array Bool} {m:Value} {k:Nat→Value} (h:Jw w0 w0.heap.size l ⟨#[.map none,m,k 0,k 1,k 2,k 3,k 4,k 5,undef],[]⟩ w) (h0:l.getD 0 false=true) (ha:∀ i,i<6→l.getD (2*i+2) false=true) :
  m=.map (some w0.heap.size)∧MapAt w w0.heap.size domV sixT∧Below w0.heap.size w0 w:=by
 obtain ⟨hz,m1,k1,ea,hk,hm⟩:=h
 simp at ea
 obtain ⟨rfl,_⟩:=ea
 rcases hm with ⟨hn,_⟩ | ⟨_,rfl,hb,T,t1,t2,t3⟩
 ·rw [h0] at hn;cases hn
 ·refine ⟨rfl,t1.perm ((List.perm_ext_iff_of_nodup t2 ent_nodup).2 fun x=>(t3 x).trans ⟨?_,?_⟩),hb⟩
  ·rintro ⟨i,hi,_,rfl⟩
   exact List.mem_map.2 ⟨i,List.mem_range.2 hi,rfl⟩
  ·intro hx
   obtain ⟨i,hi,rfl⟩:=List.mem_map.1 hx
   exact ⟨i,List.mem_range.1 hi,ha i (List.mem_range.1 hi),rfl⟩
set_option maxRecDepth 100000 in
theorem words_is {w:World}:Calls Tryz.prog 31 #[] w (WordsPost w):=by
 go_enter Tryz.func31,Tryz.ntmps31
 go_upto_region 1 with fail
 refine wp_region_head 13 (by kernel_rfl) (by kernel_rfl) ?_
 refine wpAny_inv (Jw w.drew w.drew.heap.size) ?_ ?_ 13 _ _ _ (by decide) (Jw.start w.drew)
 ·rintro l a w1 H' i hi
  obtain ⟨m,k,rfl⟩:∃ (m:Value) (k:Nat→Value),a=⟨#[.map none,m,k 0,k 1,k 2,k 3,k 4,k 5,undef],[]⟩:=by obtain ⟨_,m,k,e,_⟩:=H';exact ⟨m,k,e⟩
  have H:=H'
  have hz:=H'.size
  obtain ⟨hf,o,ho,hd⟩:=mem_ready.1 hi
  clear H' hi
  have hi13:i<13:=by have:=(Array.getElem?_eq_some_iff.1 ho).1;simpa using this
  have hfi:l.getD i false=false:=by
   have:i<l.size:=by omega
   simpa [Array.getD_eq_getD_getElem?,this] using hf
  generalize headQ _ _ _ _=Q'
  match i,hi13,ho,hf,hfi,hd with
  | 0,_,ho,hf,hfi,hd=>
   cases ho
   exact wpOp_run rfl rfl (wp_makeMap rfl (H.made hfi))
  | 1,_,ho,hf,hfi,hd=>
   cases ho
   refine wpOp_run rfl rfl ?_
   have N:=H.built 0 (by decide) _ rfl
   simp at N
   go_simp
   exact N
  | 2,_,ho,hf,hfi,hd=>
   cases ho
   obtain ⟨rfl,ek,w',hrun,N⟩:=H.put 0 (by decide) hfi (hd ⟨0,.data⟩ (by simp) rfl) (hd ⟨1,.data⟩ (by simp) rfl)
   exact wpOp_run rfl rfl (wp_insert (X:=vv (keyI 0)) rfl rfl ek rfl hrun N)
  | 3,_,ho,hf,hfi,hd=>
   cases ho
   refine wpOp_run rfl rfl ?_
   have N:=H.built 1 (by decide) _ rfl
   simp at N
   go_simp
   exact N
  | 4,_,ho,hf,hfi,hd=>
   cases ho
   obtain ⟨rfl,ek,w',hrun,N⟩:=H.put 1 (by decide) hfi (hd ⟨0,.data⟩ (by simp) rfl) (hd ⟨3,.data⟩ (by simp) rfl)
   exact wpOp_run rfl rfl (wp_insert (X:=vv (keyI 1)) rfl rfl ek rfl hrun N)
  | 5,_,ho,hf,hfi,hd=>
   cases ho
   refine wpOp_run rfl rfl ?_
   have N:=H.built 2 (by decide) _ rfl
   simp at N
   go_simp
   exact N
  | 6,_,ho,hf,hfi,hd=>
   cases ho
   obtain ⟨rfl,ek,w',hrun,N⟩:=H.put 2 (by decide) hfi (hd ⟨0,.data⟩ (by simp) rfl) (hd ⟨5,.data⟩ (by simp) rfl)
   exact wpOp_run rfl rfl (wp_insert (X:=vv (keyI 2)) rfl rfl ek rfl hrun N)
  | 7,_,ho,hf,hfi,hd=>
   cases ho
   refine wpOp_run rfl rfl ?_
   have N:=H.built 3 (by decide) _ rfl
   simp at N
   go_simp
   exact N
  | 8,_,ho,hf,hfi,hd=>
   cases ho
   obtain ⟨rfl,ek,w',hrun,N⟩:=H.put 3 (by decide) hfi (hd ⟨0,.data⟩ (by simp) rfl) (hd ⟨7,.data⟩ (by simp) rfl)
   exact wpOp_run rfl rfl (wp_insert (X:=vv (keyI 3)) rfl rfl ek rfl hrun N)
  | 9,_,ho,hf,hfi,hd=>
   cases ho
   refine wpOp_run rfl rfl ?_
   have N:=H.built 4 (by decide) _ rfl
   simp at N
   go_simp
   exact N
  | 10,_,ho,hf,hfi,hd=>
   cases ho
   obtain ⟨rfl,ek,w',hrun,N⟩:=H.put 4 (by decide) hfi (hd ⟨0,.data⟩ (by simp) rfl) (hd ⟨9,.data⟩ (by simp) rfl)
   exact wpOp_run rfl rfl (wp_insert (X:=vv (keyI 4)) rfl rfl ek rfl hrun N)
  | 11,_,ho,hf,hfi,hd=>
   cases ho
   refine wpOp_run rfl rfl ?_
   have N:=H.built 5 (by decide) _ rfl
   simp at N
   go_simp
   exact N
  | 12,_,ho,hf,hfi,hd=>
   cases ho
   obtain ⟨rfl,ek,w',hrun,N⟩:=H.put 5 (by decide) hfi (hd ⟨0,.data⟩ (by simp) rfl) (hd ⟨11,.data⟩ (by simp) rfl)
   exact wpOp_run rfl rfl (wp_insert (X:=vv (keyI 5)) rfl rfl ek rfl hrun N)
 ·intro l a w1 H' hr
  obtain ⟨m,k,rfl⟩:∃ (m:Value) (k:Nat→Value),a=⟨#[.map none,m,k 0,k 1,k 2,k 3,k 4,k 5,undef],[]⟩:=by obtain ⟨_,m,k,e,_⟩:=H';exact ⟨m,k,e⟩
  have H:=H'
  have hz:=H'.size
  clear H'
  have all':=all_listed hr (by kernel_rfl) hz
  obtain ⟨rfl,M,B⟩:=H.full (all' 0 (by decide)) (fun i hi=>all' _ (by omega))
  have M':=Lib.hid M;have B':=Lib.hid B
  simp only [List.drop_succ_cons,List.drop_zero,headQ]
  clear H all' hr M B hz
  obtain ⟨bb,hbb⟩:∃ b,Hid (w.drew.heap.size=b):=⟨_,rfl⟩
  rw [hbb.out] at M' B'⊢
  go_wp2_with fail
  go_ret
  exact ⟨bb,rfl,Nat.le_of_eq hbb.out,M'.out,by rw [←hbb.out] at B';exact bt (⟨rfl,rfl,rfl,Nat.le_refl _,fun _ _=>rfl⟩:Below w.heap.size w w.drew) B'.out⟩
end Go.Proofs.YteagpbkbdlmdiaaGreat.Va
