/-
  The document's decimals (corrodyref02), walked: Is, Round, Put, May, Cmp, Add, Sub; dectext: what Text works with: the canonical number; a row of bytes in memory; The document's reading of a number, plain: byte by byte; A number's text is read as that number; plain; Values: which may be, their texts, what a text is read as; plain; Values as keys of a map; value.words, walked: the six words, whatever order they come into the map; dectext: Text, walked; value.May, value.Text, value.Truth, value.Num, value.Bad, walked; value.Text, value.Truth, value.Num, value.Bad, walked.
-/
import Derived.Test.YteagpbkbdlmdiaaGreatQ21
import Derived.Test.YteagpbkbdlmdiaaGreatQ3
import Derived.Test.YteagpbkbdlmdiaaGreatQ18
import Derived.Laws.IdiomCopy
import Derived.Laws.MakeOwn
import Derived.Laws.IdiomStrings
import Derived.Lib.LazyBuf
import Derived.Test.YteagpbkbdlmdiaaGreatQ1
import Derived.DeepKeys4
import Derived.Test.YteagpbkbdlmdiaaGreatQ20
import Derived.Laws.StructEq
import Derived.Deep.RegionHeld3
set_option linter.unusedSimpArgs false
set_option linter.unusedVariables false
namespace Go.Proofs.YteagpbkbdlmdiaaGreat
set_option maxRecDepth 100000
set_option maxHeartbeats 1000000
open Go.RowKit
attribute [local go_sem ↓] Go.wp_at_zero Go.wp_at_succ
theorem rIs_any (c s:Int) (w:World):Calls Tryz.prog 36 #[.agg #[.int .i64 c,.int .i64 s]] w fun e w'=>e=.returned (.bool (isB s))∧Below w.heap.size w w':=by
 by_cases h0:0≤s
 ·have d1:decide (0≤s)=true:=by simpa using h0
  by_cases h9:s≤9
  ·have d2:decide (s≤9)=true:=by simpa using h9
   have e:isB s=true:=by unfold isB;simp;omega
   rw [e]
   go_enter Tryz.func36,Tryz.ntmps36
   go_wp2_with fail
   go_ret
   exact ⟨rfl,ba _ _⟩
  ·have d2:decide (s≤9)=false:=by simpa using h9
   have e:isB s=false:=by unfold isB;simp;omega
   rw [e]
   go_enter Tryz.func36,Tryz.ntmps36
   go_wp2_with fail
   go_ret
   exact ⟨rfl,ba _ _⟩
 ·have d1:decide (0≤s)=false:=by simpa using h0
  have e:isB s=false:=by unfold isB;simp;omega
  rw [e]
  go_enter Tryz.func36,Tryz.ntmps36
  go_wp2_with fail
  go_ret
  exact ⟨rfl,ba _ _⟩
theorem near_val (u:Int) (t:Nat) (ht:t≤9):evenZ (u*((10 ^ 9:Nat):Int)) (10 ^ (18 - t))=evenZ u (10 ^ (9 - t)):=by
 rw [pow_split (9 - t) 9 (18 - t) (by omega),evenZ_scale _ _ _ (ten_pos _)]
theorem rRound_any (c:Int) (n t:Nat) (V:Value) (w:World) (hc:fits c) (hn:n≤9) (ht:t≤9) (hV:decV (evenZ (un c n) (10 ^ (9 - t))) t=V) :
  Calls Tryz.prog 83 #[.agg #[.int .i64 c,.int .i64 (n:Int)],.int .i64 (t:Int)] w fun e w'=>e=.returned V∧Below w.heap.size w w':=by
 rw [←near_val _ _ ht] at hV
 obtain ⟨vc,vs,ve,hvv⟩:=decV_form (evenZ (un c n*((10 ^ 9:Nat):Int)) (10 ^ (18 - t))) t;rw [hV] at hvv;subst hvv
 go_enter Tryz.func83,Tryz.ntmps83
 go_upto_region 1 with fail
 obtain ⟨hX,hR,hB⟩:=two_dec w c (n:Int) 0 0
 have X0:=Lib.hid hX;have R0:=Lib.hid hR;have B0:=Lib.hid hB;clear hX hR hB
 generalize World.alloc (World.alloc w _) _=W0 at X0 R0 B0⊢
 have x0:=X0.out.c0;have x1:=X0.out.c1
 go_wp2_with fail
 refine (units_any c n _ hc hn).mono ?_
 rintro e w1 ⟨v1,hz,rfl,b1⟩
 have N1:=Lib.hid hz;have T1:=Lib.hid b1;clear hz b1
 go_wp2_with fail
 refine (near_any 36 v1 _ t _ N1.out (by omega) ht).mono ?_
 rintro e w2 ⟨v2,hz,rfl,b2⟩
 have N2:=Lib.hid hz;have T2:=Lib.hid (bt T1.out b2);clear hz b2
 go_wp2_with fail
 refine (madeR_any 45 v2 _ t _ _ N2.out (by omega) (by omega) hV).mono ?_
 rintro e w3 ⟨rfl,b3⟩
 have T3:=bt T2.out b3
 have R3:=Lib.hid (DAt.below R0.out T3);have B3:=Lib.hid (bt B0.out T3);clear b3 T3 x0 x1
 have r0:=R3.out.c0;have r1:=R3.out.c1;have r2:=R3.out.f0;have r3:=R3.out.f1
 go_wp2_with fail
 refine bodyPost_ret (v:=.tuple #[.agg #[.int .i64 vc,.int .i64 vs],.int .i64 ve]) (by simp [results,Tryz.results83,go_sem,r0,r1]) rfl ⟨rfl,(B3.out.setCell (by simp) _).setCell (by simp) _⟩
theorem rPut_any (c:Int) (n:Nat) (V:Value) (w:World) (hc:fits c) (hn:n≤9) (hV:decV c n=V) :
  Calls Tryz.prog 38 #[.agg #[.int .i64 c,.int .i64 (n:Int)]] w fun e w'=>e=.returned V∧Below w.heap.size w w':=by
 obtain ⟨vc,vs,ve,hvv⟩:=decV_form c n;rw [hV] at hvv;subst hvv
 have hV':decV (evenZ (un c n) (10 ^ (9 - 9))) 9=.tuple #[.agg #[.int .i64 vc,.int .i64 vs],.int .i64 ve]:=by
  rw [show 10 ^ (9 - 9)=1 from rfl,evenZ_one,decV_un c n hn,hV]
 go_enter Tryz.func38,Tryz.ntmps38
 go_upto_region 1 with fail
 obtain ⟨hX,hR,hB⟩:=two_dec w c (n:Int) 0 0
 have X0:=Lib.hid hX;have R0:=Lib.hid hR;have B0:=Lib.hid hB;clear hX hR hB
 generalize World.alloc (World.alloc w _) _=W0 at X0 R0 B0⊢
 have x0:=X0.out.c0;have x1:=X0.out.c1
 go_wp2_with fail
 refine (rRound_any c n 9 _ _ hc hn (by omega) hV').mono ?_
 rintro e w3 ⟨rfl,b3⟩
 have R3:=Lib.hid (DAt.below R0.out b3);have B3:=Lib.hid (bt B0.out b3);clear b3 x0 x1
 have r0:=R3.out.c0;have r1:=R3.out.c1;have r2:=R3.out.f0;have r3:=R3.out.f1
 go_wp2_with fail
 refine bodyPost_ret (v:=.tuple #[.agg #[.int .i64 vc,.int .i64 vs],.int .i64 ve]) (by simp [results,Tryz.results38,go_sem,r0,r1]) rfl ⟨rfl,(B3.out.setCell (by simp) _).setCell (by simp) _⟩
theorem may_cases (c:Int) (n:Nat) (hc:fits c) (hn:n≤9) :
  (mayB c (n:Int)=true∧decV c n=.tuple #[.agg #[.int .i64 c,.int .i64 (n:Int)],.int .i64 0])∨
  (mayB c (n:Int)=false∧∃ p q:Int,decV c n=.tuple #[.agg #[.int .i64 p,.int .i64 q],.int .i64 0]∧(n:Int) ≠ q)∨
  (mayB c (n:Int)=false∧decV c n=.tuple #[.agg #[.int .i64 0,.int .i64 0],.int .i64 11]):=by
 have hi:isB (n:Int)=true:=by unfold isB;simp;omega
 by_cases h:n=0∨c % 10 ≠ 0
 ·left
  refine ⟨?_,?_⟩
  ·unfold mayB;rw [hi]
   rcases h with h | h
   ·subst h;simp
   ·simp [h]
  ·unfold decV;rw [trim_self c n h,if_pos hc]
 ·right
  have hm:mayB c (n:Int)=false:=by
   unfold mayB;rw [hi]
   have h1:n ≠ 0:=fun k=>h (.inl k)
   have h2:c % 10=0:=by rcases Decidable.em (c % 10=0) with k | k;exact k;exact absurd (.inr k) h
   simp [h1,h2]
  cases n with
  | zero=>exact absurd (.inl rfl) h
  | succ n=>
   have h2:c % 10=0:=by rcases Decidable.em (c % 10=0) with k | k;exact k;exact absurd (.inr k) h
   unfold decV
   rw [trim_succ,if_pos h2]
   have hl:=trim_le (c / 10) n
   by_cases hf:fits (trim (c / 10) n).1
   ·left;refine ⟨hm,_,_,by rw [if_pos hf],by omega⟩
   ·right;exact ⟨hm,by rw [if_neg hf]⟩
theorem rMay_any (c s:Int) (w:World) (hc:fits c):Calls Tryz.prog 28 #[.agg #[.int .i64 c,.int .i64 s]] w fun e w'=>e=.returned (.bool (mayB c s))∧Below w.heap.size w w':=by
 cases hs:isB s with
 | false=>
  have hm:mayB c s=false:=by unfold mayB;rw [hs];rfl
  rw [hm]
  go_enter Tryz.func28,Tryz.ntmps28
  go_wp2_with fail
  refine (rIs_any c s _).mono ?_
  rintro e w1 ⟨rfl,b1⟩
  rw [hs]
  have B1:=Lib.hid (bt (ba _ _) b1);clear b1
  go_wp2_with fail
  go_ret
  exact ⟨rfl,B1.out⟩
 | true=>
  obtain ⟨n,rfl,hn⟩:=isB_nat hs
  have main:∀ (p q e:Int) (b:Bool),decV c n=.tuple #[.agg #[.int .i64 p,.int .i64 q],.int .i64 e]→mayB c (n:Int)=b→((e=0∧b=true∧p=c∧q=(n:Int))∨(e=0∧b=false∧(n:Int) ≠ q)∨(e=11∧b=false))→
    Calls Tryz.prog 28 #[.agg #[.int .i64 c,.int .i64 (n:Int)]] w fun e w'=>e=.returned (.bool (mayB c (n:Int)))∧Below w.heap.size w w':=by
   intro p q e b hV hm hcase
   rw [hm]
   have HV:=Lib.hid hV
   clear hV hm
   go_enter Tryz.func28,Tryz.ntmps28
   go_upto_region 1 with fail
   have X0:=Lib.hid (dAt_new w c (n:Int));have B0:=Lib.hid (ba w (.cells #[.int .i64 c,.int .i64 (n:Int)] 30))
   generalize World.alloc w _=W0 at X0 B0⊢
   have x0:=X0.out.c0;have x1:=X0.out.c1
   go_wp2_with fail
   refine (rIs_any c (n:Int) _).mono ?_
   rintro e w1 ⟨rfl,b1⟩
   rw [hs]
   have X1:=Lib.hid (DAt.below X0.out b1);have B1:=Lib.hid (bt B0.out b1);clear b1 x0 x1
   have x0:=X1.out.c0;have x1:=X1.out.c1
   go_wp2_with fail
   refine (rPut_any c n _ _ hc hn HV.out).mono ?_
   rintro e w2 ⟨rfl,b1⟩
   go_upto_region 4 with fail
   generalize hW:World.alloc w2 _=W3
   have P3:Hid (DAt W3 w2.heap.size p q):=by rw [←hW];exact dAt_new _ _ _
   have b3:=bt b1 (ba w2 (.cells #[.int .i64 p,.int .i64 q] 30))
   rw [hW] at b3
   have X3:=Lib.hid (DAt.below X1.out b3);have B3:=Lib.hid (bt B1.out b3);clear b1 b3 hW x0 x1
   have x0:=X3.out.c0;have x1:=X3.out.c1;have p0:=P3.out.c0;have p1:=P3.out.c1
   rcases hcase with ⟨rfl,rfl,rfl,rfl⟩ | ⟨rfl,rfl,hne⟩ | ⟨rfl,rfl⟩
   ·go_wp2_with fail
    go_ret
    exact ⟨rfl,B3.out⟩
   ·have k1:((n:Int)==q)=false:=by simpa using hne
    go_wp2_with fail
    go_ret
    exact ⟨by simp [hne],B3.out⟩
   ·go_wp2_with fail
    go_ret
    exact ⟨rfl,B3.out⟩
  rcases may_cases c n hc hn with ⟨h1,h2⟩ | ⟨h1,p,q,h2,h3⟩ | ⟨h1,h2⟩
  ·exact main _ _ _ _ h2 h1 (.inl ⟨rfl,rfl,rfl,rfl⟩)
  ·exact main _ _ _ _ h2 h1 (.inr (.inl ⟨rfl,rfl,h3⟩))
  ·exact main _ _ _ _ h2 h1 (.inr (.inr ⟨rfl,rfl⟩))
end Go.Proofs.YteagpbkbdlmdiaaGreat
namespace Go.Proofs.YteagpbkbdlmdiaaGreat.Tx
open Go Go.RowKit Dt
def canC (c s:Int):Int:=(trim c s.toNat).1
def canS (c s:Int):Nat:=(trim c s.toNat).2
theorem trim_fit (c:Int) (n:Nat) (h:Fit c):Fit (trim c n).1:=by
 have e:=trim_val c n
 have p:(1:Int)≤10 ^ (n - (trim c n).2):=by
  have:=Nat.pow_pos (n:=n - (trim c n).2) (show 0<10 by decide)
  have e2:((10 ^ (n - (trim c n).2):Nat):Int)=(10:Int) ^ (n - (trim c n).2):=by push_cast;rfl
  rw [←e2];omega
 have m:∀ (x p:Int),1≤p→x.natAbs≤(x*p).natAbs:=fun x p hp=>by
  rw [Int.natAbs_mul];exact Nat.le_mul_of_pos_right _ (by omega)
 have:=m (trim c n).1 _ p
 rw [e] at this
 unfold Fit at h⊢
 have sgn1:c<0∨0≤c:=by omega
 by_cases hx:(trim c n).1= -9223372036854775808
 ·omega
 ·rcases Int.lt_or_le c 0 with hc | hc
  ·have:(trim c n).1≤0:=by
    rcases Int.lt_or_le 0 (trim c n).1 with k | k
    ·have:=Int.mul_pos k (show (0:Int)<10 ^ (n - (trim c n).2) by omega);omega
    ·exact k
   omega
  ·have:0≤(trim c n).1:=by
    rcases Int.lt_or_le (trim c n).1 0 with k | k
    ·have:=Int.mul_neg_of_neg_of_pos k (show (0:Int)<10 ^ (n - (trim c n).2) by omega);omega
    ·exact k
   omega
theorem putV_ok {c s:Int} (hc:Fit c) (h:isB s=true):putV c s=.tuple #[.agg #[.int .i64 (canC c s),.int .i64 (canS c s:Int)],.int .i64 0]:=by
 obtain ⟨n,rfl,hn⟩:=isB_nat h
 unfold putV canC canS
 rw [if_pos h,Int.toNat_natCast,decV_un c n hn]
 unfold decV
 exact if_pos (trim_fit c n hc)
theorem canS_le {c s:Int} (h:isB s=true):canS c s≤9:=by
 obtain ⟨n,rfl,hn⟩:=isB_nat h
 unfold canS
 rw [Int.toNat_natCast]
 exact Nat.le_trans (trim_le c n) hn
def textS (c s:Int):List UInt8:=if isB s=true then dtxt (canC c s) (canS c s) else []
theorem dd_len_le {a:Nat} (h:a≤9223372036854775808):(Lib.decDigits a).length≤19:=by
 have b:=(dd_bounds a a (Nat.le_refl _)).2
 rcases b with e | e
 ·omega
 ·rcases Nat.lt_or_ge 19 (Lib.decDigits a).length with g | g
  ·have:=Nat.pow_le_pow_right (n:=10) (by decide) (show 19≤(Lib.decDigits a).length - 1 by omega)
   omega
  ·exact g
def bc (c:UInt8):Value:=.int .u8 (c.toNat:Int)
def BAt (w:World) (g:Nat) (l:List UInt8):Prop:=w.heap[g]?=some (.cells (l.map bc).toArray 5 (0,0))
theorem BAt.lt {w:World} {g:Nat} {l:List UInt8} (h:BAt w g l):g<w.heap.size:=(Array.getElem?_eq_some_iff.1 h).1
theorem BAt.cell {w:World} {g:Nat} {l:List UInt8} (h:BAt w g l) (j:Nat):w.cell? ⟨g,j,none⟩=(l[j]?).map bc:=by
 rw [cell_of_row w _ _ _ _ (0,0) h];simp
theorem BAt.f {w:World} {g:Nat} {l:List UInt8} (h:BAt w g l) (i:Nat):w.frozen? ⟨g,i,none⟩=false:=frozen_of_row w _ _ _ _ h
theorem BAt.set {w:World} {g:Nat} {l:List UInt8} (h:BAt w g l) (i:Nat) (c:UInt8):BAt (w.setCell ⟨g,i,none⟩ (bc c)) g (l.set i c):=by
 unfold BAt
 rw [heap_setCell_same w g i _ _ _ h,List.setIfInBounds_toArray,List.map_set]
theorem BAt.new (w:World) (l:List UInt8):BAt (w.alloc (.cells (l.map bc).toArray 5)) w.heap.size l:=by
 show (w.heap.push _)[w.heap.size]?=_
 rw [Array.getElem?_push_size]
theorem back_bytes {w:World} {g:Nat} {l:List UInt8} (h:BAt w g l) (cap:Nat):(convert 158 9 (.slice (some ⟨g,0,none⟩) l.length cap)).run Tryz.prog w=.ok (.string (bs l)) w:=
 run_convert_bytes_back (P:=Tryz.prog) w 158 9 5 ⟨g,0,none⟩ cap l Tryz.underlying158 Tryz.underlying5 Tryz.underlying9 (fun j hj=>by
  have hplain:(⟨g,0,none⟩:Addr).add j=⟨g,j,none⟩:=by unfold Addr.add;split<;>simp_all
  rw [hplain,h.cell j,List.getElem?_eq_getElem hj];rfl)
end Go.Proofs.YteagpbkbdlmdiaaGreat.Tx
namespace Go.Proofs.YteagpbkbdlmdiaaGreat.Tx
open Go Dt
structure Rd (t:List UInt8) (k:Nat) (pt:Option Nat) (v:Nat):Prop where
 no:pt=none→(t.take k).all isDg=true∧v=val (t.take k)
 yes:∀ p,pt=some p→p<k∧0<p∧t[p]?=some 46∧(t.take p).all isDg=true∧((t.take k).drop (p+1)).all isDg=true∧v=val (t.take p++(t.take k).drop (p+1))
theorem Rd.start (t:List UInt8):Rd t 0 none 0:=⟨fun _=>⟨rfl,rfl⟩,fun _ h=>by cases h⟩
theorem Rd.dig {t:List UInt8} {k v:Nat} {pt:Option Nat} (h:Rd t k pt v) {c:UInt8} (hc:t[k]?=some c) (hd:isDg c=true):Rd t (k+1) pt (v*10+Dt.dv c):=by
 have hk:k<t.length:=(List.getElem?_eq_some_iff.1 hc).1
 have e:t.take (k+1)=t.take k++[c]:=by rw [List.take_add_one,hc];rfl
 refine ⟨fun hp=>?_,fun p hp=>?_⟩
 ·obtain ⟨a,b⟩:=h.no hp
  rw [e]
  exact ⟨by rw [List.all_append,a];simp [hd],by rw [val_snoc,b]⟩
 ·obtain ⟨a1,a2,a3,a4,a5,a6⟩:=h.yes p hp
  have e2:(t.take (k+1)).drop (p+1)=(t.take k).drop (p+1)++[c]:=by
   rw [e,List.drop_append_of_le_length (by rw [List.length_take];omega)]
  refine ⟨by omega,a2,a3,a4,?_,?_⟩
  ·rw [e2,List.all_append,a5];simp [hd]
  ·rw [e2,←List.append_assoc,val_snoc,a6]
theorem Rd.dot {t:List UInt8} {k v:Nat} (h:Rd t k none v) (hc:t[k]?=some 46) (hk:0<k):Rd t (k+1) (some k) v:=by
 have hl:k<t.length:=(List.getElem?_eq_some_iff.1 hc).1
 obtain ⟨a,b⟩:=h.no rfl
 have e:(t.take (k+1)).drop (k+1)=[]:=List.drop_eq_nil_of_le (by rw [List.length_take];omega)
 refine ⟨fun hp=>(by cases hp),fun p hp=>?_⟩
 cases hp
 refine ⟨by omega,hk,hc,a,by rw [e];rfl,?_⟩
 rw [e,List.append_nil,b]
theorem cutP_cases2 (l:List UInt8):(cutP l=(l,[],false)∧∀ j:Nat,l[j]? ≠ some 46)∨∃ i:Nat,cutP l=(l.take i,l.drop (i+1),true)∧i<l.length∧l[i]?=some 46∧∀ j:Nat,j<i→l[j]? ≠ some 46:=by
 rcases cutP_cases l with e | h
 ·refine .inl ⟨e,fun j k=>?_⟩
  have hj:j<l.length:=(List.getElem?_eq_some_iff.1 k).1
  unfold cutP Lib.cut at e
  rcases Lib.index_spec l [46] with ⟨h,ho⟩ | ⟨i,h,hi,ho,hn⟩
  ·have:=ho j (by omega)
   rw [Lib.occAt_iff_take l [46] j (by show j+1≤_;omega),List.length_singleton,List.take_one,List.head?_drop,k] at this
   simp at this
  ·rw [h,if_pos (by omega)] at e
   simp at e
 ·exact .inr h
theorem dg_no {c:UInt8} (h:isDg c=true):c ≠ 46:=by rintro rfl;simp [isDg] at h
theorem cutP_none {t:List UInt8} (h:t.all isDg=true):cutP t=(t,[],false):=by
 rcases cutP_cases2 t with ⟨e,_⟩ | ⟨i,_,_,k,_⟩
 ·exact e
 ·exact absurd rfl (dg_no (List.all_eq_true.1 h 46 (List.mem_of_getElem? k)))
theorem cutP_some {t:List UInt8} {p:Nat} (h:(t.take p).all isDg=true) (hp:t[p]?=some 46):cutP t=(t.take p,t.drop (p+1),true):=by
 rcases cutP_cases2 t with ⟨_,k⟩ | ⟨i,e,_,k,kn⟩
 ·exact absurd hp (k p)
 ·have:i=p:=by
   rcases Nat.lt_trichotomy i p with g | g | g
   ·have:(t.take p)[i]?=some 46:=by rw [List.getElem?_take,if_pos g];exact k
    exact absurd rfl (dg_no (List.all_eq_true.1 h 46 (List.mem_of_getElem? this)))
   ·exact g
   ·exact absurd hp (kn p g)
  subst this;exact e
theorem digs_false {l:List UInt8} {c:UInt8} (h:c ∈ l) (hc:isDg c=false):digs l=false:=by
 unfold digs
 have:l.all isDg=false:=by
  cases e:l.all isDg
  ·rfl
  ·rw [List.all_eq_true.1 e c h] at hc;cases hc
 rw [this,Bool.and_false]
theorem bad_form {l:List UInt8} (h21:¬21<l.length) (h:wBad (cutP (body l)).1=true∨((cutP (body l)).2.2=true∧rBad (cutP (body l)).2.1=true)∨l=[45,48]):dparse l=((0,0),4):=by
 unfold dparse;rw [if_neg h21,if_pos h]
theorem wBad_of {v:List UInt8} (h:digs v=false):wBad v=true:=by unfold wBad;rw [h];rfl
theorem rBad_of {v:List UInt8} (h:digs v=false):rBad v=true:=by unfold rBad;rw [h];rfl
theorem Rd.bad {l:List UInt8} {k v:Nat} {pt:Option Nat} (h21:¬21<l.length) (h:Rd (body l) k pt v) {c:UInt8} (hc:(body l)[k]?=some c) (hd:isDg c=false) (hdot:¬(c=46∧pt=none∧0<k)):dparse l=((0,0),4):=by
 apply bad_form h21
 have hk:k<(body l).length:=(List.getElem?_eq_some_iff.1 hc).1
 cases pt with
 | none=>
  obtain ⟨a,_⟩:=h.no rfl
  by_cases c46:c=46
  ·subst c46
   have k0:k=0:=by
    rcases Nat.eq_zero_or_pos k with g | g
    ·exact g
    ·exact absurd ⟨rfl,rfl,g⟩ hdot
   subst k0
   rw [cutP_some a hc]
   exact .inl rfl
  ·left
   rcases cutP_cases2 (body l) with ⟨e,_⟩ | ⟨i,e,_,k1,k2⟩
   ·rw [e];exact wBad_of (digs_false (List.mem_of_getElem? hc) hd)
   ·rw [e]
    have:k<i:=by
     rcases Nat.lt_trichotomy k i with g | g | g
     ·exact g
     ·subst g;rw [hc] at k1;cases k1;exact absurd rfl c46
     ·have:((body l).take k)[i]?=some 46:=by rw [List.getElem?_take,if_pos g];exact k1
      exact absurd rfl (dg_no (List.all_eq_true.1 a 46 (List.mem_of_getElem? this)))
    exact wBad_of (digs_false (c:=c) (List.mem_of_getElem? (i:=k) (by rw [List.getElem?_take,if_pos this];exact hc)) hd)
 | some p=>
  obtain ⟨a1,a2,a3,a4,a5,a6⟩:=h.yes p rfl
  right;left
  rw [cutP_some a4 a3]
  refine ⟨rfl,rBad_of (digs_false (c:=c) (List.mem_of_getElem? (i:=k - (p+1)) ?_) hd)⟩
  rw [List.getElem?_drop,show p+1+(k - (p+1))=k by omega];exact hc
end Go.Proofs.YteagpbkbdlmdiaaGreat.Tx
namespace Go.Proofs.YteagpbkbdlmdiaaGreat.Tx
open Go Dt
theorem refT_len (a D:Nat):(refT a D (lenT a D)).length≤lenT a D+1:=by
 have g:=lenT_gt a D
 unfold refT
 split
 ·rw [lowD_len];omega
 ·rw [List.length_append,List.length_cons,lowD_len,lowD_len];omega
end Go.Proofs.YteagpbkbdlmdiaaGreat.Tx
namespace Go.Proofs.YteagpbkbdlmdiaaGreat.Va
open Go Dt Tx
def wAbsent:List UInt8:=[97,98,115,101,110,116]
def wTrue:List UInt8:=[116,114,117,101]
def wFalse:List UInt8:=[102,97,108,115,101]
def wOver:List UInt8:=[111,118,101,114]
def wDiv:List UInt8:=[100,105,118]
def wMissing:List UInt8:=[109,105,115,115,105,110,103]
structure V where
 k:Int
 c:Int
 s:Int
 e:Int
deriving DecidableEq
def V.ok (v:V):Prop:=(0≤v.k∧v.k≤255)∧fits v.c∧fits v.s∧fits v.e
def six:List (V × List UInt8):=[(⟨0,0,0,0⟩,wAbsent),(⟨2,0,0,0⟩,wTrue),(⟨3,0,0,0⟩,wFalse),(⟨4,0,0,11⟩,wOver),(⟨4,0,0,12⟩,wDiv),(⟨4,0,0,13⟩,wMissing)]
def lookV (v:V):List (V × List UInt8)→Option (List UInt8)
 | []=>none
 | x :: r=>if v=x.1 then some x.2 else lookV v r
def lookW (l:List UInt8):List (V × List UInt8)→Option V
 | []=>none
 | x :: r=>if l=x.2 then some x.1 else lookW l r
def isNum (v:V):Bool:=decide (v.k=1∧v.e=0)
def mayV (v:V):Bool:=if isNum v=true then mayB v.c v.s else (lookV v six).isSome
theorem lookV_six {v:V} {l:List UInt8} (h:lookV v six=some l):(v,l) ∈ six:=by
 simp only [six,lookV] at h
 simp only [six]
 repeat' (split at h)
 all_goals first
  | (rename_i e;cases h;subst e;simp)
  | cases h
theorem lookW_six {v:V} {l:List UInt8} (h:lookW l six=some v):(v,l) ∈ six:=by
 simp only [six,lookW] at h
 simp only [six]
 repeat' (split at h)
 all_goals first
  | (rename_i e;cases h;subst e;simp)
  | cases h
theorem six_look {v:V} {l:List UInt8} (h:(v,l) ∈ six):lookV v six=some l∧lookW l six=some v∧isNum v=false∧l ≠ []:=by
 simp only [six,List.mem_cons,Prod.mk.injEq,List.mem_nil_iff,or_false] at h
 rcases h with ⟨rfl,rfl⟩ | ⟨rfl,rfl⟩ | ⟨rfl,rfl⟩ | ⟨rfl,rfl⟩ | ⟨rfl,rfl⟩ | ⟨rfl,rfl⟩<;>exact ⟨by decide,by decide,by decide,by decide⟩
theorem may_canon {c s:Int} (h:mayB c s=true):isB s=true∧(s.toNat=0∨c % 10 ≠ 0):=by
 unfold mayB at h
 simp only [Bool.and_eq_true,Bool.or_eq_true,decide_eq_true_eq,Bool.not_eq_true',decide_eq_false_iff_not] at h
 exact ⟨h.1,h.2.imp (fun e=>by omega) id⟩
theorem num_eq {v:V} (h:isNum v=true):v=⟨1,v.c,v.s,0⟩:=by
 obtain ⟨k,c,s,e⟩:=v
 simp [isNum] at h
 obtain ⟨rfl,rfl⟩:=h
 rfl
end Go.Proofs.YteagpbkbdlmdiaaGreat.Va
namespace Go.Proofs.YteagpbkbdlmdiaaGreat.Va
open Go Go.RowKit Dt Tx
def vv (v:V):Value:=.agg #[.int .u8 v.k,.int .i64 v.c,.int .i64 v.s,.int .i64 v.e]
theorem vv_inj {a b:V} (h:vv a=vv b):a=b:=by
 obtain ⟨k,c,s,e⟩:=a
 obtain ⟨k',c',s',e'⟩:=b
 simp [vv] at h
 obtain ⟨rfl,rfl,rfl,rfl⟩:=h
 rfl
def domV (x:Value):Prop:=∃ l,keyOf Tryz.prog 33 x=some l
theorem kl_V:KL Tryz.prog 33 domV:=
 KL.of_keyed (Maps.Keyed.of_law (deep_law_laid (by kernel_rfl) (m:=3) (by omega) (of_decide_eq_true (by kernel_rfl)) (by kernel_rfl) (by rw [Tryz.underlying33])))
theorem lits_V (v:V) (h:v.ok) (d:Nat):∃ l,Tryz.prog.keyLits (d+3) 33 (vv v).cells.toList=some l:=by
 obtain ⟨h1,h2,h3,h4⟩:=h
 have w1:(Lit.int .u8 v.k).wf=true:=by simp [Lit.wf,IntKind.has,IntKind.min,IntKind.max,IntKind.signed,IntKind.bits];omega
 have w2:(Lit.int .i64 v.c).wf=true:=by have:=h2.1;have:=h2.2;refine WalkArith.wf_i64 ?_<;>omega
 have w3:(Lit.int .i64 v.s).wf=true:=by have:=h3.1;have:=h3.2;refine WalkArith.wf_i64 ?_<;>omega
 have w4:(Lit.int .i64 v.e).wf=true:=by have:=h4.1;have:=h4.2;refine WalkArith.wf_i64 ?_<;>omega
 have c1:Tryz.prog.cellsOf 33=4:=by kernel_rfl
 have c2:Tryz.prog.cellsOf 30=2:=by kernel_rfl
 have c3:Tryz.prog.cellsOf 5=1:=by kernel_rfl
 have c4:Tryz.prog.cellsOf 31=1:=by kernel_rfl
 have c5:Tryz.prog.cellsOf 3=1:=by kernel_rfl
 have c6:Tryz.prog.cellsOf 2=1:=by kernel_rfl
 simp+decide [Program.keyLits,Tryz.underlying33,Tryz.underlying30,Tryz.underlying5,Tryz.underlying3,Tryz.underlying2,Tryz.underlying31,vv,Value.cells,w1,w2,w3,w4,c1,c2,c3,c4,c5,c6]
theorem dom_V (v:V) (h:v.ok):domV (vv v):=by
 obtain ⟨n,hn⟩:∃ n,Tryz.prog.types.size+1=n+3:=⟨Tryz.prog.types.size - 2,by
  have:3≤Tryz.prog.types.size:=of_decide_eq_true (by kernel_rfl)
  omega⟩
 obtain ⟨l,hl⟩:=lits_V v h n
 have hk:Tryz.prog.keyType 33=true:=by kernel_rfl
 have hf:(vv v).formed Tryz.prog 33=true:=by
  have c1:Tryz.prog.cellsOf 33=4:=by kernel_rfl
  simp [vv,Value.formed,Tryz.underlying33,c1]
 unfold domV keyOf
 rw [Tryz.underlying33]
 simp only [hk,hf,hn,hl,Bool.and_self,if_true,Option.map_some]
 exact ⟨_,rfl⟩
end Go.Proofs.YteagpbkbdlmdiaaGreat.Va
namespace Go.Proofs.YteagpbkbdlmdiaaGreat.Va
open Go Go.RowKit Dt Tx
attribute [local go_sem ↓] Go.wp_at_zero Go.wp_at_succ
def keyI:Nat→V
 | 0=>⟨0,0,0,0⟩
 | 1=>⟨2,0,0,0⟩
 | 2=>⟨3,0,0,0⟩
 | 3=>⟨4,0,0,11⟩
 | 4=>⟨4,0,0,12⟩
 | _=>⟨4,0,0,13⟩
def wordI:Nat→List UInt8
 | 0=>wAbsent
 | 1=>wTrue
 | 2=>wFalse
 | 3=>wOver
 | 4=>wDiv
 | _=>wMissing
def entI (i:Nat):Value × Value:=(vv (keyI i),.string (bs (wordI i)))
def sixT:List (Value × Value):=six.map fun x=>(vv x.1,.string (bs x.2))
theorem six_ent:sixT=(List.range 6).map entI:=rfl
theorem key_inj {i j:Nat} (hi:i<6) (hj:j<6) (h:keyI i=keyI j):i=j:=by
 have:∀ i,i<6→∀ j,j<6→keyI i=keyI j→i=j:=by decide
 exact this i hi j hj h
theorem key_ok (i:Nat):(keyI i).ok:=by
 unfold keyI;split<;>(unfold V.ok;refine ⟨by decide,by decide,by decide,by decide⟩)
theorem ent_nodup:((List.range 6).map entI).Nodup:=by
 rw [List.Nodup,List.pairwise_map]
 refine List.Pairwise.imp_of_mem ?_ (List.nodup_range (n:=6))
 intro a b ha hb hne e
 exact hne (key_inj (List.mem_range.1 ha) (List.mem_range.1 hb) (vv_inj (congrArg Prod.fst e)))
structure Jw (w0:World) (b:Nat) (l:Array Bool) (a:Act) (w:World):Prop where
 size:l.size=13
 ex:∃ (m:Value) (k:Nat→Value),a=⟨#[.map none,m,k 0,k 1,k 2,k 3,k 4,k 5,undef],[]⟩∧(∀ i,i<6→l.getD (2*i+1) false=true→k i=vv (keyI i))∧
  ((l.getD 0 false=false∧w=w0∧∀ i,i<6→l.getD (2*i+2) false=false)∨
   (l.getD 0 false=true∧m=.map (some b)∧Below b w0 w∧∃ T,MapAt w b domV T∧T.Nodup∧∀ x,x ∈ T↔∃ i,i<6∧l.getD (2*i+2) false=true∧x=entI i))
theorem Jw.start (w:World):Jw w w.heap.size (Array.replicate 13 false) ⟨#[.map none,undef,undef,undef,undef,undef,undef,undef,undef],[]⟩ w:=
 ⟨by simp,undef,fun _=>undef,rfl,fun i hi h=>(by rw [none_set] at h;cases h),.inl ⟨none_set _ _,rfl,fun i hi=>none_set _ _⟩⟩
theorem Jw.made {w0 w:World} {l:Array Bool} {m:Value} {k:Nat→Value} (h:Jw w0 w0.heap.size l ⟨#[.map none,m,k 0,k 1,k 2,k 3,k 4,k 5,undef],[]⟩ w) (hf:l.getD 0 false=false) :
  Jw w0 w0.heap.size (l.setIfInBounds 0 true) ⟨#[.map none,.map (some w.heap.size),k 0,k 1,k 2,k 3,k 4,k 5,undef],[]⟩ (w.alloc (.map #[] 0)):=by
 obtain ⟨hz,m',k',ea,hk,hm⟩:=h
 simp at ea
 obtain ⟨rfl,e0,e1,e2,e3,e4,e5⟩:=ea
 rcases hm with ⟨_,rfl,hn⟩ | ⟨h0,_⟩
 ·refine ⟨by simpa using hz,_,k,rfl,fun i hi hl=>?_,.inr ⟨set_same (by omega),rfl,ba _ _,[],MapAt.new _ _,List.nodup_nil,fun x=>⟨fun hx=>(by cases hx),?_⟩⟩⟩
  ·rw [set_other (by omega)] at hl
   have:=hk i hi hl
   match i,hi with
   | 0,_=>rw [e0];exact this
   | 1,_=>rw [e1];exact this
   | 2,_=>rw [e2];exact this
   | 3,_=>rw [e3];exact this
   | 4,_=>rw [e4];exact this
   | 5,_=>rw [e5];exact this
  ·rintro ⟨i,hi,hl,_⟩
   rw [set_other (by omega),hn i hi] at hl
   cases hl
 ·rw [hf] at h0;cases h0
def WordsPost (w:World) (e:Ending) (w':World):Prop:=∃ b,e=.returned (.map (some b))∧w.heap.size≤b∧MapAt w' b domV sixT∧Below w.heap.size w w'
theorem Jw.built {w0 w:World} {l:Array Bool} {m:Value} {k:Nat→Value} (j:Nat) (hj:j<6) (h:Jw w0 w0.heap.size l ⟨#[.map none,m,k 0,k 1,k 2,k 3,k 4,k 5,undef],[]⟩ w) (k':Nat→Value) (hk':k'=fun i=>if i=j then vv (keyI j) else k i) :
  Jw w0 w0.heap.size (l.setIfInBounds (2*j+1) true) ⟨#[.map none,m,k' 0,k' 1,k' 2,k' 3,k' 4,k' 5,undef],[]⟩ w:=by
 obtain ⟨hz,m1,k1,ea,hk,hm⟩:=h
 simp at ea
 obtain ⟨rfl,e0,e1,e2,e3,e4,e5⟩:=ea
 refine ⟨by simpa using hz,m,k',rfl,fun i hi hl=>?_,?_⟩
 ·subst hk'
  by_cases hij:i=j
  ·subst hij;simp
  ·simp only [hij,if_false]
   rw [set_other (by omega)] at hl
   have:=hk i hi hl
   match i,hi with
   | 0,_=>rw [e0];exact this
   | 1,_=>rw [e1];exact this
   | 2,_=>rw [e2];exact this
   | 3,_=>rw [e3];exact this
   | 4,_=>rw [e4];exact this
   | 5,_=>rw [e5];exact this
 ·rcases hm with ⟨h0,hw,hn⟩ | ⟨h0,rfl,hb,T,h1,h2,h3⟩
  ·refine .inl ⟨by rw [set_other (by omega)];exact h0,hw,fun i hi=>by rw [set_other (by omega)];exact hn i hi⟩
  ·refine .inr ⟨by rw [set_other (by omega)];exact h0,rfl,hb,T,h1,h2,fun x=>(h3 x).trans ⟨?_,?_⟩⟩
   ·rintro ⟨i,hi,hl,e⟩;exact ⟨i,hi,by rw [set_other (by omega)];exact hl,e⟩
   ·rintro ⟨i,hi,hl,e⟩;rw [set_other (by omega)] at hl;exact ⟨i,hi,hl,e⟩
theorem Jw.put {w0 w:World} {l:Array Bool} {m:Value} {k:Nat→Value} (j:Nat) (hj:j<6) (h:Jw w0 w0.heap.size l ⟨#[.map none,m,k 0,k 1,k 2,k 3,k 4,k 5,undef],[]⟩ w) (hf:l.getD (2*j+2) false=false) (h0:l.getD 0 false=true) (h1:l.getD (2*j+1) false=true) :
  m=.map (some w0.heap.size)∧k j=vv (keyI j)∧∃ w',(Instr.mapUpdate 65 (.map (some w0.heap.size)) (vv (keyI j)) (.string (bs (wordI j)))).run Tryz.prog w=.ok () w'∧Jw w0 w0.heap.size (l.setIfInBounds (2*j+2) true) ⟨#[.map none,m,k 0,k 1,k 2,k 3,k 4,k 5,undef],[]⟩ w':=by
 obtain ⟨hz,m1,k1,ea,hk,hm⟩:=h
 simp at ea
 obtain ⟨rfl,e0,e1,e2,e3,e4,e5⟩:=ea
 have hkj:k j=k1 j:=by
  match j,hj with
  | 0,_=>exact e0
  | 1,_=>exact e1
  | 2,_=>exact e2
  | 3,_=>exact e3
  | 4,_=>exact e4
  | 5,_=>exact e5
 rcases hm with ⟨hn,_⟩ | ⟨_,rfl,hb,T,t1,t2,t3⟩
 ·rw [h0] at hn;cases hn
 ·refine ⟨rfl,hkj.trans (hk j hj h1),?_⟩
  obtain ⟨w',hrun,t1',hbel,_,_⟩:=t1.put kl_V Tryz.underlying65 (x:=vv (keyI j)) (v:=.string (bs (wordI j))) (dom_V _ (key_ok j)) (fun y hy e=>by
   obtain ⟨i,hi,hl,rfl⟩:=(t3 y).1 hy
   have:=key_inj hi hj (vv_inj e)
   subst this
   rw [hf] at hl;cases hl)
  refine ⟨w',hrun,by simpa using hz,_,k1,by rw [e0,e1,e2,e3,e4,e5],fun i hi hl=>hk i hi (by rw [set_other (by omega)] at hl;exact hl),.inr ⟨by rw [set_other (by omega)];exact h0,rfl,hbel _ (Nat.le_refl _) _ hb,_,t1',?_,?_⟩⟩
  ·refine List.nodup_cons.2 ⟨fun hx=>?_,t2⟩
   obtain ⟨i,hi,hl,e⟩:=(t3 _).1 hx
   have:=key_inj hj hi (vv_inj (congrArg Prod.fst e))
   subst this
   rw [hf] at hl;cases hl
  ·intro x
   rw [List.mem_cons,t3]
   constructor
   ·rintro (rfl | ⟨i,hi,hl,e⟩)
    ·exact ⟨j,hj,set_same (by omega),rfl⟩
    ·refine ⟨i,hi,?_,e⟩
     rw [set_other (fun q=>?_)]
     ·exact hl
     ·have:j=i:=by omega
      subst this;rw [hf] at hl;cases hl
   ·rintro ⟨i,hi,hl,e⟩
    by_cases hij:j=i
    ·subst hij;exact .inl e
    ·rw [set_other (by omega)] at hl;exact .inr ⟨i,hi,hl,e⟩
theorem Jw.full {w0 w:World} {l:Array Bool} {m:Value} {k:Nat→Value} (h:Jw w0 w0.heap.size l ⟨#[.map none,m,k 0,k 1,k 2,k 3,k 4,k 5,undef],[]⟩ w) (h0:l.getD 0 false=true) (ha:∀ i,i<6→l.getD (2*i+2) false=true) :
  m=.map (some w0.heap.size)∧MapAt w w0.heap.size domV sixT∧Below w0.heap.size w0 w:=by
 obtain ⟨hz,m1,k1,ea,hk,hm⟩:=h
 simp at ea
 obtain ⟨rfl,_⟩:=ea
 rcases hm with ⟨hn,_⟩ | ⟨_,rfl,hb,T,t1,t2,t3⟩
 ·rw [h0] at hn;cases hn
 ·refine ⟨rfl,t1.perm ((List.perm_ext_iff_of_nodup t2 ent_nodup).2 fun x=>(t3 x).trans ⟨?_,?_⟩),hb⟩
  ·rintro ⟨i,hi,_,rfl⟩
   exact List.mem_map.2 ⟨i,List.mem_range.2 hi,rfl⟩
  ·intro hx
   obtain ⟨i,hi,rfl⟩:=List.mem_map.1 hx
   exact ⟨i,List.mem_range.1 hi,ha i (List.mem_range.1 hi),rfl⟩
set_option maxRecDepth 100000 in
theorem words_is {w:World}:Calls Tryz.prog 31 #[] w (WordsPost w):=by
 go_enter Tryz.func31,Tryz.ntmps31
 go_upto_region 1 with fail
 refine wp_region_head 13 (by kernel_rfl) (by kernel_rfl) ?_
 refine wpAny_inv (Jw w.drew w.drew.heap.size) ?_ ?_ 13 _ _ _ (by decide) (Jw.start w.drew)
 ·rintro l a w1 H' i hi
  obtain ⟨m,k,rfl⟩:∃ (m:Value) (k:Nat→Value),a=⟨#[.map none,m,k 0,k 1,k 2,k 3,k 4,k 5,undef],[]⟩:=by obtain ⟨_,m,k,e,_⟩:=H';exact ⟨m,k,e⟩
  have H:=H'
  have hz:=H'.size
  obtain ⟨hf,o,ho,hd⟩:=mem_ready.1 hi
  clear H' hi
  have hi13:i<13:=by have:=(Array.getElem?_eq_some_iff.1 ho).1;simpa using this
  have hfi:l.getD i false=false:=by
   have:i<l.size:=by omega
   simpa [Array.getD_eq_getD_getElem?,this] using hf
  generalize headQ _ _ _ _=Q'
  match i,hi13,ho,hf,hfi,hd with
  | 0,_,ho,hf,hfi,hd=>
   cases ho
   exact wpOp_run rfl rfl (wp_makeMap rfl (H.made hfi))
  | 1,_,ho,hf,hfi,hd=>
   cases ho
   refine wpOp_run rfl rfl ?_
   have N:=H.built 0 (by decide) _ rfl
   simp at N
   go_simp
   exact N
  | 2,_,ho,hf,hfi,hd=>
   cases ho
   obtain ⟨rfl,ek,w',hrun,N⟩:=H.put 0 (by decide) hfi (hd ⟨0,.data⟩ (by simp) rfl) (hd ⟨1,.data⟩ (by simp) rfl)
   exact wpOp_run rfl rfl (wp_insert (X:=vv (keyI 0)) rfl rfl ek rfl hrun N)
  | 3,_,ho,hf,hfi,hd=>
   cases ho
   refine wpOp_run rfl rfl ?_
   have N:=H.built 1 (by decide) _ rfl
   simp at N
   go_simp
   exact N
  | 4,_,ho,hf,hfi,hd=>
   cases ho
   obtain ⟨rfl,ek,w',hrun,N⟩:=H.put 1 (by decide) hfi (hd ⟨0,.data⟩ (by simp) rfl) (hd ⟨3,.data⟩ (by simp) rfl)
   exact wpOp_run rfl rfl (wp_insert (X:=vv (keyI 1)) rfl rfl ek rfl hrun N)
  | 5,_,ho,hf,hfi,hd=>
   cases ho
   refine wpOp_run rfl rfl ?_
   have N:=H.built 2 (by decide) _ rfl
   simp at N
   go_simp
   exact N
  | 6,_,ho,hf,hfi,hd=>
   cases ho
   obtain ⟨rfl,ek,w',hrun,N⟩:=H.put 2 (by decide) hfi (hd ⟨0,.data⟩ (by simp) rfl) (hd ⟨5,.data⟩ (by simp) rfl)
   exact wpOp_run rfl rfl (wp_insert (X:=vv (keyI 2)) rfl rfl ek rfl hrun N)
  | 7,_,ho,hf,hfi,hd=>
   cases ho
   refine wpOp_run rfl rfl ?_
   have N:=H.built 3 (by decide) _ rfl
   simp at N
   go_simp
   exact N
  | 8,_,ho,hf,hfi,hd=>
   cases ho
   obtain ⟨rfl,ek,w',hrun,N⟩:=H.put 3 (by decide) hfi (hd ⟨0,.data⟩ (by simp) rfl) (hd ⟨7,.data⟩ (by simp) rfl)
   exact wpOp_run rfl rfl (wp_insert (X:=vv (keyI 3)) rfl rfl ek rfl hrun N)
  | 9,_,ho,hf,hfi,hd=>
   cases ho
   refine wpOp_run rfl rfl ?_
   have N:=H.built 4 (by decide) _ rfl
   simp at N
   go_simp
   exact N
  | 10,_,ho,hf,hfi,hd=>
   cases ho
   obtain ⟨rfl,ek,w',hrun,N⟩:=H.put 4 (by decide) hfi (hd ⟨0,.data⟩ (by simp) rfl) (hd ⟨9,.data⟩ (by simp) rfl)
   exact wpOp_run rfl rfl (wp_insert (X:=vv (keyI 4)) rfl rfl ek rfl hrun N)
  | 11,_,ho,hf,hfi,hd=>
   cases ho
   refine wpOp_run rfl rfl ?_
   have N:=H.built 5 (by decide) _ rfl
   simp at N
   go_simp
   exact N
  | 12,_,ho,hf,hfi,hd=>
   cases ho
   obtain ⟨rfl,ek,w',hrun,N⟩:=H.put 5 (by decide) hfi (hd ⟨0,.data⟩ (by simp) rfl) (hd ⟨11,.data⟩ (by simp) rfl)
   exact wpOp_run rfl rfl (wp_insert (X:=vv (keyI 5)) rfl rfl ek rfl hrun N)
 ·intro l a w1 H' hr
  obtain ⟨m,k,rfl⟩:∃ (m:Value) (k:Nat→Value),a=⟨#[.map none,m,k 0,k 1,k 2,k 3,k 4,k 5,undef],[]⟩:=by obtain ⟨_,m,k,e,_⟩:=H';exact ⟨m,k,e⟩
  have H:=H'
  have hz:=H'.size
  clear H'
  have all':=all_listed hr (by kernel_rfl) hz
  obtain ⟨rfl,M,B⟩:=H.full (all' 0 (by decide)) (fun i hi=>all' _ (by omega))
  have M':=Lib.hid M;have B':=Lib.hid B
  simp only [List.drop_succ_cons,List.drop_zero,headQ]
  clear H all' hr M B hz
  obtain ⟨bb,hbb⟩:∃ b,Hid (w.drew.heap.size=b):=⟨_,rfl⟩
  rw [hbb.out] at M' B'⊢
  go_wp2_with fail
  go_ret
  exact ⟨bb,rfl,Nat.le_of_eq hbb.out,M'.out,by rw [←hbb.out] at B';exact bt (⟨rfl,rfl,rfl,Nat.le_refl _,fun _ _=>rfl⟩:Below w.heap.size w w.drew) B'.out⟩
end Go.Proofs.YteagpbkbdlmdiaaGreat.Va
namespace Go.Proofs.YteagpbkbdlmdiaaGreat.Tx
open Go Go.RowKit Dt
attribute [local go_sem ↓] Go.wp_at_zero Go.wp_at_succ
theorem BAt.drew {w:World} {g:Nat} {l:List UInt8} (h:BAt w g l):BAt w.drew g l:=h
def TextPost (c s:Int) (w:World) (e:Ending) (w':World):Prop:=e=.returned (.string (bs (textS c s)))∧Below w.heap.size w w'
end Go.Proofs.YteagpbkbdlmdiaaGreat.Tx
namespace Go.Proofs.YteagpbkbdlmdiaaGreat.Va
open Go Go.RowKit Dt Tx
attribute [local go_sem ↓] Go.wp_at_zero Go.wp_at_succ
def Four (w:World) (b:Nat) (v:V):Prop:=w.heap[b]?=some (.cells #[.int .u8 v.k,.int .i64 v.c,.int .i64 v.s,.int .i64 v.e] 33 (0,0))
section
variable {w:World} {b:Nat} {v:V}
theorem Four.lt (h:Four w b v):b<w.heap.size:=(Array.getElem?_eq_some_iff.1 h).1
theorem Four.c0 (h:Four w b v):w.cell? ⟨b,0,none⟩=some (.int .u8 v.k):=by rw [cell_of_row w _ _ _ _ (0,0) h];rfl
theorem Four.c1 (h:Four w b v):w.cell? ⟨b,1,none⟩=some (.int .i64 v.c):=by rw [cell_of_row w _ _ _ _ (0,0) h];rfl
theorem Four.c2 (h:Four w b v):w.cell? ⟨b,2,none⟩=some (.int .i64 v.s):=by rw [cell_of_row w _ _ _ _ (0,0) h];rfl
theorem Four.c3 (h:Four w b v):w.cell? ⟨b,3,none⟩=some (.int .i64 v.e):=by rw [cell_of_row w _ _ _ _ (0,0) h];rfl
theorem Four.f (h:Four w b v) (i:Nat):w.frozen? ⟨b,i,none⟩=false:=frozen_of_row w _ _ _ _ h
theorem Four.below {w':World} (h:Four w b v) (k:Below w.heap.size w w'):Four w' b v:=(k.block b h.lt).trans h
theorem Four.new (w:World) (v:V):Four (w.alloc (.cells #[.int .u8 v.k,.int .i64 v.c,.int .i64 v.s,.int .i64 v.e] 33)) w.heap.size v:=by
 show (w.heap.push _)[w.heap.size]?=_
 rw [Array.getElem?_push_size]
theorem Four.set (h:Four w b v) (k c s e:Int):Four ((((w.setCell ⟨b,0,none⟩ (.int .u8 k)).setCell ⟨b,1,none⟩ (.int .i64 c)).setCell ⟨b,2,none⟩ (.int .i64 s)).setCell ⟨b,3,none⟩ (.int .i64 e)) b ⟨k,c,s,e⟩:=by
 have h1:(w.setCell ⟨b,0,none⟩ (.int .u8 k)).heap[b]?=some (.cells #[.int .u8 k,.int .i64 v.c,.int .i64 v.s,.int .i64 v.e] 33 (0,0)):=by rw [heap_setCell_same w b 0 _ _ _ h];rfl
 have h2:((w.setCell ⟨b,0,none⟩ (.int .u8 k)).setCell ⟨b,1,none⟩ (.int .i64 c)).heap[b]?=some (.cells #[.int .u8 k,.int .i64 c,.int .i64 v.s,.int .i64 v.e] 33 (0,0)):=by rw [heap_setCell_same _ b 1 _ _ _ h1];rfl
 have h3:(((w.setCell ⟨b,0,none⟩ (.int .u8 k)).setCell ⟨b,1,none⟩ (.int .i64 c)).setCell ⟨b,2,none⟩ (.int .i64 s)).heap[b]?=some (.cells #[.int .u8 k,.int .i64 c,.int .i64 s,.int .i64 v.e] 33 (0,0)):=by rw [heap_setCell_same _ b 2 _ _ _ h2];rfl
 show _=_
 rw [heap_setCell_same _ b 3 _ _ _ h3];rfl
theorem below_set4 {B g:Nat} {a w:World} (h:Below B a w) (hg:B≤g) (x0 x1 x2 x3:Value):Below B a ((((w.setCell ⟨g,0,none⟩ x0).setCell ⟨g,1,none⟩ x1).setCell ⟨g,2,none⟩ x2).setCell ⟨g,3,none⟩ x3):=
 Below.setCell (Below.setCell (Below.setCell (Below.setCell h (p:=⟨g,0,none⟩) hg _) (p:=⟨g,1,none⟩) hg _) (p:=⟨g,2,none⟩) hg _) (p:=⟨g,3,none⟩) hg _
end
def LookPost (v:V) (w:World) (e:Ending) (w':World):Prop:=∃ b,e=.returned (.map (some b))∧Below w.heap.size w w'∧
 (Instr.lookup 65 (.map (some b)) (.agg #[.int .u8 v.k,.int .i64 v.c,.int .i64 v.s,.int .i64 v.e]) true).run Tryz.prog w'=.ok (.tuple #[.string (bs ((lookV v six).getD [])),.bool (lookV v six).isSome]) w'∧
 (Instr.lookup 65 (.map (some b)) (.agg #[.int .u8 v.k,.int .i64 v.c,.int .i64 v.s,.int .i64 v.e]) false).run Tryz.prog w'=.ok (.string (bs ((lookV v six).getD []))) w'
theorem six_uniq:∀ y ∈ sixT,∀ z ∈ sixT,y.1=z.1→y=z:=by
 rw [six_ent]
 intro y hy z hz h
 obtain ⟨i,hi,rfl⟩:=List.mem_map.1 hy
 obtain ⟨j,hj,rfl⟩:=List.mem_map.1 hz
 rw [key_inj (List.mem_range.1 hi) (List.mem_range.1 hj) (vv_inj h)]
theorem look_none {v:V} {l:List UInt8} (h:lookV v six=none):(v,l) ∉ six:=fun k=>by rw [(six_look k).1] at h;cases h
theorem look_is {w:World} (v:V) (hv:v.ok):Calls Tryz.prog 31 #[] w (LookPost v w):=by
 refine words_is.mono ?_
 rintro e w' ⟨b,rfl,_,hm,hb⟩
 have hz:(zeroValue 9).run Tryz.prog w'=.ok (.string ⟨#[]⟩) w':=by kernel_rfl
 have ht:=Tryz.underlying65
 refine ⟨b,rfl,hb,?_⟩
 cases hl:lookV v six with
 | some l=>
  have m:(vv v,Value.string (bs l)) ∈ sixT:=List.mem_map.2 ⟨(v,l),lookV_six hl,rfl⟩
  exact ⟨hm.look_some kl_V ht six_uniq m true,hm.look_some kl_V ht six_uniq m false⟩
 | none=>
  have hn:∀ y ∈ sixT,y.1 ≠ vv v:=fun y hy e=>by
   obtain ⟨⟨u,l⟩,hx,rfl⟩:=List.mem_map.1 hy
   have:=vv_inj e
   simp only at this
   subst this
   exact look_none hl hx
  exact ⟨hm.look_none kl_V ht hz (dom_V v hv) hn true,hm.look_none kl_V ht hz (dom_V v hv) hn false⟩
set_option maxRecDepth 100000 in
theorem may_is {w:World} (v:V) (hv:v.ok):Calls Tryz.prog 22 #[.agg #[.int .u8 v.k,.int .i64 v.c,.int .i64 v.s,.int .i64 v.e]] w fun e w'=>e=.returned (.bool (mayV v))∧Below w.heap.size w w':=by
 have A:=fun w=>look_is (w:=w) v hv
 have D:=fun w=>dMay_any v.c v.s w hv.2.1
 have X:=Lib.hid (Four.new w v)
 have B:=Lib.hid (ba w (.cells #[.int .u8 v.k,.int .i64 v.c,.int .i64 v.s,.int .i64 v.e] 33))
 cases hn:isNum v
 ·have R:mayV v=(lookV v six).isSome:=by unfold mayV;rw [hn];rfl
  obtain ⟨ok,hok⟩:∃ b,Hid ((lookV v six).isSome=b):=⟨_,rfl⟩
  obtain ⟨S,hS⟩:∃ s,Hid (bs ((lookV v six).getD [])=s):=⟨_,rfl⟩
  unfold LookPost at A
  rw [hok.out,hS.out] at A
  rw [R,hok.out]
  have key:¬v.k=1∨v.k=1∧¬v.e=0:=by
   unfold isNum at hn
   have:=of_decide_eq_false hn
   by_cases h:v.k=1
   ·exact .inr ⟨h,fun e=>this ⟨h,e⟩⟩
   ·exact .inl h
  obtain ⟨k,c,s,e⟩:=v
  simp only at A D X B key⊢
  clear hn R hv D hok hS
  rcases key with key | ⟨rfl,key⟩
  ·go_enter Tryz.func22,Tryz.ntmps22
   go_upto_region 1 with fail
   obtain ⟨wa,hwa⟩:∃ v,Hid (v=w.alloc (.cells #[.int .u8 k,.int .i64 c,.int .i64 s,.int .i64 e] 33)):=⟨_,rfl⟩
   obtain ⟨ia,hia⟩:∃ v,Hid (w.heap.size=v):=⟨_,rfl⟩
   rw [←hwa.out] at X B⊢
   rw [hia.out] at X⊢
   have c0:=X.out.c0;have c1:=X.out.c1;have c2:=X.out.c2;have c3:=X.out.c3
   simp only at c0 c1 c2 c3
   clear hwa
   go_upto_region 3 with fail
   have X':=X.out.below (w':=wa.drew) ⟨rfl,rfl,rfl,Nat.le_refl _,fun _ _=>rfl⟩
   have HS0:(fun w':World=>w'.cell? ⟨ia,0,none⟩=some (.int .u8 k)∧w'.cell? ⟨ia,1,none⟩=some (.int .i64 c)∧w'.cell? ⟨ia,2,none⟩=some (.int .i64 s)∧w'.cell? ⟨ia,3,none⟩=some (.int .i64 e)) wa.drew:=⟨c0,c1,c2,c3⟩
   have A':=A wa.drew
   clear A
   go_region_held3 (fun w':World=>w'.cell? ⟨ia,0,none⟩=some (.int .u8 k)∧w'.cell? ⟨ia,1,none⟩=some (.int .i64 c)∧w'.cell? ⟨ia,2,none⟩=some (.int .i64 s)∧w'.cell? ⟨ia,3,none⟩=some (.int .i64 e))
    (first | with_reducible exact HS0 | with_reducible assumption)
    (first
     | (go_at_call 31;(with_reducible refine A'.mono ?_);rintro e7 w7 ⟨b7,rfl,q7,l7,_⟩;have X7:=X'.below q7;have HS7:w7.cell? ⟨ia,0,none⟩=some (.int .u8 k)∧w7.cell? ⟨ia,1,none⟩=some (.int .i64 c)∧w7.cell? ⟨ia,2,none⟩=some (.int .i64 s)∧w7.cell? ⟨ia,3,none⟩=some (.int .i64 e):=⟨X7.c0,X7.c1,X7.c2,X7.c3⟩;have B7:=Lib.hid (bt (B.out.drew) q7);clear q7 A' X7))
   clear HS0 c0 c1 c2 c3
   go_wp2_with fail
   go_ret
   exact ⟨rfl,B7.out⟩
  ·go_enter Tryz.func22,Tryz.ntmps22
   go_upto_region 1 with fail
   obtain ⟨wa,hwa⟩:∃ v,Hid (v=w.alloc (.cells #[.int .u8 1,.int .i64 c,.int .i64 s,.int .i64 e] 33)):=⟨_,rfl⟩
   obtain ⟨ia,hia⟩:∃ v,Hid (w.heap.size=v):=⟨_,rfl⟩
   rw [←hwa.out] at X B⊢
   rw [hia.out] at X⊢
   have c0:=X.out.c0;have c1:=X.out.c1;have c2:=X.out.c2;have c3:=X.out.c3
   simp only at c0 c1 c2 c3
   clear hwa
   go_upto_region 3 with fail
   have X':=X.out.below (w':=wa.drew) ⟨rfl,rfl,rfl,Nat.le_refl _,fun _ _=>rfl⟩
   have HS0:(fun w':World=>w'.cell? ⟨ia,0,none⟩=some (.int .u8 1)∧w'.cell? ⟨ia,1,none⟩=some (.int .i64 c)∧w'.cell? ⟨ia,2,none⟩=some (.int .i64 s)∧w'.cell? ⟨ia,3,none⟩=some (.int .i64 e)) wa.drew:=⟨c0,c1,c2,c3⟩
   have A':=A wa.drew
   clear A
   go_region_held3 (fun w':World=>w'.cell? ⟨ia,0,none⟩=some (.int .u8 1)∧w'.cell? ⟨ia,1,none⟩=some (.int .i64 c)∧w'.cell? ⟨ia,2,none⟩=some (.int .i64 s)∧w'.cell? ⟨ia,3,none⟩=some (.int .i64 e))
    (first | with_reducible exact HS0 | with_reducible assumption)
    (first
     | (go_at_call 31;(with_reducible refine A'.mono ?_);rintro e7 w7 ⟨b7,rfl,q7,l7,_⟩;have X7:=X'.below q7;have HS7:w7.cell? ⟨ia,0,none⟩=some (.int .u8 1)∧w7.cell? ⟨ia,1,none⟩=some (.int .i64 c)∧w7.cell? ⟨ia,2,none⟩=some (.int .i64 s)∧w7.cell? ⟨ia,3,none⟩=some (.int .i64 e):=⟨X7.c0,X7.c1,X7.c2,X7.c3⟩;have B7:=Lib.hid (bt (B.out.drew) q7);clear q7 A' X7))
   clear HS0 c0 c1 c2 c3
   go_wp2_with fail
   go_ret
   exact ⟨rfl,B7.out⟩
 ·have R:mayV v=mayB v.c v.s:=by unfold mayV;rw [hn];rfl
  rw [R]
  have e1:=num_eq hn
  obtain ⟨k,c,s,e⟩:=v
  simp only at A D X B e1⊢
  cases e1
  obtain ⟨ok,hok⟩:∃ b,Hid (mayB c s=b):=⟨_,rfl⟩
  rw [hok.out] at D⊢
  clear hn R hv A hok
  go_enter Tryz.func22,Tryz.ntmps22
  go_upto_region 1 with fail
  obtain ⟨wa,hwa⟩:∃ v,Hid (v=w.alloc (.cells #[.int .u8 1,.int .i64 c,.int .i64 s,.int .i64 0] 33)):=⟨_,rfl⟩
  obtain ⟨ia,hia⟩:∃ v,Hid (w.heap.size=v):=⟨_,rfl⟩
  rw [←hwa.out] at X B⊢
  rw [hia.out] at X⊢
  have c0:=X.out.c0;have c1:=X.out.c1;have c2:=X.out.c2;have c3:=X.out.c3
  simp only at c0 c1 c2 c3
  clear hwa
  go_wp2_with (go_at_call 30;(with_reducible refine (D _).mono ?_);rintro e7 w7 ⟨rfl,q7⟩;have B7:=Lib.hid (bt B.out q7);clear q7 D)
  go_ret
  exact ⟨rfl,B7.out⟩
end Go.Proofs.YteagpbkbdlmdiaaGreat.Va
namespace Go.Proofs.YteagpbkbdlmdiaaGreat.Va
open Go Go.RowKit Dt Tx
attribute [local go_sem ↓] Go.wp_at_zero Go.wp_at_succ
def truthV (b:Bool):V:=if b=true then ⟨2,0,0,0⟩ else ⟨3,0,0,0⟩
theorem truth_is {w:World} (b:Bool):Calls Tryz.prog 34 #[.bool b] w fun e w'=>e=.returned (.agg #[.int .u8 (if b=true then 2 else 3),.int .i64 0,.int .i64 0,.int .i64 0])∧Below w.heap.size w w':=by
 have X:=Lib.hid (Four.new w ⟨0,0,0,0⟩)
 have B:=Lib.hid (ba w (.cells #[.int .u8 0,.int .i64 0,.int .i64 0,.int .i64 0] 33))
 cases b
 all_goals
  go_enter Tryz.func34,Tryz.ntmps34
  go_upto_region 1 with fail
  obtain ⟨wa,hwa⟩:∃ v,Hid (v=w.alloc (.cells #[.int .u8 0,.int .i64 0,.int .i64 0,.int .i64 0] 33)):=⟨_,rfl⟩
  obtain ⟨ia,hia⟩:∃ v,Hid (w.heap.size=v):=⟨_,rfl⟩
  rw [←hwa.out] at X B⊢
  rw [hia.out] at X⊢
  have c0:=X.out.c0;have c1:=X.out.c1;have c2:=X.out.c2;have c3:=X.out.c3
  have f0:=X.out.f 0;have f1:=X.out.f 1;have f2:=X.out.f 2;have f3:=X.out.f 3
  clear hwa
  go_wp2_with fail
  refine bodyPost_ret (v:=.agg #[.int .u8 _,.int .i64 _,.int .i64 _,.int .i64 _]) (results_cell_row (fn:=Tryz.f34) (p:=2) rfl _ _ ia _ _ (0,0) _ rfl (X.out.set _ _ _ _) Tryz.underlying33 rfl (by kernel_rfl)) rfl ?_
  exact ⟨rfl,below_set4 B.out (Nat.le_of_eq hia.out) _ _ _ _⟩
end Go.Proofs.YteagpbkbdlmdiaaGreat.Va
