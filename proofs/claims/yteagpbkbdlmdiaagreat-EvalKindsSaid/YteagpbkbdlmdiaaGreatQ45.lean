/-
  eval: what each op does with its kids' values; eval.node: what it looks up; eval.node: ops of their own, walked.
-/
import Derived.Test.YteagpbkbdlmdiaaGreatQ44
import Derived.Laws.EntriesVeiled
import Derived.Test.YteagpbkbdlmdiaaGreatQ12
set_option linter.unusedSimpArgs false
set_option linter.unusedVariables false
namespace Go.Proofs.YteagpbkbdlmdiaaGreat.Ev
open Go Go.ChangeMaps Go.RowKit Dt Tx Va
theorem isB_num {v:V} (h:V.fine v) (k:v.k=1):isB v.s=true:=by
 obtain ⟨n,e,h1,_⟩:=num_parts h k
 have:v.s=(n:Int):=congrArg V.s e
 rw [this];unfold isB;simp;omega
theorem ans_tup {a b:V} (ha:V.fine a) (hb:V.fine b) (ka:a.k=1) (kb:b.k=1) (u:Int):ansV a.c a.s b.c b.s u=tupV (decT u 9):=by
 unfold ansV
 rw [isB_num ha ka,isB_num hb kb]
 exact decT_val u 9
theorem tp_of {F:FuncId} {args:Array Value} {w:World} {t:Int × Int × Int} (h:Calls Tryz.prog F args w fun e w'=>e=.returned (tupV t)∧Below w.heap.size w w'):Calls Tryz.prog F args w (TP t w):=h
section
variable {w:World} {g:Nat} {a b d:V} {k:Int}
theorem do_cmp (ha:V.fine a) (hb:V.fine b) (ka:a.k=1) (kb:b.k=1) (w:World):Calls Tryz.prog 118 #[.agg #[.int .i64 a.c,.int .i64 a.s],.agg #[.int .i64 b.c,.int .i64 b.s]] w fun e w'=>e=.returned (.tuple #[.int .i64 (cmpZ (unV a) (unV b)),.int .i64 0])∧Below w.heap.size w w':=
 dCmp_any a.c a.s b.c b.s _ w ha.fit hb.fit (by unfold cmpV;rw [isB_num ha ka,isB_num hb kb];rfl)
theorem do_10 {bf:Nat} (ha:V.fine a) (hb:V.fine b) (hk:K3 w g a b d) (hf:Bx w bf 102 (fn0 66)):Calls Tryz.prog 115 #[.slice (some ⟨g,0,none⟩) 2 3,.pointer (some ⟨bf,0,none⟩)] w (VP (pairV 10 a b) w):=
 order1_6 g a b d (cmpZ (unV a) (unV b)) bf hk hf (fun ka kb w=>do_cmp ha hb ka kb w)
theorem do_11 {bf:Nat} (ha:V.fine a) (hb:V.fine b) (hk:K3 w g a b d) (hf:Bx w bf 102 (fn0 67)):Calls Tryz.prog 115 #[.slice (some ⟨g,0,none⟩) 2 3,.pointer (some ⟨bf,0,none⟩)] w (VP (pairV 11 a b) w):=
 order1_7 g a b d (cmpZ (unV a) (unV b)) bf hk hf (fun ka kb w=>do_cmp ha hb ka kb w)
theorem do_12 {bf:Nat} (ha:V.fine a) (hb:V.fine b) (hk:K3 w g a b d) (hf:Bx w bf 102 (fn0 68)):Calls Tryz.prog 115 #[.slice (some ⟨g,0,none⟩) 2 3,.pointer (some ⟨bf,0,none⟩)] w (VP (pairV 12 a b) w):=
 order1_8 g a b d (cmpZ (unV a) (unV b)) bf hk hf (fun ka kb w=>do_cmp ha hb ka kb w)
theorem do_13 {bf:Nat} (ha:V.fine a) (hb:V.fine b) (hk:K3 w g a b d) (hf:Bx w bf 102 (fn0 69)):Calls Tryz.prog 115 #[.slice (some ⟨g,0,none⟩) 2 3,.pointer (some ⟨bf,0,none⟩)] w (VP (pairV 13 a b) w):=
 order1_9 g a b d (cmpZ (unV a) (unV b)) bf hk hf (fun ka kb w=>do_cmp ha hb ka kb w)
theorem do_14 {bf:Nat} (ha:V.fine a) (hb:V.fine b) (hk:K3 w g a b d) (hf:Bx w bf 104 (fn0 71)):Calls Tryz.prog 119 #[.slice (some ⟨g,0,none⟩) 2 3,.pointer (some ⟨bf,0,none⟩)] w (VP (pairV 14 a b) w):=
 two1_add g a b d (decT (unV a+unV b) 9) bf hk hf (fun ka kb w _=>tp_of (dAdd_any a.c a.s b.c b.s _ w ha.fit hb.fit (ans_tup ha hb ka kb _)))
theorem do_15 {bf:Nat} (ha:V.fine a) (hb:V.fine b) (hk:K3 w g a b d) (hf:Bx w bf 104 (fn0 72)):Calls Tryz.prog 119 #[.slice (some ⟨g,0,none⟩) 2 3,.pointer (some ⟨bf,0,none⟩)] w (VP (pairV 15 a b) w):=
 two1_sub g a b d (decT (unV a - unV b) 9) bf hk hf (fun ka kb w _=>tp_of (dSub_any a.c a.s b.c b.s _ w ha.fit hb.fit (ans_tup ha hb ka kb _)))
theorem do_16 {bf:Nat} (ha:V.fine a) (hb:V.fine b) (hk:K3 w g a b d) (hf:Bx w bf 104 (fn0 73)):Calls Tryz.prog 119 #[.slice (some ⟨g,0,none⟩) 2 3,.pointer (some ⟨bf,0,none⟩)] w (VP (pairV 16 a b) w):=
 two1_mul g a b d (decT (evenZ (unV a*unV b) (10 ^ 9)) 9) bf hk hf (fun ka kb w _=>tp_of (dMul_any a.c a.s b.c b.s _ w ha.fit hb.fit (ans_tup ha hb ka kb _)))
theorem do_17 {bf:Nat} (ha:V.fine a) (hb:V.fine b) (hk:K3 w g a b d) (hf:Bx w bf 104 (fn0 74)):Calls Tryz.prog 119 #[.slice (some ⟨g,0,none⟩) 2 3,.pointer (some ⟨bf,0,none⟩)] w (VP (pairV 17 a b) w):=
 two1_div g a b d (divT a b) bf hk hf (fun ka kb w _=>tp_of (dDiv_any a.c a.s b.c b.s _ w ha.fit hb.fit (by
  unfold dvdV divT
  rw [isB_num ha ka,isB_num hb kb]
  simp only [Bool.and_self,if_true]
  split
  ·rfl
  ·exact decT_val _ _)))
theorem cmp_sign (x y:Int):(cmpZ x y= -1↔cmpZ x y<0)∧(cmpZ x y=1↔cmpZ x y>0):=by
 unfold cmpZ
 split
 ·omega
 ·split<;>omega
theorem told_self {v:V} (h:V.fine v) (k:v.k=1):toldV (v.c,v.s,0)=v:=by
 obtain ⟨n,e,_⟩:=num_parts h k
 have h1:v.s=(n:Int):=congrArg V.s e
 show (⟨1,v.c,v.s,0⟩:V)=v
 rw [h1];exact e.symm
def minR (a b:V):V:=if cmpZ (unV a) (unV b)<0 then a else b
def maxR (a b:V):V:=if cmpZ (unV a) (unV b)>0 then a else b
theorem pair_told (op:Int) (r:V) (hr:pairN op a b=r) (ht:a.k=1→b.k=1→toldV (r.c,r.s,0)=r):(if a.k ≠ 1 then wrongV a else if b.k ≠ 1 then wrongV b else toldV (r.c,r.s,0))=pairV op a b:=by
 unfold pairV
 by_cases h1:a.k=1
 ·by_cases h2:b.k=1
  ·rw [if_neg (by simpa using h1),if_neg (by simpa using h2),if_neg (by simpa using h1),if_neg (by simpa using h2),ht h1 h2,hr]
  ·rw [if_neg (by simpa using h1),if_pos h2,if_neg (by simpa using h1),if_pos h2]
 ·rw [if_pos h1,if_pos h1]
theorem do_20 {bf bc:Nat} (ha:V.fine a) (hb:V.fine b) (hk:K3 w g a b d) (hf:Bx w bf 104 (fn1 127 bc)) (hc:Bx w bc 3 (.int .i64 (-1))):Calls Tryz.prog 119 #[.slice (some ⟨g,0,none⟩) 2 3,.pointer (some ⟨bf,0,none⟩)] w (VP (pairV 20 a b) w):=by
 have C:=two1_les g a b d ((minR a b).c,(minR a b).s,0) bf bc hk hf (fun ka kb w' h=>by
  by_cases hz:cmpZ (unV a) (unV b)<0
  ·have e:minR a b=a:=by unfold minR;rw [if_pos hz]
   rw [e]
   exact les_min_yes a b _ bc (hc.below h) ((cmp_sign _ _).1.2 hz) (fun w=>do_cmp ha hb ka kb w)
  ·have e:minR a b=b:=by unfold minR;rw [if_neg hz]
   rw [e]
   exact les_min_no a b _ bc (hc.below h) (fun e=>hz ((cmp_sign _ _).1.1 e)) (fun w=>do_cmp ha hb ka kb w))
 rw [pair_told (op:=20) (r:=minR a b) rfl (fun ka kb=>by unfold minR;split;exact told_self ha ka;exact told_self hb kb)] at C
 exact C
theorem do_21 {bf bc:Nat} (ha:V.fine a) (hb:V.fine b) (hk:K3 w g a b d) (hf:Bx w bf 104 (fn1 127 bc)) (hc:Bx w bc 3 (.int .i64 1)):Calls Tryz.prog 119 #[.slice (some ⟨g,0,none⟩) 2 3,.pointer (some ⟨bf,0,none⟩)] w (VP (pairV 21 a b) w):=by
 have C:=two1_les g a b d ((maxR a b).c,(maxR a b).s,0) bf bc hk hf (fun ka kb w' h=>by
  by_cases hz:cmpZ (unV a) (unV b)>0
  ·have e:maxR a b=a:=by unfold maxR;rw [if_pos hz]
   rw [e]
   exact les_max_yes a b _ bc (hc.below h) ((cmp_sign _ _).2.2 hz) (fun w=>do_cmp ha hb ka kb w)
  ·have e:maxR a b=b:=by unfold maxR;rw [if_neg hz]
   rw [e]
   exact les_max_no a b _ bc (hc.below h) (fun e=>hz ((cmp_sign _ _).2.1 e)) (fun w=>do_cmp ha hb ka kb w))
 rw [pair_told (op:=21) (r:=maxR a b) rfl (fun ka kb=>by unfold maxR;split;exact told_self ha ka;exact told_self hb kb)] at C
 exact C
theorem neg_tup {a:V} (ha:V.fine a) (ka:a.k=1):negV a.c a.s=tupV (decT (0 - unV a) 9):=by
 unfold negV ansV
 have h0:isB 0=true:=by decide
 have u0:un 0 0=0:=by unfold un;omega
 rw [isB_num ha ka,h0,u0]
 exact decT_val _ 9
theorem do_18 {bf bc:Nat} (ha:V.fine a) (hk:K3 w g a b d) (hf:Bx w bf 104 (fn1 128 bc)) (hc:Bx w bc 69 (fn0 77)):Calls Tryz.prog 119 #[.slice (some ⟨g,0,none⟩) 1 3,.pointer (some ⟨bf,0,none⟩)] w (VP (singleV 18 k a) w):=
 two1_one g a b d (decT (0 - unV a) 9) bf bc hk hf (fun ka w' h=>one1_neg a a _ bc (hc.below h) (fun w2 _=>tp_of (dNeg_any a.c a.s _ w2 ha.fit (neg_tup ha ka))))
def absT (a:V):Int × Int × Int:=if 0≤a.c then (a.c,a.s,0) else decT (0 - unV a) 9
theorem abs_tup {a:V} (ha:V.fine a) (ka:a.k=1):absV a.c a.s=tupV (absT a):=by
 unfold absV absT
 by_cases h:0≤a.c
 ·rw [if_neg (by omega),if_pos h]
  obtain ⟨n,e,h1,h2,h3⟩:=num_parts ha ka
  have hs:a.s=(n:Int):=congrArg V.s e
  unfold putV
  rw [isB_num ha ka,if_pos rfl,hs,Int.toNat_natCast,decV_un a.c n h1,decT_val]
  unfold decT
  rw [trim_self a.c n h3,if_pos h2]
 ·rw [if_pos (by omega),if_neg h]
  exact neg_tup ha ka
theorem do_22 {bf bc:Nat} (ha:V.fine a) (hk:K3 w g a b d) (hf:Bx w bf 104 (fn1 128 bc)) (hc:Bx w bc 69 (fn0 78)):Calls Tryz.prog 119 #[.slice (some ⟨g,0,none⟩) 1 3,.pointer (some ⟨bf,0,none⟩)] w (VP (singleV 22 k a) w):=by
 have C:=two1_one g a b d (absT a) bf bc hk hf (fun ka w' h=>one1_abs a a _ bc (hc.below h) (fun w2 _=>tp_of (dAbs_any a.c a.s _ w2 ha.fit (abs_tup ha ka))))
 have E:(if a.k ≠ 1 then wrongV a else toldV (absT a))=singleV 22 k a:=by
  unfold singleV
  by_cases h1:a.k=1
  ·rw [if_neg (by simpa using h1),if_neg (by simpa using h1)]
   show _=(if 0≤a.c then a else toldV (decT (0 - unV a) 9))
   unfold absT
   split
   ·exact told_self ha h1
   ·rfl
  ·rw [if_pos h1,if_pos h1]
 rw [E] at C
 exact C
theorem do_23 {bf bc bk:Nat} (ha:V.fine a) (hk:K3 w g a b d) (hf:Bx w bf 104 (fn1 128 bc)) (hc:Bx w bc 69 (fn1 79 bk)) (hq:Bx w bk 3 (.int .i64 k)):Calls Tryz.prog 119 #[.slice (some ⟨g,0,none⟩) 1 3,.pointer (some ⟨bf,0,none⟩)] w (VP (singleV 23 k a) w):=
 two1_one g a b d (roundT a k) bf bc hk hf (fun ka w' h=>one1_rnd a a _ bc bk (hc.below h) (fun w2 h2=>ops10 a k _ bk (hq.below (bt h h2)) (fun w3=>tp_of (dRound_any a.c a.s k _ w3 ha.fit (by
  unfold roundV roundT
  rw [isB_num ha ka]
  cases hb:isB k
  ·rfl
  ·exact decT_val _ _)))))
end
end Go.Proofs.YteagpbkbdlmdiaaGreat.Ev
namespace Go.Proofs.YteagpbkbdlmdiaaGreat.Ev
open Go Go.ChangeMaps Go.RowKit Dt Tx Va
attribute [local go_sem ↓] Go.wp_at_zero Go.wp_at_succ
def DB (w:World) (b:Nat) (m u:Value):Prop:=w.heap[b]?=some (.cells #[m,u] 72 (0,0))
section
variable {w:World} {b:Nat} {m u:Value}
theorem DB.lt (h:DB w b m u):b<w.heap.size:=(Array.getElem?_eq_some_iff.1 h).1
theorem DB.c0 (h:DB w b m u):w.cell? ⟨b,0,none⟩=some m:=by rw [cell_of_row w _ _ _ _ (0,0) h];rfl
theorem DB.c1 (h:DB w b m u):w.cell? ⟨b,1,none⟩=some u:=by rw [cell_of_row w _ _ _ _ (0,0) h];rfl
theorem DB.f (h:DB w b m u) (i:Nat):w.frozen? ⟨b,i,none⟩=false:=frozen_of_row w _ _ _ _ h
theorem DB.below {w':World} (h:DB w b m u) (k:Below w.heap.size w w'):DB w' b m u:=(k.block b h.lt).trans h
theorem DB.new (w:World) (m u:Value):DB (w.alloc (.cells #[m,u] 72)) w.heap.size m u:=heap_alloc_new w _
theorem DB.set (h:DB w b m u) (x y:Value):DB ((w.setCell ⟨b,0,none⟩ x).setCell ⟨b,1,none⟩ y) b x y:=by
 have h1:(w.setCell ⟨b,0,none⟩ x).heap[b]?=some (.cells #[x,u] 72 (0,0)):=by rw [heap_setCell_same w b 0 _ _ _ h];rfl
 show _=_
 rw [heap_setCell_same _ b 1 _ _ _ h1];rfl
theorem DB.other4 {r:Nat} (h:DB w b m u) (ne:¬b=r) (x0 x1 x2 x3:Value):DB ((((w.setCell ⟨r,0,none⟩ x0).setCell ⟨r,1,none⟩ x1).setCell ⟨r,2,none⟩ x2).setCell ⟨r,3,none⟩ x3) b m u:=by
 show _=_
 rw [heap_setCell_other _ ⟨r,3,none⟩ b _ ne,heap_setCell_other _ ⟨r,2,none⟩ b _ ne,heap_setCell_other _ ⟨r,1,none⟩ b _ ne,heap_setCell_other _ ⟨r,0,none⟩ b _ ne];exact h
theorem DB.ne {r:Nat} {v:V} (h:DB w b m u) (hr:Four w r v):¬b=r:=by
 rintro rfl
 have e:=h.symm.trans hr
 simp at e
end
def Kb (w w':World):Prop:=∀ (i:Nat) (t:TypeId) (v:Value),Bx w i t v→Bx w' i t v
theorem Kb.of_below {w w':World} (h:Below w.heap.size w w'):Kb w w':=fun _ _ _ e=>Bx.below e h
theorem Kb.set {w:World} {g:Nat} {m u:Value} (h:DB w g m u) (x y:Value):Kb w ((w.setCell ⟨g,0,none⟩ x).setCell ⟨g,1,none⟩ y):=by
 intro i t v e
 have ne:¬i=g:=by
  rintro rfl
  have e2:=e.symm.trans h
  simp at e2
 show _=_
 rw [heap_setCell_other _ ⟨g,1,none⟩ i _ ne,heap_setCell_other _ ⟨g,0,none⟩ i _ ne];exact e
theorem Good.kb {k op:Int} {m:Int} (hop:(op,m) ∈ opsL) {c:Value} {w w':World} (h:Good k op c w) (kb:Kb w w'):Good k op c w':=by
 simp only [opsL,List.mem_cons,Prod.mk.injEq,List.mem_nil_iff,or_false] at hop
 rcases hop with ⟨rfl,_⟩ | ⟨rfl,_⟩ | ⟨rfl,_⟩ | ⟨rfl,_⟩ | ⟨rfl,_⟩ | ⟨rfl,_⟩ | ⟨rfl,_⟩ | ⟨rfl,_⟩ | ⟨rfl,_⟩ | ⟨rfl,_⟩ | ⟨rfl,_⟩ | ⟨rfl,_⟩ | ⟨rfl,_⟩ | ⟨rfl,_⟩ | ⟨rfl,_⟩ | ⟨rfl,_⟩ | ⟨rfl,_⟩ | ⟨rfl,_⟩ | ⟨rfl,_⟩
 ·exact h
 ·exact h
 ·exact h
 ·exact h
 ·exact h
 ·obtain ⟨bf,e,h1⟩:=h;exact ⟨bf,e,kb _ _ _ h1⟩
 ·obtain ⟨bf,e,h1⟩:=h;exact ⟨bf,e,kb _ _ _ h1⟩
 ·obtain ⟨bf,e,h1⟩:=h;exact ⟨bf,e,kb _ _ _ h1⟩
 ·obtain ⟨bf,e,h1⟩:=h;exact ⟨bf,e,kb _ _ _ h1⟩
 ·obtain ⟨bf,e,h1⟩:=h;exact ⟨bf,e,kb _ _ _ h1⟩
 ·obtain ⟨bf,e,h1⟩:=h;exact ⟨bf,e,kb _ _ _ h1⟩
 ·obtain ⟨bf,e,h1⟩:=h;exact ⟨bf,e,kb _ _ _ h1⟩
 ·obtain ⟨bf,e,h1⟩:=h;exact ⟨bf,e,kb _ _ _ h1⟩
 ·obtain ⟨bf,bc,e,h1,h2⟩:=h;exact ⟨bf,bc,e,kb _ _ _ h1,kb _ _ _ h2⟩
 ·obtain ⟨bf,bc,e,h1,h2⟩:=h;exact ⟨bf,bc,e,kb _ _ _ h1,kb _ _ _ h2⟩
 ·obtain ⟨bf,bc,e,h1,h2⟩:=h;exact ⟨bf,bc,e,kb _ _ _ h1,kb _ _ _ h2⟩
 ·obtain ⟨bf,bc,e,h1,h2⟩:=h;exact ⟨bf,bc,e,kb _ _ _ h1,kb _ _ _ h2⟩
 ·obtain ⟨bf,bc,bk,e,h1,h2,h3⟩:=h;exact ⟨bf,bc,bk,e,kb _ _ _ h1,kb _ _ _ h2,kb _ _ _ h3⟩
 ·exact h
theorem Good.fn {k op:Int} {m:Int} (hop:(op,m) ∈ opsL) {c:Value} {w:World} (h:Good k op c w):∃ (F:Nat) (cs:Array Value),c=.func (.func F) #[] cs:=by
 simp only [opsL,List.mem_cons,Prod.mk.injEq,List.mem_nil_iff,or_false] at hop
 rcases hop with ⟨rfl,_⟩ | ⟨rfl,_⟩ | ⟨rfl,_⟩ | ⟨rfl,_⟩ | ⟨rfl,_⟩ | ⟨rfl,_⟩ | ⟨rfl,_⟩ | ⟨rfl,_⟩ | ⟨rfl,_⟩ | ⟨rfl,_⟩ | ⟨rfl,_⟩ | ⟨rfl,_⟩ | ⟨rfl,_⟩ | ⟨rfl,_⟩ | ⟨rfl,_⟩ | ⟨rfl,_⟩ | ⟨rfl,_⟩ | ⟨rfl,_⟩ | ⟨rfl,_⟩
 ·exact ⟨_,_,h⟩
 ·exact ⟨_,_,h⟩
 ·exact ⟨_,_,h⟩
 ·exact ⟨_,_,h⟩
 ·exact ⟨_,_,h⟩
 ·obtain ⟨bf,e,_⟩:=h;exact ⟨_,_,e⟩
 ·obtain ⟨bf,e,_⟩:=h;exact ⟨_,_,e⟩
 ·obtain ⟨bf,e,_⟩:=h;exact ⟨_,_,e⟩
 ·obtain ⟨bf,e,_⟩:=h;exact ⟨_,_,e⟩
 ·obtain ⟨bf,e,_⟩:=h;exact ⟨_,_,e⟩
 ·obtain ⟨bf,e,_⟩:=h;exact ⟨_,_,e⟩
 ·obtain ⟨bf,e,_⟩:=h;exact ⟨_,_,e⟩
 ·obtain ⟨bf,e,_⟩:=h;exact ⟨_,_,e⟩
 ·obtain ⟨bf,bc,e,_,_⟩:=h;exact ⟨_,_,e⟩
 ·obtain ⟨bf,bc,e,_,_⟩:=h;exact ⟨_,_,e⟩
 ·obtain ⟨bf,bc,e,_,_⟩:=h;exact ⟨_,_,e⟩
 ·obtain ⟨bf,bc,e,_,_⟩:=h;exact ⟨_,_,e⟩
 ·obtain ⟨bf,bc,bk,e,_,_,_⟩:=h;exact ⟨_,_,e⟩
 ·exact ⟨_,_,h⟩
theorem look_op {k op m:Int} {w:World} {b:Nat} {T:List (Value × Value)} (hop:(op,m) ∈ opsL) (hM:MapAt w b domO T) (hT:OpsT k w T) :
  ∃ c,Good k op c w∧(∀ w',Below w.heap.size w w'→(Instr.lookup 74 (.map (some b)) (.int .u8 op) true).run Tryz.prog w'=.ok (.tuple #[.agg #[.int .i64 m,c],.bool true]) w'):=by
 obtain ⟨x,hx,e⟩:=hT.has op m hop
 obtain ⟨op',m',c,h1,h2,h3⟩:=hT.all x hx
 subst h2
 have e1:op'=op:=by simpa using e
 subst e1
 have hm:m'=m:=by
  have key:∀ p ∈ opsL,∀ q ∈ opsL,p.1=q.1→p=q:=by decide+kernel
  exact congrArg Prod.snd (key _ h1 _ hop rfl)
 subst hm
 exact ⟨c,h3,fun w' hb=>(hM.below hb).look_some kl_O Tryz.underlying74 hT.uniq hx true⟩
theorem look_none {k op:Int} {w:World} {b:Nat} {T:List (Value × Value)} (hno:∀ m,(op,m) ∉ opsL) (h0:0≤op) (h1:op≤255) (hM:MapAt w b domO T) (hT:OpsT k w T) :
  ∀ w',Below w.heap.size w w'→(Instr.lookup 74 (.map (some b)) (.int .u8 op) true).run Tryz.prog w'=.ok (.tuple #[.agg #[.int .i64 0,.nilFunc],.bool false]) w':=by
 intro w' hb
 refine (hM.below hb).look_none kl_O Tryz.underlying74 (by kernel_rfl) (dom_op op h0 h1) (fun y hy e=>?_) true
 obtain ⟨op',m',c,h2,h3,_⟩:=hT.all y hy
 subst h3
 have e1:op'=op:=by simpa using e
 subst e1
 exact hno _ h2
end Go.Proofs.YteagpbkbdlmdiaaGreat.Ev
namespace Go.Proofs.YteagpbkbdlmdiaaGreat.Ev
set_option maxRecDepth 100000
set_option maxHeartbeats 1000000
open Go Go.ChangeMaps Go.RowKit Dt Tx Va
attribute [local go_sem ↓] Go.wp_at_zero Go.wp_at_succ
theorem node_1 {w:World} (c s k x y z p:Int) (nm:List UInt8) {v a b d:V} (g:Nat) (hc:fits c):Calls Tryz.prog 24 #[an ⟨1,c,s,nm,k,x,y,z,p⟩,av v,.slice (some ⟨g,0,none⟩) 3 3] w (VP (toldV (putT c s)) w):=by
 have OPC:∀ w,Calls Tryz.prog 33 #[.agg #[.int .i64 c,.int .i64 s]] w (TP (putT c s) w):=fun w=>tp_of (dPut_any c s _ w hc (by
  unfold putV putT
  cases hs:isB s
  ·rfl
  ·simp only [if_true]
   rw [decV_un c s.toNat (isB_le hs)];exact decT_val _ _))
 obtain ⟨⟨p1,q1,f1⟩,ht⟩:∃ t,Hid (putT c s=t):=⟨_,Lib.hid rfl⟩
 rw [ht.out]
 simp only [ht.out] at OPC
 clear ht hc
 try dsimp only [av,an,ao]
 go_enter Tryz.func24,Tryz.ntmps24
 go_upto_region 1 with fail
 obtain ⟨W0,iN,iU,iR,hW,hN,hU,hR,N0,U0,R0,B0,LN,LU,LR,LI,LS⟩:=mkNVZ w ⟨1,c,s,nm,k,x,y,z,p⟩ v
 rw [hW.out];try rw [hR.out];try rw [hU.out];try rw [hN.out]
 clear hW hN hU hR
 obtain ⟨Nc0,Nc1,Nc2,Nc3,Nc4,Nc5,Nc6,Nc7,Nc8⟩:=N0.out.cs
 go_wp2_with (first | (go_at_call 33;(with_reducible refine (OPC _).mono ?_);rintro e1 w1 ⟨rfl,q1⟩;have B1:=hB B0 q1;have R1:=hF R0 q1;clear OPC;clear q1 B0 R0) | (go_at_call 32;(with_reducible refine (told_vp (w:=_) p1 q1 f1).mono ?_);rintro e2 w2 ⟨rfl,q2⟩;have B2:=hB B1 q2;have R2:=hF R1 q2;clear q2 B1 R1;obtain ⟨Rc0,Rc1,Rc2,Rc3,Rf0,Rf1,Rf2,Rf3⟩:=R2.out.cf))
 exact ret4 6 rfl R2 B2 LR rfl rfl rfl
theorem node_2 {w:World} (c s k x y z p:Int) (nm:List UInt8) {v a b d:V} (g:Nat):Calls Tryz.prog 24 #[an ⟨2,c,s,nm,k,x,y,z,p⟩,av v,.slice (some ⟨g,0,none⟩) 3 3] w (VP (truthV true) w):=by
 try dsimp only [av,an,ao]
 go_enter Tryz.func24,Tryz.ntmps24
 go_upto_region 1 with fail
 obtain ⟨W0,iN,iU,iR,hW,hN,hU,hR,N0,U0,R0,B0,LN,LU,LR,LI,LS⟩:=mkNVZ w ⟨2,c,s,nm,k,x,y,z,p⟩ v
 rw [hW.out];try rw [hR.out];try rw [hU.out];try rw [hN.out]
 clear hW hN hU hR
 have Nc0:=N0.out.c0
 go_wp2_with (go_at_call 34;(with_reducible refine (truth_vp (w:=_) true).mono ?_);rintro e1 w1 ⟨rfl,q1⟩;have B1:=hB B0 q1;have R1:=hF R0 q1;clear q1 B0 R0;obtain ⟨Rc0,Rc1,Rc2,Rc3,Rf0,Rf1,Rf2,Rf3⟩:=R1.out.cf)
 exact ret4 6 rfl R1 B1 LR rfl rfl rfl
theorem node_3 {w:World} (c s k x y z p:Int) (nm:List UInt8) {v a b d:V} (g:Nat):Calls Tryz.prog 24 #[an ⟨3,c,s,nm,k,x,y,z,p⟩,av v,.slice (some ⟨g,0,none⟩) 3 3] w (VP (truthV false) w):=by
 try dsimp only [av,an,ao]
 go_enter Tryz.func24,Tryz.ntmps24
 go_upto_region 1 with fail
 obtain ⟨W0,iN,iU,iR,hW,hN,hU,hR,N0,U0,R0,B0,LN,LU,LR,LI,LS⟩:=mkNVZ w ⟨3,c,s,nm,k,x,y,z,p⟩ v
 rw [hW.out];try rw [hR.out];try rw [hU.out];try rw [hN.out]
 clear hW hN hU hR
 have Nc0:=N0.out.c0
 go_wp2_with (go_at_call 34;(with_reducible refine (truth_vp (w:=_) false).mono ?_);rintro e1 w1 ⟨rfl,q1⟩;have B1:=hB B0 q1;have R1:=hF R0 q1;clear q1 B0 R0;obtain ⟨Rc0,Rc1,Rc2,Rc3,Rf0,Rf1,Rf2,Rf3⟩:=R1.out.cf)
 exact ret4 6 rfl R1 B1 LR rfl rfl rfl
theorem node_4 {w:World} (c s k x y z p:Int) (nm:List UInt8) {v a b d:V} (g:Nat):Calls Tryz.prog 24 #[an ⟨4,c,s,nm,k,x,y,z,p⟩,av v,.slice (some ⟨g,0,none⟩) 3 3] w (VP (v) w):=by
 try dsimp only [av,an,ao]
 go_enter Tryz.func24,Tryz.ntmps24
 go_upto_region 1 with fail
 obtain ⟨W0,iN,iU,iR,hW,hN,hU,hR,N0,U0,R0,B0,LN,LU,LR,LI,LS⟩:=mkNVZ w ⟨4,c,s,nm,k,x,y,z,p⟩ v
 rw [hW.out];try rw [hR.out];try rw [hU.out];try rw [hN.out]
 clear hW hN hU hR
 have Nc0:=N0.out.c0
 obtain ⟨Uc0,Uc1,Uc2,Uc3⟩:=U0.out.cs
 obtain ⟨Rc0,Rc1,Rc2,Rc3,Rf0,Rf1,Rf2,Rf3⟩:=R0.out.cf
 go_wp2_with fail
 exact ret4 6 rfl R0 B0 LR rfl rfl rfl
theorem node_26 {w:World} (c s k x y z p:Int) (nm:List UInt8) {v a b d:V} (g:Nat):Calls Tryz.prog 24 #[an ⟨26,c,s,nm,k,x,y,z,p⟩,av v,.slice (some ⟨g,0,none⟩) 3 3] w (VP (v) w):=by
 try dsimp only [av,an,ao]
 go_enter Tryz.func24,Tryz.ntmps24
 go_upto_region 1 with fail
 obtain ⟨W0,iN,iU,iR,hW,hN,hU,hR,N0,U0,R0,B0,LN,LU,LR,LI,LS⟩:=mkNVZ w ⟨26,c,s,nm,k,x,y,z,p⟩ v
 rw [hW.out];try rw [hR.out];try rw [hU.out];try rw [hN.out]
 clear hW hN hU hR
 have Nc0:=N0.out.c0
 obtain ⟨Uc0,Uc1,Uc2,Uc3⟩:=U0.out.cs
 obtain ⟨Rc0,Rc1,Rc2,Rc3,Rf0,Rf1,Rf2,Rf3⟩:=R0.out.cf
 go_wp2_with fail
 exact ret4 6 rfl R0 B0 LR rfl rfl rfl
theorem node_27 {w:World} (c s k x y z p:Int) (nm:List UInt8) {v a b d:V} (g:Nat):Calls Tryz.prog 24 #[an ⟨27,c,s,nm,k,x,y,z,p⟩,av v,.slice (some ⟨g,0,none⟩) 3 3] w (VP (v) w):=by
 try dsimp only [av,an,ao]
 go_enter Tryz.func24,Tryz.ntmps24
 go_upto_region 1 with fail
 obtain ⟨W0,iN,iU,iR,hW,hN,hU,hR,N0,U0,R0,B0,LN,LU,LR,LI,LS⟩:=mkNVZ w ⟨27,c,s,nm,k,x,y,z,p⟩ v
 rw [hW.out];try rw [hR.out];try rw [hU.out];try rw [hN.out]
 clear hW hN hU hR
 have Nc0:=N0.out.c0
 obtain ⟨Uc0,Uc1,Uc2,Uc3⟩:=U0.out.cs
 obtain ⟨Rc0,Rc1,Rc2,Rc3,Rf0,Rf1,Rf2,Rf3⟩:=R0.out.cf
 go_wp2_with fail
 exact ret4 6 rfl R0 B0 LR rfl rfl rfl
theorem node_28 {w:World} (c s k x y z p:Int) (nm:List UInt8) {v a b d:V} (g:Nat):Calls Tryz.prog 24 #[an ⟨28,c,s,nm,k,x,y,z,p⟩,av v,.slice (some ⟨g,0,none⟩) 3 3] w (VP (v) w):=by
 try dsimp only [av,an,ao]
 go_enter Tryz.func24,Tryz.ntmps24
 go_upto_region 1 with fail
 obtain ⟨W0,iN,iU,iR,hW,hN,hU,hR,N0,U0,R0,B0,LN,LU,LR,LI,LS⟩:=mkNVZ w ⟨28,c,s,nm,k,x,y,z,p⟩ v
 rw [hW.out];try rw [hR.out];try rw [hU.out];try rw [hN.out]
 clear hW hN hU hR
 have Nc0:=N0.out.c0
 obtain ⟨Uc0,Uc1,Uc2,Uc3⟩:=U0.out.cs
 obtain ⟨Rc0,Rc1,Rc2,Rc3,Rf0,Rf1,Rf2,Rf3⟩:=R0.out.cf
 go_wp2_with fail
 exact ret4 6 rfl R0 B0 LR rfl rfl rfl
theorem node_29 {w:World} (c s k x y z p:Int) (nm:List UInt8) {v a b d:V} (g:Nat):Calls Tryz.prog 24 #[an ⟨29,c,s,nm,k,x,y,z,p⟩,av v,.slice (some ⟨g,0,none⟩) 3 3] w (VP (v) w):=by
 try dsimp only [av,an,ao]
 go_enter Tryz.func24,Tryz.ntmps24
 go_upto_region 1 with fail
 obtain ⟨W0,iN,iU,iR,hW,hN,hU,hR,N0,U0,R0,B0,LN,LU,LR,LI,LS⟩:=mkNVZ w ⟨29,c,s,nm,k,x,y,z,p⟩ v
 rw [hW.out];try rw [hR.out];try rw [hU.out];try rw [hN.out]
 clear hW hN hU hR
 have Nc0:=N0.out.c0
 obtain ⟨Uc0,Uc1,Uc2,Uc3⟩:=U0.out.cs
 obtain ⟨Rc0,Rc1,Rc2,Rc3,Rf0,Rf1,Rf2,Rf3⟩:=R0.out.cf
 go_wp2_with fail
 exact ret4 6 rfl R0 B0 LR rfl rfl rfl
theorem node_30 {w:World} (c s k x y z p:Int) (nm:List UInt8) {v a b d:V} (g:Nat):Calls Tryz.prog 24 #[an ⟨30,c,s,nm,k,x,y,z,p⟩,av v,.slice (some ⟨g,0,none⟩) 3 3] w (VP (v) w):=by
 try dsimp only [av,an,ao]
 go_enter Tryz.func24,Tryz.ntmps24
 go_upto_region 1 with fail
 obtain ⟨W0,iN,iU,iR,hW,hN,hU,hR,N0,U0,R0,B0,LN,LU,LR,LI,LS⟩:=mkNVZ w ⟨30,c,s,nm,k,x,y,z,p⟩ v
 rw [hW.out];try rw [hR.out];try rw [hU.out];try rw [hN.out]
 clear hW hN hU hR
 have Nc0:=N0.out.c0
 obtain ⟨Uc0,Uc1,Uc2,Uc3⟩:=U0.out.cs
 obtain ⟨Rc0,Rc1,Rc2,Rc3,Rf0,Rf1,Rf2,Rf3⟩:=R0.out.cf
 go_wp2_with fail
 exact ret4 6 rfl R0 B0 LR rfl rfl rfl
theorem node_24 {w:World} (c s k x y z p:Int) (nm:List UInt8) {v a b d:V} (g:Nat):Calls Tryz.prog 24 #[an ⟨24,c,s,nm,k,x,y,z,p⟩,av v,.slice (some ⟨g,0,none⟩) 3 3] w (VP (if v.k=4 then v else truthV (decide (v.k ≠ 0))) w):=by
 by_cases g4:v.k=4
 ·rw [if_pos g4]
  have g41:decide (v.k=4)=true:=decide_eq_true g4
  have g42:(v.k==4)=true:=by simpa using g4
  have g43:(v.k !=4)=false:=by simpa using g4
  clear g4
  try dsimp only [av,an,ao]
  go_enter Tryz.func24,Tryz.ntmps24
  go_upto_region 1 with fail
  obtain ⟨W0,iN,iU,iR,hW,hN,hU,hR,N0,U0,R0,B0,LN,LU,LR,LI,LS⟩:=mkNVZ w ⟨24,c,s,nm,k,x,y,z,p⟩ v
  rw [hW.out];try rw [hR.out];try rw [hU.out];try rw [hN.out]
  clear hW hN hU hR
  have Nc0:=N0.out.c0
  obtain ⟨Uc0,Uc1,Uc2,Uc3⟩:=U0.out.cs
  obtain ⟨Rc0,Rc1,Rc2,Rc3,Rf0,Rf1,Rf2,Rf3⟩:=R0.out.cf
  go_wp2_with fail
  exact ret4 6 rfl R0 B0 LR rfl rfl rfl
 ·rw [if_neg g4]
  have g41:decide (v.k=4)=false:=decide_eq_false g4
  have g42:(v.k==4)=false:=by simpa using g4
  have g43:(v.k !=4)=true:=by simpa using g4
  clear g4
  by_cases h:v.k=0
  ·have E:decide (v.k ≠ 0)=false:=by simpa using h
   rw [E]
   have h1:decide (v.k=0)=true:=decide_eq_true h
   have h2:(v.k==0)=true:=by simpa using h
   have h3:(v.k !=0)=false:=by simpa using h
   clear h E
   try dsimp only [av,an,ao]
   go_enter Tryz.func24,Tryz.ntmps24
   go_upto_region 1 with fail
   obtain ⟨W0,iN,iU,iR,hW,hN,hU,hR,N0,U0,R0,B0,LN,LU,LR,LI,LS⟩:=mkNVZ w ⟨24,c,s,nm,k,x,y,z,p⟩ v
   rw [hW.out];try rw [hR.out];try rw [hU.out];try rw [hN.out]
   clear hW hN hU hR
   have Nc0:=N0.out.c0
   obtain ⟨Uc0,Uc1,Uc2,Uc3⟩:=U0.out.cs
   go_wp2_with (go_at_call 34;(with_reducible refine (truth_vp (w:=_) false).mono ?_);rintro e1 w1 ⟨rfl,q1⟩;have B1:=hB B0 q1;have R1:=hF R0 q1;clear q1 B0 R0;obtain ⟨Rc0,Rc1,Rc2,Rc3,Rf0,Rf1,Rf2,Rf3⟩:=R1.out.cf)
   exact ret4 6 rfl R1 B1 LR rfl rfl rfl
  ·have E:decide (v.k ≠ 0)=true:=by simpa using h
   rw [E]
   have h1:decide (v.k=0)=false:=decide_eq_false h
   have h2:(v.k==0)=false:=by simpa using h
   have h3:(v.k !=0)=true:=by simpa using h
   clear h E
   try dsimp only [av,an,ao]
   go_enter Tryz.func24,Tryz.ntmps24
   go_upto_region 1 with fail
   obtain ⟨W0,iN,iU,iR,hW,hN,hU,hR,N0,U0,R0,B0,LN,LU,LR,LI,LS⟩:=mkNVZ w ⟨24,c,s,nm,k,x,y,z,p⟩ v
   rw [hW.out];try rw [hR.out];try rw [hU.out];try rw [hN.out]
   clear hW hN hU hR
   have Nc0:=N0.out.c0
   obtain ⟨Uc0,Uc1,Uc2,Uc3⟩:=U0.out.cs
   go_wp2_with (go_at_call 34;(with_reducible refine (truth_vp (w:=_) true).mono ?_);rintro e1 w1 ⟨rfl,q1⟩;have B1:=hB B0 q1;have R1:=hF R0 q1;clear q1 B0 R0;obtain ⟨Rc0,Rc1,Rc2,Rc3,Rf0,Rf1,Rf2,Rf3⟩:=R1.out.cf)
   exact ret4 6 rfl R1 B1 LR rfl rfl rfl
theorem node_25 {w:World} (c s k x y z p:Int) (nm:List UInt8) {v a b d:V} (g:Nat) (hk:K3 w g a b d):Calls Tryz.prog 24 #[an ⟨25,c,s,nm,k,x,y,z,p⟩,av v,.slice (some ⟨g,0,none⟩) 3 3] w (VP (if v.k ≠ 0 then v else a) w):=by
 by_cases h:v.k=0
 ·rw [if_neg (by simpa using h)]
  have h1:decide (v.k=0)=true:=decide_eq_true h
  have h2:(v.k==0)=true:=by simpa using h
  have h3:(v.k !=0)=false:=by simpa using h
  clear h
  try dsimp only [av,an,ao]
  go_enter Tryz.func24,Tryz.ntmps24
  go_upto_region 1 with fail
  obtain ⟨W0,iN,iU,iR,hW,hN,hU,hR,N0,U0,R0,B0,LN,LU,LR,LI,LS⟩:=mkNVZ w ⟨25,c,s,nm,k,x,y,z,p⟩ v
  rw [hW.out];try rw [hR.out];try rw [hU.out];try rw [hN.out]
  clear hW hN hU hR
  have Nc0:=N0.out.c0
  obtain ⟨Uc0,Uc1,Uc2,Uc3⟩:=U0.out.cs
  obtain ⟨Rc0,Rc1,Rc2,Rc3,Rf0,Rf1,Rf2,Rf3⟩:=R0.out.cf
  have K0:=Lib.hid (hk.below B0.out)
  clear hk
  have kc0:=K0.out.c0;have kc1:=K0.out.c1;have kc2:=K0.out.c2;have kc3:=K0.out.c3
  go_wp2_with fail
  exact ret4 6 rfl R0 B0 LR rfl rfl rfl
 ·rw [if_pos (by simpa using h)]
  have h1:decide (v.k=0)=false:=decide_eq_false h
  have h2:(v.k==0)=false:=by simpa using h
  have h3:(v.k !=0)=true:=by simpa using h
  clear h
  try dsimp only [av,an,ao]
  go_enter Tryz.func24,Tryz.ntmps24
  go_upto_region 1 with fail
  obtain ⟨W0,iN,iU,iR,hW,hN,hU,hR,N0,U0,R0,B0,LN,LU,LR,LI,LS⟩:=mkNVZ w ⟨25,c,s,nm,k,x,y,z,p⟩ v
  rw [hW.out];try rw [hR.out];try rw [hU.out];try rw [hN.out]
  clear hW hN hU hR
  have Nc0:=N0.out.c0
  obtain ⟨Uc0,Uc1,Uc2,Uc3⟩:=U0.out.cs
  obtain ⟨Rc0,Rc1,Rc2,Rc3,Rf0,Rf1,Rf2,Rf3⟩:=R0.out.cf
  have K0:=Lib.hid (hk.below B0.out)
  clear hk
  have kc0:=K0.out.c0;have kc1:=K0.out.c1;have kc2:=K0.out.c2;have kc3:=K0.out.c3
  go_wp2_with fail
  exact ret4 6 rfl R0 B0 LR rfl rfl rfl
end Go.Proofs.YteagpbkbdlmdiaaGreat.Ev
