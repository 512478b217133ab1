/-
  dectext: Text, walked; value.May, value.Text, value.Truth, value.Num, value.Bad, walked; value.Text, value.Truth, value.Num, value.Bad, walked; A tree's value on one day, plain: operands, a node's value, node by node.
-/
import Derived.Test.YteagpbkbdlmdiaaGreatM22
import Derived.Test.YteagpbkbdlmdiaaGreatM20
import Derived.Laws.StructEq
import Derived.Deep.RegionHeld3
/- dectext: Text, walked. -/
namespace Go.Proofs.YteagpbkbdlmdiaaGreat.Tx
open Go Go.RowKit Dt
set_option linter.unusedSimpArgs false
set_option linter.unusedVariables false
attribute [local go_sem ↓] Go.wp_at_zero Go.wp_at_succ
theorem BAt.drew {w:World} {g:Nat} {l:List UInt8} (h:BAt w g l):BAt w.drew g l:=h
end Go.Proofs.YteagpbkbdlmdiaaGreat.Tx
/- value.May, value.Text, value.Truth, value.Num, value.Bad, walked. -/
namespace Go.Proofs.YteagpbkbdlmdiaaGreat.Va
open Go Go.RowKit Dt Tx
set_option linter.unusedSimpArgs false
set_option linter.unusedVariables false
attribute [local go_sem ↓] Go.wp_at_zero Go.wp_at_succ
def Four (w:World) (b:Nat) (v:V):Prop:=w.heap[b]?=some (.cells #[.int .u8 v.k,.int .i64 v.c,.int .i64 v.s,.int .i64 v.e] 33 (0,0))
section
variable {w:World} {b:Nat} {v:V}
theorem Four.lt (h:Four w b v):b<w.heap.size:=(Array.getElem?_eq_some_iff.1 h).1
theorem Four.c0 (h:Four w b v):w.cell? ⟨b,0,none⟩=some (.int .u8 v.k):=by rw [cell_of_row w _ _ _ _ (0,0) h];rfl
theorem Four.c1 (h:Four w b v):w.cell? ⟨b,1,none⟩=some (.int .i64 v.c):=by rw [cell_of_row w _ _ _ _ (0,0) h];rfl
theorem Four.c2 (h:Four w b v):w.cell? ⟨b,2,none⟩=some (.int .i64 v.s):=by rw [cell_of_row w _ _ _ _ (0,0) h];rfl
theorem Four.c3 (h:Four w b v):w.cell? ⟨b,3,none⟩=some (.int .i64 v.e):=by rw [cell_of_row w _ _ _ _ (0,0) h];rfl
theorem Four.f (h:Four w b v) (i:Nat):w.frozen? ⟨b,i,none⟩=false:=frozen_of_row w _ _ _ _ h
theorem Four.below {w':World} (h:Four w b v) (k:Below w.heap.size w w'):Four w' b v:=(k.block b h.lt).trans h
theorem Four.new (w:World) (v:V):Four (w.alloc (.cells #[.int .u8 v.k,.int .i64 v.c,.int .i64 v.s,.int .i64 v.e] 33)) w.heap.size v:=by
 show (w.heap.push _)[w.heap.size]?=_
 rw [Array.getElem?_push_size]
theorem Four.set (h:Four w b v) (k c s e:Int):Four ((((w.setCell ⟨b,0,none⟩ (.int .u8 k)).setCell ⟨b,1,none⟩ (.int .i64 c)).setCell ⟨b,2,none⟩ (.int .i64 s)).setCell ⟨b,3,none⟩ (.int .i64 e)) b ⟨k,c,s,e⟩:=by
 have h1:(w.setCell ⟨b,0,none⟩ (.int .u8 k)).heap[b]?=some (.cells #[.int .u8 k,.int .i64 v.c,.int .i64 v.s,.int .i64 v.e] 33 (0,0)):=by rw [heap_setCell_same w b 0 _ _ _ h];rfl
 have h2:((w.setCell ⟨b,0,none⟩ (.int .u8 k)).setCell ⟨b,1,none⟩ (.int .i64 c)).heap[b]?=some (.cells #[.int .u8 k,.int .i64 c,.int .i64 v.s,.int .i64 v.e] 33 (0,0)):=by rw [heap_setCell_same _ b 1 _ _ _ h1];rfl
 have h3:(((w.setCell ⟨b,0,none⟩ (.int .u8 k)).setCell ⟨b,1,none⟩ (.int .i64 c)).setCell ⟨b,2,none⟩ (.int .i64 s)).heap[b]?=some (.cells #[.int .u8 k,.int .i64 c,.int .i64 s,.int .i64 v.e] 33 (0,0)):=by rw [heap_setCell_same _ b 2 _ _ _ h2];rfl
 show _=_
 rw [heap_setCell_same _ b 3 _ _ _ h3];rfl
theorem below_set4 {B g:Nat} {a w:World} (h:Below B a w) (hg:B≤g) (x0 x1 x2 x3:Value):Below B a ((((w.setCell ⟨g,0,none⟩ x0).setCell ⟨g,1,none⟩ x1).setCell ⟨g,2,none⟩ x2).setCell ⟨g,3,none⟩ x3):=
 Below.setCell (Below.setCell (Below.setCell (Below.setCell h (p:=⟨g,0,none⟩) hg _) (p:=⟨g,1,none⟩) hg _) (p:=⟨g,2,none⟩) hg _) (p:=⟨g,3,none⟩) hg _
end
def LookPost (v:V) (w:World) (e:Ending) (w':World):Prop:=∃ b,e=.returned (.map (some b))∧Below w.heap.size w w'∧
 (Instr.lookup 65 (.map (some b)) (.agg #[.int .u8 v.k,.int .i64 v.c,.int .i64 v.s,.int .i64 v.e]) true).run Tryz.prog w'=.ok (.tuple #[.string (bs ((lookV v six).getD [])),.bool (lookV v six).isSome]) w'∧
 (Instr.lookup 65 (.map (some b)) (.agg #[.int .u8 v.k,.int .i64 v.c,.int .i64 v.s,.int .i64 v.e]) false).run Tryz.prog w'=.ok (.string (bs ((lookV v six).getD []))) w'
theorem six_uniq:∀ y ∈ sixT,∀ z ∈ sixT,y.1=z.1→y=z:=by
 rw [six_ent]
 intro y hy z hz h
 obtain ⟨i,hi,rfl⟩:=List.mem_map.1 hy
 obtain ⟨j,hj,rfl⟩:=List.mem_map.1 hz
 rw [key_inj (List.mem_range.1 hi) (List.mem_range.1 hj) (vv_inj h)]
theorem look_none {v:V} {l:List UInt8} (h:lookV v six=none):(v,l) ∉ six:=fun k=>by rw [(six_look k).1] at h;cases h
theorem look_is {w:World} (v:V) (hv:v.ok):Calls Tryz.prog 31 #[] w (LookPost v w):=by
 refine words_is.mono ?_
 rintro e w' ⟨b,rfl,_,hm,hb⟩
 have hz:(zeroValue 9).run Tryz.prog w'=.ok (.string ⟨#[]⟩) w':=by kernel_rfl
 have ht:=Tryz.underlying65
 refine ⟨b,rfl,hb,?_⟩
 cases hl:lookV v six with
 | some l=>
  have m:(vv v,Value.string (bs l)) ∈ sixT:=List.mem_map.2 ⟨(v,l),lookV_six hl,rfl⟩
  exact ⟨hm.look_some kl_V ht six_uniq m true,hm.look_some kl_V ht six_uniq m false⟩
 | none=>
  have hn:∀ y ∈ sixT,y.1 ≠ vv v:=fun y hy e=>by
   obtain ⟨⟨u,l⟩,hx,rfl⟩:=List.mem_map.1 hy
   have:=vv_inj e
   simp only at this
   subst this
   exact look_none hl hx
  exact ⟨hm.look_none kl_V ht hz (dom_V v hv) hn true,hm.look_none kl_V ht hz (dom_V v hv) hn false⟩
set_option maxRecDepth 100000 in
theorem may_is {w:World} (v:V) (hv:v.ok):Calls Tryz.prog 22 #[.agg #[.int .u8 v.k,.int .i64 v.c,.int .i64 v.s,.int .i64 v.e]] w fun e w'=>e=.returned (.bool (mayV v))∧Below w.heap.size w w':=by
 have A:=fun w=>look_is (w:=w) v hv
 have D:=fun w=>dMay_any v.c v.s w hv.2.1
 have X:=Lib.hid (Four.new w v)
 have B:=Lib.hid (ba w (.cells #[.int .u8 v.k,.int .i64 v.c,.int .i64 v.s,.int .i64 v.e] 33))
 cases hn:isNum v
 ·have R:mayV v=(lookV v six).isSome:=by unfold mayV;rw [hn];rfl
  obtain ⟨ok,hok⟩:∃ b,Hid ((lookV v six).isSome=b):=⟨_,rfl⟩
  obtain ⟨S,hS⟩:∃ s,Hid (bs ((lookV v six).getD [])=s):=⟨_,rfl⟩
  unfold LookPost at A
  rw [hok.out,hS.out] at A
  rw [R,hok.out]
  have key:¬v.k=1∨v.k=1∧¬v.e=0:=by
   unfold isNum at hn
   have:=of_decide_eq_false hn
   by_cases h:v.k=1
   ·exact .inr ⟨h,fun e=>this ⟨h,e⟩⟩
   ·exact .inl h
  obtain ⟨k,c,s,e⟩:=v
  simp only at A D X B key⊢
  clear hn R hv D hok hS
  rcases key with key | ⟨rfl,key⟩
  ·go_enter Tryz.func22,Tryz.ntmps22
   go_upto_region 1 with fail
   obtain ⟨wa,hwa⟩:∃ v,Hid (v=w.alloc (.cells #[.int .u8 k,.int .i64 c,.int .i64 s,.int .i64 e] 33)):=⟨_,rfl⟩
   obtain ⟨ia,hia⟩:∃ v,Hid (w.heap.size=v):=⟨_,rfl⟩
   rw [←hwa.out] at X B⊢
   rw [hia.out] at X⊢
   have c0:=X.out.c0;have c1:=X.out.c1;have c2:=X.out.c2;have c3:=X.out.c3
   simp only at c0 c1 c2 c3
   clear hwa
   go_upto_region 3 with fail
   have X':=X.out.below (w':=wa.drew) ⟨rfl,rfl,rfl,Nat.le_refl _,fun _ _=>rfl⟩
   have HS0:(fun w':World=>w'.cell? ⟨ia,0,none⟩=some (.int .u8 k)∧w'.cell? ⟨ia,1,none⟩=some (.int .i64 c)∧w'.cell? ⟨ia,2,none⟩=some (.int .i64 s)∧w'.cell? ⟨ia,3,none⟩=some (.int .i64 e)) wa.drew:=⟨c0,c1,c2,c3⟩
   have A':=A wa.drew
   clear A
   go_region_held3 (fun w':World=>w'.cell? ⟨ia,0,none⟩=some (.int .u8 k)∧w'.cell? ⟨ia,1,none⟩=some (.int .i64 c)∧w'.cell? ⟨ia,2,none⟩=some (.int .i64 s)∧w'.cell? ⟨ia,3,none⟩=some (.int .i64 e))
    (first | with_reducible exact HS0 | with_reducible assumption)
    (first
     | (go_at_call 31;(with_reducible refine A'.mono ?_);rintro e7 w7 ⟨b7,rfl,q7,l7,_⟩;have X7:=X'.below q7;have HS7:w7.cell? ⟨ia,0,none⟩=some (.int .u8 k)∧w7.cell? ⟨ia,1,none⟩=some (.int .i64 c)∧w7.cell? ⟨ia,2,none⟩=some (.int .i64 s)∧w7.cell? ⟨ia,3,none⟩=some (.int .i64 e):=⟨X7.c0,X7.c1,X7.c2,X7.c3⟩;have B7:=Lib.hid (bt (B.out.drew) q7);clear q7 A' X7))
   clear HS0 c0 c1 c2 c3
   go_wp2_with fail
   go_ret
   exact ⟨rfl,B7.out⟩
  ·go_enter Tryz.func22,Tryz.ntmps22
   go_upto_region 1 with fail
   obtain ⟨wa,hwa⟩:∃ v,Hid (v=w.alloc (.cells #[.int .u8 1,.int .i64 c,.int .i64 s,.int .i64 e] 33)):=⟨_,rfl⟩
   obtain ⟨ia,hia⟩:∃ v,Hid (w.heap.size=v):=⟨_,rfl⟩
   rw [←hwa.out] at X B⊢
   rw [hia.out] at X⊢
   have c0:=X.out.c0;have c1:=X.out.c1;have c2:=X.out.c2;have c3:=X.out.c3
   simp only at c0 c1 c2 c3
   clear hwa
   go_upto_region 3 with fail
   have X':=X.out.below (w':=wa.drew) ⟨rfl,rfl,rfl,Nat.le_refl _,fun _ _=>rfl⟩
   have HS0:(fun w':World=>w'.cell? ⟨ia,0,none⟩=some (.int .u8 1)∧w'.cell? ⟨ia,1,none⟩=some (.int .i64 c)∧w'.cell? ⟨ia,2,none⟩=some (.int .i64 s)∧w'.cell? ⟨ia,3,none⟩=some (.int .i64 e)) wa.drew:=⟨c0,c1,c2,c3⟩
   have A':=A wa.drew
   clear A
   go_region_held3 (fun w':World=>w'.cell? ⟨ia,0,none⟩=some (.int .u8 1)∧w'.cell? ⟨ia,1,none⟩=some (.int .i64 c)∧w'.cell? ⟨ia,2,none⟩=some (.int .i64 s)∧w'.cell? ⟨ia,3,none⟩=some (.int .i64 e))
    (first | with_reducible exact HS0 | with_reducible assumption)
    (first
     | (go_at_call 31;(with_reducible refine A'.mono ?_);rintro e7 w7 ⟨b7,rfl,q7,l7,_⟩;have X7:=X'.below q7;have HS7:w7.cell? ⟨ia,0,none⟩=some (.int .u8 1)∧w7.cell? ⟨ia,1,none⟩=some (.int .i64 c)∧w7.cell? ⟨ia,2,none⟩=some (.int .i64 s)∧w7.cell? ⟨ia,3,none⟩=some (.int .i64 e):=⟨X7.c0,X7.c1,X7.c2,X7.c3⟩;have B7:=Lib.hid (bt (B.out.drew) q7);clear q7 A' X7))
   clear HS0 c0 c1 c2 c3
   go_wp2_with fail
   go_ret
   exact ⟨rfl,B7.out⟩
 ·have R:mayV v=mayB v.c v.s:=by unfold mayV;rw [hn];rfl
  rw [R]
  have e1:=num_eq hn
  obtain ⟨k,c,s,e⟩:=v
  simp only at A D X B e1⊢
  cases e1
  obtain ⟨ok,hok⟩:∃ b,Hid (mayB c s=b):=⟨_,rfl⟩
  rw [hok.out] at D⊢
  clear hn R hv A hok
  go_enter Tryz.func22,Tryz.ntmps22
  go_upto_region 1 with fail
  obtain ⟨wa,hwa⟩:∃ v,Hid (v=w.alloc (.cells #[.int .u8 1,.int .i64 c,.int .i64 s,.int .i64 0] 33)):=⟨_,rfl⟩
  obtain ⟨ia,hia⟩:∃ v,Hid (w.heap.size=v):=⟨_,rfl⟩
  rw [←hwa.out] at X B⊢
  rw [hia.out] at X⊢
  have c0:=X.out.c0;have c1:=X.out.c1;have c2:=X.out.c2;have c3:=X.out.c3
  simp only at c0 c1 c2 c3
  clear hwa
  go_wp2_with (go_at_call 30;(with_reducible refine (D _).mono ?_);rintro e7 w7 ⟨rfl,q7⟩;have B7:=Lib.hid (bt B.out q7);clear q7 D)
  go_ret
  exact ⟨rfl,B7.out⟩
end Go.Proofs.YteagpbkbdlmdiaaGreat.Va
/- value.Text, value.Truth, value.Num, value.Bad, walked. -/
namespace Go.Proofs.YteagpbkbdlmdiaaGreat.Va
open Go Go.RowKit Dt Tx
set_option linter.unusedSimpArgs false
set_option linter.unusedVariables false
attribute [local go_sem ↓] Go.wp_at_zero Go.wp_at_succ
def truthV (b:Bool):V:=if b=true then ⟨2,0,0,0⟩ else ⟨3,0,0,0⟩
theorem truth_is {w:World} (b:Bool):Calls Tryz.prog 34 #[.bool b] w fun e w'=>e=.returned (.agg #[.int .u8 (if b=true then 2 else 3),.int .i64 0,.int .i64 0,.int .i64 0])∧Below w.heap.size w w':=by
 have X:=Lib.hid (Four.new w ⟨0,0,0,0⟩)
 have B:=Lib.hid (ba w (.cells #[.int .u8 0,.int .i64 0,.int .i64 0,.int .i64 0] 33))
 cases b
 all_goals
  go_enter Tryz.func34,Tryz.ntmps34
  go_upto_region 1 with fail
  obtain ⟨wa,hwa⟩:∃ v,Hid (v=w.alloc (.cells #[.int .u8 0,.int .i64 0,.int .i64 0,.int .i64 0] 33)):=⟨_,rfl⟩
  obtain ⟨ia,hia⟩:∃ v,Hid (w.heap.size=v):=⟨_,rfl⟩
  rw [←hwa.out] at X B⊢
  rw [hia.out] at X⊢
  have c0:=X.out.c0;have c1:=X.out.c1;have c2:=X.out.c2;have c3:=X.out.c3
  have f0:=X.out.f 0;have f1:=X.out.f 1;have f2:=X.out.f 2;have f3:=X.out.f 3
  clear hwa
  go_wp2_with fail
  refine bodyPost_ret (v:=.agg #[.int .u8 _,.int .i64 _,.int .i64 _,.int .i64 _]) (results_cell_row (fn:=Tryz.f34) (p:=2) rfl _ _ ia _ _ (0,0) _ rfl (X.out.set _ _ _ _) Tryz.underlying33 rfl (by kernel_rfl)) rfl ?_
  exact ⟨rfl,below_set4 B.out (Nat.le_of_eq hia.out) _ _ _ _⟩
end Go.Proofs.YteagpbkbdlmdiaaGreat.Va
/- A tree's value on one day, plain: operands, a node's value, node by node. -/
namespace Go.Proofs.YteagpbkbdlmdiaaGreat.Ev
open Go Dt Tx Va
structure Nd where
 op:Int
 c:Int
 s:Int
 n:List UInt8
 k:Int
 x:Int
 y:Int
 z:Int
 p:Int
deriving DecidableEq
structure Opd where
 op:Int
 n:List UInt8
 k:Int
deriving DecidableEq
def Nd.ok (n:Nd):Prop:=(0≤n.op∧n.op≤255)∧fits n.c∧fits n.s∧fits n.k∧fits n.x∧fits n.y∧fits n.z∧fits n.p
def oneF (op:Int):Bool:=decide (op=4∨op=24∨op=25)
def winF (op:Int):Bool:=decide (op=26∨op=27∨op=28∨op=29∨op=30)
def opdOf (n:Nd):Option Opd:=if oneF n.op=true then some ⟨4,n.n,0⟩ else if winF n.op=true then some ⟨n.op,n.n,n.k⟩ else none
def addO (l:List Opd) (n:Nd):List Opd:=match opdOf n with
 | none=>l
 | some o=>if o ∈ l then l else l++[o]
def opdsF (l:List Opd) (t:List Nd):List Opd:=t.foldl addO l
def opds (t:List Nd):List Opd:=opdsF [] t
def badE (e:Int):V:=⟨4,0,0,e⟩
def wrongV (v:V):V:=if v.k=4 then v else badE 13
def isT (v:V):Bool:=decide (v.k=2∨v.k=3)
def tupV (t:Int × Int × Int):Value:=.tuple #[.agg #[.int .i64 t.1,.int .i64 t.2.1],.int .i64 t.2.2]
def decT (u:Int) (s:Nat):Int × Int × Int:=if fits (trim u s).1 then ((trim u s).1,((trim u s).2:Int),0) else (0,0,11)
theorem decT_val (u:Int) (s:Nat):decV u s=tupV (decT u s):=by unfold decV decT tupV;split<;>rfl
def toldV (t:Int × Int × Int):V:=if t.2.2=0 then ⟨1,t.1,t.2.1,0⟩ else if t.2.2=11 then badE 11 else if t.2.2=12 then badE 12 else badE 13
def unV (v:V):Int:=un v.c v.s.toNat
def putT (c s:Int):Int × Int × Int:=if isB s=true then decT c s.toNat else (0,0,2)
def divT (a b:V):Int × Int × Int:=if b.c=0 then (0,0,12) else decT (evenZ ((if b.c<0 then -(unV a) else unV a)*((10 ^ 9:Nat):Int)) (unV b).natAbs) 9
def roundT (v:V) (k:Int):Int × Int × Int:=if isB k=true then decT (evenZ (unV v) (10 ^ (9 - k.toNat))) k.toNat else (0,0,2)
def pairN (op:Int) (a b:V):V:=
 if op=10 then truthV (decide (cmpZ (unV a) (unV b)<0))
 else if op=11 then truthV (decide (cmpZ (unV a) (unV b)≤0))
 else if op=12 then truthV (decide (cmpZ (unV a) (unV b)>0))
 else if op=13 then truthV (decide (cmpZ (unV a) (unV b) ≥ 0))
 else if op=14 then toldV (decT (unV a+unV b) 9)
 else if op=15 then toldV (decT (unV a - unV b) 9)
 else if op=16 then toldV (decT (evenZ (unV a*unV b) (10 ^ 9)) 9)
 else if op=17 then toldV (divT a b)
 else if op=20 then (if cmpZ (unV a) (unV b)<0 then a else b)
 else (if cmpZ (unV a) (unV b)>0 then a else b)
def pairV (op:Int) (a b:V):V:=if a.k ≠ 1 then wrongV a else if b.k ≠ 1 then wrongV b else pairN op a b
def singleN (op k:Int) (a:V):V:=
 if op=18 then toldV (decT (0 - unV a) 9)
 else if op=22 then (if 0≤a.c then a else toldV (decT (0 - unV a) 9))
 else toldV (roundT a k)
def singleV (op k:Int) (a:V):V:=if a.k ≠ 1 then wrongV a else singleN op k a
def sameV (op:Int) (a b:V):V:=
 if a.k=0∨a.k=4 then wrongV a
 else if b.k=0∨b.k=4 then wrongV b
 else if decide (a.k=1) ≠ decide (b.k=1) then badE 13
 else truthV ((if a.k=1 then decide (cmpZ (unV a) (unV b)=0) else decide (a.k=b.k))==decide (op=8))
def logicV (op:Int) (a b c:V):V:=
 if isT a=false then wrongV a
 else if op=7 then truthV (decide (a.k=3))
 else if op=19 then (if a.k=2 then b else c)
 else if decide (a.k=2)=decide (op=5) then a
 else if isT b=false then wrongV b
 else b
def nodeV (n:Nd) (v a b c:V):V:=
 if n.op=1 then toldV (putT n.c n.s)
 else if n.op=2 then truthV true
 else if n.op=3 then truthV false
 else if n.op=4∨winF n.op=true then v
 else if n.op=24 then (if v.k=4 then v else truthV (decide (v.k ≠ 0)))
 else if n.op=25 then (if v.k ≠ 0 then v else a)
 else if n.op=5∨n.op=6∨n.op=7∨n.op=19 then logicV n.op a b c
 else if n.op=8∨n.op=9 then sameV n.op a b
 else if n.op=18∨n.op=22∨n.op=23 then singleV n.op n.k a
 else if n.op=10∨n.op=11∨n.op=12∨n.op=13∨n.op=14∨n.op=15∨n.op=16∨n.op=17∨n.op=20∨n.op=21 then pairV n.op a b
 else badE 13
def noV:V:=⟨0,0,0,0⟩
def ownV (l:List Opd) (vals:List V) (n:Nd):V:=match opdOf n with
 | none=>noV
 | some o=>let v:=(vals[l.idxOf o]?).getD noV;if mayV v=true then v else badE 13
def kidV (all:List V) (k:Int):V:=if 0≤k then (all[k.toNat]?).getD noV else noV
def stepV (l:List Opd) (vals:List V) (all:List V) (n:Nd):List V:=all++[nodeV n (ownV l vals n) (kidV all n.x) (kidV all n.y) (kidV all n.z)]
def allV (l:List Opd) (vals:List V) (t:List Nd):List V:=t.foldl (stepV l vals) []
def valueV (t:List Nd) (vals:List V):V:=((allV (opds t) vals t).getLast?).getD noV
theorem may_noV:mayV noV=true:=by decide
theorem decT_cases (u:Int) (s:Nat) (hs:s≤9):(∃ (c:Int) (n:Nat),decT u s=(c,(n:Int),0)∧n≤9∧fits c∧(n=0∨c % 10 ≠ 0))∨decT u s=(0,0,11):=by
 unfold decT;split
 ·rename_i h
  exact .inl ⟨_,_,rfl,Nat.le_trans (trim_le u s) hs,h,trim_canon u s⟩
 ·exact .inr rfl
theorem may_num {c:Int} {n:Nat} (hn:n≤9) (hc:n=0∨c % 10 ≠ 0):mayV ⟨1,c,(n:Int),0⟩=true:=by
 unfold mayV isNum mayB isB
 simp only [and_self,decide_true,if_true]
 have h1:decide ((0:Int)≤(n:Int)∧(n:Int)≤9)=true:=decide_eq_true (by omega)
 rw [h1,Bool.true_and]
 rcases hc with h | h
 ·have:decide ((n:Int)=0)=true:=decide_eq_true (by omega)
  rw [this];rfl
 ·have:decide (c % 10=0)=false:=decide_eq_false h
  rw [this];simp
theorem may_told (u:Int) (s:Nat) (hs:s≤9):mayV (toldV (decT u s))=true∧fits (toldV (decT u s)).c:=by
 rcases decT_cases u s hs with ⟨c,n,e,h1,h2,h3⟩ | e
 ·rw [e];exact ⟨may_num h1 h3,h2⟩
 ·rw [e];exact ⟨by decide,by decide⟩
theorem may_toldE (c s:Int) {e:Int} (he:e ≠ 0):mayV (toldV (c,s,e))=true∧fits (toldV (c,s,e)).c:=by
 unfold toldV
 simp only [he,if_false]
 split
 ·decide
 ·split<;>decide
structure V.fine (v:V):Prop where
 may:mayV v=true
 fit:fits v.c
theorem fine_no:V.fine noV:=⟨by decide,by decide⟩
theorem fine_truth (b:Bool):V.fine (truthV b):=by cases b<;>exact ⟨by decide,by decide⟩
theorem fine_bad13:V.fine (badE 13):=⟨by decide,by decide⟩
theorem fine_wrong {v:V} (h:V.fine v):V.fine (wrongV v):=by unfold wrongV;split;exact h;exact fine_bad13
theorem fine_told (u:Int) (s:Nat) (hs:s≤9):V.fine (toldV (decT u s)):=⟨(may_told u s hs).1,(may_told u s hs).2⟩
theorem fine_toldE (c s:Int) {e:Int} (he:e ≠ 0):V.fine (toldV (c,s,e)):=⟨(may_toldE c s he).1,(may_toldE c s he).2⟩
theorem isB_le {s:Int} (h:isB s=true):s.toNat≤9:=by obtain ⟨n,rfl,hn⟩:=isB_nat h;simpa using hn
theorem fine_put (c s:Int):V.fine (toldV (putT c s)):=by
 unfold putT;split
 ·rename_i h;exact fine_told _ _ (isB_le h)
 ·exact fine_toldE _ _ (by decide)
theorem fine_round (v:V) (k:Int):V.fine (toldV (roundT v k)):=by
 unfold roundT;split
 ·rename_i h;exact fine_told _ _ (isB_le h)
 ·exact fine_toldE _ _ (by decide)
theorem fine_div (a b:V):V.fine (toldV (divT a b)):=by
 unfold divT;split
 ·exact fine_toldE _ _ (by decide)
 ·exact fine_told _ _ (by decide)
theorem fine_pairN (op:Int) {a b:V} (ha:V.fine a) (hb:V.fine b):V.fine (pairN op a b):=by
 unfold pairN
 repeat' split
 all_goals first
  | exact fine_truth _
  | exact fine_told _ _ (by decide)
  | exact fine_div _ _
  | assumption
theorem fine_pair (op:Int) {a b:V} (ha:V.fine a) (hb:V.fine b):V.fine (pairV op a b):=by
 unfold pairV
 repeat' split
 ·exact fine_wrong ha
 ·exact fine_wrong hb
 ·exact fine_pairN op ha hb
theorem fine_single (op k:Int) {a:V} (ha:V.fine a):V.fine (singleV op k a):=by
 unfold singleV singleN
 repeat' split
 all_goals first
  | exact fine_wrong ha
  | exact fine_told _ _ (by decide)
  | exact fine_round _ _
  | exact ha
theorem fine_same (op:Int) {a b:V} (ha:V.fine a) (hb:V.fine b):V.fine (sameV op a b):=by
 unfold sameV
 split
 ·exact fine_wrong ha
 ·split
  ·exact fine_wrong hb
  ·split
   ·exact fine_bad13
   ·exact fine_truth _
theorem fine_logic (op:Int) {a b c:V} (ha:V.fine a) (hb:V.fine b) (hc:V.fine c):V.fine (logicV op a b c):=by
 unfold logicV
 repeat' split
 all_goals first
  | exact fine_wrong ha
  | exact fine_wrong hb
  | exact fine_truth _
  | assumption
theorem fine_node (n:Nd) {v a b c:V} (hv:V.fine v) (ha:V.fine a) (hb:V.fine b) (hc:V.fine c):V.fine (nodeV n v a b c):=by
 unfold nodeV
 split
 ·exact fine_put _ _
 split
 ·exact fine_truth _
 split
 ·exact fine_truth _
 split
 ·exact hv
 split
 ·split
  ·exact hv
  ·exact fine_truth _
 split
 ·split
  ·exact hv
  ·exact ha
 split
 ·exact fine_logic _ ha hb hc
 split
 ·exact fine_same _ ha hb
 split
 ·exact fine_single _ _ ha
 split
 ·exact fine_pair _ ha hb
 ·exact fine_bad13
theorem may_kinds {v:V} (h:mayV v=true):v=noV∨v=truthV true∨v=truthV false∨v=badE 11∨v=badE 12∨v=badE 13∨(v=⟨1,v.c,v.s,0⟩∧mayB v.c v.s=true):=by
 unfold mayV at h
 cases hn:isNum v
 ·rw [hn] at h
  simp only [Bool.false_eq_true,if_false] at h
  cases hl:lookV v six with
  | none=>rw [hl] at h;cases h
  | some l=>
   have hm:=lookV_six hl
   simp only [six,List.mem_cons,Prod.mk.injEq,List.mem_nil_iff,or_false] at hm
   rcases hm with ⟨rfl,_⟩ | ⟨rfl,_⟩ | ⟨rfl,_⟩ | ⟨rfl,_⟩ | ⟨rfl,_⟩ | ⟨rfl,_⟩
   ·exact .inl rfl
   ·exact .inr (.inl rfl)
   ·exact .inr (.inr (.inl rfl))
   ·exact .inr (.inr (.inr (.inl rfl)))
   ·exact .inr (.inr (.inr (.inr (.inl rfl))))
   ·exact .inr (.inr (.inr (.inr (.inr (.inl rfl)))))
 ·rw [hn] at h
  simp only [if_true] at h
  exact .inr (.inr (.inr (.inr (.inr (.inr ⟨num_eq hn,h⟩)))))
theorem V.fine.ok {v:V} (h:V.fine v):v.ok:=by
 rcases may_kinds h.may with rfl | rfl | rfl | rfl | rfl | rfl | ⟨e,hb⟩
 ·exact ⟨by decide,by decide,by decide,by decide⟩
 ·exact ⟨by decide,by decide,by decide,by decide⟩
 ·exact ⟨by decide,by decide,by decide,by decide⟩
 ·exact ⟨by decide,by decide,by decide,by decide⟩
 ·exact ⟨by decide,by decide,by decide,by decide⟩
 ·exact ⟨by decide,by decide,by decide,by decide⟩
 ·have hk:v.k=1:=congrArg V.k e
  have he:v.e=0:=congrArg V.e e
  obtain ⟨n,hn,hn9⟩:=isB_nat (may_canon hb).1
  exact ⟨by rw [hk];decide,h.fit,by rw [hn];unfold fits;omega,by rw [he];decide⟩
theorem num_parts {v:V} (h:V.fine v) (k:v.k=1):∃ n:Nat,v=⟨1,v.c,(n:Int),0⟩∧n≤9∧fits v.c∧(n=0∨v.c % 10 ≠ 0):=by
 rcases may_kinds h.may with rfl | rfl | rfl | rfl | rfl | rfl | ⟨e,hb⟩
 ·cases k
 ·cases k
 ·cases k
 ·cases k
 ·cases k
 ·cases k
 ·have hc:=may_canon hb
  obtain ⟨n,hn,hn9⟩:=isB_nat hc.1
  have hcan:=hc.2
  rw [hn,Int.toNat_natCast] at hcan
  rw [hn] at e
  exact ⟨n,e,hn9,h.fit,hcan⟩
theorem kid_fine {all:List V} (h:∀ v ∈ all,V.fine v) (k:Int):V.fine (kidV all k):=by
 unfold kidV
 split
 ·cases hx:all[k.toNat]? with
  | none=>exact fine_no
  | some v=>exact h v (List.mem_of_getElem? hx)
 ·exact fine_no
theorem own_fine {l:List Opd} {vals:List V} (hv:∀ v ∈ vals,v.ok) (n:Nd):V.fine (ownV l vals n):=by
 unfold ownV
 split
 ·exact fine_no
 ·rename_i o _
  simp only
  split
  ·rename_i h
   refine ⟨h,?_⟩
   cases hx:vals[l.idxOf o]? with
   | none=>exact (by decide:fits noV.c)
   | some v=>exact (hv v (List.mem_of_getElem? hx)).2.1
  ·exact fine_bad13
theorem step_fine {l:List Opd} {vals:List V} (hv:∀ v ∈ vals,v.ok) {all:List V} (h:∀ v ∈ all,V.fine v) (n:Nd):∀ v ∈ stepV l vals all n,V.fine v:=by
 intro v hm
 rcases List.mem_append.1 hm with hm | hm
 ·exact h v hm
 ·rw [List.mem_singleton] at hm
  subst hm
  exact fine_node n (own_fine hv n) (kid_fine h _) (kid_fine h _) (kid_fine h _)
theorem all_fine {l:List Opd} {vals:List V} (hv:∀ v ∈ vals,v.ok):∀ (t:List Nd) (all:List V),(∀ v ∈ all,V.fine v)→∀ v ∈ t.foldl (stepV l vals) all,V.fine v
 | [],_,h=>h
 | n :: t,all,h=>all_fine hv t _ (step_fine hv h n)
theorem all_len {l:List Opd} {vals:List V}:∀ (t:List Nd) (all:List V),(t.foldl (stepV l vals) all).length=all.length+t.length
 | [],_=>rfl
 | n :: t,all=>by rw [List.foldl_cons,all_len t,List.length_cons];unfold stepV;rw [List.length_append,List.length_singleton];omega
theorem opdsF_mem {o:Opd}:∀ (t:List Nd) (l:List Opd),o ∈ opdsF l t↔o ∈ l∨∃ n ∈ t,opdOf n=some o
 | [],l=>by simp [opdsF]
 | n :: t,l=>by
  have ih:=opdsF_mem (o:=o) t (addO l n)
  have e:opdsF l (n :: t)=opdsF (addO l n) t:=rfl
  rw [e,ih]
  have key:o ∈ addO l n↔o ∈ l∨opdOf n=some o:=by
   unfold addO
   split
   ·rename_i h;simp [h]
   ·rename_i q h
    rw [h]
    split
    ·rename_i hq
     constructor
     ·exact .inl
     ·rintro (k | k)
      ·exact k
      ·cases k;exact hq
    ·rw [List.mem_append,List.mem_singleton]
     constructor
     ·rintro (k | rfl)
      ·exact .inl k
      ·exact .inr rfl
     ·rintro (k | k)
      ·exact .inl k
      ·cases k;exact .inr rfl
  have e2:(∃ m ∈ n :: t,opdOf m=some o)↔opdOf n=some o∨∃ m ∈ t,opdOf m=some o:=by simp
  rw [key,e2]
  constructor
  ·rintro ((k | k) | k)
   ·exact .inl k
   ·exact .inr (.inl k)
   ·exact .inr (.inr k)
  ·rintro (k | k | k)
   ·exact .inl (.inl k)
   ·exact .inl (.inr k)
   ·exact .inr k
theorem opds_has {t:List Nd} {n:Nd} {o:Opd} (h:n ∈ t) (ho:opdOf n=some o):o ∈ opds t:=(opdsF_mem t []).2 (.inr ⟨n,h,ho⟩)
theorem addO_len (l:List Opd) (n:Nd):(addO l n).length≤l.length+1:=by
 unfold addO
 split
 ·omega
 ·split
  ·omega
  ·simp
theorem opdsF_len:∀ (t:List Nd) (l:List Opd),(opdsF l t).length≤l.length+t.length
 | [],l=>Nat.le_refl _
 | n :: t,l=>by
  have:=opdsF_len t (addO l n)
  have h2:=addO_len l n
  have e:opdsF l (n :: t)=opdsF (addO l n) t:=rfl
  rw [e,List.length_cons];omega
theorem opdsF_snoc (l:List Opd) (t:List Nd) (n:Nd):opdsF l (t++[n])=addO (opdsF l t) n:=by unfold opdsF;rw [List.foldl_append];rfl
end Go.Proofs.YteagpbkbdlmdiaaGreat.Ev
