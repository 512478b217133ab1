/-
  A tree's value on one day, plain: operands, a node's value, node by node; eval and its document: the small functions, walked.
-/
import Derived.Test.YteagpbkbdlmdiaaGreatQ22
set_option linter.unusedSimpArgs false
set_option linter.unusedVariables false
namespace Go.Proofs.YteagpbkbdlmdiaaGreat.Ev
open Go Dt Tx Va
structure Nd where
 op:Int
 c:Int
 s:Int
 n:List UInt8
 k:Int
 x:Int
 y:Int
 z:Int
 p:Int
deriving DecidableEq
structure Opd where
 op:Int
 n:List UInt8
 k:Int
deriving DecidableEq
def Nd.ok (n:Nd):Prop:=(0≤n.op∧n.op≤255)∧fits n.c∧fits n.s∧fits n.k∧fits n.x∧fits n.y∧fits n.z∧fits n.p
def oneF (op:Int):Bool:=decide (op=4∨op=24∨op=25)
def winF (op:Int):Bool:=decide (op=26∨op=27∨op=28∨op=29∨op=30)
def opdOf (n:Nd):Option Opd:=if oneF n.op=true then some ⟨4,n.n,0⟩ else if winF n.op=true then some ⟨n.op,n.n,n.k⟩ else none
def addO (l:List Opd) (n:Nd):List Opd:=match opdOf n with
 | none=>l
 | some o=>if o ∈ l then l else l++[o]
def opdsF (l:List Opd) (t:List Nd):List Opd:=t.foldl addO l
def opds (t:List Nd):List Opd:=opdsF [] t
def badE (e:Int):V:=⟨4,0,0,e⟩
def wrongV (v:V):V:=if v.k=4 then v else badE 13
def isT (v:V):Bool:=decide (v.k=2∨v.k=3)
def tupV (t:Int × Int × Int):Value:=.tuple #[.agg #[.int .i64 t.1,.int .i64 t.2.1],.int .i64 t.2.2]
def decT (u:Int) (s:Nat):Int × Int × Int:=if fits (trim u s).1 then ((trim u s).1,((trim u s).2:Int),0) else (0,0,11)
theorem decT_val (u:Int) (s:Nat):decV u s=tupV (decT u s):=by unfold decV decT tupV;split<;>rfl
def toldV (t:Int × Int × Int):V:=if t.2.2=0 then ⟨1,t.1,t.2.1,0⟩ else if t.2.2=11 then badE 11 else if t.2.2=12 then badE 12 else badE 13
def unV (v:V):Int:=un v.c v.s.toNat
def putT (c s:Int):Int × Int × Int:=if isB s=true then decT c s.toNat else (0,0,2)
def divT (a b:V):Int × Int × Int:=if b.c=0 then (0,0,12) else decT (evenZ ((if b.c<0 then -(unV a) else unV a)*((10 ^ 9:Nat):Int)) (unV b).natAbs) 9
def roundT (v:V) (k:Int):Int × Int × Int:=if isB k=true then decT (evenZ (unV v) (10 ^ (9 - k.toNat))) k.toNat else (0,0,2)
def pairN (op:Int) (a b:V):V:=
 if op=10 then truthV (decide (cmpZ (unV a) (unV b)<0))
 else if op=11 then truthV (decide (cmpZ (unV a) (unV b)≤0))
 else if op=12 then truthV (decide (cmpZ (unV a) (unV b)>0))
 else if op=13 then truthV (decide (cmpZ (unV a) (unV b) ≥ 0))
 else if op=14 then toldV (decT (unV a+unV b) 9)
 else if op=15 then toldV (decT (unV a - unV b) 9)
 else if op=16 then toldV (decT (evenZ (unV a*unV b) (10 ^ 9)) 9)
 else if op=17 then toldV (divT a b)
 else if op=20 then (if cmpZ (unV a) (unV b)<0 then a else b)
 else (if cmpZ (unV a) (unV b)>0 then a else b)
def pairV (op:Int) (a b:V):V:=if a.k ≠ 1 then wrongV a else if b.k ≠ 1 then wrongV b else pairN op a b
def singleN (op k:Int) (a:V):V:=
 if op=18 then toldV (decT (0 - unV a) 9)
 else if op=22 then (if 0≤a.c then a else toldV (decT (0 - unV a) 9))
 else toldV (roundT a k)
def singleV (op k:Int) (a:V):V:=if a.k ≠ 1 then wrongV a else singleN op k a
def sameV (op:Int) (a b:V):V:=
 if a.k=0∨a.k=4 then wrongV a
 else if b.k=0∨b.k=4 then wrongV b
 else if decide (a.k=1) ≠ decide (b.k=1) then badE 13
 else truthV ((if a.k=1 then decide (cmpZ (unV a) (unV b)=0) else decide (a.k=b.k))==decide (op=8))
def logicV (op:Int) (a b c:V):V:=
 if isT a=false then wrongV a
 else if op=7 then truthV (decide (a.k=3))
 else if op=19 then (if a.k=2 then b else c)
 else if decide (a.k=2)=decide (op=5) then a
 else if isT b=false then wrongV b
 else b
def nodeV (n:Nd) (v a b c:V):V:=
 if n.op=1 then toldV (putT n.c n.s)
 else if n.op=2 then truthV true
 else if n.op=3 then truthV false
 else if n.op=4∨winF n.op=true then v
 else if n.op=24 then (if v.k=4 then v else truthV (decide (v.k ≠ 0)))
 else if n.op=25 then (if v.k ≠ 0 then v else a)
 else if n.op=5∨n.op=6∨n.op=7∨n.op=19 then logicV n.op a b c
 else if n.op=8∨n.op=9 then sameV n.op a b
 else if n.op=18∨n.op=22∨n.op=23 then singleV n.op n.k a
 else if n.op=10∨n.op=11∨n.op=12∨n.op=13∨n.op=14∨n.op=15∨n.op=16∨n.op=17∨n.op=20∨n.op=21 then pairV n.op a b
 else badE 13
def noV:V:=⟨0,0,0,0⟩
def ownV (l:List Opd) (vals:List V) (n:Nd):V:=match opdOf n with
 | none=>noV
 | some o=>let v:=(vals[l.idxOf o]?).getD noV;if mayV v=true then v else badE 13
def kidV (all:List V) (k:Int):V:=if 0≤k then (all[k.toNat]?).getD noV else noV
def stepV (l:List Opd) (vals:List V) (all:List V) (n:Nd):List V:=all++[nodeV n (ownV l vals n) (kidV all n.x) (kidV all n.y) (kidV all n.z)]
def allV (l:List Opd) (vals:List V) (t:List Nd):List V:=t.foldl (stepV l vals) []
def valueV (t:List Nd) (vals:List V):V:=((allV (opds t) vals t).getLast?).getD noV
theorem may_noV:mayV noV=true:=by decide
theorem decT_cases (u:Int) (s:Nat) (hs:s≤9):(∃ (c:Int) (n:Nat),decT u s=(c,(n:Int),0)∧n≤9∧fits c∧(n=0∨c % 10 ≠ 0))∨decT u s=(0,0,11):=by
 unfold decT;split
 ·rename_i h
  exact .inl ⟨_,_,rfl,Nat.le_trans (trim_le u s) hs,h,trim_canon u s⟩
 ·exact .inr rfl
theorem may_num {c:Int} {n:Nat} (hn:n≤9) (hc:n=0∨c % 10 ≠ 0):mayV ⟨1,c,(n:Int),0⟩=true:=by
 unfold mayV isNum mayB isB
 simp only [and_self,decide_true,if_true]
 have h1:decide ((0:Int)≤(n:Int)∧(n:Int)≤9)=true:=decide_eq_true (by omega)
 rw [h1,Bool.true_and]
 rcases hc with h | h
 ·have:decide ((n:Int)=0)=true:=decide_eq_true (by omega)
  rw [this];rfl
 ·have:decide (c % 10=0)=false:=decide_eq_false h
  rw [this];simp
theorem may_told (u:Int) (s:Nat) (hs:s≤9):mayV (toldV (decT u s))=true∧fits (toldV (decT u s)).c:=by
 rcases decT_cases u s hs with ⟨c,n,e,h1,h2,h3⟩ | e
 ·rw [e];exact ⟨may_num h1 h3,h2⟩
 ·rw [e];exact ⟨by decide,by decide⟩
theorem may_toldE (c s:Int) {e:Int} (he:e ≠ 0):mayV (toldV (c,s,e))=true∧fits (toldV (c,s,e)).c:=by
 unfold toldV
 simp only [he,if_false]
 split
 ·decide
 ·split<;>decide
structure V.fine (v:V):Prop where
 may:mayV v=true
 fit:fits v.c
theorem fine_no:V.fine noV:=⟨by decide,by decide⟩
theorem fine_truth (b:Bool):V.fine (truthV b):=by cases b<;>exact ⟨by decide,by decide⟩
theorem fine_bad13:V.fine (badE 13):=⟨by decide,by decide⟩
theorem fine_wrong {v:V} (h:V.fine v):V.fine (wrongV v):=by unfold wrongV;split;exact h;exact fine_bad13
theorem fine_told (u:Int) (s:Nat) (hs:s≤9):V.fine (toldV (decT u s)):=⟨(may_told u s hs).1,(may_told u s hs).2⟩
theorem fine_toldE (c s:Int) {e:Int} (he:e ≠ 0):V.fine (toldV (c,s,e)):=⟨(may_toldE c s he).1,(may_toldE c s he).2⟩
theorem isB_le {s:Int} (h:isB s=true):s.toNat≤9:=by obtain ⟨n,rfl,hn⟩:=isB_nat h;simpa using hn
theorem fine_put (c s:Int):V.fine (toldV (putT c s)):=by
 unfold putT;split
 ·rename_i h;exact fine_told _ _ (isB_le h)
 ·exact fine_toldE _ _ (by decide)
theorem fine_round (v:V) (k:Int):V.fine (toldV (roundT v k)):=by
 unfold roundT;split
 ·rename_i h;exact fine_told _ _ (isB_le h)
 ·exact fine_toldE _ _ (by decide)
theorem fine_div (a b:V):V.fine (toldV (divT a b)):=by
 unfold divT;split
 ·exact fine_toldE _ _ (by decide)
 ·exact fine_told _ _ (by decide)
theorem fine_pairN (op:Int) {a b:V} (ha:V.fine a) (hb:V.fine b):V.fine (pairN op a b):=by
 unfold pairN
 repeat' split
 all_goals first
  | exact fine_truth _
  | exact fine_told _ _ (by decide)
  | exact fine_div _ _
  | assumption
theorem fine_pair (op:Int) {a b:V} (ha:V.fine a) (hb:V.fine b):V.fine (pairV op a b):=by
 unfold pairV
 repeat' split
 ·exact fine_wrong ha
 ·exact fine_wrong hb
 ·exact fine_pairN op ha hb
theorem fine_single (op k:Int) {a:V} (ha:V.fine a):V.fine (singleV op k a):=by
 unfold singleV singleN
 repeat' split
 all_goals first
  | exact fine_wrong ha
  | exact fine_told _ _ (by decide)
  | exact fine_round _ _
  | exact ha
theorem fine_same (op:Int) {a b:V} (ha:V.fine a) (hb:V.fine b):V.fine (sameV op a b):=by
 unfold sameV
 split
 ·exact fine_wrong ha
 ·split
  ·exact fine_wrong hb
  ·split
   ·exact fine_bad13
   ·exact fine_truth _
theorem fine_logic (op:Int) {a b c:V} (ha:V.fine a) (hb:V.fine b) (hc:V.fine c):V.fine (logicV op a b c):=by
 unfold logicV
 repeat' split
 all_goals first
  | exact fine_wrong ha
  | exact fine_wrong hb
  | exact fine_truth _
  | assumption
theorem fine_node (n:Nd) {v a b c:V} (hv:V.fine v) (ha:V.fine a) (hb:V.fine b) (hc:V.fine c):V.fine (nodeV n v a b c):=by
 unfold nodeV
 split
 ·exact fine_put _ _
 split
 ·exact fine_truth _
 split
 ·exact fine_truth _
 split
 ·exact hv
 split
 ·split
  ·exact hv
  ·exact fine_truth _
 split
 ·split
  ·exact hv
  ·exact ha
 split
 ·exact fine_logic _ ha hb hc
 split
 ·exact fine_same _ ha hb
 split
 ·exact fine_single _ _ ha
 split
 ·exact fine_pair _ ha hb
 ·exact fine_bad13
theorem may_kinds {v:V} (h:mayV v=true):v=noV∨v=truthV true∨v=truthV false∨v=badE 11∨v=badE 12∨v=badE 13∨(v=⟨1,v.c,v.s,0⟩∧mayB v.c v.s=true):=by
 unfold mayV at h
 cases hn:isNum v
 ·rw [hn] at h
  simp only [Bool.false_eq_true,if_false] at h
  cases hl:lookV v six with
  | none=>rw [hl] at h;cases h
  | some l=>
   have hm:=lookV_six hl
   simp only [six,List.mem_cons,Prod.mk.injEq,List.mem_nil_iff,or_false] at hm
   rcases hm with ⟨rfl,_⟩ | ⟨rfl,_⟩ | ⟨rfl,_⟩ | ⟨rfl,_⟩ | ⟨rfl,_⟩ | ⟨rfl,_⟩
   ·exact .inl rfl
   ·exact .inr (.inl rfl)
   ·exact .inr (.inr (.inl rfl))
   ·exact .inr (.inr (.inr (.inl rfl)))
   ·exact .inr (.inr (.inr (.inr (.inl rfl))))
   ·exact .inr (.inr (.inr (.inr (.inr (.inl rfl)))))
 ·rw [hn] at h
  simp only [if_true] at h
  exact .inr (.inr (.inr (.inr (.inr (.inr ⟨num_eq hn,h⟩)))))
theorem V.fine.ok {v:V} (h:V.fine v):v.ok:=by
 rcases may_kinds h.may with rfl | rfl | rfl | rfl | rfl | rfl | ⟨e,hb⟩
 ·exact ⟨by decide,by decide,by decide,by decide⟩
 ·exact ⟨by decide,by decide,by decide,by decide⟩
 ·exact ⟨by decide,by decide,by decide,by decide⟩
 ·exact ⟨by decide,by decide,by decide,by decide⟩
 ·exact ⟨by decide,by decide,by decide,by decide⟩
 ·exact ⟨by decide,by decide,by decide,by decide⟩
 ·have hk:v.k=1:=congrArg V.k e
  have he:v.e=0:=congrArg V.e e
  obtain ⟨n,hn,hn9⟩:=isB_nat (may_canon hb).1
  exact ⟨by rw [hk];decide,h.fit,by rw [hn];unfold fits;omega,by rw [he];decide⟩
theorem num_parts {v:V} (h:V.fine v) (k:v.k=1):∃ n:Nat,v=⟨1,v.c,(n:Int),0⟩∧n≤9∧fits v.c∧(n=0∨v.c % 10 ≠ 0):=by
 rcases may_kinds h.may with rfl | rfl | rfl | rfl | rfl | rfl | ⟨e,hb⟩
 ·cases k
 ·cases k
 ·cases k
 ·cases k
 ·cases k
 ·cases k
 ·have hc:=may_canon hb
  obtain ⟨n,hn,hn9⟩:=isB_nat hc.1
  have hcan:=hc.2
  rw [hn,Int.toNat_natCast] at hcan
  rw [hn] at e
  exact ⟨n,e,hn9,h.fit,hcan⟩
theorem kid_fine {all:List V} (h:∀ v ∈ all,V.fine v) (k:Int):V.fine (kidV all k):=by
 unfold kidV
 split
 ·cases hx:all[k.toNat]? with
  | none=>exact fine_no
  | some v=>exact h v (List.mem_of_getElem? hx)
 ·exact fine_no
theorem own_fine {l:List Opd} {vals:List V} (hv:∀ v ∈ vals,v.ok) (n:Nd):V.fine (ownV l vals n):=by
 unfold ownV
 split
 ·exact fine_no
 ·rename_i o _
  simp only
  split
  ·rename_i h
   refine ⟨h,?_⟩
   cases hx:vals[l.idxOf o]? with
   | none=>exact (by decide:fits noV.c)
   | some v=>exact (hv v (List.mem_of_getElem? hx)).2.1
  ·exact fine_bad13
theorem step_fine {l:List Opd} {vals:List V} (hv:∀ v ∈ vals,v.ok) {all:List V} (h:∀ v ∈ all,V.fine v) (n:Nd):∀ v ∈ stepV l vals all n,V.fine v:=by
 intro v hm
 rcases List.mem_append.1 hm with hm | hm
 ·exact h v hm
 ·rw [List.mem_singleton] at hm
  subst hm
  exact fine_node n (own_fine hv n) (kid_fine h _) (kid_fine h _) (kid_fine h _)
theorem all_fine {l:List Opd} {vals:List V} (hv:∀ v ∈ vals,v.ok):∀ (t:List Nd) (all:List V),(∀ v ∈ all,V.fine v)→∀ v ∈ t.foldl (stepV l vals) all,V.fine v
 | [],_,h=>h
 | n :: t,all,h=>all_fine hv t _ (step_fine hv h n)
theorem all_len {l:List Opd} {vals:List V}:∀ (t:List Nd) (all:List V),(t.foldl (stepV l vals) all).length=all.length+t.length
 | [],_=>rfl
 | n :: t,all=>by rw [List.foldl_cons,all_len t,List.length_cons];unfold stepV;rw [List.length_append,List.length_singleton];omega
theorem opdsF_mem {o:Opd}:∀ (t:List Nd) (l:List Opd),o ∈ opdsF l t↔o ∈ l∨∃ n ∈ t,opdOf n=some o
 | [],l=>by simp [opdsF]
 | n :: t,l=>by
  have ih:=opdsF_mem (o:=o) t (addO l n)
  have e:opdsF l (n :: t)=opdsF (addO l n) t:=rfl
  rw [e,ih]
  have key:o ∈ addO l n↔o ∈ l∨opdOf n=some o:=by
   unfold addO
   split
   ·rename_i h;simp [h]
   ·rename_i q h
    rw [h]
    split
    ·rename_i hq
     constructor
     ·exact .inl
     ·rintro (k | k)
      ·exact k
      ·cases k;exact hq
    ·rw [List.mem_append,List.mem_singleton]
     constructor
     ·rintro (k | rfl)
      ·exact .inl k
      ·exact .inr rfl
     ·rintro (k | k)
      ·exact .inl k
      ·cases k;exact .inr rfl
  have e2:(∃ m ∈ n :: t,opdOf m=some o)↔opdOf n=some o∨∃ m ∈ t,opdOf m=some o:=by simp
  rw [key,e2]
  constructor
  ·rintro ((k | k) | k)
   ·exact .inl k
   ·exact .inr (.inl k)
   ·exact .inr (.inr k)
  ·rintro (k | k | k)
   ·exact .inl (.inl k)
   ·exact .inl (.inr k)
   ·exact .inr k
theorem opds_has {t:List Nd} {n:Nd} {o:Opd} (h:n ∈ t) (ho:opdOf n=some o):o ∈ opds t:=(opdsF_mem t []).2 (.inr ⟨n,h,ho⟩)
theorem addO_len (l:List Opd) (n:Nd):(addO l n).length≤l.length+1:=by
 unfold addO
 split
 ·omega
 ·split
  ·omega
  ·simp
theorem opdsF_len:∀ (t:List Nd) (l:List Opd),(opdsF l t).length≤l.length+t.length
 | [],l=>Nat.le_refl _
 | n :: t,l=>by
  have:=opdsF_len t (addO l n)
  have h2:=addO_len l n
  have e:opdsF l (n :: t)=opdsF (addO l n) t:=rfl
  rw [e,List.length_cons];omega
theorem opdsF_snoc (l:List Opd) (t:List Nd) (n:Nd):opdsF l (t++[n])=addO (opdsF l t) n:=by unfold opdsF;rw [List.foldl_append];rfl
end Go.Proofs.YteagpbkbdlmdiaaGreat.Ev
namespace Go.Proofs.YteagpbkbdlmdiaaGreat.Va
open Go
theorem Four.cs {w:World} {i:Nat} {v:V} (h:Four w i v):w.cell? ⟨i,0,none⟩=some (.int .u8 v.k)∧w.cell? ⟨i,1,none⟩=some (.int .i64 v.c)∧w.cell? ⟨i,2,none⟩=some (.int .i64 v.s)∧w.cell? ⟨i,3,none⟩=some (.int .i64 v.e):=⟨h.c0,h.c1,h.c2,h.c3⟩
theorem Four.cf {w:World} {i:Nat} {v:V} (h:Four w i v):w.cell? ⟨i,0,none⟩=some (.int .u8 v.k)∧w.cell? ⟨i,1,none⟩=some (.int .i64 v.c)∧w.cell? ⟨i,2,none⟩=some (.int .i64 v.s)∧w.cell? ⟨i,3,none⟩=some (.int .i64 v.e)∧w.frozen? ⟨i,0,none⟩=false∧w.frozen? ⟨i,1,none⟩=false∧w.frozen? ⟨i,2,none⟩=false∧w.frozen? ⟨i,3,none⟩=false:=⟨h.c0,h.c1,h.c2,h.c3,h.f 0,h.f 1,h.f 2,h.f 3⟩
end Go.Proofs.YteagpbkbdlmdiaaGreat.Va
namespace Go.Proofs.YteagpbkbdlmdiaaGreat.Ev
open Go Go.RowKit Dt Tx Va
attribute [local go_sem ↓] Go.wp_at_zero Go.wp_at_succ
theorem mk1 (w:World) (o0:Obj):∃ (W:World) (i0:Nat),Hid (w.alloc o0=W)∧Hid (w.heap.size=i0)∧Hid (W.heap[i0]?=some o0)∧Hid (Below w.heap.size w W)∧Hid (w.heap.size≤i0)∧Hid (True)∧Hid (W.heap.size=w.heap.size+1):=by
 exact ⟨_,_,Lib.hid rfl,Lib.hid rfl,Lib.hid (heap_alloc_new w o0),Lib.hid (ba _ _),Lib.hid (Nat.le_refl _),Lib.hid trivial,Lib.hid (World.size_alloc _ _)⟩
theorem mk2 (w:World) (o0 o1:Obj):∃ (W:World) (i0 i1:Nat),Hid ((w.alloc o0).alloc o1=W)∧Hid (w.heap.size=i0)∧Hid (w.heap.size+1=i1)∧Hid (W.heap[i0]?=some o0)∧Hid (W.heap[i1]?=some o1)∧Hid (Below w.heap.size w W)∧Hid (w.heap.size≤i0)∧Hid (w.heap.size≤i1)∧Hid (True∧i0<i1)∧Hid (W.heap.size=w.heap.size+1+1):=by
 obtain ⟨W,i0,hW,h0,X0,B,L0,LI,S⟩:=mk1 w o0
 have hS:=S.out
 have t0:=(Array.getElem?_eq_some_iff.1 X0.out).1
 have l:=LI.out
 exact ⟨W.alloc o1,i0,W.heap.size,Lib.hid (by rw [hW.out]),h0,Lib.hid hS.symm,Lib.hid ((Below.heap_alloc _ _ _ t0).trans X0.out),Lib.hid (heap_alloc_new W o1),Lib.hid (bt B.out (ba _ _)),L0,Lib.hid (by omega),Lib.hid ⟨trivial,by omega⟩,Lib.hid (by rw [World.size_alloc,hS])⟩
theorem mk3 (w:World) (o0 o1 o2:Obj):∃ (W:World) (i0 i1 i2:Nat),Hid (((w.alloc o0).alloc o1).alloc o2=W)∧Hid (w.heap.size=i0)∧Hid (w.heap.size+1=i1)∧Hid (w.heap.size+1+1=i2)∧Hid (W.heap[i0]?=some o0)∧Hid (W.heap[i1]?=some o1)∧Hid (W.heap[i2]?=some o2)∧Hid (Below w.heap.size w W)∧Hid (w.heap.size≤i0)∧Hid (w.heap.size≤i1)∧Hid (w.heap.size≤i2)∧Hid (True∧i0<i1∧i1<i2)∧Hid (W.heap.size=w.heap.size+1+1+1):=by
 obtain ⟨W,i0,i1,hW,h0,h1,X0,X1,B,L0,L1,LI,S⟩:=mk2 w o0 o1
 have hS:=S.out
 have t0:=(Array.getElem?_eq_some_iff.1 X0.out).1
 have t1:=(Array.getElem?_eq_some_iff.1 X1.out).1
 have l:=LI.out
 exact ⟨W.alloc o2,i0,i1,W.heap.size,Lib.hid (by rw [hW.out]),h0,h1,Lib.hid hS.symm,Lib.hid ((Below.heap_alloc _ _ _ t0).trans X0.out),Lib.hid ((Below.heap_alloc _ _ _ t1).trans X1.out),Lib.hid (heap_alloc_new W o2),Lib.hid (bt B.out (ba _ _)),L0,L1,Lib.hid (by omega),Lib.hid ⟨trivial,by omega,by omega⟩,Lib.hid (by rw [World.size_alloc,hS])⟩
abbrev av (v:V):Value:=.agg #[.int .u8 v.k,.int .i64 v.c,.int .i64 v.s,.int .i64 v.e]
abbrev an (n:Nd):Value:=.agg #[.int .u8 n.op,.int .i64 n.c,.int .i64 n.s,.string (bs n.n),.int .i64 n.k,.int .i64 n.x,.int .i64 n.y,.int .i64 n.z,.int .i64 n.p]
abbrev ao (q:Opd):Value:=.agg #[.int .u8 q.op,.string (bs q.n),.int .i64 q.k]
abbrev fo (v:V):Obj:=(.cells #[.int .u8 v.k,.int .i64 v.c,.int .i64 v.s,.int .i64 v.e] 33)
abbrev no (n:Nd):Obj:=(.cells #[.int .u8 n.op,.int .i64 n.c,.int .i64 n.s,.string (bs n.n),.int .i64 n.k,.int .i64 n.x,.int .i64 n.y,.int .i64 n.z,.int .i64 n.p] 39)
theorem drb (w:World):Below w.heap.size w w.drew:=⟨rfl,rfl,rfl,Nat.le_refl _,fun _ _=>rfl⟩
theorem hB {w a b:World} (h:Hid (Below w.heap.size w a)) (q:Below a.heap.size a b):Hid (Below w.heap.size w b):=Lib.hid (bt h.out q)
theorem hF {w a:World} {i:Nat} {v:V} (h:Hid (Four w i v)) (q:Below w.heap.size w a):Hid (Four a i v):=Lib.hid (h.out.below q)
theorem hD {w a:World} {i:Nat} {x y:Int} (h:Hid (Two w i x y)) (q:Below w.heap.size w a):Hid (Two a i x y):=Lib.hid (h.out.below q)
theorem mkZ (w:World) :∃ (W:World) (i0:Nat),Hid (w.alloc ((.cells #[.int .u8 0,.int .i64 0,.int .i64 0,.int .i64 0] 33))=W)∧Hid (w.heap.size=i0)∧Hid (Four W i0 noV)∧Hid (Below w.heap.size w W)∧Hid (w.heap.size≤i0)∧Hid (True)∧Hid (W.heap.size=w.heap.size+1):=mk1 w _
theorem mkV (w:World) (x0:V):∃ (W:World) (i0:Nat),Hid (w.alloc (fo x0)=W)∧Hid (w.heap.size=i0)∧Hid (Four W i0 x0)∧Hid (Below w.heap.size w W)∧Hid (w.heap.size≤i0)∧Hid (True)∧Hid (W.heap.size=w.heap.size+1):=mk1 w _
theorem mkVZ (w:World) (x0:V):∃ (W:World) (i0 i1:Nat),Hid ((w.alloc (fo x0)).alloc ((.cells #[.int .u8 0,.int .i64 0,.int .i64 0,.int .i64 0] 33))=W)∧Hid (w.heap.size=i0)∧Hid (w.heap.size+1=i1)∧Hid (Four W i0 x0)∧Hid (Four W i1 noV)∧Hid (Below w.heap.size w W)∧Hid (w.heap.size≤i0)∧Hid (w.heap.size≤i1)∧Hid (True∧i0<i1)∧Hid (W.heap.size=w.heap.size+1+1):=mk2 w _ _
theorem mkVVZ (w:World) (x0:V) (x1:V):∃ (W:World) (i0 i1 i2:Nat),Hid (((w.alloc (fo x0)).alloc (fo x1)).alloc ((.cells #[.int .u8 0,.int .i64 0,.int .i64 0,.int .i64 0] 33))=W)∧Hid (w.heap.size=i0)∧Hid (w.heap.size+1=i1)∧Hid (w.heap.size+1+1=i2)∧Hid (Four W i0 x0)∧Hid (Four W i1 x1)∧Hid (Four W i2 noV)∧Hid (Below w.heap.size w W)∧Hid (w.heap.size≤i0)∧Hid (w.heap.size≤i1)∧Hid (w.heap.size≤i2)∧Hid (True∧i0<i1∧i1<i2)∧Hid (W.heap.size=w.heap.size+1+1+1):=mk3 w _ _ _
theorem mkDZ (w:World) (x0 y0:Int):∃ (W:World) (i0 i1:Nat),Hid ((w.alloc ((.cells #[.int .i64 x0,.int .i64 y0] 30))).alloc ((.cells #[.int .u8 0,.int .i64 0,.int .i64 0,.int .i64 0] 33))=W)∧Hid (w.heap.size=i0)∧Hid (w.heap.size+1=i1)∧Hid (Two W i0 x0 y0)∧Hid (Four W i1 noV)∧Hid (Below w.heap.size w W)∧Hid (w.heap.size≤i0)∧Hid (w.heap.size≤i1)∧Hid (True∧i0<i1)∧Hid (W.heap.size=w.heap.size+1+1):=mk2 w _ _
theorem mkDDZ (w:World) (x0 y0:Int) (x1 y1:Int):∃ (W:World) (i0 i1 i2:Nat),Hid (((w.alloc ((.cells #[.int .i64 x0,.int .i64 y0] 30))).alloc ((.cells #[.int .i64 x1,.int .i64 y1] 30))).alloc ((.cells #[.int .u8 0,.int .i64 0,.int .i64 0,.int .i64 0] 33))=W)∧Hid (w.heap.size=i0)∧Hid (w.heap.size+1=i1)∧Hid (w.heap.size+1+1=i2)∧Hid (Two W i0 x0 y0)∧Hid (Two W i1 x1 y1)∧Hid (Four W i2 noV)∧Hid (Below w.heap.size w W)∧Hid (w.heap.size≤i0)∧Hid (w.heap.size≤i1)∧Hid (w.heap.size≤i2)∧Hid (True∧i0<i1∧i1<i2)∧Hid (W.heap.size=w.heap.size+1+1+1):=mk3 w _ _ _
theorem mkDDE (w:World) (x0 y0:Int) (x1 y1:Int):∃ (W:World) (i0 i1 i2:Nat),Hid (((w.alloc ((.cells #[.int .i64 x0,.int .i64 y0] 30))).alloc ((.cells #[.int .i64 x1,.int .i64 y1] 30))).alloc ((.cells #[.int .i64 0,.int .i64 0] 30))=W)∧Hid (w.heap.size=i0)∧Hid (w.heap.size+1=i1)∧Hid (w.heap.size+1+1=i2)∧Hid (Two W i0 x0 y0)∧Hid (Two W i1 x1 y1)∧Hid (Two W i2 0 0)∧Hid (Below w.heap.size w W)∧Hid (w.heap.size≤i0)∧Hid (w.heap.size≤i1)∧Hid (w.heap.size≤i2)∧Hid (True∧i0<i1∧i1<i2)∧Hid (W.heap.size=w.heap.size+1+1+1):=mk3 w _ _ _
theorem mkDE (w:World) (x0 y0:Int):∃ (W:World) (i0 i1:Nat),Hid ((w.alloc ((.cells #[.int .i64 x0,.int .i64 y0] 30))).alloc ((.cells #[.int .i64 0,.int .i64 0] 30))=W)∧Hid (w.heap.size=i0)∧Hid (w.heap.size+1=i1)∧Hid (Two W i0 x0 y0)∧Hid (Two W i1 0 0)∧Hid (Below w.heap.size w W)∧Hid (w.heap.size≤i0)∧Hid (w.heap.size≤i1)∧Hid (True∧i0<i1)∧Hid (W.heap.size=w.heap.size+1+1):=mk2 w _ _
theorem k04 {v:V} (h:v.k=0∨v.k=4):(decide (v.k=4)=true∧(v.k==4)=true∧(v.k !=4)=false∧decide (v.k=0)=false∧(v.k==0)=false∧(v.k !=0)=true)∨(decide (v.k=4)=false∧(v.k==4)=false∧(v.k !=4)=true∧decide (v.k=0)=true∧(v.k==0)=true∧(v.k !=0)=false):=by
 rcases h with h | h<;>simp [h]
theorem kno {v:V} (h:¬(v.k=0∨v.k=4)):(decide (v.k=4)=false∧(v.k==4)=false∧(v.k !=4)=true)∧(decide (v.k=0)=false∧(v.k==0)=false∧(v.k !=0)=true):=by
 have h0:¬v.k=0:=fun e=>h (.inl e)
 have h4:¬v.k=4:=fun e=>h (.inr e)
 simp [h0,h4]
def VP (v:V) (w:World) (e:Ending) (w':World):Prop:=e=.returned (.agg #[.int .u8 v.k,.int .i64 v.c,.int .i64 v.s,.int .i64 v.e])∧Below w.heap.size w w'
def BP (b:Bool) (w:World) (e:Ending) (w':World):Prop:=e=.returned (.bool b)∧Below w.heap.size w w'
theorem ret4 {fn:Func} (p:Tmp) (hf:fn.results=#[.cell p 33]) {a:Act} {w0 W:World} {iR:Nat} {old v:V} (R:Hid (Four W iR old)) (B:Hid (Below w0.heap.size w0 W)) (L:Hid (w0.heap.size≤iR)) {k c s e:Int}
  (hp:a.tmps.getD p undef=.pointer (some ⟨iR,0,none⟩)) (hd:a.defers=[]) (he:Value.agg #[.int .u8 k,.int .i64 c,.int .i64 s,.int .i64 e]=av v):bodyPost Tryz.prog fn (VP v w0) .ret a ((((W.setCell ⟨iR,0,none⟩ (.int .u8 k)).setCell ⟨iR,1,none⟩ (.int .i64 c)).setCell ⟨iR,2,none⟩ (.int .i64 s)).setCell ⟨iR,3,none⟩ (.int .i64 e)):=by
 refine bodyPost_ret (v:=.agg #[.int .u8 k,.int .i64 c,.int .i64 s,.int .i64 e]) (results_cell_row hf _ _ iR _ _ (0,0) _ hp (R.out.set _ _ _ _) Tryz.underlying33 rfl (by kernel_rfl)) hd ?_
 exact ⟨congrArg Ending.returned he,below_set4 B.out L.out _ _ _ _⟩
theorem truth_vp {w:World} (b:Bool):Calls Tryz.prog 34 #[.bool b] w (VP (truthV b) w):=by
 refine (truth_is (w:=w) b).mono ?_
 rintro e w' ⟨rfl,h⟩
 cases b<;>exact ⟨rfl,h⟩
theorem bad_vp {w:World} (n:Int):Calls Tryz.prog 23 #[.int .i64 n] w (VP (badE n) w):=by
 try dsimp only [av,an,ao]
 go_enter Tryz.func23,Tryz.ntmps23
 go_upto_region 1 with fail
 obtain ⟨W0,iR,hW,hR,R0,B0,LR,LI,LS⟩:=mkZ w
 rw [hW.out];try rw [hR.out]
 clear hW hR
 obtain ⟨Rc0,Rc1,Rc2,Rc3,Rf0,Rf1,Rf2,Rf3⟩:=R0.out.cf
 go_wp2_with fail
 exact ret4 2 rfl R0 B0 LR rfl rfl rfl
theorem rbad_vp {w:World} (n:Int):Calls Tryz.prog 15 #[.int .i64 n] w (VP (badE n) w):=by
 try dsimp only [av,an,ao]
 go_enter Tryz.func15,Tryz.ntmps15
 go_upto_region 1 with fail
 obtain ⟨W0,iR,hW,hR,R0,B0,LR,LI,LS⟩:=mkZ w
 rw [hW.out];try rw [hR.out]
 clear hW hR
 obtain ⟨Rc0,Rc1,Rc2,Rc3,Rf0,Rf1,Rf2,Rf3⟩:=R0.out.cf
 go_wp2_with fail
 exact ret4 2 rfl R0 B0 LR rfl rfl rfl
theorem rtruth_vp {w:World} (b:Bool):Calls Tryz.prog 16 #[.bool b] w (VP (truthV b) w):=by
 cases b
 all_goals
  try dsimp only [av,an,ao]
  go_enter Tryz.func16,Tryz.ntmps16
  go_upto_region 1 with fail
  obtain ⟨W0,iR,hW,hR,R0,B0,LR,LI,LS⟩:=mkZ w
  rw [hW.out];try rw [hR.out]
  clear hW hR
  obtain ⟨Rc0,Rc1,Rc2,Rc3,Rf0,Rf1,Rf2,Rf3⟩:=R0.out.cf
  go_wp2_with fail
  exact ret4 2 rfl R0 B0 LR rfl rfl rfl
theorem ist_is {w:World} (v:V):Calls Tryz.prog 112 #[av v] w (BP (isT v) w):=by
 by_cases h2:v.k=2
 ·have E:isT v=true:=by unfold isT;rw [decide_eq_true (.inl h2)]
  rw [E]
  have d1:decide (v.k=2)=true:=decide_eq_true h2
  have d2:(v.k==2)=true:=by simpa using h2
  clear E h2
  try dsimp only [av,an,ao]
  go_enter Tryz.func112,Tryz.ntmps112
  go_upto_region 1 with fail
  obtain ⟨W0,iX,hW,hX,X0,B0,LX,LI,LS⟩:=mkV w v
  rw [hW.out];try rw [hX.out]
  clear hW hX
  have Xc0:=X0.out.c0
  go_wp2_with fail
  go_ret
  exact ⟨rfl,B0.out⟩
 ·have d1:decide (v.k=2)=false:=decide_eq_false h2
  have d2:(v.k==2)=false:=by simpa using h2
  have E:isT v=decide (v.k=3):=by unfold isT;by_cases h3:v.k=3<;>simp [h2,h3]
  rw [E]
  obtain ⟨b,hb⟩:∃ b,decide (v.k=3)=b:=⟨_,rfl⟩
  have d4:(v.k==3)=b:=by rw [←hb];rfl
  rw [hb]
  clear E h2
  cases b
  all_goals
   try dsimp only [av,an,ao]
   go_enter Tryz.func112,Tryz.ntmps112
   go_upto_region 1 with fail
   obtain ⟨W0,iX,hW,hX,X0,B0,LX,LI,LS⟩:=mkV w v
   rw [hW.out];try rw [hX.out]
   clear hW hX
   have Xc0:=X0.out.c0
   go_wp2_with fail
   go_ret
   exact ⟨rfl,B0.out⟩
theorem wrong_vp {w:World} (v:V):Calls Tryz.prog 113 #[av v] w (VP (wrongV v) w):=by
 by_cases h4:v.k=4
 ·have E:wrongV v=v:=by unfold wrongV;rw [if_pos h4]
  rw [E]
  have d1:decide (v.k=4)=true:=decide_eq_true h4
  have d2:(v.k==4)=true:=by simpa using h4
  clear E h4
  try dsimp only [av,an,ao]
  go_enter Tryz.func113,Tryz.ntmps113
  go_upto_region 1 with fail
  obtain ⟨W0,iX,iR,hW,hX,hR,X0,R0,B0,LX,LR,LI,LS⟩:=mkVZ w v
  rw [hW.out];try rw [hR.out];try rw [hX.out]
  clear hW hX hR
  obtain ⟨Xc0,Xc1,Xc2,Xc3⟩:=X0.out.cs
  obtain ⟨Rc0,Rc1,Rc2,Rc3,Rf0,Rf1,Rf2,Rf3⟩:=R0.out.cf
  go_wp2_with fail
  exact ret4 2 rfl R0 B0 LR rfl rfl rfl
 ·have E:wrongV v=badE 13:=by unfold wrongV;rw [if_neg h4]
  rw [E]
  have d1:decide (v.k=4)=false:=decide_eq_false h4
  have d2:(v.k==4)=false:=by simpa using h4
  clear E h4
  try dsimp only [av,an,ao]
  go_enter Tryz.func113,Tryz.ntmps113
  go_upto_region 1 with fail
  obtain ⟨W0,iX,iR,hW,hX,hR,X0,R0,B0,LX,LR,LI,LS⟩:=mkVZ w v
  rw [hW.out];try rw [hR.out];try rw [hX.out]
  clear hW hX hR
  have Xc0:=X0.out.c0
  go_wp2_with (go_at_call 23;(with_reducible refine (bad_vp (w:=_) 13).mono ?_);rintro e1 w1 ⟨rfl,q1⟩;have B1:=hB B0 q1;have R1:=hF R0 q1;clear q1 B0 R0;obtain ⟨Rc0,Rc1,Rc2,Rc3,Rf0,Rf1,Rf2,Rf3⟩:=R1.out.cf)
  exact ret4 2 rfl R1 B1 LR rfl rfl rfl
theorem told_vp {w:World} (c s e:Int):Calls Tryz.prog 32 #[.agg #[.int .i64 c,.int .i64 s],.int .i64 e] w (VP (toldV (c,s,e)) w):=by
 by_cases h0:e=0
 ·subst h0
  have E:toldV (c,s,0)=⟨1,c,s,0⟩:=rfl
  rw [E]
  clear E
  try dsimp only [av,an,ao]
  go_enter Tryz.func32,Tryz.ntmps32
  go_upto_region 1 with fail
  obtain ⟨W0,iX,iR,hW,hX,hR,X0,R0,B0,LX,LR,LI,LS⟩:=mkDZ w c s
  rw [hW.out];try rw [hR.out];try rw [hX.out]
  clear hW hX hR
  have Xc0:=X0.out.c0;have Xc1:=X0.out.c1
  obtain ⟨Rc0,Rc1,Rc2,Rc3,Rf0,Rf1,Rf2,Rf3⟩:=R0.out.cf
  go_wp2_with fail
  exact ret4 4 rfl R0 B0 LR rfl rfl rfl
 ·have d1:decide (e=0)=false:=decide_eq_false h0
  have d2:(e==0)=false:=by simpa using h0
  by_cases h11:e=11
  ·subst h11
   have E:toldV (c,s,11)=badE 11:=rfl
   rw [E]
   try dsimp only [av,an,ao]
   go_enter Tryz.func32,Tryz.ntmps32
   go_upto_region 1 with fail
   obtain ⟨W0,iX,iR,hW,hX,hR,X0,R0,B0,LX,LR,LI,LS⟩:=mkDZ w c s
   rw [hW.out];try rw [hR.out];try rw [hX.out]
   clear hW hX hR
   go_wp2_with (go_at_call 23;(with_reducible refine (bad_vp (w:=_) 11).mono ?_);rintro e1 w1 ⟨rfl,q1⟩;have B1:=hB B0 q1;have R1:=hF R0 q1;clear q1 B0 R0;obtain ⟨Rc0,Rc1,Rc2,Rc3,Rf0,Rf1,Rf2,Rf3⟩:=R1.out.cf)
   exact ret4 4 rfl R1 B1 LR rfl rfl rfl
  ·have d12:decide (e=11)=false:=decide_eq_false h11
   have d12a:(e==11)=false:=by simpa using h11
   by_cases h12:e=12
   ·subst h12
    have E:toldV (c,s,12)=badE 12:=rfl
    rw [E]
    try dsimp only [av,an,ao]
    go_enter Tryz.func32,Tryz.ntmps32
    go_upto_region 1 with fail
    obtain ⟨W0,iX,iR,hW,hX,hR,X0,R0,B0,LX,LR,LI,LS⟩:=mkDZ w c s
    rw [hW.out];try rw [hR.out];try rw [hX.out]
    clear hW hX hR
    go_wp2_with (go_at_call 23;(with_reducible refine (bad_vp (w:=_) 12).mono ?_);rintro e1 w1 ⟨rfl,q1⟩;have B1:=hB B0 q1;have R1:=hF R0 q1;clear q1 B0 R0;obtain ⟨Rc0,Rc1,Rc2,Rc3,Rf0,Rf1,Rf2,Rf3⟩:=R1.out.cf)
    exact ret4 4 rfl R1 B1 LR rfl rfl rfl
   ·have d13:decide (e=12)=false:=decide_eq_false h12
    have d13a:(e==12)=false:=by simpa using h12
    have E:toldV (c,s,e)=badE 13:=by unfold toldV;simp only [h0,h11,h12,if_false]
    rw [E]
    clear E h0 h11 h12
    try dsimp only [av,an,ao]
    go_enter Tryz.func32,Tryz.ntmps32
    go_upto_region 1 with fail
    obtain ⟨W0,iX,iR,hW,hX,hR,X0,R0,B0,LX,LR,LI,LS⟩:=mkDZ w c s
    rw [hW.out];try rw [hR.out];try rw [hX.out]
    clear hW hX hR
    go_wp2_with (go_at_call 23;(with_reducible refine (bad_vp (w:=_) 13).mono ?_);rintro e1 w1 ⟨rfl,q1⟩;have B1:=hB B0 q1;have R1:=hF R0 q1;clear q1 B0 R0;obtain ⟨Rc0,Rc1,Rc2,Rc3,Rf0,Rf1,Rf2,Rf3⟩:=R1.out.cf)
    exact ret4 4 rfl R1 B1 LR rfl rfl rfl
end Go.Proofs.YteagpbkbdlmdiaaGreat.Ev
