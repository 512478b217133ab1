/-
  eval.ops, walked: a map of functions, whatever order they come into it; eval.ops, walked.
-/
import Derived.Test.YteagpbkbdlmdiaaGreatQ43
import Derived.Test.YteagpbkbdlmdiaaGreatQ1
set_option linter.unusedSimpArgs false
set_option linter.unusedVariables false
namespace Go.Proofs.YteagpbkbdlmdiaaGreat.Ev
open Go Go.ChangeMaps Go.RowKit Dt Tx Va
attribute [local go_sem ↓] Go.wp_at_zero Go.wp_at_succ
abbrev fn0 (F:FuncId):Value:=.func (.func F) #[] #[]
abbrev fn1 (F:FuncId) (b:Nat):Value:=.func (.func F) #[] #[.pointer (some ⟨b,0,none⟩)]
def Good (k op:Int) (c:Value) (w:World):Prop:=
 if op=5 then c=fn0 54
 else if op=6 then c=fn0 58
 else if op=7 then c=fn0 60
 else if op=8 then c=fn0 62
 else if op=9 then c=fn0 64
 else if op=10 then ∃ bf:Nat,c=fn1 115 bf∧Bx w bf 102 (fn0 66)
 else if op=11 then ∃ bf:Nat,c=fn1 115 bf∧Bx w bf 102 (fn0 67)
 else if op=12 then ∃ bf:Nat,c=fn1 115 bf∧Bx w bf 102 (fn0 68)
 else if op=13 then ∃ bf:Nat,c=fn1 115 bf∧Bx w bf 102 (fn0 69)
 else if op=14 then ∃ bf:Nat,c=fn1 119 bf∧Bx w bf 104 (fn0 71)
 else if op=15 then ∃ bf:Nat,c=fn1 119 bf∧Bx w bf 104 (fn0 72)
 else if op=16 then ∃ bf:Nat,c=fn1 119 bf∧Bx w bf 104 (fn0 73)
 else if op=17 then ∃ bf:Nat,c=fn1 119 bf∧Bx w bf 104 (fn0 74)
 else if op=18 then ∃ bf bc:Nat,c=fn1 119 bf∧Bx w bf 104 (fn1 128 bc)∧Bx w bc 69 (fn0 77)
 else if op=19 then c=fn0 81
 else if op=20 then ∃ bf bc:Nat,c=fn1 119 bf∧Bx w bf 104 (fn1 127 bc)∧Bx w bc 3 (.int .i64 (-1))
 else if op=21 then ∃ bf bc:Nat,c=fn1 119 bf∧Bx w bf 104 (fn1 127 bc)∧Bx w bc 3 (.int .i64 1)
 else if op=22 then ∃ bf bc:Nat,c=fn1 119 bf∧Bx w bf 104 (fn1 128 bc)∧Bx w bc 69 (fn0 78)
 else if op=23 then ∃ bf bc bk:Nat,c=fn1 119 bf∧Bx w bf 104 (fn1 128 bc)∧Bx w bc 69 (fn1 79 bk)∧Bx w bk 3 (.int .i64 k)
 else True
def Kc (w w':World):Prop:=∀ (i:Nat) (cs:Array Value) (t:TypeId) (fr:Nat × Nat),w.heap[i]?=some (.cells cs t fr)→w'.heap[i]?=some (.cells cs t fr)
theorem Kc.of_below {w w':World} (h:Below w.heap.size w w'):Kc w w':=fun i _ _ _ e=>(h.block i (Array.getElem?_eq_some_iff.1 e).1).trans e
theorem Bx.kc {w w':World} {b:Nat} {t:TypeId} {v:Value} (h:Bx w b t v) (k:Kc w w'):Bx w' b t v:=k _ _ _ _ h
def opsL:List (Int × Int):=[(5,2),(6,2),(7,1),(8,2),(9,2),(10,2),(11,2),(12,2),(13,2),(14,2),(15,2),(16,2),(17,2),(20,2),(21,2),(18,1),(22,1),(23,1),(19,3)]
theorem Good.kc {k op:Int} {m:Int} (hop:(op,m) ∈ opsL) {c:Value} {w w':World} (h:Good k op c w) (kc:Kc w w'):Good k op c w':=by
 simp only [opsL,List.mem_cons,Prod.mk.injEq,List.mem_nil_iff,or_false] at hop
 rcases hop with ⟨rfl,_⟩ | ⟨rfl,_⟩ | ⟨rfl,_⟩ | ⟨rfl,_⟩ | ⟨rfl,_⟩ | ⟨rfl,_⟩ | ⟨rfl,_⟩ | ⟨rfl,_⟩ | ⟨rfl,_⟩ | ⟨rfl,_⟩ | ⟨rfl,_⟩ | ⟨rfl,_⟩ | ⟨rfl,_⟩ | ⟨rfl,_⟩ | ⟨rfl,_⟩ | ⟨rfl,_⟩ | ⟨rfl,_⟩ | ⟨rfl,_⟩ | ⟨rfl,_⟩
 ·exact h
 ·exact h
 ·exact h
 ·exact h
 ·exact h
 ·obtain ⟨bf,e,h1⟩:=h;exact ⟨bf,e,h1.kc kc⟩
 ·obtain ⟨bf,e,h1⟩:=h;exact ⟨bf,e,h1.kc kc⟩
 ·obtain ⟨bf,e,h1⟩:=h;exact ⟨bf,e,h1.kc kc⟩
 ·obtain ⟨bf,e,h1⟩:=h;exact ⟨bf,e,h1.kc kc⟩
 ·obtain ⟨bf,e,h1⟩:=h;exact ⟨bf,e,h1.kc kc⟩
 ·obtain ⟨bf,e,h1⟩:=h;exact ⟨bf,e,h1.kc kc⟩
 ·obtain ⟨bf,e,h1⟩:=h;exact ⟨bf,e,h1.kc kc⟩
 ·obtain ⟨bf,e,h1⟩:=h;exact ⟨bf,e,h1.kc kc⟩
 ·obtain ⟨bf,bc,e,h1,h2⟩:=h;exact ⟨bf,bc,e,h1.kc kc,h2.kc kc⟩
 ·obtain ⟨bf,bc,e,h1,h2⟩:=h;exact ⟨bf,bc,e,h1.kc kc,h2.kc kc⟩
 ·obtain ⟨bf,bc,e,h1,h2⟩:=h;exact ⟨bf,bc,e,h1.kc kc,h2.kc kc⟩
 ·obtain ⟨bf,bc,e,h1,h2⟩:=h;exact ⟨bf,bc,e,h1.kc kc,h2.kc kc⟩
 ·obtain ⟨bf,bc,bk,e,h1,h2,h3⟩:=h;exact ⟨bf,bc,bk,e,h1.kc kc,h2.kc kc,h3.kc kc⟩
 ·exact h
def dstL:List (Option Nat):=[none,some 4,none,some 5,none,some 6,none,some 7,none,some 8,none,some 9,some 10,none,some 11,some 12,none,some 13,some 14,none,some 15,some 16,none,some 17,some 18,none,some 19,some 20,none,some 21,some 22,none,some 23,some 24,none,some 25,some 26,some 27,none,some 28,some 29,some 30,none,some 31,some 32,none,some 33,some 34,none,some 35,some 36,some 37,none,some 38,none]
def dstO (i:Nat):Option Nat:=(dstL[i]?).getD none
def insL:List (Option (Int × Int × Nat × Nat)):=[none,none,some (5,2,4,1),none,some (6,2,5,3),none,some (7,1,6,5),none,some (8,2,7,7),none,some (9,2,8,9),none,none,some (10,2,10,12),none,none,some (11,2,12,15),none,none,some (12,2,14,18),none,none,some (13,2,16,21),none,none,some (14,2,18,24),none,none,some (15,2,20,27),none,none,some (16,2,22,30),none,none,some (17,2,24,33),none,none,none,some (20,2,27,37),none,none,none,some (21,2,30,41),none,none,some (18,1,32,44),none,none,some (22,1,34,47),none,none,none,some (23,1,37,51),none,some (19,3,38,53)]
def insO (i:Nat):Option (Int × Int × Nat × Nat):=(insL[i]?).getD none
def bltL:List (Option (Int × Int)):=[none,none,none,none,some (5,2),some (6,2),some (7,1),some (8,2),some (9,2),none,some (10,2),none,some (11,2),none,some (12,2),none,some (13,2),none,some (14,2),none,some (15,2),none,some (16,2),none,some (17,2),none,none,some (20,2),none,none,some (21,2),none,some (18,1),none,some (22,1),none,none,some (23,1),some (19,3),none]
def cllL:List (Option Int):=[none,none,none,none,none,none,none,none,none,some 10,none,some 11,none,some 12,none,some 13,none,some 14,none,some 15,none,some 16,none,some 17,none,none,some 20,none,none,some 21,none,some 18,none,some 22,none,none,some 23,none,none,none]
def Slot (k:Int) (s:Nat) (v:Value) (w:World):Prop:=
 match (bltL[s]?).getD none with
 | some (op,m)=>∃ c,v=.agg #[.int .i64 m,c]∧Good k op c w
 | none=>
  match (cllL[s]?).getD none with
  | some op=>Good k op v w
  | none=>if s=25 then ∃ bc:Nat,v=fn1 127 bc∧Bx w bc 3 (.int .i64 (-1)) else if s=28 then ∃ bc:Nat,v=fn1 127 bc∧Bx w bc 3 (.int .i64 1) else if s=35 then ∃ bk:Nat,v=fn1 79 bk∧Bx w bk 3 (.int .i64 k) else True
theorem blt_mem:∀ s:Nat,∀ x,(bltL[s]?).getD none=some x→x ∈ opsL:=by
 intro s x h
 have hs:s<40:=by
  rcases Nat.lt_or_ge s 40 with h1 | h1
  ·exact h1
  ·rw [List.getElem?_eq_none (by simpa [bltL] using h1)] at h;cases h
 have key:∀ s,s<40→∀ x,(bltL[s]?).getD none=some x→x ∈ opsL:=by
  have:∀ s,s<40→((bltL[s]?).getD none).all (fun x=>decide (x ∈ opsL))=true:=by decide+kernel
  intro s hs x hx
  have:=this s hs
  rw [hx] at this
  simpa using this
 exact key s hs x h
theorem cll_mem:∀ s:Nat,∀ op,(cllL[s]?).getD none=some op→∃ m,(op,m) ∈ opsL:=by
 intro s x h
 have hs:s<40:=by
  rcases Nat.lt_or_ge s 40 with h1 | h1
  ·exact h1
  ·rw [List.getElem?_eq_none (by simpa [cllL] using h1)] at h;cases h
 have this:∀ s,s<40→((cllL[s]?).getD none).all (fun x=>decide ((x,(1:Int)) ∈ opsL) || decide ((x,(2:Int)) ∈ opsL))=true:=by decide+kernel
 have:=this s hs
 rw [h] at this
 simp only [Option.all_some,Bool.or_eq_true,decide_eq_true_eq] at this
 rcases this with h1 | h1
 ·exact ⟨_,h1⟩
 ·exact ⟨_,h1⟩
theorem Slot.kc {k:Int} {s:Nat} {v:Value} {w w':World} (h:Slot k s v w) (kc:Kc w w'):Slot k s v w':=by
 unfold Slot at h⊢
 cases hb:(bltL[s]?).getD none with
 | some x=>
  obtain ⟨op,m⟩:=x
  rw [hb] at h
  obtain ⟨c,e,g⟩:=h
  exact ⟨c,e,g.kc (blt_mem s _ hb) kc⟩
 | none=>
  rw [hb] at h
  simp only at h⊢
  cases hc:(cllL[s]?).getD none with
  | some op=>
   rw [hc] at h
   obtain ⟨m,hm⟩:=cll_mem s _ hc
   exact Good.kc hm h kc
  | none=>
   rw [hc] at h
   simp only at h⊢
   by_cases h1:s=25
   ·rw [if_pos h1] at h⊢;obtain ⟨b,e,g⟩:=h;exact ⟨b,e,g.kc kc⟩
   ·rw [if_neg h1] at h⊢
    by_cases h2:s=28
    ·rw [if_pos h2] at h⊢;obtain ⟨b,e,g⟩:=h;exact ⟨b,e,g.kc kc⟩
    ·rw [if_neg h2] at h⊢
     by_cases h3:s=35
     ·rw [if_pos h3] at h⊢;obtain ⟨b,e,g⟩:=h;exact ⟨b,e,g.kc kc⟩
     ·rw [if_neg h3] at h⊢;trivial
def domO (x:Value):Prop:=∃ l,keyOf Tryz.prog 5 x=some l
theorem kl_O:KL Tryz.prog 5 domO:=KL.of_keyed (Maps.int_keyed Tryz.underlying5)
def UniqT (T:List (Value × Value)):Prop:=∀ y ∈ T,∀ z ∈ T,y.1=z.1→y=z
structure Jo (k:Int) (w0:World) (bk:Nat) (l:Array Bool) (a:Act) (w:World):Prop where
 size:l.size=55
 tz:a.tmps.size=40
 df:a.defers=[]
 t1:a.tmps.getD 1 undef=.pointer (some ⟨bk,0,none⟩)
 bx:Bx w bk 3 (.int .i64 k)
 bel:Below w0.heap.size w0 w
 slots:∀ i s,dstO i=some s→l.getD i false=true→Slot k s (a.tmps.getD s undef) w
 mp:(l.getD 0 false=false∧∀ i e,insO i=some e→l.getD i false=false)∨
  (l.getD 0 false=true∧∃ (b:Nat) (T:List (Value × Value)),a.tmps.getD 3 undef=.map (some b)∧w0.heap.size≤b∧MapAt w b domO T∧UniqT T∧
   (∀ x ∈ T,∃ i op m s ib c,insO i=some (op,m,s,ib)∧l.getD i false=true∧x=(.int .u8 op,.agg #[.int .i64 m,c])∧(op,m) ∈ opsL∧Good k op c w)∧
   (∀ i op m s ib,insO i=some (op,m,s,ib)→l.getD i false=true→∃ x ∈ T,x.1=.int .u8 op))
theorem lt_of_dst {i s:Nat} (h:dstO i=some s):i<55:=by
 rcases Nat.lt_or_ge i 55 with h1 | h1
 ·exact h1
 ·unfold dstO at h;rw [List.getElem?_eq_none (by simpa [dstL] using h1)] at h;cases h
theorem lt_of_ins {i:Nat} {e:Int × Int × Nat × Nat} (h:insO i=some e):i<55:=by
 rcases Nat.lt_or_ge i 55 with h1 | h1
 ·exact h1
 ·unfold insO at h;rw [List.getElem?_eq_none (by simpa [insL] using h1)] at h;cases h
theorem dst_inj {i j s:Nat} (h:dstO i=some s) (h':dstO j=some s):i=j:=by
 have key:∀ i,i<55→∀ j,j<55→(dstO i).isSome=true→dstO i=dstO j→i=j:=by decide+kernel
 exact key i (lt_of_dst h) j (lt_of_dst h') (by rw [h];rfl) (h.trans h'.symm)
theorem dst_ne {i s:Nat} (h:dstO i=some s):s ≠ 1∧s ≠ 3∧s<40∧i ≠ 0∧insO i=none:=by
 have key:∀ i,i<55→(dstO i).all (fun s=>decide (s ≠ 1) && decide (s ≠ 3) && decide (s<40) && decide (i ≠ 0) && (insO i).isNone)=true:=by decide+kernel
 have:=key i (lt_of_dst h)
 rw [h] at this
 simpa [and_assoc] using this
theorem ins_ok {i:Nat} {op m:Int} {s ib:Nat} (h:insO i=some (op,m,s,ib)):(op,m) ∈ opsL∧(bltL[s]?).getD none=some (op,m)∧dstO ib=some s∧i ≠ 0∧dstO i=none∧0≤op∧op≤255:=by
 have key:∀ i,i<55→(insO i).all (fun e=>decide ((e.1,e.2.1) ∈ opsL) && decide ((bltL[e.2.2.1]?).getD none=some (e.1,e.2.1)) && decide (dstO e.2.2.2=some e.2.2.1) && decide (i ≠ 0) && (dstO i).isNone && decide (0≤e.1) && decide (e.1≤255))=true:=by decide+kernel
 have:=key i (lt_of_ins h)
 rw [h] at this
 simpa [and_assoc] using this
theorem ins_inj {i j:Nat} {op m m':Int} {s s' ib ib':Nat} (h:insO i=some (op,m,s,ib)) (h':insO j=some (op,m',s',ib')):i=j:=by
 have key:∀ i,i<55→∀ j,j<55→(insO i).isSome=true→(insO i).map (·.1)=(insO j).map (·.1)→i=j:=by decide+kernel
 exact key i (lt_of_ins h) j (lt_of_ins h') (by rw [h];rfl) (by rw [h,h'];rfl)
theorem getD_put_same {ts:Array Value} {s:Nat} (h:s<ts.size) (v:Value):(ts.setIfInBounds s v).getD s undef=v:=by simp [Array.getD_eq_getD_getElem?,h]
theorem getD_put_other {ts:Array Value} {s t:Nat} (h:s ≠ t) (v:Value):(ts.setIfInBounds s v).getD t undef=ts.getD t undef:=by simp [Array.getD_eq_getD_getElem?,Array.getElem?_setIfInBounds_ne h]
section
variable {k:Int} {w0 w:World} {bk:Nat} {l:Array Bool} {a:Act}
theorem Jo.start (h1:a.tmps.size=40) (h2:a.defers=[]) (h3:a.tmps.getD 1 undef=.pointer (some ⟨bk,0,none⟩)) (hb:Bx w bk 3 (.int .i64 k)) (hl:Below w0.heap.size w0 w):Jo k w0 bk (Array.replicate 55 false) a w:=
 ⟨by simp,h1,h2,h3,hb,hl,fun i s _ h=>(by rw [none_set] at h;cases h),.inl ⟨none_set _ _,fun i _ _=>none_set _ _⟩⟩
theorem Jo.fill (h:Jo k w0 bk l a w) {i s:Nat} (hd:dstO i=some s) {v:Value} {w':World} (hb:Below w.heap.size w w') (hs:Slot k s v w'):Jo k w0 bk (l.setIfInBounds i true) (a.put (some s) v) w':=by
 obtain ⟨n1,n3,n40,n0,nin⟩:=dst_ne hd
 have kc:=Kc.of_below hb
 have hi:=lt_of_dst hd
 refine ⟨by simpa using h.size,by show (a.tmps.setIfInBounds s v).size=40;simpa using h.tz,h.df,?_,h.bx.kc kc,?_,?_,?_⟩
 ·show (a.tmps.setIfInBounds s v).getD 1 undef=_
  rw [getD_put_other n1];exact h.t1
 ·exact h.bel.trans (hb.mono h.bel.size)
 ·intro j t hj hl
  show Slot k t ((a.tmps.setIfInBounds s v).getD t undef) w'
  by_cases e:i=j
  ·subst e
   have:s=t:=Option.some.inj (hd.symm.trans hj)
   subst this
   rw [getD_put_same (by rw [h.tz];exact n40)];exact hs
  ·have:s ≠ t:=fun e2=>e (dst_inj hd (e2 ▸ hj))
   rw [getD_put_other this]
   rw [set_other e] at hl
   exact (h.slots j t hj hl).kc kc
 ·have hne:∀ j e,insO j=some e→i ≠ j:=fun j e hj e2=>by subst e2;rw [nin] at hj;cases hj
  rcases h.mp with ⟨h0,hn⟩ | ⟨h0,b,T,e3,hb0,hm,hu,h5,h6⟩
  ·exact .inl ⟨by rw [set_other (by omega)];exact h0,fun j e hj=>by rw [set_other (hne j e hj)];exact hn j e hj⟩
  ·refine .inr ⟨by rw [set_other (by omega)];exact h0,b,T,?_,hb0,hm.below hb,hu,?_,?_⟩
   ·show (a.tmps.setIfInBounds s v).getD 3 undef=_
    rw [getD_put_other n3];exact e3
   ·intro x hx
    obtain ⟨j,op,m,s',ib,c,g1,g2,g3,g4,g5⟩:=h5 x hx
    exact ⟨j,op,m,s',ib,c,g1,by rw [set_other (hne j _ g1)];exact g2,g3,g4,g5.kc g4 kc⟩
   ·intro j op m s' ib g1 g2
    rw [set_other (hne j _ g1)] at g2
    exact h6 j op m s' ib g1 g2
theorem Jo.made (h:Jo k w0 bk l a w) (hf:l.getD 0 false=false):Jo k w0 bk (l.setIfInBounds 0 true) (a.put (some 3) (.map (some w.heap.size))) (w.alloc (.map #[] 0)):=by
 have hb:=ba w (.map #[] 0)
 have kc:=Kc.of_below hb
 rcases h.mp with ⟨_,hn⟩ | ⟨h0,_⟩
 ·refine ⟨by simpa using h.size,by show (a.tmps.setIfInBounds 3 _).size=40;simpa using h.tz,h.df,?_,h.bx.kc kc,h.bel.trans (hb.mono h.bel.size),?_,.inr ⟨set_same (by rw [h.size];decide),w.heap.size,[],?_,h.bel.size,MapAt.new _ _,fun y hy=>(by cases hy),fun x hx=>(by cases hx),?_⟩⟩
  ·show (a.tmps.setIfInBounds 3 _).getD 1 undef=_
   rw [getD_put_other (by decide)];exact h.t1
  ·intro j t hj hl
   obtain ⟨n1,n3,n40,n0,nin⟩:=dst_ne hj
   show Slot k t ((a.tmps.setIfInBounds 3 _).getD t undef) _
   rw [getD_put_other (fun e=>n3 e.symm)]
   rw [set_other (fun e=>n0 e.symm)] at hl
   exact (h.slots j t hj hl).kc kc
  ·show (a.tmps.setIfInBounds 3 _).getD 3 undef=_
   rw [getD_put_same (by rw [h.tz];decide)]
  ·intro i op m s ib h1 h2
   have:=(ins_ok h1).2.2.2.1
   rw [set_other (fun e=>this e.symm),hn i _ h1] at h2
   cases h2
 ·rw [hf] at h0;cases h0
theorem dom_op (op:Int) (h0:0≤op) (h1:op≤255):domO (.int .u8 op):=by
 have w1:(Lit.int .u8 op).wf=true:=by simp [Lit.wf,IntKind.has,IntKind.min,IntKind.max,IntKind.signed,IntKind.bits];omega
 unfold domO keyOf
 rw [Tryz.underlying5]
 simp [mapKey,Tryz.underlying5,w1]
theorem Jo.slot (h:Jo k w0 bk l a w) {i s:Nat} (hd:dstO i=some s) (hl:l.getD i false=true):Slot k s (a.tmps.getD s undef) w:=h.slots i s hd hl
theorem Jo.put (h:Jo k w0 bk l a w) {i:Nat} {op m:Int} {s ib:Nat} (hi:insO i=some (op,m,s,ib)) (hf:l.getD i false=false) (h0:l.getD 0 false=true) (hb:l.getD ib false=true) :
  ∃ (b:Nat) (c:Value) (w':World),a.tmps.getD 3 undef=.map (some b)∧a.tmps.getD s undef=.agg #[.int .i64 m,c]∧(Instr.mapUpdate 74 (.map (some b)) (.int .u8 op) (.agg #[.int .i64 m,c])).run Tryz.prog w=.ok () w'∧Jo k w0 bk (l.setIfInBounds i true) (a.put none undef) w':=by
 obtain ⟨hm,hbl,hdb,hi0,hdi,ho1,ho2⟩:=ins_ok hi
 have hs:=h.slots ib s hdb hb
 unfold Slot at hs
 rw [hbl] at hs
 obtain ⟨c,ec,gc⟩:=hs
 rcases h.mp with ⟨hn,_⟩ | ⟨_,b,T,e3,hb0,hM,hu,h5,h6⟩
 ·rw [h0] at hn;cases hn
 ·have hnew:∀ y ∈ T,y.1 ≠ .int .u8 op:=fun y hy e=>by
   obtain ⟨j,op',m',s',ib',c',g1,g2,g3,g4,g5⟩:=h5 y hy
   rw [g3] at e
   have:op'=op:=by simpa using e
   subst this
   have:=ins_inj g1 hi
   subst this
   rw [hf] at g2;cases g2
  obtain ⟨w',hrun,hM',hbel,hsz,hoth⟩:=hM.put kl_O Tryz.underlying74 (x:=.int .u8 op) (v:=.agg #[.int .i64 m,c]) (dom_op op ho1 ho2) hnew
  have kc:Kc w w':=fun j cs t fr e=>by
   by_cases ej:j=b
   ·subst ej
    obtain ⟨es,cl,hb',_⟩:=hM.ex
    rw [hb'] at e;cases e
   ·rw [hoth j ej];exact e
  refine ⟨b,c,w',e3,ec,hrun,by simpa using h.size,h.tz,h.df,h.t1,h.bx.kc kc,hbel _ hb0 _ h.bel,?_,.inr ⟨by rw [set_other hi0];exact h0,b,_,e3,hb0,hM',?_,?_,?_⟩⟩
  ·intro j t hj hl
   have:i ≠ j:=fun e=>by subst e;rw [hdi] at hj;cases hj
   rw [set_other this] at hl
   exact (h.slots j t hj hl).kc kc
  ·intro y hy z hz e
   rcases List.mem_cons.1 hy with rfl | hy
   ·rcases List.mem_cons.1 hz with rfl | hz
    ·rfl
    ·exact absurd e.symm (hnew z hz)
   ·rcases List.mem_cons.1 hz with rfl | hz
    ·exact absurd e (hnew y hy)
    ·exact hu y hy z hz e
  ·intro x hx
   rcases List.mem_cons.1 hx with rfl | hx
   ·exact ⟨i,op,m,s,ib,c,hi,set_same (by rw [h.size];exact lt_of_ins hi),rfl,hm,gc.kc hm kc⟩
   ·obtain ⟨j,op',m',s',ib',c',g1,g2,g3,g4,g5⟩:=h5 x hx
    refine ⟨j,op',m',s',ib',c',g1,?_,g3,g4,g5.kc g4 kc⟩
    by_cases e:i=j
    ·subst e;exact set_same (by rw [h.size];exact lt_of_ins hi)
    ·rw [set_other e];exact g2
  ·intro j op' m' s' ib' g1 g2
   by_cases e:i=j
   ·subst e
    rw [hi] at g1
    cases g1
    exact ⟨_,List.mem_cons_self,rfl⟩
   ·rw [set_other e] at g2
    obtain ⟨x,hx,ex⟩:=h6 j op' m' s' ib' g1 g2
    exact ⟨x,List.mem_cons_of_mem _ hx,ex⟩
structure OpsT (k:Int) (w:World) (T:List (Value × Value)):Prop where
 uniq:UniqT T
 all:∀ x ∈ T,∃ op m c,(op,m) ∈ opsL∧x=(.int .u8 op,.agg #[.int .i64 m,c])∧Good k op c w
 has:∀ op m,(op,m) ∈ opsL→∃ x ∈ T,x.1=.int .u8 op
theorem Jo.full (h:Jo k w0 bk l a w) (all:∀ i,i<55→l.getD i false=true):∃ (b:Nat) (T:List (Value × Value)),a.tmps.getD 3 undef=.map (some b)∧MapAt w b domO T∧OpsT k w T∧Below w0.heap.size w0 w:=by
 rcases h.mp with ⟨h0,_⟩ | ⟨_,b,T,e3,hb0,hM,hu,h5,h6⟩
 ·rw [all 0 (by decide)] at h0;cases h0
 ·refine ⟨b,T,e3,hM,⟨hu,fun x hx=>?_,fun op m hop=>?_⟩,h.bel⟩
  ·obtain ⟨j,op,m,s,ib,c,_,_,g3,g4,g5⟩:=h5 x hx
   exact ⟨op,m,c,g4,g3,g5⟩
  ·have key:∀ x ∈ opsL,∃ i,i<55∧(insO i).map (fun e=>(e.1,e.2.1))=some x:=by decide+kernel
   obtain ⟨i,hi,e⟩:=key _ hop
   cases hx:insO i with
   | none=>rw [hx] at e;cases e
   | some y=>
    obtain ⟨op',m',s,ib⟩:=y
    rw [hx] at e
    simp only [Option.map_some,Option.some.injEq,Prod.mk.injEq] at e
    obtain ⟨rfl,rfl⟩:=e
    exact h6 i _ _ s ib hx (all i hi)
end
end Go.Proofs.YteagpbkbdlmdiaaGreat.Ev
namespace Go.Proofs.YteagpbkbdlmdiaaGreat.Ev
open Go Go.ChangeMaps Go.RowKit Dt Tx Va
attribute [local go_sem ↓] Go.wp_at_zero Go.wp_at_succ
theorem built_does (m:Int) (fn:Fn) (x y:Array Value):(Tryz.prog.built 72 [(0,.int .i64 m),(1,.func fn x y)])=some #[.int .i64 m,.func fn x y]:=by kernel_rfl
theorem wp_does {Q:Exit→Act→World→Prop} {o:Oper} {a:Act} {w:World} {K:Act→World→Prop} {m:Int} {x:Operand} {fn:Fn} {p q:Array Value} (ho:o.op=.build 72 #[(0,.const (.int .i64 m)),(1,x)]) (hx:a.eval x=.func fn p q)
  (h:K (a.put o.dst (.agg #[.int .i64 m,.func fn p q])) w):o.wp Tryz.prog a w K Q:=by
 have hc:a.eval (.const (.int .i64 m))=.int .i64 m:=rfl
 have e:(#[((0:Nat),Operand.const (.int .i64 m)),(1,x)].map fun (i,x)=>(i,a.eval x)).toList=[(0,.int .i64 m),(1,.func fn p q)]:=by
  simp [hx,hc]
 refine wp_build _ _ ho (by rw [e,built_does];rfl) ?_
 rw [e,built_does]
 exact h
def Ji (k:Int) (w0:World) (bk i:Nat) (a:Act) (w:World):Prop:=∃ l,Jo k w0 bk l a w∧(∀ j,j<i→l.getD j false=true)∧∀ j,i≤j→l.getD j false=false
theorem up_to {l:Array Bool} {i:Nat} (hz:l.size=55) (hi:i<55) (h1:∀ j,j<i→l.getD j false=true) (h2:∀ j,i≤j→l.getD j false=false):(∀ j,j<i+1→(l.setIfInBounds i true).getD j false=true)∧∀ j,i+1≤j→(l.setIfInBounds i true).getD j false=false:=by
 constructor
 ·intro j hj
  by_cases e:i=j
  ·subst e;exact set_same (by omega)
  ·rw [set_other e];exact h1 j (by omega)
 ·intro j hj
  rw [set_other (by omega)];exact h2 j (by omega)
section
variable {k:Int} {w0 w:World} {bk i:Nat} {a:Act}
theorem Ji.start (h1:a.tmps.size=40) (h2:a.defers=[]) (h3:a.tmps.getD 1 undef=.pointer (some ⟨bk,0,none⟩)) (hb:Bx w bk 3 (.int .i64 k)) (hl:Below w0.heap.size w0 w):Ji k w0 bk 0 a w:=
 ⟨_,Jo.start h1 h2 h3 hb hl,fun j h=>absurd h (Nat.not_lt_zero j),fun j _=>none_set _ _⟩
theorem Ji.fill (h:Ji k w0 bk i a w) {s:Nat} (hd:dstO i=some s) {v:Value} {w':World} (hb:Below w.heap.size w w') (hs:Slot k s v w'):Ji k w0 bk (i+1) (a.put (some s) v) w':=by
 obtain ⟨l,hl,h1,h2⟩:=h
 have:=up_to hl.size (lt_of_dst hd) h1 h2
 exact ⟨_,hl.fill hd hb hs,this.1,this.2⟩
theorem Ji.made (h:Ji k w0 bk 0 a w):Ji k w0 bk 1 (a.put (some 3) (.map (some w.heap.size))) (w.alloc (.map #[] 0)):=by
 obtain ⟨l,hl,h1,h2⟩:=h
 have:=up_to hl.size (by decide) h1 h2
 exact ⟨_,hl.made (h2 0 (Nat.le_refl _)),this.1,this.2⟩
theorem Ji.slot (h:Ji k w0 bk i a w) {j s:Nat} (hj:j<i) (hd:dstO j=some s):Slot k s (a.tmps.getD s undef) w:=by
 obtain ⟨l,hl,h1,h2⟩:=h
 exact hl.slots j s hd (h1 j hj)
theorem Ji.put (h:Ji k w0 bk i a w) {op m:Int} {s ib:Nat} (hi:insO i=some (op,m,s,ib)) (h0:0<i) (hb:ib<i) :
  ∃ (b:Nat) (c:Value) (w':World),a.tmps.getD 3 undef=.map (some b)∧a.tmps.getD s undef=.agg #[.int .i64 m,c]∧(Instr.mapUpdate 74 (.map (some b)) (.int .u8 op) (.agg #[.int .i64 m,c])).run Tryz.prog w=.ok () w'∧Ji k w0 bk (i+1) (a.put none undef) w':=by
 obtain ⟨l,hl,h1,h2⟩:=h
 obtain ⟨b,c,w',e1,e2,e3,e4⟩:=hl.put hi (h2 i (Nat.le_refl _)) (h1 0 h0) (h1 ib hb)
 have:=up_to hl.size (lt_of_ins hi) h1 h2
 exact ⟨b,c,w',e1,e2,e3,_,e4,this.1,this.2⟩
variable {Q:Exit→Act→World→Prop} {ops:Array Oper} {rest:List Oper} {o:Oper}
theorem st_made (h:Ji k w0 bk 0 a w) (hg:o.guard=none) (hd:o.dst=some 3) {t:TypeId} (ho:o.op=Op.makeMap t none) (cont:∀ a' w',Ji k w0 bk 1 a' w'→wpList Tryz.prog ops Q rest a' w'):wpList Tryz.prog ops Q (o :: rest) a w:=
 wpList_plain hg fun K hK=>wp_makeMap ho (hK _ _ (cont _ _ (by rw [hd];exact h.made)))
theorem st_does (h:Ji k w0 bk i a w) (hg:o.guard=none) {s:Nat} (hd:o.dst=some s) (hi:dstO i=some s) {m:Int} {x:Operand} {fn:Fn} {p q:Array Value} (ho:o.op=.build 72 #[(0,.const (.int .i64 m)),(1,x)]) (hx:a.eval x=.func fn p q)
  (hs:Slot k s (.agg #[.int .i64 m,.func fn p q]) w) (cont:∀ a' w',Ji k w0 bk (i+1) a' w'→wpList Tryz.prog ops Q rest a' w'):wpList Tryz.prog ops Q (o :: rest) a w:=
 wpList_plain hg fun K hK=>wp_does ho hx (hK _ _ (cont _ _ (by rw [hd];exact h.fill hi (Below.refl _ _) hs)))
theorem st_ins (h:Ji k w0 bk i a w) (hg:o.guard=none) (hd:o.dst=none) {op m:Int} {s ib:Nat} (hi:insO i=some (op,m,s,ib)) (h0:0<i) (hb:ib<i) (ho:o.op=.insert 74 (.tmp 3) (.const (.int .u8 op)) (.tmp s))
  (cont:∀ a' w',Ji k w0 bk (i+1) a' w'→wpList Tryz.prog ops Q rest a' w'):wpList Tryz.prog ops Q (o :: rest) a w:=by
 obtain ⟨b,c,w2,e3,es,hrun,N⟩:=h.put hi h0 hb
 exact wpList_plain hg fun K hK=>wp_insert ho e3 rfl es hrun (hK _ _ (cont _ _ (by rw [hd];exact N)))
theorem Ji.full (h:Ji k w0 bk 55 a w):∃ (b:Nat) (T:List (Value × Value)),a.tmps.getD 3 undef=.map (some b)∧MapAt w b domO T∧OpsT k w T∧Below w0.heap.size w0 w:=by
 obtain ⟨l,hl,h1,h2⟩:=h
 exact hl.full fun i hi=>h1 i hi
end
def OpsPost (k:Int) (w:World) (e:Ending) (w':World):Prop:=∃ (b:Nat) (T:List (Value × Value)),e=.returned (.map (some b))∧MapAt w' b domO T∧OpsT k w' T∧Below w.heap.size w w'
set_option maxRecDepth 100000 in
set_option maxHeartbeats 4000000 in
theorem ops_is {w:World} (k:Int):Calls Tryz.prog 35 #[.int .i64 k] w (OpsPost k w):=by
 go_enter Tryz.func35,Tryz.ntmps35
 go_upto_region 1 with fail
 obtain ⟨W0,bk,hW,hX,X0,B0,LX,LI,LS⟩:=mk1 w (.cells #[.int .i64 k] 3)
 rw [hW.out]
 try rw [hX.out]
 clear hW hX
 refine wp_region_lit ?_
 have J:=Ji.start (k:=k) (w0:=W0) (bk:=bk) (w:=W0) (a:=⟨#[.int .i64 k,.pointer (some ⟨bk,0,none⟩),.map none,undef,undef,undef,undef,undef,undef,undef,undef,undef,undef,undef,undef,undef,undef,undef,undef,undef,undef,undef,undef,undef,undef,undef,undef,undef,undef,undef,undef,undef,undef,undef,undef,undef,undef,undef,undef,undef],[]⟩) rfl rfl rfl X0.out (Below.refl _ _)
 refine (fun (h:∀ a w,Ji k W0 bk 0 a w→_)=>h _ _ J) ?_
 clear J X0 LX LI LS
 intro a w1 J
 refine st_made J rfl rfl rfl fun a w1 J=>?_
 refine st_does J rfl rfl rfl rfl rfl ⟨_,rfl,rfl⟩ fun a w1 J=>?_
 refine st_ins J rfl rfl rfl (by decide) (by decide) rfl fun a w1 J=>?_
 refine st_does J rfl rfl rfl rfl rfl ⟨_,rfl,rfl⟩ fun a w1 J=>?_
 refine st_ins J rfl rfl rfl (by decide) (by decide) rfl fun a w1 J=>?_
 refine st_does J rfl rfl rfl rfl rfl ⟨_,rfl,rfl⟩ fun a w1 J=>?_
 refine st_ins J rfl rfl rfl (by decide) (by decide) rfl fun a w1 J=>?_
 refine st_does J rfl rfl rfl rfl rfl ⟨_,rfl,rfl⟩ fun a w1 J=>?_
 refine st_ins J rfl rfl rfl (by decide) (by decide) rfl fun a w1 J=>?_
 refine st_does J rfl rfl rfl rfl rfl ⟨_,rfl,rfl⟩ fun a w1 J=>?_
 refine st_ins J rfl rfl rfl (by decide) (by decide) rfl fun a w1 J=>?_
 refine wpList_plain rfl fun K hK=>?_
 go_simp
 refine (mk_order6 (w:=_)).mono ?_
 rintro e w2 ⟨bc,rfl,hb,hq⟩
 have N:=J.fill (s:=9) rfl hq ⟨bc,rfl,hb⟩
 refine hK _ _ ?_
 refine (fun (h:∀ a w,Ji k W0 bk _ a w→_)=>h _ _ N) ?_
 clear N J hK
 clear K
 intro a w1 J
 have hs:Slot k 9 (a.tmps.getD 9 undef) w1:=J.slot (j:=11) (by decide) rfl
 obtain ⟨bf,e,g⟩:=hs
 refine st_does J rfl rfl rfl rfl e ⟨_,rfl,⟨bf,rfl,g⟩⟩ fun a w1 J=>?_
 refine st_ins J rfl rfl rfl (by decide) (by decide) rfl fun a w1 J=>?_
 refine wpList_plain rfl fun K hK=>?_
 go_simp
 refine (mk_order7 (w:=_)).mono ?_
 rintro e w2 ⟨bc,rfl,hb,hq⟩
 have N:=J.fill (s:=11) rfl hq ⟨bc,rfl,hb⟩
 refine hK _ _ ?_
 refine (fun (h:∀ a w,Ji k W0 bk _ a w→_)=>h _ _ N) ?_
 clear N J hK
 clear K
 intro a w1 J
 have hs:Slot k 11 (a.tmps.getD 11 undef) w1:=J.slot (j:=14) (by decide) rfl
 obtain ⟨bf,e,g⟩:=hs
 refine st_does J rfl rfl rfl rfl e ⟨_,rfl,⟨bf,rfl,g⟩⟩ fun a w1 J=>?_
 refine st_ins J rfl rfl rfl (by decide) (by decide) rfl fun a w1 J=>?_
 refine wpList_plain rfl fun K hK=>?_
 go_simp
 refine (mk_order8 (w:=_)).mono ?_
 rintro e w2 ⟨bc,rfl,hb,hq⟩
 have N:=J.fill (s:=13) rfl hq ⟨bc,rfl,hb⟩
 refine hK _ _ ?_
 refine (fun (h:∀ a w,Ji k W0 bk _ a w→_)=>h _ _ N) ?_
 clear N J hK
 clear K
 intro a w1 J
 have hs:Slot k 13 (a.tmps.getD 13 undef) w1:=J.slot (j:=17) (by decide) rfl
 obtain ⟨bf,e,g⟩:=hs
 refine st_does J rfl rfl rfl rfl e ⟨_,rfl,⟨bf,rfl,g⟩⟩ fun a w1 J=>?_
 refine st_ins J rfl rfl rfl (by decide) (by decide) rfl fun a w1 J=>?_
 refine wpList_plain rfl fun K hK=>?_
 go_simp
 refine (mk_order9 (w:=_)).mono ?_
 rintro e w2 ⟨bc,rfl,hb,hq⟩
 have N:=J.fill (s:=15) rfl hq ⟨bc,rfl,hb⟩
 refine hK _ _ ?_
 refine (fun (h:∀ a w,Ji k W0 bk _ a w→_)=>h _ _ N) ?_
 clear N J hK
 clear K
 intro a w1 J
 have hs:Slot k 15 (a.tmps.getD 15 undef) w1:=J.slot (j:=20) (by decide) rfl
 obtain ⟨bf,e,g⟩:=hs
 refine st_does J rfl rfl rfl rfl e ⟨_,rfl,⟨bf,rfl,g⟩⟩ fun a w1 J=>?_
 refine st_ins J rfl rfl rfl (by decide) (by decide) rfl fun a w1 J=>?_
 refine wpList_plain rfl fun K hK=>?_
 go_simp
 refine (mk_two_add (w:=_)).mono ?_
 rintro e w2 ⟨bc,rfl,hb,hq⟩
 have N:=J.fill (s:=17) rfl hq ⟨bc,rfl,hb⟩
 refine hK _ _ ?_
 refine (fun (h:∀ a w,Ji k W0 bk _ a w→_)=>h _ _ N) ?_
 clear N J hK
 clear K
 intro a w1 J
 have hs:Slot k 17 (a.tmps.getD 17 undef) w1:=J.slot (j:=23) (by decide) rfl
 obtain ⟨bf,e,g⟩:=hs
 refine st_does J rfl rfl rfl rfl e ⟨_,rfl,⟨bf,rfl,g⟩⟩ fun a w1 J=>?_
 refine st_ins J rfl rfl rfl (by decide) (by decide) rfl fun a w1 J=>?_
 refine wpList_plain rfl fun K hK=>?_
 go_simp
 refine (mk_two_sub (w:=_)).mono ?_
 rintro e w2 ⟨bc,rfl,hb,hq⟩
 have N:=J.fill (s:=19) rfl hq ⟨bc,rfl,hb⟩
 refine hK _ _ ?_
 refine (fun (h:∀ a w,Ji k W0 bk _ a w→_)=>h _ _ N) ?_
 clear N J hK
 clear K
 intro a w1 J
 have hs:Slot k 19 (a.tmps.getD 19 undef) w1:=J.slot (j:=26) (by decide) rfl
 obtain ⟨bf,e,g⟩:=hs
 refine st_does J rfl rfl rfl rfl e ⟨_,rfl,⟨bf,rfl,g⟩⟩ fun a w1 J=>?_
 refine st_ins J rfl rfl rfl (by decide) (by decide) rfl fun a w1 J=>?_
 refine wpList_plain rfl fun K hK=>?_
 go_simp
 refine (mk_two_mul (w:=_)).mono ?_
 rintro e w2 ⟨bc,rfl,hb,hq⟩
 have N:=J.fill (s:=21) rfl hq ⟨bc,rfl,hb⟩
 refine hK _ _ ?_
 refine (fun (h:∀ a w,Ji k W0 bk _ a w→_)=>h _ _ N) ?_
 clear N J hK
 clear K
 intro a w1 J
 have hs:Slot k 21 (a.tmps.getD 21 undef) w1:=J.slot (j:=29) (by decide) rfl
 obtain ⟨bf,e,g⟩:=hs
 refine st_does J rfl rfl rfl rfl e ⟨_,rfl,⟨bf,rfl,g⟩⟩ fun a w1 J=>?_
 refine st_ins J rfl rfl rfl (by decide) (by decide) rfl fun a w1 J=>?_
 refine wpList_plain rfl fun K hK=>?_
 go_simp
 refine (mk_two_div (w:=_)).mono ?_
 rintro e w2 ⟨bc,rfl,hb,hq⟩
 have N:=J.fill (s:=23) rfl hq ⟨bc,rfl,hb⟩
 refine hK _ _ ?_
 refine (fun (h:∀ a w,Ji k W0 bk _ a w→_)=>h _ _ N) ?_
 clear N J hK
 clear K
 intro a w1 J
 have hs:Slot k 23 (a.tmps.getD 23 undef) w1:=J.slot (j:=32) (by decide) rfl
 obtain ⟨bf,e,g⟩:=hs
 refine st_does J rfl rfl rfl rfl e ⟨_,rfl,⟨bf,rfl,g⟩⟩ fun a w1 J=>?_
 refine st_ins J rfl rfl rfl (by decide) (by decide) rfl fun a w1 J=>?_
 refine wpList_plain rfl fun K hK=>?_
 go_simp
 refine (mk_les_min (w:=_)).mono ?_
 rintro e w2 ⟨bc,rfl,hb,hq⟩
 have N:=J.fill (s:=25) rfl hq ⟨bc,rfl,hb⟩
 refine hK _ _ ?_
 refine (fun (h:∀ a w,Ji k W0 bk _ a w→_)=>h _ _ N) ?_
 clear N J hK
 clear K
 intro a w1 J
 refine wpList_plain rfl fun K hK=>?_
 obtain ⟨bc,e,g⟩:Slot k 25 (a.tmps.getD 25 undef) w1:=J.slot (j:=35) (by decide) rfl
 have e:a.eval (.tmp 25)=_:=e
 go_simp
 refine (mk_two_les (w:=_) bc).mono ?_
 rintro e w2 ⟨bf,rfl,hb,hq⟩
 have N:=J.fill (s:=26) rfl hq ⟨bf,bc,rfl,hb,Bx.below g hq⟩
 refine hK _ _ ?_
 refine (fun (h:∀ a w,Ji k W0 bk _ a w→_)=>h _ _ N) ?_
 clear N J hK
 clear K
 intro a w1 J
 have hs:Slot k 26 (a.tmps.getD 26 undef) w1:=J.slot (j:=36) (by decide) rfl
 obtain ⟨bf,bc,e,g,g2⟩:=hs
 refine st_does J rfl rfl rfl rfl e ⟨_,rfl,⟨bf,bc,rfl,g,g2⟩⟩ fun a w1 J=>?_
 refine st_ins J rfl rfl rfl (by decide) (by decide) rfl fun a w1 J=>?_
 refine wpList_plain rfl fun K hK=>?_
 go_simp
 refine (mk_les_max (w:=_)).mono ?_
 rintro e w2 ⟨bc,rfl,hb,hq⟩
 have N:=J.fill (s:=28) rfl hq ⟨bc,rfl,hb⟩
 refine hK _ _ ?_
 refine (fun (h:∀ a w,Ji k W0 bk _ a w→_)=>h _ _ N) ?_
 clear N J hK
 clear K
 intro a w1 J
 refine wpList_plain rfl fun K hK=>?_
 obtain ⟨bc,e,g⟩:Slot k 28 (a.tmps.getD 28 undef) w1:=J.slot (j:=39) (by decide) rfl
 have e:a.eval (.tmp 28)=_:=e
 go_simp
 refine (mk_two_les (w:=_) bc).mono ?_
 rintro e w2 ⟨bf,rfl,hb,hq⟩
 have N:=J.fill (s:=29) rfl hq ⟨bf,bc,rfl,hb,Bx.below g hq⟩
 refine hK _ _ ?_
 refine (fun (h:∀ a w,Ji k W0 bk _ a w→_)=>h _ _ N) ?_
 clear N J hK
 clear K
 intro a w1 J
 have hs:Slot k 29 (a.tmps.getD 29 undef) w1:=J.slot (j:=40) (by decide) rfl
 obtain ⟨bf,bc,e,g,g2⟩:=hs
 refine st_does J rfl rfl rfl rfl e ⟨_,rfl,⟨bf,bc,rfl,g,g2⟩⟩ fun a w1 J=>?_
 refine st_ins J rfl rfl rfl (by decide) (by decide) rfl fun a w1 J=>?_
 refine wpList_plain rfl fun K hK=>?_
 go_simp
 refine (mk_one_neg (w:=_)).mono ?_
 rintro e w2 ⟨bf,bc,rfl,hb,hc,hq⟩
 have N:=J.fill (s:=31) rfl hq ⟨bf,bc,rfl,hb,hc⟩
 refine hK _ _ ?_
 refine (fun (h:∀ a w,Ji k W0 bk _ a w→_)=>h _ _ N) ?_
 clear N J hK
 clear K
 intro a w1 J
 have hs:Slot k 31 (a.tmps.getD 31 undef) w1:=J.slot (j:=43) (by decide) rfl
 obtain ⟨bf,bc,e,g,g2⟩:=hs
 refine st_does J rfl rfl rfl rfl e ⟨_,rfl,⟨bf,bc,rfl,g,g2⟩⟩ fun a w1 J=>?_
 refine st_ins J rfl rfl rfl (by decide) (by decide) rfl fun a w1 J=>?_
 refine wpList_plain rfl fun K hK=>?_
 go_simp
 refine (mk_one_abs (w:=_)).mono ?_
 rintro e w2 ⟨bf,bc,rfl,hb,hc,hq⟩
 have N:=J.fill (s:=33) rfl hq ⟨bf,bc,rfl,hb,hc⟩
 refine hK _ _ ?_
 refine (fun (h:∀ a w,Ji k W0 bk _ a w→_)=>h _ _ N) ?_
 clear N J hK
 clear K
 intro a w1 J
 have hs:Slot k 33 (a.tmps.getD 33 undef) w1:=J.slot (j:=46) (by decide) rfl
 obtain ⟨bf,bc,e,g,g2⟩:=hs
 refine st_does J rfl rfl rfl rfl e ⟨_,rfl,⟨bf,bc,rfl,g,g2⟩⟩ fun a w1 J=>?_
 refine st_ins J rfl rfl rfl (by decide) (by decide) rfl fun a w1 J=>?_
 refine wpList_plain rfl fun K hK=>?_
 obtain ⟨l,hl,h1,h2⟩:=J
 have e1:a.tmps[1]?.getD undef=.pointer (some ⟨bk,0,none⟩):=by have:=hl.t1;simpa [Array.getD_eq_getD_getElem?] using this
 have N:=Ji.fill (i:=49) (s:=35) (v:=fn1 79 bk) ⟨l,hl,h1,h2⟩ rfl (Below.refl _ _) ⟨bk,rfl,hl.bx⟩
 go_simp
 refine hK _ _ ?_
 refine (fun (h:∀ a w,Ji k W0 bk _ a w→_)=>h _ _ N) ?_
 clear N hl h1 h2 e1 hK
 clear K l
 intro a w1 J
 refine wpList_plain rfl fun K hK=>?_
 obtain ⟨bq,e,g⟩:Slot k 35 (a.tmps.getD 35 undef) w1:=J.slot (j:=49) (by decide) rfl
 have e:a.eval (.tmp 35)=_:=e
 go_simp
 refine (mk_one_rnd (w:=_) bq).mono ?_
 rintro e w2 ⟨bf,bc,rfl,hb,hc,hq⟩
 have N:=J.fill (s:=36) rfl hq ⟨bf,bc,bq,rfl,hb,hc,Bx.below g hq⟩
 refine hK _ _ ?_
 refine (fun (h:∀ a w,Ji k W0 bk _ a w→_)=>h _ _ N) ?_
 clear N J hK
 clear K
 intro a w1 J
 have hs:Slot k 36 (a.tmps.getD 36 undef) w1:=J.slot (j:=50) (by decide) rfl
 obtain ⟨bf,bc,bq,e,g,g2,g3⟩:=hs
 refine st_does J rfl rfl rfl rfl e ⟨_,rfl,⟨bf,bc,bq,rfl,g,g2,g3⟩⟩ fun a w1 J=>?_
 refine st_ins J rfl rfl rfl (by decide) (by decide) rfl fun a w1 J=>?_
 refine st_does J rfl rfl rfl rfl rfl ⟨_,rfl,rfl⟩ fun a w1 J=>?_
 refine st_ins J rfl rfl rfl (by decide) (by decide) rfl fun a w1 J=>?_
 obtain ⟨b,T,e3,hM,hT,hB⟩:=J.full
 obtain ⟨l,hl,_⟩:=J
 obtain ⟨ts,df⟩:=a
 obtain rfl:df=[]:=hl.df
 have hz:ts.size=40:=hl.tz
 have e3:ts[3]?.getD undef=.map (some b):=by have:ts.getD 3 undef=_:=e3;simpa [Array.getD_eq_getD_getElem?] using this
 have M':=Lib.hid hM;have T':=Lib.hid hT;have B':=Lib.hid (bt B0.out hB)
 clear hM hT hB hl
 go_wp2_with fail
 go_ret
 exact ⟨b,T,by simp [Array.getD_eq_getD_getElem?,hz],M'.out,T'.out,B'.out⟩
end Go.Proofs.YteagpbkbdlmdiaaGreat.Ev
