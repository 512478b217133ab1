/-
  A REGION WHOSE LAST OPERATIONS WAIT FOR ALL OTHERS: the others may be walked as a region of their own, the last ones behind it in their order; A map in memory by the table of its keys and elements, whatever the order they came in; a region that draws, by what holds behind each set of its operations.
-/
import Derived.Test.YteagpbkbdlmdiaaGreatQ0
import Derived.StillTail
import Derived.OrdersHeld
import Derived.Maps.Keyed
import Derived.Maps.RangeRun
import Derived.Carry
set_option linter.unusedSimpArgs false
set_option linter.unusedVariables false
namespace Go.Proofs.YteagpbkbdlmdiaaGreat
open Go
def headQ (P:Program) (ops:Array Oper) (Q:Exit→Act→World→Prop) (t:List Oper):Exit→Act→World→Prop
 | .normal,a,w=>wpList P ops Q t a w
 | e,a,w=>Q e a w
def headB (ops:Array Oper) (n:Nat):Bool:=
 (List.range n).all fun i=>((ops[i]?).map fun o=>o.guard.isNone && o.after.all fun e=>decide (e.on<i)).getD false
theorem headB_spec {ops:Array Oper} {n i:Nat} (h:headB ops n=true) (hi:i<n):∃ o,ops[i]?=some o∧o.guard=none∧∀ e ∈ o.after,e.on<i:=by
 have h1:=List.all_eq_true.1 h i (List.mem_range.2 hi)
 cases ho:ops[i]? with
 | none=>rw [ho] at h1;simp at h1
 | some o=>
  rw [ho] at h1
  simp only [Option.map_some,Option.getD_some,Bool.and_eq_true,Option.isNone_iff_eq_none] at h1
  refine ⟨o,rfl,h1.1,fun e he=>?_⟩
  have h2:=Array.all_eq_true_iff_forall_mem.1 h1.2 e he
  simpa using h2
section
variable {P:Program} {Q:Exit→Act→World→Prop} {md:Region.Mode} {ops:Array Oper}
theorem wpAny_more:∀ (f:Nat) (listed:Array Bool) (a:Act) (w:World),wpAny P md ops Q f listed a w→wpAny P md ops Q (f+1) listed a w
 | 0,_,_,_,h=>⟨fun _=>h.2,fun i hi=>by rw [h.1] at hi;cases hi⟩
 | f+1,_,_,_,h=>⟨h.1,fun i hi=>wpOp_mono (fun a' w' h'=>wpAny_more f _ a' w' h') (h.2 i hi)⟩
theorem wpAny_up (f:Nat) (listed:Array Bool) (a:Act) (w:World) (h:wpAny P md ops Q f listed a w):∀ k,wpAny P md ops Q (k+f) listed a w
 | 0=>by rw [Nat.zero_add];exact h
 | k+1=>by rw [show k+1+f=(k+f)+1 by omega];exact wpAny_more _ _ _ _ (wpAny_up f listed a w h k)
theorem first_unlisted (n:Nat) (f:Nat→Bool) (h:∃ i,i<n∧f i=false):∃ i,i<n∧f i=false∧∀ j,j<i→f j=true:=by
 induction n with
 | zero=>obtain ⟨i,hi,_⟩:=h;omega
 | succ n ih=>
  by_cases g:∃ i,i<n∧f i=false
  ·obtain ⟨i,h1,h2,h3⟩:=ih g
   exact ⟨i,by omega,h2,h3⟩
  ·obtain ⟨i,h1,h2⟩:=h
   refine ⟨i,h1,h2,fun j hj=>?_⟩
   cases hf:f j with
   | true=>rfl
   | false=>exact absurd ⟨j,by omega,hf⟩ g
theorem wpAny_head {l:List Oper} {n:Nat} (hn:n<l.length) (hB:headB l.toArray n=true) (hs:Region.sinkB md l.toArray n=true) (hc:Region.chainB md l.toArray n=true)
  (hq:Region.seqB md l.toArray (l.length - n) n (Array.replicate n true++Array.replicate (l.length - n) false)=true) :
  ∀ (f:Nat) (listed' listed:Array Bool) (a:Act) (w:World),HeadInv md l.toArray n listed→listed'.size=n→(∀ i,i<n→listed'.getD i true=listed.getD i true)→
   wpAny P md (l.take n).toArray (headQ P l.toArray Q (l.drop n)) f listed' a w→wpAny P md l.toArray Q (f+(l.length - n)) listed a w:=by
 intro f
 have hsz:l.toArray.size=l.length:=by simp
 have hop:∀ i,i<n→(l.take n).toArray[i]?=l.toArray[i]?:=fun i hi=>by simp [hi]
 induction f with
 | zero=>
  intro listed' listed a w inv hl' hag h
  by_cases hu:∃ i,i<n∧listed.getD i true=false
  ·exfalso
   obtain ⟨i,hi,hf,hall⟩:=first_unlisted n _ hu
   obtain ⟨o,ho,_,hed⟩:=headB_spec hB hi
   have:i ∈ Region.ready md (l.take n).toArray listed':=mem_ready.2 ⟨by rw [hag i hi];exact hf,o,by rw [hop i hi];exact ho,fun e he _=>by
    have h1:=hed e he
    have h2:=hall _ h1
    have h3:=hag e.on (by omega)
    rw [h2] at h3
    have h4:e.on<listed'.size:=by omega
    simp only [Array.getD_eq_getD_getElem?,Array.getElem?_eq_getElem h4,Option.getD_some] at h3⊢;exact h3⟩
   rw [h.1] at this;cases this
  ·have hL:listed=Array.replicate n true++Array.replicate (l.length - n) false:=by
    have s1:=inv.size
    refine Array.ext (by simp;omega) (fun i h1 h2=>?_)
    rcases Nat.lt_or_ge i n with hin | hin
    ·have:listed.getD i true=true:=by
      cases hx:listed.getD i true with
      | true=>rfl
      | false=>exact absurd ⟨i,hin,hx⟩ hu
     rw [Array.getElem_append_left (by simpa using hin)]
     simp only [Array.getD_eq_getD_getElem?,Array.getElem?_eq_getElem h1,Option.getD_some] at this
     simpa using this
    ·have:=inv.tail i hin (by omega)
     rw [Array.getElem_append_right (by simpa using hin)]
     simp only [Array.getD_eq_getD_getElem?,Array.getElem?_eq_getElem h1,Option.getD_some] at this
     simpa using this
   have hw:wpList P l.toArray Q (l.drop n) a w:=h.2
   have:=wpAny_of_seq (md:=md) (Q':=Q) (l.drop n) n listed a w (fun j=>by simp [List.getElem?_drop]) (by rw [hL,List.length_drop];exact hq) hw
   rw [List.length_drop] at this
   exact wpAny_up _ _ _ _ this 0
 | succ f ih=>
  intro listed' listed a w inv hl' hag h
  by_cases hu:∃ i,i<n∧listed.getD i true=false
  ·obtain ⟨i0,hi0,hf0,hall0⟩:=first_unlisted n _ hu
   have hmem:∀ i,i<n→(i ∈ Region.ready md l.toArray listed↔i ∈ Region.ready md (l.take n).toArray listed'):=fun i hi=>by
    rw [mem_ready,mem_ready,hag i hi,hop i hi]
    refine and_congr_right fun _=>exists_congr fun o=>and_congr_right fun ho=>?_
    obtain ⟨o',ho',_,hed⟩:=headB_spec hB hi
    have:o'=o:=Option.some.inj (ho'.symm.trans ho)
    subst this
    refine forall_congr' fun e=>forall_congr' fun he=>forall_congr' fun _=>?_
    have h1:=hed e he
    have h3:=hag e.on (by omega)
    have h4:e.on<listed'.size:=by omega
    have h5:e.on<listed.size:=by have:=inv.size;omega
    simp only [Array.getD_eq_getD_getElem?,Array.getElem?_eq_getElem h4,Array.getElem?_eq_getElem h5,Option.getD_some] at h3⊢
    rw [h3]
   have hlt:∀ j,j ∈ Region.ready md l.toArray listed→j<n:=fun j hj=>by
    rcases Nat.lt_or_ge j n with h1 | h1
    ·exact h1
    ·exact absurd hj (tail_waits hs hc (by omega) inv _ i0 rfl hi0 hf0 j h1)
   have hne:i0 ∈ Region.ready md l.toArray listed:=by
    obtain ⟨o,ho,_,hed⟩:=headB_spec hB hi0
    refine mem_ready.2 ⟨hf0,o,ho,fun e he _=>?_⟩
    have h1:=hed e he
    have h2:=hall0 _ h1
    have h5:e.on<listed.size:=by have:=inv.size;omega
    simp only [Array.getD_eq_getD_getElem?,Array.getElem?_eq_getElem h5,Option.getD_some] at h2⊢;exact h2
   rw [show f+1+(l.length - n)=f+(l.length - n)+1 by omega]
   refine ⟨fun h0=>(by rw [h0] at hne;cases hne),fun i hi=>?_⟩
   have hin:=hlt i hi
   have h1:=h.2 i ((hmem i hin).1 hi)
   obtain ⟨o,ho,hg,_⟩:=headB_spec hB hin
   have hrec:∀ a' w',wpAny P md (l.take n).toArray (headQ P l.toArray Q (l.drop n)) f (listed'.setIfInBounds i true) a' w'→wpAny P md l.toArray Q (f+(l.length - n)) (listed.setIfInBounds i true) a' w':=fun a' w' h'=>by
    refine ih _ _ a' w' (inv.set hi hin) (by simpa using hl') (fun k hk=>?_) h'
    by_cases hki:i=k
    ·subst hki
     have h4:i<listed'.size:=by omega
     have h5:i<listed.size:=by have:=inv.size;omega
     simp [Array.getD_eq_getD_getElem?,h4,h5]
    ·rw [getD_set_ne true hki,getD_set_ne true hki];exact hag k hk
   unfold wpOp at h1⊢
   rw [hop i hin] at h1
   simp only [ho] at h1⊢
   have hw1:∀ y,Region.wanted o y=true:=fun y=>by unfold Region.wanted;rw [hg]
   rw [hw1] at h1⊢
   simp only [if_true] at h1⊢
   rcases h1 with h1 | ⟨h1,h2⟩
   ·left
    unfold Oper.wp at h1⊢
    generalize (execOp a.eval o).run P w=r at*
    cases r with
    | ok n' w'=>
     cases n'<;>simp only [Oper.upon] at h1⊢
     case value u=>exact hrec _ _ h1
     case skip=>exact hrec _ _ h1
     case defer d=>exact hrec _ _ h1
     case enter f' args=>
      refine Calls.mono h1 fun e w'' he=>?_
      cases e with
      | returned u=>exact hrec _ _ he
      | panicked c=>exact he
      | outgrown=>exact he
     case row row args=>exact Rows.mono h1 fun u w'' he=>hrec _ _ he
    | halt x w'=>
     cases x<;>simp only [Oper.upon] at h1⊢
     case panic u=>exact h1
   ·right
    exact ⟨h1,h2⟩
  ·refine ih listed' listed a w inv hl' hag ?_ |>fun h'=>by rw [show f+1+(l.length - n)=(f+(l.length - n))+1 by omega];exact wpAny_more _ _ _ _ h'
   have hr:Region.ready md (l.take n).toArray listed'=[]:=by
    refine List.eq_nil_iff_forall_not_mem.2 fun j hj=>?_
    obtain ⟨h1,o,ho,_⟩:=mem_ready.1 hj
    have hjn:j<n:=by
     have:=(Array.getElem?_eq_some_iff.1 ho).1
     simp at this;omega
    exact hu ⟨j,hjn,by rw [←hag j hjn];exact h1⟩
   have hQ:=h.1 hr
   cases f with
   | zero=>exact ⟨hr,hQ⟩
   | succ f=>exact ⟨fun _=>hQ,by rw [hr];simp⟩
theorem wp_region_head {id:Nat} {a:Act} {w:World} {l:List Oper} (n:Nat) (hm:P.follows .mixedOrders=true)
  (hB:(decide (n<l.length) && headB l.toArray n && Region.sinkB .any l.toArray n && Region.chainB .any l.toArray n && Region.seqB .any l.toArray (l.length - n) n (Array.replicate n true++Array.replicate (l.length - n) false))=true)
  (h:wpAny P .any (l.take n).toArray (headQ P l.toArray Q (l.drop n)) n (Array.replicate n false) a w.drew):(Code.region id l.toArray true).wp P Q a w:=by
 simp only [Bool.and_eq_true,decide_eq_true_eq] at hB
 obtain ⟨⟨⟨⟨hn,h1⟩,h2⟩,h3⟩,h4⟩:=hB
 refine wp_region_any hm ?_
 have inv0:HeadInv .any l.toArray n (Array.replicate l.toArray.size false):=
  ⟨by simp,fun j oj _ hl=>(by rw [getD_replicate_false] at hl;cases hl),fun t _ ht=>getD_in (by simpa using ht) (getD_replicate_false _ _)⟩
 have:=wpAny_head (Q:=Q) hn h1 h2 h3 h4 n (Array.replicate n false) (Array.replicate l.toArray.size false) a w.drew inv0 (by simp) (fun i hi=>by
  have h5:i<l.length:=by omega
  simp [Array.getD_eq_getD_getElem?,hi,h5]) h
 rw [show n+(l.length - n)=l.toArray.size by simp;omega] at this
 exact this
theorem wp_head_held {S:World→Prop} {a:Act} {w:World} {l:List Oper} (n:Nat) (hl:l.length=n)
  (h:wpAnyH P .any l.toArray Q S l.toArray.size (Array.replicate l.toArray.size false) a w):wpAny P .any l.toArray Q n (Array.replicate n false) a w:=by
 subst hl
 exact wpAny_of_held _ _ _ _ (by simpa using h)
end
end Go.Proofs.YteagpbkbdlmdiaaGreat
namespace Go.Proofs.YteagpbkbdlmdiaaGreat
open Go Go.ChangeMaps Go.RowKit
structure KL (P:Program) (k:TypeId) (dom:Value→Prop):Prop where
 check:∀ (w:World) (em:Bool) {v:Value},dom v→(Instr.checkKey em 10000 k v).run P w=.ok () w
 find:∀ (w:World) {x:Value},dom x→∀ es:List MapEntry,(∀ e ∈ es,dom e.key)→
  ((Instr.findKey k x es).run P w=.ok none w∧∀ e ∈ es,e.key ≠ x)∨∃ j e,(Instr.findKey k x es).run P w=.ok (some (j,e.val)) w∧es[j]?=some e∧e.key=x
theorem KL.of_keyed {P:Program} {k:TypeId} (K:Maps.Keyed P k):KL P k (fun v=>∃ l,keyOf P k v=some l):=
 ⟨fun w em _ ⟨_,h⟩=>K.check w em h,fun w _ ⟨_,h⟩ es he=>K.find w h es he⟩
def kv (x:MapEntry):Value × Value:=(x.key,x.val)
structure MapAt (w:World) (b:Nat) (dom:Value→Prop) (T:List (Value × Value)):Prop where
 ex:∃ es clock,w.heap[b]?=some (.map es clock)∧(∀ x ∈ es.toList,x.born<clock)∧(es.toList.map (·.born)).Nodup∧(es.toList.map kv).Perm T
 dom:∀ x ∈ T,dom x.1
section
variable {P:Program} {w:World} {b:Nat} {dom:Value→Prop} {T:List (Value × Value)} {t k e:TypeId}
theorem MapAt.lt (h:MapAt w b dom T):b<w.heap.size:=by obtain ⟨es,c,hb,_⟩:=h.ex;exact (Array.getElem?_eq_some_iff.1 hb).1
theorem MapAt.perm {T':List (Value × Value)} (h:MapAt w b dom T) (p:T.Perm T'):MapAt w b dom T':=by
 obtain ⟨es,c,hb,h1,h2,h3⟩:=h.ex
 exact ⟨⟨es,c,hb,h1,h2,h3.trans p⟩,fun x hx=>h.dom x (p.mem_iff.2 hx)⟩
theorem MapAt.keep {w':World} (h:MapAt w b dom T) (e:w'.heap[b]?=w.heap[b]?):MapAt w' b dom T:=by
 obtain ⟨es,c,hb,r⟩:=h.ex
 exact ⟨⟨es,c,e.trans hb,r⟩,h.dom⟩
theorem MapAt.below {w':World} (h:MapAt w b dom T) (k:Below w.heap.size w w'):MapAt w' b dom T:=h.keep (k.block b h.lt)
theorem MapAt.new (w:World) (dom:Value→Prop):MapAt (w.alloc (.map #[] 0)) w.heap.size dom []:=
 ⟨⟨#[],0,(MapKept.heap_alloc w _).1,by simp,by simp,List.Perm.refl _⟩,by simp⟩
theorem MapAt.entry_dom {es:Array MapEntry} (hd:∀ x ∈ T,dom x.1) (h3:(es.toList.map kv).Perm T):∀ x ∈ es.toList,dom x.key:=fun x hx=>hd _ (h3.mem_iff.1 (List.mem_map.2 ⟨x,hx,rfl⟩))
theorem MapAt.put (h:MapAt w b dom T) (K:KL P k dom) (ht:P.underlying t=some (.map k e)) {x v:Value} (hx:dom x) (hn:∀ y ∈ T,y.1 ≠ x) :
  ∃ w',(Instr.mapUpdate t (.map (some b)) x v).run P w=.ok () w'∧MapAt w' b dom ((x,v) :: T)∧(∀ B,B≤b→∀ w0,Below B w0 w→Below B w0 w')∧w'.heap.size=w.heap.size∧∀ i,i ≠ b→w'.heap[i]?=w.heap[i]?:=by
 obtain ⟨es,c,hb,h1,h2,h3⟩:=h.ex
 have hd:=MapAt.entry_dom h.dom h3
 rcases K.find w hx es.toList hd with ⟨hf,hne⟩ | ⟨j,e0,_,he,hk⟩
 ·refine ⟨setBlock w b (.map (es.push ⟨x,v,c⟩) (c+1)),?_,⟨⟨_,_,heap_setBlock_same hb _,?_,?_,?_⟩,?_⟩,?_,by simp [setBlock],fun i hi=>heap_setBlock_other hb _ hi⟩
  ·simp [Instr.mapUpdate,run_underlying ht,MapKept.run_getObj_map hb,K.check w false hx,hf,MapKept.run_setObj_map _ hb,Result.andThen,setBlock]
  ·intro y hy
   simp only [Array.toList_push,List.mem_append,List.mem_singleton] at hy
   rcases hy with hy | rfl
   ·have:=h1 y hy;omega
   ·exact Nat.lt_succ_self _
  ·rw [Array.toList_push,List.map_append,List.nodup_append]
   refine ⟨h2,by simp,fun a ha y hy=>?_⟩
   obtain ⟨z,hz,rfl⟩:=List.mem_map.1 ha
   simp only [List.map_cons,List.map_nil,List.mem_singleton] at hy
   have:=h1 z hz;omega
  ·rw [Array.toList_push,List.map_append]
   refine (List.perm_append_comm).trans ?_
   exact h3.cons (x,v)
  ·intro y hy
   rcases List.mem_cons.1 hy with rfl | hy
   ·exact hx
   ·exact h.dom y hy
  ·intro B hB w0 hw
   refine ⟨hw.1,hw.2,hw.3,by have:=hw.size;simpa [setBlock] using this,fun i hi=>?_⟩
   rw [heap_setBlock_other hb _ (by omega)]
   exact hw.block i hi
 ·exfalso
  exact hn _ (h3.mem_iff.1 (List.mem_map.2 ⟨e0,List.mem_of_getElem? he,rfl⟩)) hk
theorem MapAt.look_some (h:MapAt w b dom T) (K:KL P k dom) (ht:P.underlying t=some (.map k e)) {x v:Value} (hu:∀ y ∈ T,∀ z ∈ T,y.1=z.1→y=z) (hm:(x,v) ∈ T) (c:Bool) :
  (Instr.lookup t (.map (some b)) x c).run P w=.ok (if c then .tuple #[v,.bool true] else v) w:=by
 obtain ⟨es,cl,hb,h1,h2,h3⟩:=h.ex
 have hd:=MapAt.entry_dom h.dom h3
 have hx:dom x:=h.dom _ hm
 rcases K.find w hx es.toList hd with ⟨hf,hne⟩ | ⟨j,e0,hf,he,hk⟩
 ·obtain ⟨y,hy,e1⟩:=List.mem_map.1 (h3.mem_iff.2 hm)
  exact absurd (congrArg Prod.fst e1) (hne y hy)
 ·have m0:kv e0 ∈ T:=h3.mem_iff.1 (List.mem_map.2 ⟨e0,List.mem_of_getElem? he,rfl⟩)
  have:=hu _ m0 _ hm hk
  have hv:e0.val=v:=congrArg Prod.snd this
  simp [Instr.lookup,run_underlying ht,MapKept.run_getObj_map hb,K.check w _ hx,hf,Result.andThen,hv]
theorem MapAt.look_none (h:MapAt w b dom T) (K:KL P k dom) (ht:P.underlying t=some (.map k e)) {z:Value} (hz:(zeroValue e).run P w=.ok z w) {x:Value} (hx:dom x) (hn:∀ y ∈ T,y.1 ≠ x) (c:Bool) :
  (Instr.lookup t (.map (some b)) x c).run P w=.ok (if c then .tuple #[z,.bool false] else z) w:=by
 obtain ⟨es,cl,hb,h1,h2,h3⟩:=h.ex
 have hd:=MapAt.entry_dom h.dom h3
 rcases K.find w hx es.toList hd with ⟨hf,hne⟩ | ⟨j,e0,hf,he,hk⟩
 ·simp [Instr.lookup,run_underlying ht,MapKept.run_getObj_map hb,K.check w _ hx,hf,hz,Result.andThen]
 ·exact absurd hk (hn _ (h3.mem_iff.1 (List.mem_map.2 ⟨e0,List.mem_of_getElem? he,rfl⟩)))
end
section
variable {P:Program} {Q:Exit→Act→World→Prop} {md:Region.Mode} {ops:Array Oper}
theorem wpOp_run {i:Nat} {o:Oper} {K:Act→World→Prop} {a:Act} {w:World} (ho:ops[i]?=some o) (hg:o.guard=none) (h:o.wp P a w K Q):wpOp P ops Q i K a w:=by
 unfold wpOp
 rw [ho]
 have:Region.wanted o (yielded ops a.tmps)=true:=by unfold Region.wanted;rw [hg]
 simp only [this,if_true]
 exact .inl h
theorem wp_makeMap {o:Oper} {K:Act→World→Prop} {a:Act} {w:World} {t:TypeId} (hop:o.op=Op.makeMap t none) (h:K (a.put o.dst (.map (some w.heap.size))) (w.alloc (.map #[] 0))):o.wp P a w K Q:=by
 have:=@run_makeMap P
 unfold Oper.wp
 simp [execOp,hop,this,Result.andThen]
 exact h
theorem wp_insert {o:Oper} {K:Act→World→Prop} {a:Act} {w w':World} {t:TypeId} {m x v:Operand} {M X V:Value} (hop:o.op=Op.insert t m x v) (hm:a.eval m=M) (hx:a.eval x=X) (hv:a.eval v=V)
  (hrun:(Instr.mapUpdate t M X V).run P w=.ok () w') (h:K (a.put o.dst undef) w'):o.wp P a w K Q:=by
 unfold Oper.wp
 simp [execOp,hop,hm,hx,hv,hrun,Result.andThen]
 exact h
theorem set_same {l:Array Bool} {i:Nat} (h:i<l.size):(l.setIfInBounds i true).getD i false=true:=by simp [Array.getD_eq_getD_getElem?,h]
theorem set_other {l:Array Bool} {i j:Nat} (h:i ≠ j):(l.setIfInBounds i true).getD j false=l.getD j false:=by simp [Array.getD_eq_getD_getElem?,Array.getElem?_setIfInBounds_ne h]
theorem none_set (n i:Nat):(Array.replicate n false).getD i false=false:=by
 simp only [Array.getD_eq_getD_getElem?,Array.getElem?_replicate]
 split<;>rfl
def leftN (l:Array Bool):Nat:=(l.toList.filter (fun x=>!x)).length
theorem leftN_set {l:Array Bool} {i:Nat} (h:l.getD i true=false):leftN (l.setIfInBounds i true)+1=leftN l:=by
 obtain ⟨l⟩:=l
 unfold leftN
 simp only [List.setIfInBounds_toArray]
 have hi:i<l.length:=by
  rcases Nat.lt_or_ge i l.length with k | k
  ·exact k
  ·simp [Array.getD_eq_getD_getElem?,k] at h
 have hv:l[i]=false:=by simpa [Array.getD_eq_getD_getElem?,hi] using h
 clear h
 induction l generalizing i with
 | nil=>simp at hi
 | cons x r ih=>
  cases i with
  | zero=>simp at hv;subst hv;simp
  | succ i=>
   simp at hi hv
   have:=ih hi hv
   simp only [List.set_cons_succ,List.filter_cons]
   split
   ·simp only [List.length_cons];omega
   ·exact this
theorem all_listed {n:Nat} {l:Array Bool} (hr:Region.ready md ops l=[]) (hB:headB ops n=true) (hz:l.size=n):∀ i,i<n→l.getD i false=true:=by
 have all:∀ i,i<n→l.getD i true=true:=fun i hi=>by
  cases hl:l.getD i true with
  | true=>rfl
  | false=>
   exfalso
   obtain ⟨i0,h1,h2,h3⟩:=first_unlisted n (fun i=>l.getD i true) ⟨i,hi,hl⟩
   obtain ⟨o,ho,_,hed⟩:=headB_spec hB h1
   have:i0 ∈ Region.ready md ops l:=mem_ready.2 ⟨h2,o,ho,fun e he _=>by
    have h4:=h3 _ (hed e he)
    have h5:e.on<l.size:=by have:=hed e he;omega
    simp only [Array.getD_eq_getD_getElem?,Array.getElem?_eq_getElem h5,Option.getD_some] at h4⊢;exact h4⟩
   rw [hr] at this;cases this
 intro i hi
 have:=all i hi
 have h5:i<l.size:=by omega
 simp only [Array.getD_eq_getD_getElem?,Array.getElem?_eq_getElem h5,Option.getD_some] at this⊢;exact this
theorem wpAny_inv (J:Array Bool→Act→World→Prop)
  (hstep:∀ l a w,J l a w→∀ i ∈ Region.ready md ops l,wpOp P ops Q i (J (l.setIfInBounds i true)) a w)
  (hdone:∀ l a w,J l a w→Region.ready md ops l=[]→Q .normal a w) :
  ∀ (fuel:Nat) (l:Array Bool) (a:Act) (w:World),leftN l≤fuel→J l a w→wpAny P md ops Q fuel l a w:=by
 intro fuel
 induction fuel with
 | zero=>
  intro l a w hf hJ
  have hr:Region.ready md ops l=[]:=List.eq_nil_iff_forall_not_mem.2 fun i hi=>by
   have:=leftN_set (mem_ready.1 hi).1;omega
  exact ⟨hr,hdone l a w hJ hr⟩
 | succ n ih=>
  intro l a w hf hJ
  refine ⟨fun hr=>hdone l a w hJ hr,fun i hi=>?_⟩
  have:=leftN_set (mem_ready.1 hi).1
  exact wpOp_mono (fun a' w' h'=>ih _ a' w' (by omega) h') (hstep l a w hJ i hi)
end
end Go.Proofs.YteagpbkbdlmdiaaGreat
