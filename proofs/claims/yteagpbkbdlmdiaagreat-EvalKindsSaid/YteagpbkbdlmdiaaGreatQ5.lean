/-
  HOW THE REFERENCE's NUMBERS LIE IN MEMORY: a row of thousands in a block; a number; both stand while nothing that was there is written; THE WALKS of the reference's short, Word, plus, minus, against.
-/
import Derived.Test.YteagpbkbdlmdiaaGreatQ0
import Derived.Test.YteagpbkbdlmdiaaGreatQ4
set_option linter.unusedSimpArgs false
set_option linter.unusedVariables false
namespace Go.Proofs.YteagpbkbdlmdiaaGreat
open Go.RowKit
def dv (d:Nat):Value:=.int .i64 (d:Int)
def RowW (w:World) (v:Value) (ds:List Nat):Prop:=w.ownsRow 0 3 1 v ds.length (ds.map dv)
def sg (neg:Bool) (n:Nat):Int:=if neg=true then -(n:Int) else (n:Int)
def Num (k:Nat) (w:World) (v:Value) (z:Int):Prop:=∃ (s:Value) (ds:List Nat),v=.agg #[.bool (decide (z<0)),s]∧RowW w s ds∧Nm.Canon ds∧Nm.val ds=z.natAbs∧ds.length≤k
theorem rowW_below {w w':World} {v:Value} {ds:List Nat} (h:RowW w v ds) (hb:Below w.heap.size w w'):RowW w' v ds:=by
 refine ⟨h.1,?_⟩
 rcases h.2 with hn | ⟨g,cap,cur,rfl,h0,hg,rest⟩
 ·exact .inl hn
 ·exact .inr ⟨g,cap,cur,rfl,h0,by rw [hb.block g (Array.getElem?_eq_some_iff.1 hg).1];exact hg,rest⟩
theorem num_below {k:Nat} {w w':World} {v:Value} {z:Int} (h:Num k w v z) (hb:Below w.heap.size w w'):Num k w' v z:=by
 obtain ⟨s,ds,e,hr,hc,hv,hk⟩:=h;exact ⟨s,ds,e,rowW_below hr hb,hc,hv,hk⟩
theorem rowW_nil (w:World):RowW w (.slice none 0 0) []:=World.ownsRow_nil w 0 _ 1
theorem rowW_form {w:World} {v:Value} {ds:List Nat} (h:RowW w v ds):∃ a cap,v=.slice a ds.length cap∧ds.length≤maxLen:=by
 rcases h.2 with ⟨rfl,hn⟩ | ⟨g,cap,cur,rfl,h0,hg,h1,h2,_⟩
 ·exact ⟨none,0,by rw [hn],by rw [hn];exact Nat.zero_le _⟩
 ·exact ⟨_,cap,rfl,Nat.le_trans h1 h2⟩
theorem rowW_some {w:World} {a:Option Addr} {n cap:Nat} {ds:List Nat} (h:RowW w (.slice a n cap) ds) (hi:0<ds.length):∃ g,a=some ⟨g,0,none⟩∧g<w.heap.size:=by
 rcases h.2 with ⟨_,hn⟩ | ⟨g,cap,cur,e,h0,hg,_⟩
 ·omega
 ·simp at e;exact ⟨g,e.1,(Array.getElem?_eq_some_iff.1 hg).1⟩
theorem rowW_at {w:World} {g n cap:Nat} {ds:List Nat} (h:RowW w (.slice (some ⟨g,0,none⟩) n cap) ds) (i d:Nat) (hd:ds[i]?=some d):w.cell? ⟨g,i,none⟩=some (.int .i64 (d:Int)):=by
 have hn:n=ds.length:=by
  rcases h.2 with ⟨e,_⟩ | ⟨_,_,_,e,_⟩<;>simp at e
  exact e.2.1
 subst hn
 have:=World.ownsRow.cellAt h i (by have:=(List.getElem?_eq_some_iff.1 hd).1;omega)
 rw [this,List.getElem?_map,hd];rfl
theorem rowW_at' {w:World} {g n cap:Nat} {ds:List Nat} (h:RowW w (.slice (some ⟨g,0,none⟩) n cap) ds) (i:Nat) (hi:i<ds.length):∃ d,ds[i]?=some d∧w.cell? ⟨g,i,none⟩=some (.int .i64 (d:Int)):=
 ⟨ds[i],List.getElem?_eq_getElem hi,rowW_at h i _ (List.getElem?_eq_getElem hi)⟩
theorem num_len {k j:Nat} {w:World} {v:Value} {z:Int} (h:Num k w v z) (hz:z.natAbs<1000 ^ j):Num j w v z:=by
 obtain ⟨s,ds,e,hr,hc,hv,hk⟩:=h;exact ⟨s,ds,e,hr,hc,hv,Nm.canon_len ds j hc (by rw [hv];exact hz)⟩
theorem num_mono {k j:Nat} {w:World} {v:Value} {z:Int} (h:Num k w v z) (hk:k≤j):Num j w v z:=by
 obtain ⟨s,ds,e,hr,hc,hv,h1⟩:=h;exact ⟨s,ds,e,hr,hc,hv,Nat.le_trans h1 hk⟩
theorem rowW_pop {w:World} {g n cap:Nat} {ds:List Nat} {d:Nat} (h:RowW w (.slice (some ⟨g,0,none⟩) n cap) (ds++[d])):RowW w (.slice (some ⟨g,0,none⟩) ds.length cap) ds:=by
 obtain ⟨h1,h2⟩:=h
 rcases h2 with ⟨e,_⟩ | ⟨g',cap',cur,e,h0,hg,hn,hc,hs,ht⟩
 ·simp at e
 ·simp only [Value.slice.injEq,Option.some.injEq,Addr.mk.injEq,and_true,true_and] at e
  obtain ⟨rfl,hn',rfl⟩:=e
  refine ⟨by simp,.inr ⟨g,cap,cur,rfl,h0,hg,by simp at hn;omega,hc,hs,?_⟩⟩
  have:=congrArg (List.take (ds.length*1)) ht
  rw [List.take_take,Nat.min_eq_left (by simp)] at this
  rw [this];simp
theorem sg_natAbs (neg:Bool) (n:Nat):(sg neg n).natAbs=n:=by unfold sg;split<;>omega
theorem sg_neg (neg:Bool) (n:Nat):decide (sg neg n<0)=(neg && decide (0<n)):=by
 unfold sg;cases neg<;>simp
 all_goals omega
theorem rowW_alloc {w:World} {v:Value} {ds:List Nat} (h:RowW w v ds) (o:Obj):RowW (w.alloc o) v ds:=rowW_below h (ba w o)
theorem rowW_drew {w:World} {v:Value} {ds:List Nat} (h:RowW w v ds):RowW w.drew v ds:=rowW_below h ((Below.refl _ _).drew)
theorem canon_pos (ds:List Nat) (h:Nm.Canon ds):decide (0<Nm.val ds)=decide (0<ds.length):=by
 have:=Nm.canon_zero ds h
 by_cases c:ds=[]
 ·subst c;rfl
 ·have a:0<ds.length:=List.length_pos_iff.2 c
  have b:0<Nm.val ds:=by have:=mt this.1 c;omega
  simp [a,b]
def RowB (w:World) (B:Nat) (v:Value) (ds:List Nat):Prop:=w.ownsRow B 3 1 v ds.length (ds.map dv)
theorem RowB.row {w:World} {B:Nat} {v:Value} {ds:List Nat} (h:RowB w B v ds):RowW w v ds:=by
 refine ⟨h.1,?_⟩
 rcases h.2 with hn | ⟨g,cap,cur,rfl,h0,rest⟩
 ·exact .inl hn
 ·exact .inr ⟨g,cap,cur,rfl,Nat.zero_le _,rest⟩
theorem rowB_nil (w:World) (B:Nat):RowB w B (.slice none 0 0) []:=World.ownsRow_nil w B _ 1
theorem rowB_below {w w':World} {B:Nat} {v:Value} {ds:List Nat} (h:RowB w B v ds) (hb:Below w.heap.size w w'):RowB w' B v ds:=by
 refine ⟨h.1,?_⟩
 rcases h.2 with hn | ⟨g,cap,cur,rfl,h0,hg,rest⟩
 ·exact .inl hn
 ·exact .inr ⟨g,cap,cur,rfl,h0,by rw [hb.block g (Array.getElem?_eq_some_iff.1 hg).1];exact hg,rest⟩
theorem info_int:(Tryz.prog.info? 3).map (fun i=>(i.zero,i.size,i.bytes))=some (some (.int .i64 0),1,8):=by kernel_rfl
theorem append1 {w:World} {ops:Array Oper} {rest:List Oper} {o:Oper} {a:Act} {Q:Exit→Act→World→Prop} (hgd:o.guard=none) (s x:Operand)
  (ho:o.op=.call {callee:=.builtin .append,args:=#[s,x],argTypes:=#[109,109]}) (B:Nat) (v:Value) (ds:List Nat) (hs:a.eval s=v) (hown:RowB w B v ds)
  (g d:Nat) (hx:a.eval x=.slice (some ⟨g,0,none⟩) 1 1) (hc:w.cell? ⟨g,0,none⟩=some (dv d)) (hl:ds.length<1000000) (hB:B≤w.heap.size)
  (h:∀ v' w',RowB w' B v' (ds++[d])→Below B w w'→wpList Tryz.prog ops Q rest (a.put o.dst v') w'):wpList Tryz.prog ops Q (o :: rest) a w:=by
 obtain ⟨i0,hi,hz0,hz1,hz2⟩:=info_parts info_int
 refine wpList_append_own _ hgd s x _ ho B 3 i0 (.int .i64 0) 1 8 Tryz.underlying109 hi hz0 hz1 hz2 rfl (by decide) v ds.length _ hs hown ⟨g,0,none⟩ 1 1 [dv d] hx rfl ?_ ?_ ?_ ?_ hB ?_
 ·intro j u hu
  rcases j with _ | j
  ·simp at hu;subst hu;simpa [Addr.add] using hc
  ·simp at hu
 ·intro u hu;simp at hu;subst hu;rfl
 ·simp only [maxLen];omega
 ·omega
 ·intro v' w' h1 h2 _
  refine h v' w' ?_ ((Below.refl _ _).grown h2 hB ?_)
  ·have e:(ds++[d]).length=ds.length+1:=by simp
   unfold RowB;rw [e,List.map_append];exact h1
  ·intro k hk;exact (World.ownsRow.lt hown k hk).1
theorem box_cell {w wr:World} {cs:Array Value} {t:TypeId} {B:Nat} (hb:Below B (w.alloc (.cells cs t)) wr) (hB:w.heap.size<B) (i:Nat) (v:Value) (hv:cs[i]?=some v):wr.cell? ⟨w.heap.size,i,none⟩=some v∧wr.frozen? ⟨w.heap.size,i,none⟩=false:=by
 have e:wr.heap[w.heap.size]?=some (.cells cs t (0,0)):=by rw [hb.block _ hB];exact heap_alloc_new w _
 exact ⟨by rw [cell_of_row wr _ _ cs t (0,0) e];exact hv,frozen_of_row wr _ _ cs t e⟩
theorem rowB_store {w:World} {B:Nat} {v:Value} {ds:List Nat} (h:RowB w B v ds) {p:Addr} (hp:p.block<B) (u:Value):RowB (w.setCell p u) B v ds:=ownsRow_setCell_below h hp u
theorem cell_new1 (w:World) (t:TypeId) (n:Int) (d:Nat) (h:n=(d:Int)):(w.alloc (.cells #[.int .i64 n] t)).cell? ⟨w.heap.size,0,none⟩=some (dv d):=by
 subst h;simp [dv]
def BoxAt (w:World) (b:Nat) (v0 v1:Value):Prop:=w.heap[b]?=some (.cells #[v0,v1] 147 (0,0))
theorem boxAt_new (w:World) (v0 v1:Value):BoxAt (w.alloc (.cells #[v0,v1] 147)) w.heap.size v0 v1:=heap_alloc_new w _
theorem BoxAt.lt {w:World} {b:Nat} {v0 v1:Value} (h:BoxAt w b v0 v1):b<w.heap.size:=(Array.getElem?_eq_some_iff.1 h).1
theorem boxAt_below {w w':World} {b:Nat} {v0 v1:Value} (h:BoxAt w b v0 v1) (hb:Below w.heap.size w w'):BoxAt w' b v0 v1:=by
 unfold BoxAt;rw [hb.block b h.lt];exact h
theorem BoxAt.c0 {w:World} {b:Nat} {v0 v1:Value} (h:BoxAt w b v0 v1):w.cell? ⟨b,0,none⟩=some v0:=by rw [cell_of_row w _ _ _ _ (0,0) h];rfl
theorem BoxAt.c1 {w:World} {b:Nat} {v0 v1:Value} (h:BoxAt w b v0 v1):w.cell? ⟨b,1,none⟩=some v1:=by rw [cell_of_row w _ _ _ _ (0,0) h];rfl
theorem BoxAt.f0 {w:World} {b:Nat} {v0 v1:Value} (h:BoxAt w b v0 v1):w.frozen? ⟨b,0,none⟩=false:=frozen_of_row w _ _ _ _ h
theorem BoxAt.f1 {w:World} {b:Nat} {v0 v1:Value} (h:BoxAt w b v0 v1):w.frozen? ⟨b,1,none⟩=false:=frozen_of_row w _ _ _ _ h
theorem heap_set {w:World} {b o:Nat} {cs:Array Value} {t:TypeId} (u:Value) (h:w.heap[b]?=some (.cells cs t (0,0))):(w.setCell ⟨b,o,none⟩ u).heap[b]?=some (.cells (cs.setIfInBounds o u) t (0,0)):=heap_setCell_same w b o cs t u h
theorem boxAt_set2 {w:World} {b:Nat} {v0 v1:Value} (u0 u1:Value) (h:BoxAt w b v0 v1):BoxAt ((w.setCell ⟨b,0,none⟩ u0).setCell ⟨b,1,none⟩ u1) b u0 u1:=heap_set u1 (heap_set u0 h)
theorem boxAt_set_other {w:World} {b b':Nat} {v0 v1:Value} (o:Nat) (u:Value) (h:BoxAt w b v0 v1) (hb:b ≠ b'):BoxAt (w.setCell ⟨b',o,none⟩ u) b v0 v1:=by
 unfold BoxAt;rw [Below.heap_setCell _ _ _ _ hb];exact h
theorem rowW_set {w:World} {v:Value} {ds:List Nat} {b o:Nat} {cs:Array Value} {t:TypeId} (u:Value) (h:RowW w v ds) (hb:w.heap[b]?=some (.cells cs t (0,0))) (ht:t ≠ 3):RowW (w.setCell ⟨b,o,none⟩ u) v ds:=by
 refine ⟨h.1,?_⟩
 rcases h.2 with hn | ⟨g,cap,cur,rfl,h0,hg,rest⟩
 ·exact .inl hn
 ·refine .inr ⟨g,cap,cur,rfl,h0,?_,rest⟩
  rw [Below.heap_setCell _ _ _ _ (by intro e;subst e;rw [hg] at hb;simp at hb;exact ht hb.2.symm)];exact hg
theorem rowW_set2 {w:World} {v:Value} {ds:List Nat} {b:Nat} {v0 v1:Value} (u0 u1:Value) (h:RowW w v ds) (hb:BoxAt w b v0 v1):RowW ((w.setCell ⟨b,0,none⟩ u0).setCell ⟨b,1,none⟩ u1) v ds:=
 rowW_set u1 (rowW_set u0 h hb (by decide)) (heap_set u0 hb) (by decide)
theorem num_set2 {k:Nat} {w:World} {v:Value} {z:Int} {b:Nat} {v0 v1:Value} (u0 u1:Value) (h:Num k w v z) (hb:BoxAt w b v0 v1):Num k ((w.setCell ⟨b,0,none⟩ u0).setCell ⟨b,1,none⟩ u1) v z:=by
 obtain ⟨s,ds,e,hr,hc,hv,hk⟩:=h;exact ⟨s,ds,e,rowW_set2 u0 u1 hr hb,hc,hv,hk⟩
theorem make1 {w:World} {ops:Array Oper} {rest:List Oper} {o:Oper} {a:Act} {Q:Exit→Act→World→Prop} (hgd:o.guard=none) (l c:Operand)
  (ho:o.op=Op.makeSlice 109 l c) (L:Int) (n:Nat) (hl:a.eval l=.int .i64 L) (hc:a.eval c=.int .i64 L) (hL:L=(n:Int)) (hn:n≤1000000)
  (h:∀ w',RowW w' (.slice (some ⟨w.heap.size,0,none⟩) n n) (List.replicate n 0)→Below w.heap.size w w'→w.heap.size<w'.heap.size→wpList Tryz.prog ops Q rest (a.put o.dst (.slice (some ⟨w.heap.size,0,none⟩) n n)) w'):wpList Tryz.prog ops Q (o :: rest) a w:=by
 obtain ⟨i0,hi,hz0,hz1,hz2⟩:=info_parts info_int
 refine wpList_make_full _ hgd l c _ ho 0 3 i0 (.int .i64 0) 1 Tryz.underlying109 hi hz0 hz1 .i64 .i64 L L n hl hc hL hL (by rw [hz2];omega) (by simp only [maxLen];omega) (Nat.zero_le _) ?_
 intro w' h1 h2
 have e:(madeCells (Value.int .i64 0).cells (n*1)).toList=(List.replicate n 0).map dv:=by
  show (madeCells #[Value.int .i64 0] (n*1)).toList=_
  rw [toList_madeCells_one,Nat.mul_one,List.map_replicate];rfl
 rw [e] at h1
 refine h w' ?_ ((Below.refl _ _).grown h2 (Nat.le_refl _) (by intro k hk;cases hk)) ?_
 ·unfold RowW;rw [List.length_replicate];exact h1
 ·exact (World.ownsRow.lt h1 _ rfl).2
theorem rowW_stored {w:World} {g n cap:Nat} {ds:List Nat} (h:RowW w (.slice (some ⟨g,0,none⟩) n cap) ds) (j d:Nat):RowW (w.setCell ⟨g,j,none⟩ (dv d)) (.slice (some ⟨g,0,none⟩) n cap) (ds.set j d):=by
 have hn:n=ds.length:=by
  rcases h.2 with ⟨e,_⟩ | ⟨_,_,_,e,_⟩<;>simp at e
  exact e.2.1
 subst hn
 have:=(World.ownsRow.stored h j (dv d)).1
 unfold RowW;rw [List.map_set];simpa using this
theorem rowW_frozen {w:World} {g n cap:Nat} {ds:List Nat} (h:RowW w (.slice (some ⟨g,0,none⟩) n cap) ds) (j:Nat):w.frozen? ⟨g,j,none⟩=false:=by
 have hn:n=ds.length:=by
  rcases h.2 with ⟨e,_⟩ | ⟨_,_,_,e,_⟩<;>simp at e
  exact e.2.1
 subst hn
 exact World.ownsRow.frozenAt h j
theorem boxAt_belowB {w w':World} {b B:Nat} {v0 v1:Value} (h:BoxAt w b v0 v1) (hb:Below B w w') (hB:b<B):BoxAt w' b v0 v1:=by
 unfold BoxAt;rw [hb.block b hB];exact h
end Go.Proofs.YteagpbkbdlmdiaaGreat
namespace Go.Proofs.YteagpbkbdlmdiaaGreat
set_option maxHeartbeats 1000000
open Go.RowKit
def NumPost (k:Nat) (z:Int) (w:World) (e:Ending) (w':World):Prop:=∃ v:Value,Num k w' v z∧e=.returned v∧Below w.heap.size w w'
def RowPost (P:List Nat→Prop) (w:World) (e:Ending) (w':World):Prop:=∃ (v:Value) (ds:List Nat),RowW w' v ds∧P ds∧e=.returned v∧Below w.heap.size w w'
def RowN (w:World) (a:Option Addr) (cap n:Nat) (es:List Nat):Prop:=es.length=n∧RowW w (.slice a n cap) es
theorem rowN_last {w:World} {a:Option Addr} {cap n:Nat} {es:List Nat} (h:RowN w a cap (n+1) es) :
  ∃ g fs d,a=some ⟨g,0,none⟩∧es=fs++[d]∧g<w.heap.size∧w.cell? ⟨g,n,none⟩=some (.int .i64 ((d:Nat):Int))∧n≤cap∧RowN w a cap n fs:=by
 obtain ⟨h1,h2⟩:=h
 have he:es ≠ []:=by intro e;subst e;simp at h1
 obtain ⟨fs,d,rfl⟩:=Nm.snoc_of es he
 have hn:fs.length=n:=by simpa using h1
 obtain ⟨g,rfl,hg⟩:=rowW_some h2 (by simp)
 have hc:=rowW_at h2 n d (by rw [←hn];simp)
 refine ⟨g,fs,d,rfl,rfl,hg,hc,?_,hn,?_⟩
 ·rcases h2.2 with ⟨e,_⟩ | ⟨_,_,_,e,_,_,h3,_⟩<;>simp at e
  rw [e.2.2];simp at h3;omega
 rw [←hn] at h2⊢
 exact rowW_pop h2
def lenOf:Value→Nat | .slice _ n _=>n | _=>0
def ShortPost (a:Option Addr) (cap k:Nat) (z:Int) (w:World) (e:Ending) (w':World):Prop:=∃ (b:Bool) (n:Nat),Num k w' (.agg #[.bool b,.slice a n cap]) z∧e=.returned (.agg #[.bool b,.slice a n cap])∧Below w.heap.size w w'
theorem short_at (neg:Bool) (a:Option Addr) (cap N:Nat) (ds:List Nat) (w:World) (hl:RowW w (.slice a N cap) ds) (hN0:ds.length=N) (hm:N≤maxLen) (hd:Nm.Digs ds) :
  Calls Tryz.prog 158 #[.bool neg,.slice a N cap] w (ShortPost a cap N (sg neg (Nm.val ds)) w):=by
 unfold maxLen at hm
 have HN:=Lib.hid hN0
 have HR:Hid (RowN w a cap N ds∧Nm.Digs ds):=⟨⟨HN.out,hl⟩,hd⟩
 clear hl hd HN hN0
 cases neg
 ·go_enter Tryz.func158,Tryz.ntmps158
  go_wp2
  go_loop [1] (fun v=>∃ (n:Nat) (es:List Nat),v=.slice a n cap∧Hid (RowN w a cap n es∧Nm.Digs es∧Nm.val es=Nm.val ds)∧n≤N) (fun v=>lenOf v)
  case atStart=>exact ⟨N,ds,rfl,⟨HR.out.1,HR.out.2,rfl⟩,Nat.le_refl _⟩
  case round=>
   obtain ⟨n,es,rfl,hr,hle⟩:=hrel
   rcases n with _ | n
   ·go_wp2
    have hes:es=[]:=List.eq_nil_of_length_eq_zero hr.out.1.1
    refine bodyPost_ret (v:=.agg #[.bool false,.slice a 0 cap]) (by simp [results,Tryz.results158,go_sem]) rfl ⟨_,_,?_,rfl,ba _ _⟩
    obtain ⟨h1,h2,h3⟩:=hr.out
    subst hes
    refine ⟨_,[],?_,rowW_alloc h1.2 _,Nm.canon_nil',by rw [h3,sg_natAbs],by simp⟩
    rw [sg_neg,←h3];rfl
   ·obtain ⟨g,fs,d,rfl,rfl,hg,hc,hnc,hf⟩:=rowN_last hr.out.1
    have HF:=Lib.hid hf
    clear hf
    by_cases hd:d=0
    ·subst hd
     have HP:=Lib.hid (Nm.canon_pop fs hr.out.2.1)
     go_wp2
     go_round
     case rel=>exact ⟨n,fs,rfl,⟨HF.out,HP.out.1,HP.out.2.trans hr.out.2.2⟩,by omega⟩
     case measure=>simp [lenOf]
    ·have hd0:(((d:Nat):Int)==0)=false:=by rw [beq_eq_false_iff_ne];omega
     have HDD:=Lib.hid hd
     clear hd
     go_wp2
     refine bodyPost_ret (v:=.agg #[.bool (false),.slice (some ⟨g,0,none⟩) (n+1) cap]) (by simp [results,Tryz.results158,go_sem]) rfl ⟨_,_,?_,rfl,ba _ _⟩
     obtain ⟨h1,h2,h3⟩:=hr.out
     have hcan:Nm.Canon (fs++[d]):=⟨h2,by simp;exact HDD.out⟩
     refine ⟨_,fs++[d],?_,rowW_alloc h1.2 _,hcan,by rw [h3,sg_natAbs],by rw [h1.1];exact hle⟩
     rw [sg_neg,←h3,canon_pos _ hcan];simp
 ·go_enter Tryz.func158,Tryz.ntmps158
  go_wp2
  go_loop [1] (fun v=>∃ (n:Nat) (es:List Nat),v=.slice a n cap∧Hid (RowN w a cap n es∧Nm.Digs es∧Nm.val es=Nm.val ds)∧n≤N) (fun v=>lenOf v)
  case atStart=>exact ⟨N,ds,rfl,⟨HR.out.1,HR.out.2,rfl⟩,Nat.le_refl _⟩
  case round=>
   obtain ⟨n,es,rfl,hr,hle⟩:=hrel
   rcases n with _ | n
   ·go_wp2
    have hes:es=[]:=List.eq_nil_of_length_eq_zero hr.out.1.1
    refine bodyPost_ret (v:=.agg #[.bool false,.slice a 0 cap]) (by simp [results,Tryz.results158,go_sem]) rfl ⟨_,_,?_,rfl,ba _ _⟩
    obtain ⟨h1,h2,h3⟩:=hr.out
    subst hes
    refine ⟨_,[],?_,rowW_alloc h1.2 _,Nm.canon_nil',by rw [h3,sg_natAbs],by simp⟩
    rw [sg_neg,←h3];rfl
   ·obtain ⟨g,fs,d,rfl,rfl,hg,hc,hnc,hf⟩:=rowN_last hr.out.1
    have HF:=Lib.hid hf
    clear hf
    by_cases hd:d=0
    ·subst hd
     have HP:=Lib.hid (Nm.canon_pop fs hr.out.2.1)
     go_wp2
     go_round
     case rel=>exact ⟨n,fs,rfl,⟨HF.out,HP.out.1,HP.out.2.trans hr.out.2.2⟩,by omega⟩
     case measure=>simp [lenOf]
    ·have hd0:(((d:Nat):Int)==0)=false:=by rw [beq_eq_false_iff_ne];omega
     have HDD:=Lib.hid hd
     clear hd
     go_wp2
     refine bodyPost_ret (v:=.agg #[.bool (true),.slice (some ⟨g,0,none⟩) (n+1) cap]) (by simp [results,Tryz.results158,go_sem]) rfl ⟨_,_,?_,rfl,ba _ _⟩
     obtain ⟨h1,h2,h3⟩:=hr.out
     have hcan:Nm.Canon (fs++[d]):=⟨h2,by simp;exact HDD.out⟩
     refine ⟨_,fs++[d],?_,rowW_alloc h1.2 _,hcan,by rw [h3,sg_natAbs],by rw [h1.1];exact hle⟩
     rw [sg_neg,←h3,canon_pos _ hcan];simp
theorem short_any (neg:Bool) (l:Value) (ds:List Nat) (w:World) (hl:RowW w l ds) (hd:Nm.Digs ds) :
  Calls Tryz.prog 158 #[.bool neg,l] w (NumPost ds.length (sg neg (Nm.val ds)) w):=by
 obtain ⟨a,cap,rfl,hm⟩:=rowW_form hl
 exact (short_at neg a cap _ ds w hl rfl hm hd).mono fun _ _ ⟨b,n,h1,h2,h3⟩=>⟨_,h1,h2,h3⟩
theorem word_any (n:Int) (w:World) (h0:0≤n) (h1:n<18446744073709551616) :
  Calls Tryz.prog 141 #[.int .u64 n] w (NumPost 7 n w):=by
 obtain ⟨N,rfl⟩:=Int.eq_ofNat_of_zero_le h0
 have hN2:Hid (N<18446744073709551616):=by show N<18446744073709551616;omega
 have hN:Hid (N<1000 ^ 7):=by show N<1000 ^ 7;omega
 clear h0 h1
 go_enter Tryz.func141,Tryz.ntmps141
 go_wp2
 go_loopw [0,3] (fun n l wr=>∃ (m:Nat) (es:List Nat) (a:Option Addr) (k cap:Nat),n=.int .u64 (m:Int)∧l=.slice a k cap∧Hid (RowB wr (w.heap.size+1) l es∧Nm.Digs es∧Nm.val es+1000 ^ es.length*m=N∧(0<m∨Nm.Canon es)∧es.length≤7)∧Below (w.heap.size+1) (w.alloc (.cells #[.bool false,.slice none 0 0] 147)) wr) (fun n _ _=>(intOf n).toNat)
 case atStart=>exact ⟨N,[],none,0,0,rfl,rfl,⟨rowB_nil _ _,Nm.digs_nil,by simp [Nm.val],.inr Nm.canon_nil',by simp⟩,Below.refl _ _⟩
 case round=>
  rename_i wr
  obtain ⟨m,es,a,k,cap,rfl,rfl,hr,hb⟩:=hrel
  obtain ⟨c0,f0⟩:=box_cell hb (by omega) 0 _ rfl
  obtain ⟨c1,f1⟩:=box_cell hb (by omega) 1 _ rfl
  have hsz:w.heap.size+1≤wr.heap.size:=by have:=hb.size;simpa using this
  by_cases hm0:0<m
  ·have HL:Hid (es.length<7):=by
    obtain ⟨h1,h2,h3,h4,h5⟩:=hr.out
    rcases Nat.lt_or_ge es.length 7 with g | g
    ·exact g
    ·have q:=hN.out
     have e:es.length=7:=by omega
     rw [e] at h3
     have:1000 ^ 7*1≤1000 ^ 7*m:=Nat.mul_le_mul_left _ hm0
     omega
   have hw:IntKind.u64.wrap ((m:Int) / 1000)=(m:Int) / 1000:=by
    have q:=hN2.out;have h3:=hr.out.2.2.1
    have:1*m≤1000 ^ es.length*m:=Nat.mul_le_mul_right _ (Nm.pow_pos' _)
    rw [IntKind.wrap_u64];omega
   have HM:Hid (m % 1000<1000∧m / 1000<m):=⟨by omega,by omega⟩
   go_wp2_with (at_builtin;refine append1 rfl _ _ rfl (w.heap.size+1) _ es rfl (rowB_below hr.out.1 (ba _ _)) wr.heap.size (m % 1000) rfl ?_ (by have:=HL.out;omega) (by simp;omega) ?_)
   ·simp [dv]
   ·intro v' w1 hown1 hb1
    have HO:=Lib.hid hown1
    obtain ⟨a',cap',rfl,_⟩:=rowW_form hown1.row
    have HB:Hid (Below (w.heap.size+1) (w.alloc (.cells #[.bool false,.slice none 0 0] 147)) w1):=hb.trans (((Below.refl _ _).alloc hsz _).trans hb1)
    clear hown1 hb1 c0 c1 f0 f1 hsz
    go_wp2
    go_roundw
    case rel=>
     refine ⟨m / 1000,es++[m % 1000],a',_,cap',by simp,rfl,⟨HO.out,?_,?_,?_,?_⟩,HB.out⟩
     ·exact Nm.digs_snoc _ _ hr.out.2.1 HM.out.1
     ·rw [Nm.val_snoc,List.length_append,List.length_singleton,Nm.pow_succ',Nat.mul_assoc,Nat.mul_left_comm 1000,Nat.add_assoc,←Nat.mul_add]
      rw [show m % 1000+1000*(m / 1000)=m from by omega];exact hr.out.2.2.1
     ·rcases Nat.eq_zero_or_pos (m / 1000) with e | e
      ·right;exact ⟨Nm.digs_snoc _ _ hr.out.2.1 HM.out.1,by simp;omega⟩
      ·left;exact e
     ·simp;have:=HL.out;omega
    case measure=>simp [intOf];omega
  ·obtain rfl:m=0:=by omega
   go_wp2_with fail
   refine bodyPost_ret (v:=.agg #[.bool false,.slice a k cap]) (by simp [results,Tryz.results141,go_sem,c0,c1]) rfl ⟨_,?_,rfl,?_⟩
   ·obtain ⟨h1,h2,h3,h4,h5⟩:=hr.out
    refine ⟨.slice a k cap,es,by simp,?_,by simpa using h4,by simpa using h3,h5⟩
    exact (rowB_store (rowB_store h1 (p:=⟨w.heap.size,0,none⟩) (Nat.lt_succ_self _) _) (p:=⟨w.heap.size,1,none⟩) (Nat.lt_succ_self _) _).row
   ·exact (((ba _ _).trans (hb.mono (Nat.le_succ _))).setCell (Nat.le_refl _) _).setCell (Nat.le_refl _) _
end Go.Proofs.YteagpbkbdlmdiaaGreat
