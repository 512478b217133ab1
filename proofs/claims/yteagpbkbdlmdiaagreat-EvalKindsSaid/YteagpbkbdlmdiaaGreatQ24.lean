/-
  The document's eval: same, single, pair, walked; ROWS OF ANY ELEMENT TYPE: a row of the call's own, a row that came in; append, at each place where it may stand; eval and its document: operand, walked; eval and its document: the place of an operand, walked; eval and its document: Operands, Same, walked.
-/
import Derived.Test.YteagpbkbdlmdiaaGreatQ23
import Derived.Test.YteagpbkbdlmdiaaGreatQ22
import Derived.Test.YteagpbkbdlmdiaaGreatQ0
import Derived.Maps.AppendAt
import Derived.Laws.OwnMore
import Derived.OwnWalk
import Derived.OwnWalkIn
import Derived.OrdersIn
import Derived.Laws.StructEq
import Derived.BigQuiet
import Derived.Deep.QuietTactic
set_option linter.unusedSimpArgs false
set_option linter.unusedVariables false
namespace Go.Proofs.YteagpbkbdlmdiaaGreat.Ev
open Go Go.RowKit Dt Tx Va
attribute [local go_sem ↓] Go.wp_at_zero Go.wp_at_succ
def Nine (w:World) (b:Nat) (n:Nd):Prop:=w.heap[b]?=some (.cells #[.int .u8 n.op,.int .i64 n.c,.int .i64 n.s,.string (bs n.n),.int .i64 n.k,.int .i64 n.x,.int .i64 n.y,.int .i64 n.z,.int .i64 n.p] 39 (0,0))
theorem Nine.lt {w:World} {b:Nat} {n:Nd} (h:Nine w b n):b<w.heap.size:=(Array.getElem?_eq_some_iff.1 h).1
theorem Nine.c0 {w:World} {b:Nat} {n:Nd} (h:Nine w b n):w.cell? ⟨b,0,none⟩=some (.int .u8 n.op):=by rw [cell_of_row w _ _ _ _ (0,0) h];rfl
theorem Nine.c1 {w:World} {b:Nat} {n:Nd} (h:Nine w b n):w.cell? ⟨b,1,none⟩=some (.int .i64 n.c):=by rw [cell_of_row w _ _ _ _ (0,0) h];rfl
theorem Nine.c2 {w:World} {b:Nat} {n:Nd} (h:Nine w b n):w.cell? ⟨b,2,none⟩=some (.int .i64 n.s):=by rw [cell_of_row w _ _ _ _ (0,0) h];rfl
theorem Nine.c3 {w:World} {b:Nat} {n:Nd} (h:Nine w b n):w.cell? ⟨b,3,none⟩=some (.string (bs n.n)):=by rw [cell_of_row w _ _ _ _ (0,0) h];rfl
theorem Nine.c4 {w:World} {b:Nat} {n:Nd} (h:Nine w b n):w.cell? ⟨b,4,none⟩=some (.int .i64 n.k):=by rw [cell_of_row w _ _ _ _ (0,0) h];rfl
theorem Nine.c5 {w:World} {b:Nat} {n:Nd} (h:Nine w b n):w.cell? ⟨b,5,none⟩=some (.int .i64 n.x):=by rw [cell_of_row w _ _ _ _ (0,0) h];rfl
theorem Nine.c6 {w:World} {b:Nat} {n:Nd} (h:Nine w b n):w.cell? ⟨b,6,none⟩=some (.int .i64 n.y):=by rw [cell_of_row w _ _ _ _ (0,0) h];rfl
theorem Nine.c7 {w:World} {b:Nat} {n:Nd} (h:Nine w b n):w.cell? ⟨b,7,none⟩=some (.int .i64 n.z):=by rw [cell_of_row w _ _ _ _ (0,0) h];rfl
theorem Nine.c8 {w:World} {b:Nat} {n:Nd} (h:Nine w b n):w.cell? ⟨b,8,none⟩=some (.int .i64 n.p):=by rw [cell_of_row w _ _ _ _ (0,0) h];rfl
theorem Nine.f {w:World} {b:Nat} {n:Nd} (h:Nine w b n) (i:Nat):w.frozen? ⟨b,i,none⟩=false:=frozen_of_row w _ _ _ _ h
theorem Nine.below {w:World} {b:Nat} {n:Nd} {w':World} (h:Nine w b n) (k:Below w.heap.size w w'):Nine w' b n:=(k.block b h.lt).trans h
def OpdB (w:World) (b:Nat) (q:Opd):Prop:=w.heap[b]?=some (.cells #[.int .u8 q.op,.string (bs q.n),.int .i64 q.k] 43 (0,0))
theorem OpdB.lt {w:World} {b:Nat} {q:Opd} (h:OpdB w b q):b<w.heap.size:=(Array.getElem?_eq_some_iff.1 h).1
theorem OpdB.c0 {w:World} {b:Nat} {q:Opd} (h:OpdB w b q):w.cell? ⟨b,0,none⟩=some (.int .u8 q.op):=by rw [cell_of_row w _ _ _ _ (0,0) h];rfl
theorem OpdB.c1 {w:World} {b:Nat} {q:Opd} (h:OpdB w b q):w.cell? ⟨b,1,none⟩=some (.string (bs q.n)):=by rw [cell_of_row w _ _ _ _ (0,0) h];rfl
theorem OpdB.c2 {w:World} {b:Nat} {q:Opd} (h:OpdB w b q):w.cell? ⟨b,2,none⟩=some (.int .i64 q.k):=by rw [cell_of_row w _ _ _ _ (0,0) h];rfl
theorem OpdB.f {w:World} {b:Nat} {q:Opd} (h:OpdB w b q) (i:Nat):w.frozen? ⟨b,i,none⟩=false:=frozen_of_row w _ _ _ _ h
theorem OpdB.below {w:World} {b:Nat} {q:Opd} {w':World} (h:OpdB w b q) (k:Below w.heap.size w w'):OpdB w' b q:=(k.block b h.lt).trans h
def noO:Opd:=⟨0,[],0⟩
theorem hN {w a:World} {i:Nat} {n:Nd} (h:Hid (Nine w i n)) (q:Below w.heap.size w a):Hid (Nine a i n):=Lib.hid (h.out.below q)
theorem hO {w a:World} {i:Nat} {n:Opd} (h:Hid (OpdB w i n)) (q:Below w.heap.size w a):Hid (OpdB a i n):=Lib.hid (h.out.below q)
theorem Nine.cs {w:World} {i:Nat} {n:Nd} (h:Nine w i n):w.cell? ⟨i,0,none⟩=some (.int .u8 n.op)∧w.cell? ⟨i,1,none⟩=some (.int .i64 n.c)∧w.cell? ⟨i,2,none⟩=some (.int .i64 n.s)∧w.cell? ⟨i,3,none⟩=some (.string (bs n.n))∧w.cell? ⟨i,4,none⟩=some (.int .i64 n.k)∧w.cell? ⟨i,5,none⟩=some (.int .i64 n.x)∧w.cell? ⟨i,6,none⟩=some (.int .i64 n.y)∧w.cell? ⟨i,7,none⟩=some (.int .i64 n.z)∧w.cell? ⟨i,8,none⟩=some (.int .i64 n.p):=⟨h.c0,h.c1,h.c2,h.c3,h.c4,h.c5,h.c6,h.c7,h.c8⟩
theorem mkNVZ (w:World) (x0:Nd) (x1:V):∃ (W:World) (i0 i1 i2:Nat),Hid (((w.alloc (no x0)).alloc (fo x1)).alloc ((.cells #[.int .u8 0,.int .i64 0,.int .i64 0,.int .i64 0] 33))=W)∧Hid (w.heap.size=i0)∧Hid (w.heap.size+1=i1)∧Hid (w.heap.size+1+1=i2)∧Hid (Nine W i0 x0)∧Hid (Four W i1 x1)∧Hid (Four W i2 noV)∧Hid (Below w.heap.size w W)∧Hid (w.heap.size≤i0)∧Hid (w.heap.size≤i1)∧Hid (w.heap.size≤i2)∧Hid (True∧i0<i1∧i1<i2)∧Hid (W.heap.size=w.heap.size+1+1+1):=mk3 w _ _ _
theorem mkNQ (w:World) (x0:Nd):∃ (W:World) (i0 i1:Nat),Hid ((w.alloc (no x0)).alloc ((.cells #[.int .u8 0,.string ⟨#[]⟩,.int .i64 0] 43))=W)∧Hid (w.heap.size=i0)∧Hid (w.heap.size+1=i1)∧Hid (Nine W i0 x0)∧Hid (OpdB W i1 noO)∧Hid (Below w.heap.size w W)∧Hid (w.heap.size≤i0)∧Hid (w.heap.size≤i1)∧Hid (True∧i0<i1)∧Hid (W.heap.size=w.heap.size+1+1):=mk2 w _ _
theorem mkN (w:World) (x0:Nd):∃ (W:World) (i0:Nat),Hid (w.alloc (no x0)=W)∧Hid (w.heap.size=i0)∧Hid (Nine W i0 x0)∧Hid (Below w.heap.size w W)∧Hid (w.heap.size≤i0)∧Hid (True)∧Hid (W.heap.size=w.heap.size+1):=mk1 w _
def TP (t:Int × Int × Int) (w:World) (e:Ending) (w':World):Prop:=e=.returned (.tuple #[.agg #[.int .i64 t.1,.int .i64 t.2.1],.int .i64 t.2.2])∧Below w.heap.size w w'
end Go.Proofs.YteagpbkbdlmdiaaGreat.Ev
namespace Go.Proofs.YteagpbkbdlmdiaaGreat
open Go Go.RowKit
structure Elem (P:Program) (α:Type) where
 sl:TypeId
 e:TypeId
 sz:Nat
 bytes:Nat
 z:Value
 enc:α→List Value
 und:P.underlying sl=some (.slice e)
 info:(P.info? e).map (fun i=>(i.zero,i.size,i.bytes))=some (some z,sz,bytes)
 zs:z.cells.size=sz
 pos:0<sz
 len:∀ x,(enc x).length=sz
 one:∀ x,∀ u ∈ enc x,u.oneCell'=true
theorem cell_eq {w w':World} {p:Addr} (h:w'.heap[p.block]?=w.heap[p.block]?):w'.cell? p=w.cell? p:=by
 unfold World.cell?;rw [h]
theorem add_lit0 (b o j:Nat):(⟨b,o,none⟩:Addr).add j=⟨b,o+j,none⟩:=by unfold Addr.add;split<;>simp_all
namespace Elem
variable {P:Program} {α:Type} (E:Elem P α)
def Row (w:World) (B:Nat) (v:Value) (xs:List α):Prop:=w.ownsRow B E.e E.sz v xs.length (xs.flatMap E.enc)
def Arg (w:World) (v:Value) (xs:List α):Prop:=∃ (ao:Option Addr) (cap:Nat),v=.slice ao xs.length cap∧(xs.length≤cap∧(ao=none→cap=0))∧
 ∀ (i:Nat) (x:α),xs[i]?=some x→∃ b o:Nat,ao=some ⟨b,o,none⟩∧b<w.heap.size∧∀ j u,(E.enc x)[j]?=some u→w.cell? ⟨b,o+i*E.sz+j,none⟩=some u
theorem flat (xs:List α):(xs.flatMap E.enc).length=xs.length*E.sz:=by
 induction xs with
 | nil=>simp
 | cons x xs ih=>rw [List.flatMap_cons,List.length_append,ih,E.len,List.length_cons,Nat.add_mul];omega
theorem flat_get:∀ (xs:List α) {i:Nat} {x:α} (_:xs[i]?=some x) {j:Nat} (_:j<E.sz),(xs.flatMap E.enc)[i*E.sz+j]?=(E.enc x)[j]?
 | [],i,x,h,_,_=>by simp at h
 | y :: ys,0,x,h,j,hj=>by
  simp only [List.getElem?_cons_zero,Option.some.injEq] at h
  subst h
  rw [List.flatMap_cons,Nat.zero_mul,Nat.zero_add,List.getElem?_append_left (by rw [E.len];exact hj)]
 | y :: ys,i+1,x,h,j,hj=>by
  rw [List.getElem?_cons_succ] at h
  rw [List.flatMap_cons,List.getElem?_append_right (by rw [E.len,Nat.add_mul];omega),E.len,show (i+1)*E.sz+j - E.sz=i*E.sz+j by rw [Nat.add_mul];omega]
  exact flat_get ys h hj
theorem ones (xs:List α):∀ u ∈ xs.flatMap E.enc,u.oneCell'=true:=by
 intro u hu
 obtain ⟨y,_,hy⟩:=List.mem_flatMap.1 hu
 exact E.one y u hy
variable {E}
theorem Row.nil (w:World) (B:Nat):E.Row w B (.slice none 0 0) []:=World.ownsRow_nil _ _ _ _
theorem Row.form {w:World} {B:Nat} {v:Value} {xs:List α} (h:E.Row w B v xs):∃ ao cap,v=.slice ao xs.length cap∧xs.length≤cap∧(0<xs.length→∃ g,ao=some ⟨g,0,none⟩):=by
 rcases h.2 with ⟨rfl,hn⟩ | ⟨g,cap,cur,rfl,_,_,h1,_⟩
 ·exact ⟨none,0,by rw [hn],by omega,fun h=>absurd h (by omega)⟩
 ·exact ⟨some ⟨g,0,none⟩,cap,rfl,h1,fun _=>⟨g,rfl⟩⟩
theorem Row.alloc {w:World} {B:Nat} {v:Value} {xs:List α} (h:E.Row w B v xs) (o:Obj):E.Row (w.alloc o) B v xs:=World.ownsRow.alloc h o
theorem Row.lt {w:World} {B:Nat} {v:Value} {xs:List α} (h:E.Row w B v xs):∀ k,v.ownBlock=some k→B≤k∧k<w.heap.size:=World.ownsRow.lt h
theorem Row.block {w w':World} {B:Nat} {v:Value} {xs:List α} (h:E.Row w B v xs) (k:∀ g,v.ownBlock=some g→w'.heap[g]?=w.heap[g]?):E.Row w' B v xs:=by
 refine ⟨h.1,?_⟩
 rcases h.2 with hn | ⟨g,cap,cur,rfl,hb,hgg,rest⟩
 ·exact .inl hn
 ·exact .inr ⟨g,cap,cur,rfl,hb,(k g rfl).trans hgg,rest⟩
theorem Row.at {w:World} {B:Nat} {v:Value} {xs:List α} (h:E.Row w B v xs) {g:Nat} (hg:v.ownBlock=some g):∃ cur,w.heap[g]?=some (.cells cur E.e (0,0)):=by
 rcases h.2 with ⟨rfl,_⟩ | ⟨g',cap,cur,rfl,_,hgg,_⟩
 ·cases hg
 ·cases hg;exact ⟨cur,hgg⟩
theorem Row.ne {w:World} {B:Nat} {v:Value} {xs:List α} (h:E.Row w B v xs) {g:Nat} {cur:Array Value} {t:TypeId} (hg:w.heap[g]?=some (.cells cur t (0,0))) (ht:t ≠ E.e):some g ≠ v.ownBlock:=by
 intro e
 obtain ⟨cur',h2⟩:=h.at e.symm
 rw [h2] at hg
 cases hg
 exact ht rfl
theorem Row.below {w w':World} {B:Nat} {v:Value} {xs:List α} (h:E.Row w B v xs) (k:Below w.heap.size w w'):E.Row w' B v xs:=h.block fun g hg=>k.block g (h.lt g hg).2
theorem Row.low {w:World} {B B':Nat} {v:Value} {xs:List α} (h:E.Row w B v xs) (hb:B'≤B):E.Row w B' v xs:=by
 refine ⟨h.1,?_⟩
 rcases h.2 with hn | ⟨g,cap,cur,rfl,h4,rest⟩
 ·exact .inl hn
 ·exact .inr ⟨g,cap,cur,rfl,by omega,rest⟩
theorem Row.arg {w:World} {B:Nat} {v:Value} {xs:List α} (h:E.Row w B v xs):E.Arg w v xs:=by
 have hnil:∀ ao cap,v=.slice ao xs.length cap→ao=none→cap=0:=fun ao cap e1 e2=>by
  rcases h.2 with ⟨e,_⟩ | ⟨g,c,cur,e,_⟩
  ·rw [e1] at e;simp only [Value.slice.injEq] at e;exact e.2.2
  ·rw [e1] at e;simp only [Value.slice.injEq] at e;rw [e2] at e;cases e.1
 obtain ⟨ao,cap,rfl,hc,hg⟩:=h.form
 refine ⟨ao,cap,rfl,⟨hc,hnil _ _ rfl⟩,fun i x hx=>?_⟩
 have il:=(List.getElem?_eq_some_iff.1 hx).1
 obtain ⟨g,rfl⟩:=hg (by omega)
 refine ⟨g,0,rfl,(h.lt g rfl).2,fun j u hu=>?_⟩
 have jl:j<E.sz:=by have:=(List.getElem?_eq_some_iff.1 hu).1;rw [E.len] at this;exact this
 have:=World.ownsRow.cells h (g:=g) rfl (i*E.sz+j) u (by rw [E.flat_get xs hx jl];exact hu)
 rw [add_lit0,←Nat.add_assoc] at this;exact this
theorem Arg.nil (w:World):E.Arg w (.slice none 0 0) []:=⟨none,0,rfl,⟨Nat.le_refl _,fun _=>rfl⟩,fun i x h=>by simp at h⟩
def argBlock (v:Value) (g:Nat):Prop:=∃ o n c,v=.slice (some ⟨g,o,none⟩) n c
theorem Arg.block {w w':World} {v:Value} {xs:List α} (h:E.Arg w v xs) (hz:w.heap.size≤w'.heap.size) (k:∀ g,argBlock v g→0<xs.length→g<w.heap.size→w'.heap[g]?=w.heap[g]?):E.Arg w' v xs:=by
 obtain ⟨ao,cap,e,hc,h⟩:=h
 refine ⟨ao,cap,e,hc,fun i x hx=>?_⟩
 obtain ⟨b,o,h1,h2,h3⟩:=h i x hx
 have il:=(List.getElem?_eq_some_iff.1 hx).1
 exact ⟨b,o,h1,by omega,fun j u hu=>(cell_eq (p:=⟨b,_,none⟩) (k b ⟨o,_,_,by rw [e,h1]⟩ (by omega) h2)).trans (h3 j u hu)⟩
theorem Arg.below {w w':World} {v:Value} {xs:List α} (h:E.Arg w v xs) (k:Below w.heap.size w w'):E.Arg w' v xs:=h.block k.size fun g _ _ hg=>k.block g hg
theorem Arg.lt {w:World} {v:Value} {xs:List α} (h:E.Arg w v xs) {g:Nat} (hg:argBlock v g) (hl:0<xs.length):g<w.heap.size:=by
 obtain ⟨ao,cap,rfl,hc,h⟩:=h
 obtain ⟨o,n,c,e⟩:=hg
 obtain ⟨b,o',h1,h2,_⟩:=h 0 _ (List.getElem?_eq_getElem hl)
 rw [h1] at e
 cases e
 exact h2
theorem Arg.part {w:World} {b o n c:Nat} {xs:List α} (h:E.Arg w (.slice (some ⟨b,o,none⟩) n c) xs) (i j c':Nat) (_:i≤j) (hj:j≤xs.length) (hc:j - i≤c'):E.Arg w (.slice (some ⟨b,o+i*E.sz,none⟩) (j - i) c') ((xs.take j).drop i):=by
 obtain ⟨ao,cap,e,hcap,h⟩:=h
 cases e
 refine ⟨_,c',by rw [List.length_drop,List.length_take,Nat.min_eq_left hj],⟨by rw [List.length_drop,List.length_take,Nat.min_eq_left hj];exact hc,fun e=>by cases e⟩,fun k x hx=>?_⟩
 rw [List.getElem?_drop,List.getElem?_take] at hx
 split at hx
 ·obtain ⟨b',o',h1,h2,h3⟩:=h (i+k) x hx
  cases h1
  refine ⟨b,o+i*E.sz,rfl,h2,fun q u hu=>?_⟩
  rw [show o+i*E.sz+k*E.sz+q=o+(i+k)*E.sz+q by rw [Nat.add_mul];omega]
  exact h3 q u hu
 ·cases hx
theorem run_app {w:World} {B:Nat} {v:Value} {xs:List α} {vs:Value} {rs:List α} (ty:TypeId) (hown:E.Row w B v xs) (hsrc:E.Arg w vs rs) (h1:xs.length+rs.length≤1000001)
  (h2:(1000001:Nat)*E.bytes≤140737488355328) (hB:B≤w.heap.size) :
  ∃ (v':Value) (w':World),(Builtin.append_ #[E.sl,E.sl] ty #[v,vs]).run P w=.ok v' w'∧E.Row w' B v' (xs++rs)∧w.grownBy w' v.ownBlock∧(v'.ownBlock=v.ownBlock∨v'.ownBlock=some w.heap.size):=by
 obtain ⟨i0,hi,hz0,hz1,hz2⟩:=info_parts E.info
 obtain ⟨ao,cap,rfl,hc,hcell⟩:=hsrc
 cases ao with
 | none=>
  have hr:rs=[]:=by
   cases rs with
   | nil=>rfl
   | cons x rs=>obtain ⟨b,o,e,_⟩:=hcell 0 x rfl;cases e
  subst hr
  obtain rfl:=hc.2 rfl
  have hrun:=run_append_owned_none (P:=P) (w:=w) B E.sl ty E.e i0 E.sz E.und hi v xs.length _ hown
  exact ⟨v,w,hrun,by rw [List.append_nil];exact hown,⟨rfl,rfl,rfl,Nat.le_refl _,fun _ _ _=>rfl⟩,.inl rfl⟩
 | some a=>
  have hb2:(xs.length+rs.length)*E.bytes≤140737488355328:=Nat.le_trans (Nat.mul_le_mul_right _ h1) h2
  obtain ⟨v',w',k1,k2,k3,_,k5⟩:=run_append_own_at (P:=P) w B E.sl ty E.e i0 E.z E.sz E.bytes E.und hi hz0 hz1 hz2 E.zs E.pos v xs.length _ hown a rs.length cap (rs.flatMap E.enc) (E.flat rs) (fun j u hu=>by
   have jl:=(List.getElem?_eq_some_iff.1 hu).1
   rw [E.flat] at jl
   have hq:j / E.sz<rs.length:=Nat.div_lt_of_lt_mul (by rw [Nat.mul_comm];exact jl)
   have hm:=Nat.mod_lt j E.pos
   have hdm:=Nat.div_add_mod j E.sz
   have ej:j / E.sz*E.sz+j % E.sz=j:=by rw [Nat.mul_comm];exact hdm
   have hx:=List.getElem?_eq_getElem hq
   have hu2:=E.flat_get rs hx hm
   rw [ej,hu] at hu2
   obtain ⟨b',o',e1,_,h3⟩:=hcell _ _ hx
   cases e1
   have:=h3 _ _ hu2.symm
   rw [add_lit0,←ej,←Nat.add_assoc];exact this) (E.ones rs) (by simp only [maxLen];omega) hb2 hB
  refine ⟨v',w',k1,?_,k3,k5⟩
  unfold Row
  rw [List.length_append,List.flatMap_append];exact k2
theorem app {w:World} {ops:Array Oper} {rest:List Oper} {o:Oper} {a:Act} {Q:Exit→Act→World→Prop} (hgd:o.guard=none) (s x:Operand)
  (ho:o.op=.call {callee:=.builtin .append,args:=#[s,x],argTypes:=#[E.sl,E.sl]}) (B:Nat) (v:Value) (xs:List α) (vs:Value) (rs:List α) (hs:a.eval s=v) (hx:a.eval x=vs)
  (hown:E.Row w B v xs) (hsrc:E.Arg w vs rs) (h1:xs.length+rs.length≤1000001) (h2:(1000001:Nat)*E.bytes≤140737488355328) (hB:B≤w.heap.size)
  (h:∀ v' w',E.Row w' B v' (xs++rs)→w.grownBy w' v.ownBlock→(v'.ownBlock=v.ownBlock∨v'.ownBlock=some w.heap.size)→wpList P ops Q rest (a.put o.dst v') w'):wpList P ops Q (o :: rest) a w:=by
 refine wpList_plain hgd fun K hK=>?_
 obtain ⟨v',w',hr,k2,k3,k4⟩:=run_app o.type hown hsrc h1 h2 hB
 unfold Oper.wp execOp
 simp only [ho,resolve,invoke,builtin,Sem.run_bind,Sem.run_pure,Result.andThen_ok,List.map_toArray,List.map_cons,List.map_nil,hs,hx,hr]
 exact hK _ _ (h v' w' k2 k3 k4)
theorem step {w:World} {ops:Array Oper} {o:Oper} {a:Act} {K:Act→World→Prop} {Q:Exit→Act→World→Prop} {G:Prop} (hgd:o.guard=none) (s x:Operand)
  (ho:o.op=.call {callee:=.builtin .append,args:=#[s,x],argTypes:=#[E.sl,E.sl]}) (B:Nat) (v:Value) (xs:List α) (vs:Value) (rs:List α) (hs:a.eval s=v) (hx:a.eval x=vs)
  (hown:E.Row w B v xs) (hsrc:E.Arg w vs rs) (h1:xs.length+rs.length≤1000001) (h2:(1000001:Nat)*E.bytes≤140737488355328) (hB:B≤w.heap.size)
  (h:∀ v' w',E.Row w' B v' (xs++rs)→w.grownBy w' v.ownBlock→(v'.ownBlock=v.ownBlock∨v'.ownBlock=some w.heap.size)→K (a.put o.dst v') w') :
  if Region.wanted o (yielded ops a.tmps)=true then Oper.wp P o a w K Q else G:=by
 have hw:Region.wanted o (yielded ops a.tmps)=true:=by simp [Region.wanted,hgd]
 rw [if_pos hw]
 obtain ⟨v',w',hr,k2,k3,k4⟩:=run_app o.type hown hsrc h1 h2 hB
 unfold Oper.wp execOp
 simp only [ho,resolve,invoke,builtin,Sem.run_bind,Sem.run_pure,Result.andThen_ok,List.map_toArray,List.map_cons,List.map_nil,hs,hx,hr]
 exact h v' w' k2 k3 k4
theorem arg_one {w:World} (x:α) (ty:TypeId):E.Arg (w.alloc (.cells (E.enc x).toArray ty)) (.slice (some ⟨w.heap.size,0,none⟩) 1 1) [x]:=by
 refine ⟨_,1,rfl,⟨Nat.le_refl _,fun e=>by cases e⟩,fun i y hy=>?_⟩
 match i,hy with
 | 0,hy=>
  cases hy
  refine ⟨w.heap.size,0,rfl,by simp,fun j u hu=>?_⟩
  rw [cell_of_row _ _ _ _ _ (0,0) (heap_alloc_new w _)]
  simpa using hu
 | i+1,hy=>simp at hy
theorem arg_lit {w:World} (xs:List α) (n:Nat) (hn:xs.length=n) (ty:TypeId):E.Arg (w.alloc (.cells (xs.flatMap E.enc).toArray ty)) (.slice (some ⟨w.heap.size,0,none⟩) n n) xs:=by
 subst hn
 refine ⟨_,_,rfl,⟨Nat.le_refl _,fun e=>by cases e⟩,fun i x hx=>⟨w.heap.size,0,rfl,by simp,fun j u hu=>?_⟩⟩
 have jl:j<E.sz:=by have:=(List.getElem?_eq_some_iff.1 hu).1;rw [E.len] at this;exact this
 rw [cell_of_row _ _ _ _ _ (0,0) (heap_alloc_new w _),Nat.zero_add,List.getElem?_toArray,E.flat_get xs hx jl];exact hu
theorem row_empty {w:World} (ty:TypeId) (h:ty=E.e):E.Row (w.alloc (.cells #[] ty)) w.heap.size (.slice (some ⟨w.heap.size,0,none⟩) 0 0) []:=by
 subst h
 exact World.ownsRow_made w #[] 0 (Nat.le_refl _) (by simp [maxLen]) (by simp)
end Elem
end Go.Proofs.YteagpbkbdlmdiaaGreat
namespace Go.Proofs.YteagpbkbdlmdiaaGreat.Ev
set_option maxRecDepth 100000
open Go Go.RowKit Dt Tx Va
attribute [local go_sem ↓] Go.wp_at_zero Go.wp_at_succ
def ndE:Elem Tryz.prog Nd where
 sl:=22
 e:=39
 sz:=9
 bytes:=80
 z:=.agg #[.int .u8 0,.int .i64 0,.int .i64 0,.string ⟨#[]⟩,.int .i64 0,.int .i64 0,.int .i64 0,.int .i64 0,.int .i64 0]
 enc:=fun n=>[.int .u8 n.op,.int .i64 n.c,.int .i64 n.s,.string (bs n.n),.int .i64 n.k,.int .i64 n.x,.int .i64 n.y,.int .i64 n.z,.int .i64 n.p]
 und:=Tryz.underlying22
 info:=by kernel_rfl
 zs:=rfl
 pos:=by decide
 len:=fun _=>rfl
 one:=fun x u hu=>by simp only [List.mem_cons,List.not_mem_nil,or_false] at hu;rcases hu with rfl | rfl | rfl | rfl | rfl | rfl | rfl | rfl | rfl<;>rfl
def opE:Elem Tryz.prog Opd where
 sl:=27
 e:=43
 sz:=3
 bytes:=32
 z:=.agg #[.int .u8 0,.string ⟨#[]⟩,.int .i64 0]
 enc:=fun q=>[.int .u8 q.op,.string (bs q.n),.int .i64 q.k]
 und:=Tryz.underlying27
 info:=by kernel_rfl
 zs:=rfl
 pos:=by decide
 len:=fun _=>rfl
 one:=fun x u hu=>by simp only [List.mem_cons,List.not_mem_nil,or_false] at hu;rcases hu with rfl | rfl | rfl<;>rfl
def vaE:Elem Tryz.prog V where
 sl:=24
 e:=33
 sz:=4
 bytes:=32
 z:=.agg #[.int .u8 0,.int .i64 0,.int .i64 0,.int .i64 0]
 enc:=fun v=>[.int .u8 v.k,.int .i64 v.c,.int .i64 v.s,.int .i64 v.e]
 und:=Tryz.underlying24
 info:=by kernel_rfl
 zs:=rfl
 pos:=by decide
 len:=fun _=>rfl
 one:=fun x u hu=>by simp only [List.mem_cons,List.not_mem_nil,or_false] at hu;rcases hu with rfl | rfl | rfl | rfl<;>rfl
theorem OpdB.new (w:World) (q:Opd):OpdB (w.alloc (.cells #[.int .u8 q.op,.string (bs q.n),.int .i64 q.k] 43)) w.heap.size q:=heap_alloc_new w _
theorem OpdB.set {w:World} {b:Nat} {q:Opd} (h:OpdB w b q) (r:Opd):OpdB (((w.setCell ⟨b,0,none⟩ (.int .u8 r.op)).setCell ⟨b,1,none⟩ (.string (bs r.n))).setCell ⟨b,2,none⟩ (.int .i64 r.k)) b r:=by
 have h1:(w.setCell ⟨b,0,none⟩ (.int .u8 r.op)).heap[b]?=some (.cells #[.int .u8 r.op,.string (bs q.n),.int .i64 q.k] 43 (0,0)):=by rw [heap_setCell_same w b 0 _ _ _ h];rfl
 have h2:((w.setCell ⟨b,0,none⟩ (.int .u8 r.op)).setCell ⟨b,1,none⟩ (.string (bs r.n))).heap[b]?=some (.cells #[.int .u8 r.op,.string (bs r.n),.int .i64 q.k] 43 (0,0)):=by rw [heap_setCell_same _ b 1 _ _ _ h1];rfl
 show _=_
 rw [heap_setCell_same _ b 2 _ _ _ h2];rfl
theorem below_set3 {B g:Nat} {a w:World} (h:Below B a w) (hg:B≤g) (x0 x1 x2:Value):Below B a (((w.setCell ⟨g,0,none⟩ x0).setCell ⟨g,1,none⟩ x1).setCell ⟨g,2,none⟩ x2):=
 Below.setCell (Below.setCell (Below.setCell h (p:=⟨g,0,none⟩) hg _) (p:=⟨g,1,none⟩) hg _) (p:=⟨g,2,none⟩) hg _
theorem results_cellO {fn:Func} {p u:Tmp} (h:fn.results=#[.cell p 43,.tmp u]) (tmps:Array Value) (w:World) (g:Nat) (q:Opd) (hp:tmps.getD p undef=.pointer (some ⟨g,0,none⟩)) (hg:OpdB w g q) :
  (results fn tmps).run Tryz.prog w=.ok (.tuple #[.agg #[.int .u8 q.op,.string (bs q.n),.int .i64 q.k],tmps.getD u undef]) w:=
 results_cell2 h tmps w g _ _ (0,0) _ hp hg Tryz.underlying43 rfl (by kernel_rfl)
def OP (r:Option Opd) (w:World) (e:Ending) (w':World):Prop:=e=.returned (.tuple #[.agg #[.int .u8 (r.getD noO).op,.string (bs (r.getD noO).n),.int .i64 (r.getD noO).k],.bool r.isSome])∧Below w.heap.size w w'
theorem opd_4 {w:World} (c s k x y z p:Int) (nm:List UInt8):Calls Tryz.prog 17 #[an ⟨4,c,s,nm,k,x,y,z,p⟩] w (OP (some ⟨4,nm,0⟩) w):=by
 obtain ⟨S,hS⟩:∃ S,Hid (bs nm=S):=⟨_,Lib.hid rfl⟩
 try dsimp only [av,an,ao]
 go_enter Tryz.func17,Tryz.ntmps17
 go_upto_region 1 with fail
 obtain ⟨W0,iN,iR,hW,hN,hR,N0,R0,B0,LN,LR,LI,LS⟩:=mkNQ w ⟨4,c,s,nm,k,x,y,z,p⟩
 rw [hW.out];try rw [hR.out];try rw [hN.out]
 clear hW hN hR
 have Nc0:=N0.out.c0;have Nc3:=N0.out.c3
 have Rc0:=R0.out.c0;have Rc1:=R0.out.c1;have Rc2:=R0.out.c2;have Rf0:=R0.out.f 0;have Rf1:=R0.out.f 1;have Rf2:=R0.out.f 2
 go_wp2_with fail
 exact bodyPost_ret (v:=.tuple #[.agg #[.int .u8 _,.string _,.int .i64 _],.bool _]) (results_cellO (fn:=Tryz.f17) (p:=2) (u:=3) rfl _ _ iR ⟨4,nm,0⟩ rfl (R0.out.set ⟨4,nm,0⟩)) rfl ⟨rfl,below_set3 B0.out LR.out _ _ _⟩
theorem opd_24 {w:World} (c s k x y z p:Int) (nm:List UInt8):Calls Tryz.prog 17 #[an ⟨24,c,s,nm,k,x,y,z,p⟩] w (OP (some ⟨4,nm,0⟩) w):=by
 obtain ⟨S,hS⟩:∃ S,Hid (bs nm=S):=⟨_,Lib.hid rfl⟩
 try dsimp only [av,an,ao]
 go_enter Tryz.func17,Tryz.ntmps17
 go_upto_region 1 with fail
 obtain ⟨W0,iN,iR,hW,hN,hR,N0,R0,B0,LN,LR,LI,LS⟩:=mkNQ w ⟨24,c,s,nm,k,x,y,z,p⟩
 rw [hW.out];try rw [hR.out];try rw [hN.out]
 clear hW hN hR
 have Nc0:=N0.out.c0;have Nc3:=N0.out.c3
 have Rc0:=R0.out.c0;have Rc1:=R0.out.c1;have Rc2:=R0.out.c2;have Rf0:=R0.out.f 0;have Rf1:=R0.out.f 1;have Rf2:=R0.out.f 2
 go_wp2_with fail
 exact bodyPost_ret (v:=.tuple #[.agg #[.int .u8 _,.string _,.int .i64 _],.bool _]) (results_cellO (fn:=Tryz.f17) (p:=2) (u:=3) rfl _ _ iR ⟨4,nm,0⟩ rfl (R0.out.set ⟨4,nm,0⟩)) rfl ⟨rfl,below_set3 B0.out LR.out _ _ _⟩
theorem opd_25 {w:World} (c s k x y z p:Int) (nm:List UInt8):Calls Tryz.prog 17 #[an ⟨25,c,s,nm,k,x,y,z,p⟩] w (OP (some ⟨4,nm,0⟩) w):=by
 obtain ⟨S,hS⟩:∃ S,Hid (bs nm=S):=⟨_,Lib.hid rfl⟩
 try dsimp only [av,an,ao]
 go_enter Tryz.func17,Tryz.ntmps17
 go_upto_region 1 with fail
 obtain ⟨W0,iN,iR,hW,hN,hR,N0,R0,B0,LN,LR,LI,LS⟩:=mkNQ w ⟨25,c,s,nm,k,x,y,z,p⟩
 rw [hW.out];try rw [hR.out];try rw [hN.out]
 clear hW hN hR
 have Nc0:=N0.out.c0;have Nc3:=N0.out.c3
 have Rc0:=R0.out.c0;have Rc1:=R0.out.c1;have Rc2:=R0.out.c2;have Rf0:=R0.out.f 0;have Rf1:=R0.out.f 1;have Rf2:=R0.out.f 2
 go_wp2_with fail
 exact bodyPost_ret (v:=.tuple #[.agg #[.int .u8 _,.string _,.int .i64 _],.bool _]) (results_cellO (fn:=Tryz.f17) (p:=2) (u:=3) rfl _ _ iR ⟨4,nm,0⟩ rfl (R0.out.set ⟨4,nm,0⟩)) rfl ⟨rfl,below_set3 B0.out LR.out _ _ _⟩
theorem opd_26 {w:World} (c s k x y z p:Int) (nm:List UInt8):Calls Tryz.prog 17 #[an ⟨26,c,s,nm,k,x,y,z,p⟩] w (OP (some ⟨26,nm,k⟩) w):=by
 obtain ⟨S,hS⟩:∃ S,Hid (bs nm=S):=⟨_,Lib.hid rfl⟩
 try dsimp only [av,an,ao]
 go_enter Tryz.func17,Tryz.ntmps17
 go_upto_region 1 with fail
 obtain ⟨W0,iN,iR,hW,hN,hR,N0,R0,B0,LN,LR,LI,LS⟩:=mkNQ w ⟨26,c,s,nm,k,x,y,z,p⟩
 rw [hW.out];try rw [hR.out];try rw [hN.out]
 clear hW hN hR
 have Nc0:=N0.out.c0;have Nc3:=N0.out.c3;have Nc4:=N0.out.c4
 have Rc0:=R0.out.c0;have Rc1:=R0.out.c1;have Rc2:=R0.out.c2;have Rf0:=R0.out.f 0;have Rf1:=R0.out.f 1;have Rf2:=R0.out.f 2
 go_wp2_with fail
 exact bodyPost_ret (v:=.tuple #[.agg #[.int .u8 _,.string _,.int .i64 _],.bool _]) (results_cellO (fn:=Tryz.f17) (p:=2) (u:=3) rfl _ _ iR ⟨26,nm,k⟩ rfl (R0.out.set ⟨26,nm,k⟩)) rfl ⟨rfl,below_set3 B0.out LR.out _ _ _⟩
theorem opd_27 {w:World} (c s k x y z p:Int) (nm:List UInt8):Calls Tryz.prog 17 #[an ⟨27,c,s,nm,k,x,y,z,p⟩] w (OP (some ⟨27,nm,k⟩) w):=by
 obtain ⟨S,hS⟩:∃ S,Hid (bs nm=S):=⟨_,Lib.hid rfl⟩
 try dsimp only [av,an,ao]
 go_enter Tryz.func17,Tryz.ntmps17
 go_upto_region 1 with fail
 obtain ⟨W0,iN,iR,hW,hN,hR,N0,R0,B0,LN,LR,LI,LS⟩:=mkNQ w ⟨27,c,s,nm,k,x,y,z,p⟩
 rw [hW.out];try rw [hR.out];try rw [hN.out]
 clear hW hN hR
 have Nc0:=N0.out.c0;have Nc3:=N0.out.c3;have Nc4:=N0.out.c4
 have Rc0:=R0.out.c0;have Rc1:=R0.out.c1;have Rc2:=R0.out.c2;have Rf0:=R0.out.f 0;have Rf1:=R0.out.f 1;have Rf2:=R0.out.f 2
 go_wp2_with fail
 exact bodyPost_ret (v:=.tuple #[.agg #[.int .u8 _,.string _,.int .i64 _],.bool _]) (results_cellO (fn:=Tryz.f17) (p:=2) (u:=3) rfl _ _ iR ⟨27,nm,k⟩ rfl (R0.out.set ⟨27,nm,k⟩)) rfl ⟨rfl,below_set3 B0.out LR.out _ _ _⟩
theorem opd_28 {w:World} (c s k x y z p:Int) (nm:List UInt8):Calls Tryz.prog 17 #[an ⟨28,c,s,nm,k,x,y,z,p⟩] w (OP (some ⟨28,nm,k⟩) w):=by
 obtain ⟨S,hS⟩:∃ S,Hid (bs nm=S):=⟨_,Lib.hid rfl⟩
 try dsimp only [av,an,ao]
 go_enter Tryz.func17,Tryz.ntmps17
 go_upto_region 1 with fail
 obtain ⟨W0,iN,iR,hW,hN,hR,N0,R0,B0,LN,LR,LI,LS⟩:=mkNQ w ⟨28,c,s,nm,k,x,y,z,p⟩
 rw [hW.out];try rw [hR.out];try rw [hN.out]
 clear hW hN hR
 have Nc0:=N0.out.c0;have Nc3:=N0.out.c3;have Nc4:=N0.out.c4
 have Rc0:=R0.out.c0;have Rc1:=R0.out.c1;have Rc2:=R0.out.c2;have Rf0:=R0.out.f 0;have Rf1:=R0.out.f 1;have Rf2:=R0.out.f 2
 go_wp2_with fail
 exact bodyPost_ret (v:=.tuple #[.agg #[.int .u8 _,.string _,.int .i64 _],.bool _]) (results_cellO (fn:=Tryz.f17) (p:=2) (u:=3) rfl _ _ iR ⟨28,nm,k⟩ rfl (R0.out.set ⟨28,nm,k⟩)) rfl ⟨rfl,below_set3 B0.out LR.out _ _ _⟩
theorem opd_29 {w:World} (c s k x y z p:Int) (nm:List UInt8):Calls Tryz.prog 17 #[an ⟨29,c,s,nm,k,x,y,z,p⟩] w (OP (some ⟨29,nm,k⟩) w):=by
 obtain ⟨S,hS⟩:∃ S,Hid (bs nm=S):=⟨_,Lib.hid rfl⟩
 try dsimp only [av,an,ao]
 go_enter Tryz.func17,Tryz.ntmps17
 go_upto_region 1 with fail
 obtain ⟨W0,iN,iR,hW,hN,hR,N0,R0,B0,LN,LR,LI,LS⟩:=mkNQ w ⟨29,c,s,nm,k,x,y,z,p⟩
 rw [hW.out];try rw [hR.out];try rw [hN.out]
 clear hW hN hR
 have Nc0:=N0.out.c0;have Nc3:=N0.out.c3;have Nc4:=N0.out.c4
 have Rc0:=R0.out.c0;have Rc1:=R0.out.c1;have Rc2:=R0.out.c2;have Rf0:=R0.out.f 0;have Rf1:=R0.out.f 1;have Rf2:=R0.out.f 2
 go_wp2_with fail
 exact bodyPost_ret (v:=.tuple #[.agg #[.int .u8 _,.string _,.int .i64 _],.bool _]) (results_cellO (fn:=Tryz.f17) (p:=2) (u:=3) rfl _ _ iR ⟨29,nm,k⟩ rfl (R0.out.set ⟨29,nm,k⟩)) rfl ⟨rfl,below_set3 B0.out LR.out _ _ _⟩
theorem opd_30 {w:World} (c s k x y z p:Int) (nm:List UInt8):Calls Tryz.prog 17 #[an ⟨30,c,s,nm,k,x,y,z,p⟩] w (OP (some ⟨30,nm,k⟩) w):=by
 obtain ⟨S,hS⟩:∃ S,Hid (bs nm=S):=⟨_,Lib.hid rfl⟩
 try dsimp only [av,an,ao]
 go_enter Tryz.func17,Tryz.ntmps17
 go_upto_region 1 with fail
 obtain ⟨W0,iN,iR,hW,hN,hR,N0,R0,B0,LN,LR,LI,LS⟩:=mkNQ w ⟨30,c,s,nm,k,x,y,z,p⟩
 rw [hW.out];try rw [hR.out];try rw [hN.out]
 clear hW hN hR
 have Nc0:=N0.out.c0;have Nc3:=N0.out.c3;have Nc4:=N0.out.c4
 have Rc0:=R0.out.c0;have Rc1:=R0.out.c1;have Rc2:=R0.out.c2;have Rf0:=R0.out.f 0;have Rf1:=R0.out.f 1;have Rf2:=R0.out.f 2
 go_wp2_with fail
 exact bodyPost_ret (v:=.tuple #[.agg #[.int .u8 _,.string _,.int .i64 _],.bool _]) (results_cellO (fn:=Tryz.f17) (p:=2) (u:=3) rfl _ _ iR ⟨30,nm,k⟩ rfl (R0.out.set ⟨30,nm,k⟩)) rfl ⟨rfl,below_set3 B0.out LR.out _ _ _⟩
theorem opd_op {w:World} (op:Int) (c s k x y z p:Int) (nm:List UInt8) (hop:oneF op=false) (hop2:winF op=false):Calls Tryz.prog 17 #[an ⟨op,c,s,nm,k,x,y,z,p⟩] w (OP (none) w):=by
 have o4:decide (op=4)=false:=decide_eq_false (by have h1:=of_decide_eq_false hop;have h2:=of_decide_eq_false hop2;omega)
 have u4:(op==4)=false:=by have h1:=of_decide_eq_false hop;have h2:=of_decide_eq_false hop2;simp;omega
 have o24:decide (op=24)=false:=decide_eq_false (by have h1:=of_decide_eq_false hop;have h2:=of_decide_eq_false hop2;omega)
 have u24:(op==24)=false:=by have h1:=of_decide_eq_false hop;have h2:=of_decide_eq_false hop2;simp;omega
 have o25:decide (op=25)=false:=decide_eq_false (by have h1:=of_decide_eq_false hop;have h2:=of_decide_eq_false hop2;omega)
 have u25:(op==25)=false:=by have h1:=of_decide_eq_false hop;have h2:=of_decide_eq_false hop2;simp;omega
 have o26:decide (op=26)=false:=decide_eq_false (by have h1:=of_decide_eq_false hop;have h2:=of_decide_eq_false hop2;omega)
 have u26:(op==26)=false:=by have h1:=of_decide_eq_false hop;have h2:=of_decide_eq_false hop2;simp;omega
 have o27:decide (op=27)=false:=decide_eq_false (by have h1:=of_decide_eq_false hop;have h2:=of_decide_eq_false hop2;omega)
 have u27:(op==27)=false:=by have h1:=of_decide_eq_false hop;have h2:=of_decide_eq_false hop2;simp;omega
 have o28:decide (op=28)=false:=decide_eq_false (by have h1:=of_decide_eq_false hop;have h2:=of_decide_eq_false hop2;omega)
 have u28:(op==28)=false:=by have h1:=of_decide_eq_false hop;have h2:=of_decide_eq_false hop2;simp;omega
 have o29:decide (op=29)=false:=decide_eq_false (by have h1:=of_decide_eq_false hop;have h2:=of_decide_eq_false hop2;omega)
 have u29:(op==29)=false:=by have h1:=of_decide_eq_false hop;have h2:=of_decide_eq_false hop2;simp;omega
 have o30:decide (op=30)=false:=decide_eq_false (by have h1:=of_decide_eq_false hop;have h2:=of_decide_eq_false hop2;omega)
 have u30:(op==30)=false:=by have h1:=of_decide_eq_false hop;have h2:=of_decide_eq_false hop2;simp;omega
 clear hop hop2
 obtain ⟨S,hS⟩:∃ S,Hid (bs nm=S):=⟨_,Lib.hid rfl⟩
 try dsimp only [av,an,ao]
 go_enter Tryz.func17,Tryz.ntmps17
 go_upto_region 1 with fail
 obtain ⟨W0,iN,iR,hW,hN,hR,N0,R0,B0,LN,LR,LI,LS⟩:=mkNQ w ⟨op,c,s,nm,k,x,y,z,p⟩
 rw [hW.out];try rw [hR.out];try rw [hN.out]
 clear hW hN hR
 have Nc0:=N0.out.c0
 have Rc0:=R0.out.c0;have Rc1:=R0.out.c1;have Rc2:=R0.out.c2;have Rf0:=R0.out.f 0;have Rf1:=R0.out.f 1;have Rf2:=R0.out.f 2
 go_wp2_with fail
 exact bodyPost_ret (v:=.tuple #[.agg #[.int .u8 _,.string _,.int .i64 _],.bool _]) (results_cellO (fn:=Tryz.f17) (p:=2) (u:=3) rfl _ _ iR noO rfl (R0.out.set noO)) rfl ⟨rfl,below_set3 B0.out LR.out _ _ _⟩
theorem opd_is {w:World} (n:Nd):Calls Tryz.prog 17 #[an n] w (OP (opdOf n) w):=by
 obtain ⟨op,c,s,nm,k,x,y,z,p⟩:=n
 unfold opdOf
 cases h1:oneF op
 ·cases h2:winF op
  ·simp only [Bool.false_eq_true,if_false]
   exact opd_op op c s k x y z p nm h1 h2
  ·simp only [Bool.false_eq_true,if_false,if_true]
   have:=of_decide_eq_true h2
   clear h1 h2
   rcases this with rfl | rfl | rfl | rfl | rfl
   ·exact opd_26 c s k x y z p nm
   ·exact opd_27 c s k x y z p nm
   ·exact opd_28 c s k x y z p nm
   ·exact opd_29 c s k x y z p nm
   ·exact opd_30 c s k x y z p nm
 ·simp only [if_true]
  have:=of_decide_eq_true h1
  clear h1
  rcases this with rfl | rfl | rfl
  ·exact opd_4 c s k x y z p nm
  ·exact opd_24 c s k x y z p nm
  ·exact opd_25 c s k x y z p nm
end Go.Proofs.YteagpbkbdlmdiaaGreat.Ev
namespace Go.Proofs.YteagpbkbdlmdiaaGreat.Ev
set_option maxRecDepth 100000
set_option maxHeartbeats 2000000
open Go Go.RowKit Dt Tx Va
attribute [local go_sem ↓] Go.wp_at_zero Go.wp_at_succ
theorem below_drewN {n:Nat} {w w':World} (h:Below n w w'):∀ q,Below n w (w'.drewN q)
 | 0=>h
 | q+1=>⟨h.os,h.tape,h.output,h.size,h.block⟩
theorem wrap1 (q:Nat) (h:q≤9000000):IntKind.i64.wrap ((q:Int)+1)=(q:Int)+1:=by rw [IntWalk.i64_left];exact IntWalk.wrap64_in _ (by omega)
theorem argO {w:World} {v:Value} {xs:List Opd} (h:opE.Arg w v xs):∃ (ao:Option Addr) (cap:Nat),v=.slice ao xs.length cap∧∀ (i:Nat) (x:Opd),xs[i]?=some x→∃ b o:Nat,ao=some ⟨b,o,none⟩∧b<w.heap.size∧
  w.cell? ⟨b,o+i*3,none⟩=some (.int .u8 x.op)∧w.cell? ⟨b,o+i*3+1,none⟩=some (.string (bs x.n))∧w.cell? ⟨b,o+i*3+2,none⟩=some (.int .i64 x.k):=by
 obtain ⟨ao,cap,e,_,h⟩:=h
 refine ⟨ao,cap,e,fun i x hx=>?_⟩
 obtain ⟨b,o,h1,h2,h3⟩:=h i x hx
 exact ⟨b,o,h1,h2,h3 0 _ rfl,h3 1 _ rfl,h3 2 _ rfl⟩
def placeP (xs:List Opd) (q:Opd):Int:=if q ∈ xs then (xs.idxOf q:Int) else -1
theorem placeP_at {xs:List Opd} {q:Opd} {k:Nat} (h:xs[k]?=some q) (hb:∀ j,j<k→xs[j]? ≠ some q):placeP xs q=(k:Int):=by
 unfold placeP
 rw [if_pos (List.mem_of_getElem? h)]
 have hk:=(List.getElem?_eq_some_iff.1 h).1
 have e:=(List.getElem?_eq_some_iff.1 h).2
 have hm:=List.mem_of_getElem? h
 have hi:xs.idxOf q<xs.length:=List.idxOf_lt_length_iff.2 hm
 have hg:xs[xs.idxOf q]=q:=List.getElem_idxOf hi
 rcases Nat.lt_trichotomy (xs.idxOf q) k with g | g | g
 ·exact absurd (by rw [List.getElem?_eq_getElem hi,hg]) (hb _ g)
 ·rw [g]
 ·exfalso
  have key:∀ (ys:List Opd) (k:Nat),ys[k]?=some q→ys.idxOf q≤k:=by
   intro ys
   induction ys with
   | nil=>intro k h;simp at h
   | cons y ys ih=>
    intro k h
    rw [List.idxOf_cons]
    cases hy:(y==q) with
    | true=>simp
    | false=>
     cases k with
     | zero=>simp at h;subst h;simp at hy
     | succ k=>simp at h;have:=ih k h;simp;omega
  have:=key xs k h
  omega
theorem placeP_no {xs:List Opd} {q:Opd} (hb:∀ j,j<xs.length→xs[j]? ≠ some q):placeP xs q= -1:=by
 unfold placeP
 rw [if_neg]
 intro hm
 obtain ⟨i,hi⟩:=List.mem_iff_getElem?.1 hm
 exact hb i (List.getElem?_eq_some_iff.1 hi).1 hi
theorem placeP_pos {xs:List Opd} {q:Opd}:decide (placeP xs q ≥ 0)=decide (q ∈ xs):=by
 unfold placeP
 split
 ·rename_i h;simp [h]
 ·rename_i h;simp [h]
theorem placeP_in {xs:List Opd} {q:Opd} (h:q ∈ xs):placeP xs q=(xs.idxOf q:Int):=by unfold placeP;rw [if_pos h]
def ZP (z:Int) (w:World) (e:Ending) (w':World):Prop:=e=.returned (.int .i64 z)∧Below w.heap.size w w'
theorem place_is {w:World} {v:Value} {xs:List Opd} (q:Opd) (ha:opE.Arg w v xs) (hl:xs.length≤1000000):Calls Tryz.prog 20 #[v,ao q] w (ZP (placeP xs q) w):=by
 obtain ⟨aa,ca,rfl,h1⟩:=argO ha
 obtain ⟨q0,q1,q2⟩:=q
 have HA:=Lib.hid h1;have HL:=Lib.hid hl
 obtain ⟨N,hN⟩:∃ N,Hid (xs.length=N):=⟨_,Lib.hid rfl⟩
 rw [hN.out]
 clear ha h1 hl
 try dsimp only [av,an,ao]
 go_enter Tryz.func20,Tryz.ntmps20
 go_upto_region 1 with fail
 obtain ⟨W0,iX,hW,hX,X0,B0,LX,LI,LS⟩:=mk1 w (.cells #[.int .u8 q0,.string (bs q1),.int .i64 q2] 43)
 rw [hW.out]
 try rw [hX.out]
 clear hW hX
 replace X0:Hid (OpdB W0 iX ⟨q0,q1,q2⟩):=X0
 go_wp2_with fail
 go_loopw [5] (fun i wr=>∃ (k:Nat),i=.int .i64 (k:Int)∧k≤N∧Hid (∀ j,j<k→xs[j]? ≠ some ⟨q0,q1,q2⟩)∧Hid (Below W0.heap.size W0 wr)) (fun i _=>N - (intOf i).toNat)
 case atStart=>exact ⟨0,rfl,by omega,fun j h=>absurd h (Nat.not_lt_zero j),Below.refl _ _⟩
 case round=>
  obtain ⟨wo,rfl⟩:∃ wo:World,wo=wr:=⟨_,rfl⟩
  obtain ⟨k,rfl,hk,NB,B⟩:=hrel
  by_cases hkl:k<N
  ·obtain ⟨x,hx⟩:∃ x,xs[k]?=some x:=⟨_,List.getElem?_eq_getElem (by rw [hN.out];exact hkl)⟩
   obtain ⟨ba',oa,rfl,l1,c0,c1,c2⟩:=HA.out k x hx
   have i0:(0:Int)≤(k:Int):=by omega
   have i1:(k:Int)<(N:Int):=by omega
   have i2:decide ((k:Int)<(N:Int))=true:=by simp;omega
   have i3:decide (k<N)=true:=by simpa using hkl
   have c0':=(B.out.cell (p:=⟨ba',_,none⟩) (Nat.lt_of_lt_of_le l1 B0.out.size)).trans ((B0.out.cell (p:=⟨ba',_,none⟩) l1).trans c0);have c1':=(B.out.cell (p:=⟨ba',_,none⟩) (Nat.lt_of_lt_of_le l1 B0.out.size)).trans ((B0.out.cell (p:=⟨ba',_,none⟩) l1).trans c1);have c2':=(B.out.cell (p:=⟨ba',_,none⟩) (Nat.lt_of_lt_of_le l1 B0.out.size)).trans ((B0.out.cell (p:=⟨ba',_,none⟩) l1).trans c2)
   have X1:=Lib.hid (X0.out.below B.out)
   have d0:=X1.out.c0;have d1:=X1.out.c1;have d2:=X1.out.c2
   have HK:=Lib.hid hkl
   have kw:IntKind.i64.wrap ((k:Int)+1)=(k:Int)+1:=wrap1 k (by have:=HL.out;have:=hN.out;omega)
   obtain ⟨x0,x1,x2⟩:=x
   have HX:=Lib.hid hx
   have NX:(¬(⟨x0,x1,x2⟩:Opd)=⟨q0,q1,q2⟩)→Hid (∀ j,j<k+1→xs[j]? ≠ some ⟨q0,q1,q2⟩):=fun hne j hj=>by
    rcases Nat.lt_or_ge j k with h | h
    ·exact NB.out j h
    ·have:j=k:=by omega
     subst this
     rw [HX.out]
     exact fun e=>hne (Option.some.inj e)
   have PX:(⟨x0,x1,x2⟩:Opd)=⟨q0,q1,q2⟩→Hid (placeP xs ⟨q0,q1,q2⟩=(k:Int)):=fun he=>placeP_at (by rw [HX.out,he]) NB.out
   clear hx hkl hk c0 c1 c2
   dsimp only at c0' c1' c2' d0 d1 d2
   by_cases g0:x0=q0
   ·subst g0
    by_cases g1:x1=q1
    ·subst g1
     by_cases g2:x2=q2
     ·subst g2
      have PE:=PX rfl
      clear NX PX NB
      have ss:=self_toList (bs x1)
      obtain ⟨S,hS⟩:∃ S,Hid (bs x1=S):=⟨_,Lib.hid rfl⟩
      rw [hS.out] at c1' d1 ss
      go_upto_region 4 with fail
      go_quiet (fail)
      go_wp2_with fail
      go_ret
      exact ⟨by rw [PE.out];rfl,bt B0.out (below_drewN B.out _)⟩
     ·have PE:=NX (fun e=>g2 (congrArg Opd.k e))
      clear NX PX NB
      have ss:=self_toList (bs x1)
      obtain ⟨S,hS⟩:∃ S,Hid (bs x1=S):=⟨_,Lib.hid rfl⟩
      rw [hS.out] at c1' d1 ss
      have g21:(x2==q2)=false:=by simpa using g2
      have g22:(q2==x2)=false:=by simpa using fun e=>g2 e.symm
      have g23:decide (x2=q2)=false:=decide_eq_false g2
      have g24:decide (q2=x2)=false:=decide_eq_false fun e=>g2 e.symm
      clear g2
      go_upto_region 4 with fail
      go_quiet (fail)
      go_wp2_with fail
      go_roundw
      case rel=>exact ⟨k+1,rfl,by have:=HK.out;omega,PE,below_drewN B.out _⟩
      case measure=>show N - ((k:Int)+1).toNat<N - ((k:Int)).toNat;have:=HK.out;omega
    ·have PE:=NX (fun e=>g1 (congrArg Opd.n e))
     clear NX PX NB
     have s1:((bs x1).toList==(bs q1).toList)=false:=by rw [bs_toList,bs_toList];simpa using g1
     have s2:((bs q1).toList==(bs x1).toList)=false:=by rw [bs_toList,bs_toList];simpa using fun e=>g1 e.symm
     clear g1
     obtain ⟨S,hS⟩:∃ S,Hid (bs x1=S):=⟨_,Lib.hid rfl⟩
     obtain ⟨U,hU⟩:∃ S,Hid (bs q1=S):=⟨_,Lib.hid rfl⟩
     rw [hS.out] at c1' s1 s2
     rw [hU.out] at d1 s1 s2
     go_upto_region 4 with fail
     go_quiet (fail)
     go_wp2_with fail
     go_roundw
     case rel=>exact ⟨k+1,rfl,by have:=HK.out;omega,PE,below_drewN B.out _⟩
     case measure=>show N - ((k:Int)+1).toNat<N - ((k:Int)).toNat;have:=HK.out;omega
   ·have PE:=NX (fun e=>g0 (congrArg Opd.op e))
    clear NX PX NB
    have g01:(x0==q0)=false:=by simpa using g0
    have g02:(q0==x0)=false:=by simpa using fun e=>g0 e.symm
    have g03:decide (x0=q0)=false:=decide_eq_false g0
    have g04:decide (q0=x0)=false:=decide_eq_false fun e=>g0 e.symm
    clear g0
    go_upto_region 4 with fail
    go_quiet (fail)
    go_wp2_with fail
    go_roundw
    case rel=>exact ⟨k+1,rfl,by have:=HK.out;omega,PE,below_drewN B.out _⟩
    case measure=>show N - ((k:Int)+1).toNat<N - ((k:Int)).toNat;have:=HK.out;omega
  ·have hke:k=N:=by omega
   subst hke
   have i2:decide ((k:Int)<(k:Int))=false:=by simp
   have PE:=Lib.hid (placeP_no (xs:=xs) (q:=⟨q0,q1,q2⟩) (by rw [hN.out];exact NB.out))
   clear hkl hk
   go_wp2_with fail
   go_ret
   exact ⟨by rw [PE.out];rfl,bt B0.out B.out⟩
theorem index_is {w:World} {v:Value} {xs:List Opd} (q:Opd) (ha:opE.Arg w v xs) (hl:xs.length≤1000000):Calls Tryz.prog 21 #[v,ao q] w (ZP (placeP xs q) w):=by
 obtain ⟨aa,ca,rfl,h1⟩:=argO ha
 obtain ⟨q0,q1,q2⟩:=q
 have HA:=Lib.hid h1;have HL:=Lib.hid hl
 obtain ⟨N,hN⟩:∃ N,Hid (xs.length=N):=⟨_,Lib.hid rfl⟩
 rw [hN.out]
 clear ha h1 hl
 try dsimp only [av,an,ao]
 go_enter Tryz.func21,Tryz.ntmps21
 go_upto_region 1 with fail
 obtain ⟨W0,iX,hW,hX,X0,B0,LX,LI,LS⟩:=mk1 w (.cells #[.int .u8 q0,.string (bs q1),.int .i64 q2] 43)
 rw [hW.out]
 try rw [hX.out]
 clear hW hX
 replace X0:Hid (OpdB W0 iX ⟨q0,q1,q2⟩):=X0
 go_wp2_with fail
 go_loopw [8] (fun i wr=>∃ (k:Nat),i=.int .i64 (k:Int)∧k≤N∧Hid (∀ j,j<k→xs[j]? ≠ some ⟨q0,q1,q2⟩)∧Hid (Below W0.heap.size W0 wr)) (fun i _=>N - (intOf i).toNat)
 case atStart=>exact ⟨0,rfl,by omega,fun j h=>absurd h (Nat.not_lt_zero j),Below.refl _ _⟩
 case round=>
  obtain ⟨wo,rfl⟩:∃ wo:World,wo=wr:=⟨_,rfl⟩
  obtain ⟨k,rfl,hk,NB,B⟩:=hrel
  by_cases hkl:k<N
  ·obtain ⟨x,hx⟩:∃ x,xs[k]?=some x:=⟨_,List.getElem?_eq_getElem (by rw [hN.out];exact hkl)⟩
   obtain ⟨ba',oa,rfl,l1,c0,c1,c2⟩:=HA.out k x hx
   have i0:(0:Int)≤(k:Int):=by omega
   have i1:(k:Int)<(N:Int):=by omega
   have i2:decide ((k:Int)<(N:Int))=true:=by simp;omega
   have i3:decide (k<N)=true:=by simpa using hkl
   have c0':=(B.out.cell (p:=⟨ba',_,none⟩) (Nat.lt_of_lt_of_le l1 B0.out.size)).trans ((B0.out.cell (p:=⟨ba',_,none⟩) l1).trans c0);have c1':=(B.out.cell (p:=⟨ba',_,none⟩) (Nat.lt_of_lt_of_le l1 B0.out.size)).trans ((B0.out.cell (p:=⟨ba',_,none⟩) l1).trans c1);have c2':=(B.out.cell (p:=⟨ba',_,none⟩) (Nat.lt_of_lt_of_le l1 B0.out.size)).trans ((B0.out.cell (p:=⟨ba',_,none⟩) l1).trans c2)
   have X1:=Lib.hid (X0.out.below B.out)
   have d0:=X1.out.c0;have d1:=X1.out.c1;have d2:=X1.out.c2
   have HK:=Lib.hid hkl
   have kw:IntKind.i64.wrap ((k:Int)+1)=(k:Int)+1:=wrap1 k (by have:=HL.out;have:=hN.out;omega)
   obtain ⟨x0,x1,x2⟩:=x
   have HX:=Lib.hid hx
   have NX:(¬(⟨x0,x1,x2⟩:Opd)=⟨q0,q1,q2⟩)→Hid (∀ j,j<k+1→xs[j]? ≠ some ⟨q0,q1,q2⟩):=fun hne j hj=>by
    rcases Nat.lt_or_ge j k with h | h
    ·exact NB.out j h
    ·have:j=k:=by omega
     subst this
     rw [HX.out]
     exact fun e=>hne (Option.some.inj e)
   have PX:(⟨x0,x1,x2⟩:Opd)=⟨q0,q1,q2⟩→Hid (placeP xs ⟨q0,q1,q2⟩=(k:Int)):=fun he=>placeP_at (by rw [HX.out,he]) NB.out
   clear hx hkl hk c0 c1 c2
   dsimp only at c0' c1' c2' d0 d1 d2
   by_cases g0:x0=q0
   ·subst g0
    by_cases g1:x1=q1
    ·subst g1
     by_cases g2:x2=q2
     ·subst g2
      have PE:=PX rfl
      clear NX PX NB
      have ss:=self_toList (bs x1)
      obtain ⟨S,hS⟩:∃ S,Hid (bs x1=S):=⟨_,Lib.hid rfl⟩
      rw [hS.out] at c1' d1 ss
      go_upto_region 4 with fail
      go_quiet (fail)
      go_wp2_with fail
      go_ret
      exact ⟨by rw [PE.out];rfl,bt B0.out (below_drewN B.out _)⟩
     ·have PE:=NX (fun e=>g2 (congrArg Opd.k e))
      clear NX PX NB
      have ss:=self_toList (bs x1)
      obtain ⟨S,hS⟩:∃ S,Hid (bs x1=S):=⟨_,Lib.hid rfl⟩
      rw [hS.out] at c1' d1 ss
      have g21:(x2==q2)=false:=by simpa using g2
      have g22:(q2==x2)=false:=by simpa using fun e=>g2 e.symm
      have g23:decide (x2=q2)=false:=decide_eq_false g2
      have g24:decide (q2=x2)=false:=decide_eq_false fun e=>g2 e.symm
      clear g2
      go_upto_region 4 with fail
      go_quiet (fail)
      go_wp2_with fail
      go_roundw
      case rel=>exact ⟨k+1,rfl,by have:=HK.out;omega,PE,below_drewN B.out _⟩
      case measure=>show N - ((k:Int)+1).toNat<N - ((k:Int)).toNat;have:=HK.out;omega
    ·have PE:=NX (fun e=>g1 (congrArg Opd.n e))
     clear NX PX NB
     have s1:((bs x1).toList==(bs q1).toList)=false:=by rw [bs_toList,bs_toList];simpa using g1
     have s2:((bs q1).toList==(bs x1).toList)=false:=by rw [bs_toList,bs_toList];simpa using fun e=>g1 e.symm
     clear g1
     obtain ⟨S,hS⟩:∃ S,Hid (bs x1=S):=⟨_,Lib.hid rfl⟩
     obtain ⟨U,hU⟩:∃ S,Hid (bs q1=S):=⟨_,Lib.hid rfl⟩
     rw [hS.out] at c1' s1 s2
     rw [hU.out] at d1 s1 s2
     go_upto_region 4 with fail
     go_quiet (fail)
     go_wp2_with fail
     go_roundw
     case rel=>exact ⟨k+1,rfl,by have:=HK.out;omega,PE,below_drewN B.out _⟩
     case measure=>show N - ((k:Int)+1).toNat<N - ((k:Int)).toNat;have:=HK.out;omega
   ·have PE:=NX (fun e=>g0 (congrArg Opd.op e))
    clear NX PX NB
    have g01:(x0==q0)=false:=by simpa using g0
    have g02:(q0==x0)=false:=by simpa using fun e=>g0 e.symm
    have g03:decide (x0=q0)=false:=decide_eq_false g0
    have g04:decide (q0=x0)=false:=decide_eq_false fun e=>g0 e.symm
    clear g0
    go_upto_region 4 with fail
    go_quiet (fail)
    go_wp2_with fail
    go_roundw
    case rel=>exact ⟨k+1,rfl,by have:=HK.out;omega,PE,below_drewN B.out _⟩
    case measure=>show N - ((k:Int)+1).toNat<N - ((k:Int)).toNat;have:=HK.out;omega
  ·have hke:k=N:=by omega
   subst hke
   have i2:decide ((k:Int)<(k:Int))=false:=by simp
   have PE:=Lib.hid (placeP_no (xs:=xs) (q:=⟨q0,q1,q2⟩) (by rw [hN.out];exact NB.out))
   clear hkl hk
   go_wp2_with fail
   go_ret
   exact ⟨by rw [PE.out];rfl,bt B0.out B.out⟩
theorem contains_is {w:World} {v:Value} {xs:List Opd} (q:Opd) (ha:opE.Arg w v xs) (hl:xs.length≤1000000):Calls Tryz.prog 18 #[v,ao q] w (BP (decide (q ∈ xs)) w):=by
 have P:=fun w (h:opE.Arg w v xs)=>index_is q h hl
 have E:=placeP_pos (xs:=xs) (q:=q)
 rw [←E]
 generalize placeP xs q=z at P⊢
 clear E
 try dsimp only [av,an,ao]
 go_enter Tryz.func18,Tryz.ntmps18
 go_upto_region 1 with fail
 obtain ⟨W0,iX,hW,hX,X0,B0,LX,LI,LS⟩:=mk1 w (.cells #[.int .u8 q.op,.string (bs q.n),.int .i64 q.k] 43)
 rw [hW.out]
 try rw [hX.out]
 clear hW hX
 replace X0:Hid (OpdB W0 iX q):=X0
 have Xc0:=X0.out.c0;have Xc1:=X0.out.c1;have Xc2:=X0.out.c2
 have PW:=P W0 (ha.below B0.out)
 clear P ha hl
 go_wp2_with (go_at_call 21;(with_reducible refine PW.mono ?_);rintro e1 w1 ⟨rfl,q1⟩;have B1:=Lib.hid (bt B0.out q1);clear q1 B0)
 go_ret
 exact ⟨rfl,B1.out⟩
end Go.Proofs.YteagpbkbdlmdiaaGreat.Ev
namespace Go.Proofs.YteagpbkbdlmdiaaGreat.Ev
open Go Go.RowKit Dt Tx Va
attribute [local go_sem ↓] Go.wp_at_zero Go.wp_at_succ
theorem argN {w:World} {v:Value} {xs:List Nd} (h:ndE.Arg w v xs):∃ (ao:Option Addr) (cap:Nat),v=.slice ao xs.length cap∧∀ (i:Nat) (n:Nd),xs[i]?=some n→∃ b o:Nat,ao=some ⟨b,o,none⟩∧b<w.heap.size∧
  w.cell? ⟨b,o+i*9,none⟩=some (.int .u8 n.op)∧w.cell? ⟨b,o+i*9+1,none⟩=some (.int .i64 n.c)∧w.cell? ⟨b,o+i*9+2,none⟩=some (.int .i64 n.s)∧w.cell? ⟨b,o+i*9+3,none⟩=some (.string (bs n.n))∧w.cell? ⟨b,o+i*9+4,none⟩=some (.int .i64 n.k)∧w.cell? ⟨b,o+i*9+5,none⟩=some (.int .i64 n.x)∧w.cell? ⟨b,o+i*9+6,none⟩=some (.int .i64 n.y)∧w.cell? ⟨b,o+i*9+7,none⟩=some (.int .i64 n.z)∧w.cell? ⟨b,o+i*9+8,none⟩=some (.int .i64 n.p):=by
 obtain ⟨ao,cap,e,_,h⟩:=h
 refine ⟨ao,cap,e,fun i x hx=>?_⟩
 obtain ⟨b,o,h1,h2,h3⟩:=h i x hx
 exact ⟨b,o,h1,h2,h3 0 _ rfl,h3 1 _ rfl,h3 2 _ rfl,h3 3 _ rfl,h3 4 _ rfl,h3 5 _ rfl,h3 6 _ rfl,h3 7 _ rfl,h3 8 _ rfl⟩
def OsP (l:List Opd) (w:World) (e:Ending) (w':World):Prop:=∃ v,e=.returned v∧opE.Arg w' v l∧Below w.heap.size w w'
theorem opds_step {t:List Nd} {k:Nat} {n:Nd} (h:t[k]?=some n):opdsF [] (t.take (k+1))=addO (opdsF [] (t.take k)) n:=by
 rw [List.take_add_one,h];exact opdsF_snoc _ _ _
theorem addO_none {l:List Opd} {n:Nd} (h:opdOf n=none):addO l n=l:=by unfold addO;rw [h]
theorem addO_in {l:List Opd} {n:Nd} {q:Opd} (h:opdOf n=some q) (hq:q ∈ l):addO l n=l:=by unfold addO;rw [h];exact if_pos hq
theorem addO_new {l:List Opd} {n:Nd} {q:Opd} (h:opdOf n=some q) (hq:¬q ∈ l):addO l n=l++[q]:=by unfold addO;rw [h];exact if_neg hq
set_option maxRecDepth 100000 in
set_option maxHeartbeats 4000000 in
theorem operands_is {w:World} {v:Value} {t:List Nd} (ha:ndE.Arg w v t) (hl:t.length≤300):Calls Tryz.prog 7 #[v] w (OsP (opds t) w):=by
 obtain ⟨aa,ca,rfl,h1⟩:=argN ha
 have HA:=Lib.hid h1;have HL:=Lib.hid hl
 obtain ⟨N,hN⟩:∃ N,Hid (t.length=N):=⟨_,Lib.hid rfl⟩
 rw [hN.out]
 clear ha h1 hl
 go_enter Tryz.func7,Tryz.ntmps7
 go_wp2_with fail
 go_loopw [2,9] (fun u i wr=>∃ (k:Nat) (acc:List Opd),i=.int .i64 (k:Int)∧k≤N∧Hid (acc=opdsF [] (t.take k))∧Hid (acc.length≤k)∧Hid (opE.Row wr w.heap.size u acc)∧Hid (Below w.heap.size w wr)) (fun _ i _=>N - (intOf i).toNat)
 case atStart=>exact ⟨0,[],rfl,by omega,by show _=_;simp [opdsF],Nat.le_refl _,Elem.Row.nil _ _,Below.refl _ _⟩
 case round=>
  obtain ⟨wo,rfl⟩:∃ wo:World,wo=wr:=⟨_,rfl⟩
  obtain ⟨k,acc,rfl,hk,HE,HAC,RR,B⟩:=hrel
  by_cases hkl:k<N
  ·obtain ⟨n,hn⟩:∃ n,t[k]?=some n:=⟨_,List.getElem?_eq_getElem (by rw [hN.out];exact hkl)⟩
   obtain ⟨ba',oa,rfl,l1,c0,c1,c2,c3,c4,c5,c6,c7,c8⟩:=HA.out k n hn
   have i0:(0:Int)≤(k:Int):=by omega
   have i1:(k:Int)<(N:Int):=by omega
   have i2:decide ((k:Int)<(N:Int))=true:=by simp;omega
   have i3:decide (k<N)=true:=by simpa using hkl
   have kc:=fun {o:Nat} {u:Value} (h:w.cell? ⟨ba',o,none⟩=some u)=>(B.out.cell (p:=⟨ba',o,none⟩) l1).trans h
   replace c0:=kc c0;replace c1:=kc c1;replace c2:=kc c2;replace c3:=kc c3;replace c4:=kc c4;replace c5:=kc c5;replace c6:=kc c6;replace c7:=kc c7;replace c8:=kc c8
   have kw:IntKind.i64.wrap ((k:Int)+1)=(k:Int)+1:=wrap1 k (by have:=HL.out;have:=hN.out;omega)
   have HS:=Lib.hid (opds_step hn)
   rw [←HE.out] at HS
   have HK:=Lib.hid hkl
   have OC:=fun w=>opd_is (w:=w) n
   obtain ⟨av,cv,rfl,_,_⟩:=RR.out.form
   clear kc hkl hk hn
   go_upto_region 4 with fail
   obtain ⟨W1,iN,hW,hX,N1,BN,LN,_,_⟩:=mk1 wo (.cells #[.int .u8 n.op,.int .i64 n.c,.int .i64 n.s,.string (bs n.n),.int .i64 n.k,.int .i64 n.x,.int .i64 n.y,.int .i64 n.z,.int .i64 n.p] 39)
   rw [hW.out]
   try rw [hX.out]
   clear hW hX c0 c1 c2 c3 c4 c5 c6 c7 c8
   replace N1:Hid (Nine W1 iN n):=N1
   have R1:=Lib.hid (Elem.Row.below RR.out BN.out);have B1:=Lib.hid (bt B.out BN.out)
   clear BN RR B
   have c0:=N1.out.c0;have c1:=N1.out.c1;have c2:=N1.out.c2;have c3:=N1.out.c3;have c4:=N1.out.c4;have c5:=N1.out.c5;have c6:=N1.out.c6;have c7:=N1.out.c7;have c8:=N1.out.c8
   cases ho:opdOf n with
   | none=>
    rw [ho] at OC
    have HS2:=Lib.hid (HS.out.trans (addO_none ho))
    clear ho HS
    go_upto_region 5 with (go_at_call 17;(with_reducible refine (OC _).mono ?_);rintro e2 w2 ⟨rfl,q2⟩;have R2:=Lib.hid (Elem.Row.below R1.out q2);have B2:=Lib.hid (bt B1.out q2);clear q2 OC R1 B1)
    obtain ⟨W3,iO,hW,hX,O3,BO,LO,_,_⟩:=mk1 w2 (.cells #[.int .u8 noO.op,.string (bs noO.n),.int .i64 noO.k] 43)
    rw [hW.out]
    try rw [hX.out]
    clear hW hX
    replace O3:Hid (OpdB W3 iO noO):=O3
    have R3:=Lib.hid (Elem.Row.below R2.out BO.out);have B3:=Lib.hid (bt B2.out BO.out)
    clear BO R2 B2
    clear c0 c1 c2 c3 c4 c5 c6 c7 c8
    go_wp2_with fail
    refine ⟨⟨k+1,acc,rfl,HK.out,HS2.out.symm,Nat.le_succ_of_le HAC.out,R3,B3⟩,?_⟩
    show N - ((k:Int)+1).toNat<N - (k:Int).toNat;have:=HK.out;omega
   | some q=>
    rw [ho] at OC
    have HO:=Lib.hid ho
    clear ho
    go_upto_region 5 with (go_at_call 17;(with_reducible refine (OC _).mono ?_);rintro e2 w2 ⟨rfl,q2⟩;have R2:=Lib.hid (Elem.Row.below R1.out q2);have B2:=Lib.hid (bt B1.out q2);clear q2 OC R1 B1)
    obtain ⟨W3,iO,hW,hX,O3,BO,LO,_,_⟩:=mk1 w2 (.cells #[.int .u8 q.op,.string (bs q.n),.int .i64 q.k] 43)
    rw [hW.out]
    try rw [hX.out]
    clear hW hX
    replace O3:Hid (OpdB W3 iO q):=O3
    have R3:=Lib.hid (Elem.Row.below R2.out BO.out);have B3:=Lib.hid (bt B2.out BO.out)
    clear BO R2 B2
    clear c0 c1 c2 c3 c4 c5 c6 c7 c8
    have d0:=O3.out.c0;have d1:=O3.out.c1;have d2:=O3.out.c2
    have CC:=contains_is q R3.out.arg (by have:=HAC.out;have:=HL.out;have:=HK.out;have:=hN.out;omega)
    by_cases hq:q ∈ acc
    ·have HS2:=Lib.hid (HS.out.trans (addO_in HO.out hq))
     rw [decide_eq_true hq] at CC
     clear hq HS HO
     go_wp2_with (go_at_call 18;(with_reducible refine CC.mono ?_);rintro e4 w4 ⟨rfl,q4⟩;have R4:=Lib.hid (Elem.Row.below R3.out q4);have B4:=Lib.hid (bt B3.out q4);clear q4 CC R3 B3)
     refine ⟨⟨k+1,acc,rfl,HK.out,HS2.out.symm,Nat.le_succ_of_le HAC.out,R4,B4⟩,?_⟩
     show N - ((k:Int)+1).toNat<N - (k:Int).toNat;have:=HK.out;omega
    ·have HS2:=Lib.hid (HS.out.trans (addO_new HO.out hq))
     rw [decide_eq_false hq] at CC
     clear hq HS HO
     go_upto_region 6 with (go_at_call 18;(with_reducible refine CC.mono ?_);rintro e4 w4 ⟨rfl,q4⟩;have R4:=Lib.hid (Elem.Row.below R3.out q4);have B4:=Lib.hid (bt B3.out q4);have O4:=Lib.hid (O3.out.below q4);clear q4 CC R3 B3)
     clear d0 d1 d2
     have d0:=O4.out.c0;have d1:=O4.out.c1;have d2:=O4.out.c2
     have SRC:Hid (opE.Arg (w4.alloc (.cells #[.int .u8 q.op,.string (bs q.n),.int .i64 q.k] 43)) (.slice (some ⟨w4.heap.size,0,none⟩) 1 1) [q]):=Lib.hid (Elem.arg_one (E:=opE) (w:=w4) q 43)
     have RA:=Lib.hid (Elem.Row.below R4.out (ba w4 (.cells #[.int .u8 q.op,.string (bs q.n),.int .i64 q.k] 43)))
     have BA:=Lib.hid (bt B4.out (ba w4 (.cells #[.int .u8 q.op,.string (bs q.n),.int .i64 q.k] 43)))
     have HFL:Hid (acc.length+1≤1000001):=Lib.hid (by have:=HAC.out;have:=HK.out;have:=HL.out;have:=hN.out;omega)
     have HB:=Lib.hid BA.out.size
     go_wp2_with (at_builtin;go_loud (refine Elem.app (E:=opE) rfl _ _ rfl w.heap.size (.slice av acc.length cv) acc (.slice (some ⟨w4.heap.size,0,none⟩) 1 1) [q] rfl rfl RA.out SRC.out HFL.out (by decide) HB.out ?_;intro v6 w6 r6 q6 _;have R6:=Lib.hid r6;have B6:=Lib.hid (BA.out.grown q6 BA.out.size (fun z hz=>(RA.out.lt z hz).1));clear r6 q6))
     refine ⟨⟨k+1,acc++[q],rfl,HK.out,HS2.out.symm,?_,R6,B6⟩,?_⟩
     ·show (acc++[q]).length≤k+1
      rw [List.length_append];have:=HAC.out;show acc.length+1≤_;omega
     ·show N - ((k:Int)+1).toNat<N - (k:Int).toNat;have:=HK.out;omega
  ·have hkN:k=N:=by omega
   subst hkN
   have i2:decide ((k:Int)<(k:Int))=false:=by simp
   have HE2:=Lib.hid (HE.out.trans (by rw [List.take_of_length_le (by rw [hN.out];exact Nat.le_refl _)];rfl:_=opds t))
   clear hk hkl HE
   obtain ⟨av,cv,rfl,_,_⟩:=RR.out.form
   go_wp2_with fail
   go_ret
   refine ⟨_,rfl,?_,B.out⟩
   rw [←HE2.out]
   exact RR.out.arg
end Go.Proofs.YteagpbkbdlmdiaaGreat.Ev
