/-
  eval: a row of values in memory, place by place; eval.Value, plain: what stands in the row of values behind k nodes; The kinds of a tree's nodes, plain, and that values are of their nodes' kinds.
-/
import Derived.Test.YteagpbkbdlmdiaaGreatQ24
import Derived.Test.YteagpbkbdlmdiaaGreatQ25
import Derived.Laws.MakeOwn
set_option linter.unusedSimpArgs false
set_option linter.unusedVariables false
namespace Go.Proofs.YteagpbkbdlmdiaaGreat.Ev
open Go Go.RowKit Dt Tx Va
theorem heap_set4 {w:World} {g b:Nat} (ne:¬b=g) (o0 o1 o2 o3:Nat) (x0 x1 x2 x3:Value):((((w.setCell ⟨g,o0,none⟩ x0).setCell ⟨g,o1,none⟩ x1).setCell ⟨g,o2,none⟩ x2).setCell ⟨g,o3,none⟩ x3).heap[b]?=w.heap[b]?:=by
 rw [heap_setCell_other _ ⟨g,o3,none⟩ b _ ne,heap_setCell_other _ ⟨g,o2,none⟩ b _ ne,heap_setCell_other _ ⟨g,o1,none⟩ b _ ne,heap_setCell_other _ ⟨g,o0,none⟩ b _ ne]
theorem below_set4o {B g:Nat} {a w:World} (h:Below B a w) (hg:B≤g) (o0 o1 o2 o3:Nat) (x0 x1 x2 x3:Value):Below B a ((((w.setCell ⟨g,o0,none⟩ x0).setCell ⟨g,o1,none⟩ x1).setCell ⟨g,o2,none⟩ x2).setCell ⟨g,o3,none⟩ x3):=
 Below.setCell (Below.setCell (Below.setCell (Below.setCell h (p:=⟨g,o0,none⟩) hg _) (p:=⟨g,o1,none⟩) hg _) (p:=⟨g,o2,none⟩) hg _) (p:=⟨g,o3,none⟩) hg _
def AllR (ty:TypeId) (w:World) (g n:Nat) (F:Nat→V):Prop:=∃ cs:Array Value,w.heap[g]?=some (.cells cs ty (0,0))∧cs.size=n*4∧
 ∀ j,j<n→cs[j*4]?=some (.int .u8 (F j).k)∧cs[j*4+1]?=some (.int .i64 (F j).c)∧cs[j*4+2]?=some (.int .i64 (F j).s)∧cs[j*4+3]?=some (.int .i64 (F j).e)
section
variable {ty:TypeId} {w:World} {g n:Nat} {F:Nat→V}
theorem AllR.lt (h:AllR ty w g n F):g<w.heap.size:=by obtain ⟨cs,h1,_⟩:=h;exact (Array.getElem?_eq_some_iff.1 h1).1
theorem AllR.keep {w':World} (h:AllR ty w g n F) (e:w'.heap[g]?=w.heap[g]?):AllR ty w' g n F:=by obtain ⟨cs,h1,h2⟩:=h;exact ⟨cs,e.trans h1,h2⟩
theorem AllR.below {w':World} (h:AllR ty w g n F) (k:Below w.heap.size w w'):AllR ty w' g n F:=h.keep (k.block g h.lt)
theorem AllR.f (h:AllR ty w g n F) (i:Nat):w.frozen? ⟨g,i,none⟩=false:=by obtain ⟨cs,h1,_⟩:=h;exact frozen_of_row w _ _ _ _ h1
theorem AllR.at {v:V} (h:AllR ty w g n F) {j:Nat} (hj:j<n) (hv:F j=v):w.cell? ⟨g,j*4,none⟩=some (.int .u8 v.k)∧w.cell? ⟨g,j*4+1,none⟩=some (.int .i64 v.c)∧w.cell? ⟨g,j*4+2,none⟩=some (.int .i64 v.s)∧w.cell? ⟨g,j*4+3,none⟩=some (.int .i64 v.e):=by
 obtain ⟨cs,h1,h2,h3⟩:=h
 subst hv
 simp only [cell_of_row w _ _ _ _ (0,0) h1]
 exact h3 j hj
theorem AllR.congr {G:Nat→V} (h:AllR ty w g n F) (e:∀ j,j<n→F j=G j):AllR ty w g n G:=by
 obtain ⟨cs,h1,h2,h3⟩:=h
 exact ⟨cs,h1,h2,fun j hj=>by rw [←e j hj];exact h3 j hj⟩
theorem AllR.set (h:AllR ty w g n F) {i:Nat} (hi:i<n) (v:V) :
  AllR ty ((((w.setCell ⟨g,i*4,none⟩ (.int .u8 v.k)).setCell ⟨g,i*4+1,none⟩ (.int .i64 v.c)).setCell ⟨g,i*4+2,none⟩ (.int .i64 v.s)).setCell ⟨g,i*4+3,none⟩ (.int .i64 v.e)) g n (fun j=>if j=i then v else F j):=by
 obtain ⟨cs,h1,h2,h3⟩:=h
 have a1:(w.setCell ⟨g,i*4,none⟩ (.int .u8 v.k)).heap[g]?=some (.cells (cs.setIfInBounds (i*4) (.int .u8 v.k)) ty (0,0)):=by rw [heap_setCell_same w g (i*4) _ _ _ h1]
 have a2:=a1
 replace a2:((w.setCell ⟨g,i*4,none⟩ (.int .u8 v.k)).setCell ⟨g,i*4+1,none⟩ (.int .i64 v.c)).heap[g]?=some (.cells ((cs.setIfInBounds (i*4) (.int .u8 v.k)).setIfInBounds (i*4+1) (.int .i64 v.c)) ty (0,0)):=by rw [heap_setCell_same _ g (i*4+1) _ _ _ a1]
 have a3:(((w.setCell ⟨g,i*4,none⟩ (.int .u8 v.k)).setCell ⟨g,i*4+1,none⟩ (.int .i64 v.c)).setCell ⟨g,i*4+2,none⟩ (.int .i64 v.s)).heap[g]?=some (.cells (((cs.setIfInBounds (i*4) (.int .u8 v.k)).setIfInBounds (i*4+1) (.int .i64 v.c)).setIfInBounds (i*4+2) (.int .i64 v.s)) ty (0,0)):=by rw [heap_setCell_same _ g (i*4+2) _ _ _ a2]
 have a4:((((w.setCell ⟨g,i*4,none⟩ (.int .u8 v.k)).setCell ⟨g,i*4+1,none⟩ (.int .i64 v.c)).setCell ⟨g,i*4+2,none⟩ (.int .i64 v.s)).setCell ⟨g,i*4+3,none⟩ (.int .i64 v.e)).heap[g]?=some (.cells ((((cs.setIfInBounds (i*4) (.int .u8 v.k)).setIfInBounds (i*4+1) (.int .i64 v.c)).setIfInBounds (i*4+2) (.int .i64 v.s)).setIfInBounds (i*4+3) (.int .i64 v.e)) ty (0,0)):=by rw [heap_setCell_same _ g (i*4+3) _ _ _ a3]
 refine ⟨_,a4,by simpa using h2,fun j hj=>?_⟩
 by_cases e:j=i
 ·subst e
  simp only [if_true]
  have z0:j*4<cs.size:=by omega
  have z1:j*4+1<cs.size:=by omega
  have z2:j*4+2<cs.size:=by omega
  have z3:j*4+3<cs.size:=by omega
  refine ⟨?_,?_,?_,?_⟩
  ·rw [Array.getElem?_setIfInBounds_ne (by omega),Array.getElem?_setIfInBounds_ne (by omega),Array.getElem?_setIfInBounds_ne (by omega),Array.getElem?_setIfInBounds];simp [z0]
  ·rw [Array.getElem?_setIfInBounds_ne (by omega),Array.getElem?_setIfInBounds_ne (by omega),Array.getElem?_setIfInBounds];simp [z1]
  ·rw [Array.getElem?_setIfInBounds_ne (by omega),Array.getElem?_setIfInBounds];simp [z2]
  ·rw [Array.getElem?_setIfInBounds];simp [z3]
 ·simp only [if_neg e]
  obtain ⟨b0,b1,b2,b3⟩:=h3 j hj
  refine ⟨?_,?_,?_,?_⟩
  ·rw [Array.getElem?_setIfInBounds_ne (by omega),Array.getElem?_setIfInBounds_ne (by omega),Array.getElem?_setIfInBounds_ne (by omega),Array.getElem?_setIfInBounds_ne (by omega)];exact b0
  ·rw [Array.getElem?_setIfInBounds_ne (by omega),Array.getElem?_setIfInBounds_ne (by omega),Array.getElem?_setIfInBounds_ne (by omega),Array.getElem?_setIfInBounds_ne (by omega)];exact b1
  ·rw [Array.getElem?_setIfInBounds_ne (by omega),Array.getElem?_setIfInBounds_ne (by omega),Array.getElem?_setIfInBounds_ne (by omega),Array.getElem?_setIfInBounds_ne (by omega)];exact b2
  ·rw [Array.getElem?_setIfInBounds_ne (by omega),Array.getElem?_setIfInBounds_ne (by omega),Array.getElem?_setIfInBounds_ne (by omega),Array.getElem?_setIfInBounds_ne (by omega)];exact b3
end
theorem AllR.k3 {w:World} {g:Nat} {F:Nat→V} (h:AllR 54 w g 3 F) {a b d:V} (ea:F 0=a) (eb:F 1=b) (ed:F 2=d):K3 w g a b d:=by
 obtain ⟨cs,h1,h2,h3⟩:=h
 subst ea;subst eb;subst ed
 obtain ⟨a0,a1,a2,a3⟩:=h3 0 (by decide)
 obtain ⟨b0,b1,b2,b3⟩:=h3 1 (by decide)
 obtain ⟨d0,d1,d2,d3⟩:=h3 2 (by decide)
 unfold K3
 rw [h1]
 congr 2
 refine Array.ext_getElem? fun i=>?_
 match i with
 | 0=>simpa using a0
 | 1=>simpa using a1
 | 2=>simpa using a2
 | 3=>simpa using a3
 | 4=>simpa using b0
 | 5=>simpa using b1
 | 6=>simpa using b2
 | 7=>simpa using b3
 | 8=>simpa using d0
 | 9=>simpa using d1
 | 10=>simpa using d2
 | 11=>simpa using d3
 | i+12=>rw [Array.getElem?_eq_none (by omega),Array.getElem?_eq_none (by simp)]
theorem AllR.kids (w:World):AllR 54 (w.alloc (.cells #[.int .u8 0,.int .i64 0,.int .i64 0,.int .i64 0,.int .u8 0,.int .i64 0,.int .i64 0,.int .i64 0,.int .u8 0,.int .i64 0,.int .i64 0,.int .i64 0] 54)) w.heap.size 3 (fun _=>noV):=by
 refine ⟨_,heap_alloc_new w _,rfl,fun j hj=>?_⟩
 match j,hj with
 | 0,_=>exact ⟨rfl,rfl,rfl,rfl⟩
 | 1,_=>exact ⟨rfl,rfl,rfl,rfl⟩
 | 2,_=>exact ⟨rfl,rfl,rfl,rfl⟩
def madeV (w:World) (n:Nat):World:=w.alloc (.cells (madeCells #[.int .u8 0,.int .i64 0,.int .i64 0,.int .i64 0] (n*4)) 33)
theorem madeV_at (w:World) (n:Nat):AllR 33 (madeV w n) w.heap.size n (fun _=>noV):=by
 refine ⟨_,heap_alloc_new w _,size_madeCells _ _,fun j hj=>?_⟩
 have key:∀ q,q<n*4→(madeCells #[(.int .u8 0:Value),.int .i64 0,.int .i64 0,.int .i64 0] (n*4))[q]?=some (#[(.int .u8 0:Value),.int .i64 0,.int .i64 0,.int .i64 0][q % 4]!):=fun q hq=>by
  unfold madeCells
  rw [Array.getElem?_map,Array.getElem?_range,if_pos hq];rfl
 refine ⟨?_,?_,?_,?_⟩
 ·rw [key _ (by omega),show j*4 % 4=0 by omega];rfl
 ·rw [key _ (by omega),show (j*4+1) % 4=1 by omega];rfl
 ·rw [key _ (by omega),show (j*4+2) % 4=2 by omega];rfl
 ·rw [key _ (by omega),show (j*4+3) % 4=3 by omega];rfl
theorem madeV_below (w:World) (n:Nat):Below w.heap.size w (madeV w n):=ba w _
theorem madeV_size (w:World) (n:Nat):(madeV w n).heap.size=w.heap.size+1:=World.size_alloc _ _
theorem make_vals (n:Nat) (hn:n≤1000) (w:World):(Instr.makeSlice 24 (.int .i64 (n:Int)) (.int .i64 (n:Int))).run Tryz.prog w=.ok (.slice (some ⟨w.heap.size,0,none⟩) n n) (madeV w n):=by
 unfold madeV
 obtain ⟨i,hi,h0,h1,h2⟩:=info_parts vaE.info
 have e0:vaE.z=.agg #[.int .u8 0,.int .i64 0,.int .i64 0,.int .i64 0]:=rfl
 have h1':i.size=4:=h1
 have h2':i.bytes=32:=h2
 rw [run_makeSlice w 24 33 i _ Tryz.underlying24 hi h0 .i64 .i64 (n:Int) (n:Int) (by omega) (by omega) (by rw [h1',Int.toNat_natCast];omega) (by rw [h2'];omega) (by omega)]
 rw [h1',Int.toNat_natCast,e0]
 rfl
theorem argV {w:World} {v:Value} {xs:List V} (h:vaE.Arg w v xs):∃ (ao:Option Addr) (cap:Nat),v=.slice ao xs.length cap∧∀ (i:Nat) (x:V),xs[i]?=some x→∃ b o:Nat,ao=some ⟨b,o,none⟩∧b<w.heap.size∧
  w.cell? ⟨b,o+i*4,none⟩=some (.int .u8 x.k)∧w.cell? ⟨b,o+i*4+1,none⟩=some (.int .i64 x.c)∧w.cell? ⟨b,o+i*4+2,none⟩=some (.int .i64 x.s)∧w.cell? ⟨b,o+i*4+3,none⟩=some (.int .i64 x.e):=by
 obtain ⟨ao,cap,e,_,h⟩:=h
 refine ⟨ao,cap,e,fun i x hx=>?_⟩
 obtain ⟨b,o,h1,h2,h3⟩:=h i x hx
 exact ⟨b,o,h1,h2,h3 0 _ rfl,h3 1 _ rfl,h3 2 _ rfl,h3 3 _ rfl⟩
end Go.Proofs.YteagpbkbdlmdiaaGreat.Ev
namespace Go.Proofs.YteagpbkbdlmdiaaGreat.Ev
open Go Go.RowKit Dt Tx Va
def upV (l:List Opd) (vals:List V) (t:List Nd) (k:Nat):List V:=(t.take k).foldl (stepV l vals) []
theorem upV_len {l:List Opd} {vals:List V} {t:List Nd} {k:Nat} (h:k≤t.length):(upV l vals t k).length=k:=by
 unfold upV;rw [all_len,List.length_take,Nat.min_eq_left h];simp
theorem upV_step {l:List Opd} {vals:List V} {t:List Nd} {k:Nat} {n:Nd} (h:t[k]?=some n):upV l vals t (k+1)=upV l vals t k++[nodeV n (ownV l vals n) (kidV (upV l vals t k) n.x) (kidV (upV l vals t k) n.y) (kidV (upV l vals t k) n.z)]:=by
 unfold upV
 rw [List.take_add_one,h,List.foldl_append];rfl
theorem upV_fine {l:List Opd} {vals:List V} {t:List Nd} (hv:∀ v ∈ vals,v.ok) (k:Nat):∀ v ∈ upV l vals t k,V.fine v:=all_fine hv _ [] (fun v h=>by cases h)
theorem upV_all {t:List Nd} {vals:List V} {k:Nat} (h:t.length≤k):((upV (opds t) vals t k).getLast?).getD noV=valueV t vals:=by
 unfold upV valueV allV;rw [List.take_of_length_le h]
def rowF (A:List V) (j:Nat):V:=(A[j]?).getD noV
theorem rowF_snoc {A:List V} {k:Nat} (h:A.length=k) (v:V) (j:Nat):(if j=k then v else rowF A j)=rowF (A++[v]) j:=by
 unfold rowF
 by_cases e:j=k
 ·subst e;rw [if_pos rfl,List.getElem?_append_right (by omega),h];simp
 ·rw [if_neg e]
  rcases Nat.lt_or_ge j A.length with g | g
  ·rw [List.getElem?_append_left g]
  ·rw [List.getElem?_eq_none g,List.getElem?_eq_none (by rw [List.length_append,List.length_singleton];omega)]
theorem kid_in {A:List V} {k:Nat} (h:A.length=k) {x:Int} {m:Nat} (hx:x=(m:Int)):kidV A x=rowF A m:=by
 unfold kidV rowF;subst hx;rw [if_pos (by omega),Int.toNat_natCast]
theorem kid_neg {A:List V} {x:Int} (hx:¬0≤x):kidV A x=noV:=by unfold kidV;rw [if_neg hx]
theorem kid_out {A:List V} {k:Nat} (h:A.length=k) {x:Int} (hx:¬x<(k:Int)):kidV A x=noV:=by
 unfold kidV
 split
 ·rw [List.getElem?_eq_none (by omega)];rfl
 ·rfl
def kidX (n:Nd) (j:Nat):Int:=match j with | 0=>n.x | 1=>n.y | _=>n.z
theorem last_snoc (A:List V) (v:V):((A++[v]).getLast?).getD noV=v:=by simp
theorem own_none {l:List Opd} {vals:List V} {n:Nd} (h:opdOf n=none):ownV l vals n=noV:=by unfold ownV;rw [h]
theorem own_may {l:List Opd} {vals:List V} {n:Nd} {q:Opd} {u:V} (h:opdOf n=some q) (hu:(vals[l.idxOf q]?).getD noV=u) (hm:mayV u=true):ownV l vals n=u:=by unfold ownV;rw [h];simp only;rw [hu,if_pos hm]
theorem own_bad {l:List Opd} {vals:List V} {n:Nd} {q:Opd} {u:V} (h:opdOf n=some q) (hu:(vals[l.idxOf q]?).getD noV=u) (hm:mayV u=false):ownV l vals n=badE 13:=by unfold ownV;rw [h];simp only;rw [hu,hm];rfl
theorem kids_done {A:List V} {n:Nd} {j:Nat} {x:Int} (hj:kidX n j=x) (r:Nat):(if r=j then kidV A x else if r<j then kidV A (kidX n r) else noV)=if r<j+1 then kidV A (kidX n r) else noV:=by
 by_cases e:r=j
 ·subst e;rw [if_pos rfl,if_pos (by omega),hj]
 ·rw [if_neg e]
  by_cases g:r<j
  ·rw [if_pos g,if_pos (by omega)]
  ·rw [if_neg g,if_neg (by omega)]
theorem kids_skip {A:List V} {n:Nd} {j:Nat} {x:Int} (hj:kidX n j=x) (hx:kidV A x=noV) (r:Nat):(if r<j then kidV A (kidX n r) else noV)=if r<j+1 then kidV A (kidX n r) else noV:=by
 rw [←kids_done hj r]
 by_cases e:r=j
 ·subst e;rw [if_neg (by omega),if_pos rfl,hx]
 ·rw [if_neg e]
end Go.Proofs.YteagpbkbdlmdiaaGreat.Ev
namespace Go.Proofs.YteagpbkbdlmdiaaGreat.Ek
open Go Dt Tx Va Ev
structure Fd where
 n:List UInt8
 k:Int
def findF:List Fd→List UInt8→Int × Bool
 | [],_=>(0,false)
 | f :: r,nm=>if f.n=nm then (f.k,true) else findF r nm
def fieldK (fs:List Fd) (nm:List UInt8):Int × Int:=
 if nm=[] then (0,0) else if (findF fs nm).2=false then (0,5) else if (findF fs nm).1 ≠ 1∧(findF fs nm).1 ≠ 2 then (0,8) else ((findF fs nm).1,0)
def kindOf (op fld k0 k1 k2:Int):Int × Bool:=
 if op=1 then (1,true)
 else if op=2∨op=3∨op=24 then (2,true)
 else if op=4∨op=26 then (fld,true)
 else if op=7 then (2,decide (k0=2))
 else if op=5∨op=6 then (2,decide (k0=2∧k1=2))
 else if op=8∨op=9 then (2,decide (k0=k1))
 else if op=10∨op=11∨op=12∨op=13 then (2,decide (k0=1∧k1=1))
 else if op=18∨op=22∨op=23 then (1,decide (k0=1))
 else if op=19 then (k1,decide (k0=2∧k1=k2))
 else if op=25 then (fld,decide (k0=fld))
 else if op=27∨op=28 then (1,decide (fld=1))
 else if op=29∨op=30 then (2,decide (fld=2))
 else (1,decide (k0=1∧k1=1))
def kidK (acc:List (Int × Int)) (j:Int):Int:=if 0≤j then ((acc[j.toNat]?).getD (0,0)).1 else 0
def wrongN (fs:List Fd) (acc:List (Int × Int)) (n:Nd):Int × Int:=
 if (fieldK fs n.n).2 ≠ 0 then (0,(fieldK fs n.n).2)
 else if (kindOf n.op (fieldK fs n.n).1 (kidK acc n.x) (kidK acc n.y) (kidK acc n.z)).2=true then ((kindOf n.op (fieldK fs n.n).1 (kidK acc n.x) (kidK acc n.y) (kidK acc n.z)).1,0) else (0,8)
section
variable {β:Type} {f:List β→Nd→β}
def upG (f:List β→Nd→β) (t:List Nd) (k:Nat):List β:=(t.take k).foldl (fun acc n=>acc++[f acc n]) []
theorem foldG_len:∀ (t:List Nd) (acc:List β),(t.foldl (fun acc n=>acc++[f acc n]) acc).length=acc.length+t.length
 | [],acc=>rfl
 | n :: r,acc=>by
  show (r.foldl _ (acc++[f acc n])).length=_
  rw [foldG_len r];simp;omega
theorem upG_len {t:List Nd} {k:Nat} (h:k≤t.length):(upG f t k).length=k:=by
 unfold upG;rw [foldG_len,List.length_take,Nat.min_eq_left h];simp
theorem upG_step {t:List Nd} {k:Nat} {n:Nd} (h:t[k]?=some n):upG f t (k+1)=upG f t k++[f (upG f t k) n]:=by
 unfold upG
 rw [List.take_add_one,h,List.foldl_append];rfl
theorem upG_le {t:List Nd} {i:Nat}:∀ {k:Nat},k≤t.length→i<k→(upG f t k)[i]?=(upG f t (i+1))[i]?
 | 0,_,h=>absurd h (by omega)
 | k+1,hk,h=>by
  by_cases e:i=k
  ·subst e;rfl
  ·obtain ⟨n,hn⟩:∃ n,t[k]?=some n:=⟨_,List.getElem?_eq_getElem hk⟩
   rw [upG_step hn,List.getElem?_append_left (by rw [upG_len (by omega)];omega)]
   exact upG_le (by omega) (by omega)
theorem upG_at {t:List Nd} {i:Nat} {n:Nd} (h:t[i]?=some n):(upG f t (i+1))[i]?=some (f (upG f t i) n):=by
 have hi:=(List.getElem?_eq_some_iff.1 h).1
 rw [upG_step h,List.getElem?_append_right (by rw [upG_len (by omega)];exact Nat.le_refl _),upG_len (by omega)]
 simp
end
def wrongL (fs:List Fd) (t:List Nd) (k:Nat):List (Int × Int):=upG (wrongN fs) t k
def kidS (acc:List Nat) (j:Int):Nat:=if 0≤j then (acc[j.toNat]?).getD 0 else 0
def szN (acc:List Nat) (n:Nd):Nat:=1+kidS acc n.x+kidS acc n.y+kidS acc n.z
def szAt (t:List Nd) (i:Nat):Nat:=((upG szN t (i+1))[i]?).getD 0
def kidZ (t:List Nd) (j:Int):Nat:=if 0≤j then szAt t j.toNat else 0
def kidsN (op:Int):Int:=
 if op=1∨op=2∨op=3∨op=4∨op=24∨op=26∨op=27∨op=28∨op=29∨op=30 then 0
 else if op=7∨op=18∨op=22∨op=23∨op=25 then 1
 else if op=19 then 3
 else if 5≤op∧op≤21 then 2 else -1
theorem kidsN_op {op:Int} (h:0≤kidsN op):1≤op∧op≤30:=by
 unfold kidsN at h
 split at h
 ·omega
 ·split at h
  ·omega
  ·split at h
   ·omega
   ·split at h
    ·omega
    ·omega
def NodeT (n:Nd) (i:Nat):Prop:=0≤kidsN n.op∧(if 0<kidsN n.op then 0≤n.x∧n.x<(i:Int) else n.x= -1)∧(if 1<kidsN n.op then 0≤n.y∧n.y<(i:Int) else n.y= -1)∧(if 2<kidsN n.op then 0≤n.z∧n.z<(i:Int) else n.z= -1)
theorem szAt_step {t:List Nd} {i:Nat} {n:Nd} (h:t[i]?=some n) (hx:n.x<(i:Int)) (hy:n.y<(i:Int)) (hz:n.z<(i:Int)):szAt t i=1+kidZ t n.x+kidZ t n.y+kidZ t n.z:=by
 have hi:=(List.getElem?_eq_some_iff.1 h).1
 have key:∀ j:Int,j<(i:Int)→kidS (upG szN t i) j=kidZ t j:=by
  intro j hj
  unfold kidS kidZ szAt
  split
  ·rw [upG_le (by omega) (by omega)]
  ·rfl
 unfold szAt
 rw [upG_at h]
 show 1+kidS (upG szN t i) n.x+kidS (upG szN t i) n.y+kidS (upG szN t i) n.z=_
 rw [key _ hx,key _ hy,key _ hz]
def WholeT (t:List Nd):Prop:=(∀ (i:Nat) (n:Nd),t[i]?=some n→NodeT n i∧szAt t i≤i+1)∧t ≠ []
def KindOK (k:Int) (v:V):Prop:=v.k=0∨v.k=4∨(k=1∧v.k=1)∨(k=2∧(v.k=2∨v.k=3))
theorem told_k (x:Int × Int × Int):(toldV x).k=1∨(toldV x).k=4:=by
 unfold toldV
 split
 ·exact .inl rfl
 ·split
  ·exact .inr rfl
  ·split
   ·exact .inr rfl
   ·exact .inr rfl
theorem wrong_k (v:V):(wrongV v).k=4:=by unfold wrongV;split;assumption;rfl
theorem truth_k (b:Bool):(truthV b).k=2∨(truthV b).k=3:=by cases b;exact .inr rfl;exact .inl rfl
theorem K_wrong {k:Int} (v:V):KindOK k (wrongV v):=.inr (.inl (wrong_k v))
theorem K_truth (b:Bool):KindOK 2 (truthV b):=.inr (.inr (.inr ⟨rfl,truth_k b⟩))
theorem K_told (x:Int × Int × Int):KindOK 1 (toldV x):=(told_k x).elim (fun h=> .inr (.inr (.inl ⟨rfl,h⟩))) (fun h=> .inr (.inl h))
theorem K_bad {k e:Int}:KindOK k (badE e):=.inr (.inl rfl)
theorem K_same {k:Int} {op:Int} (a b:V) (h:k=2):KindOK k (sameV op a b):=by
 subst h;unfold sameV
 split
 ·exact K_wrong _
 ·split
  ·exact K_wrong _
  ·split
   ·exact K_bad
   ·exact K_truth _
theorem K_single {op k:Int} {a:V} (ha:KindOK 1 a):KindOK 1 (singleV op k a):=by
 unfold singleV
 split
 ·exact K_wrong _
 ·unfold singleN
  split
  ·exact K_told _
  ·split
   ·split
    ·exact ha
    ·exact K_told _
   ·exact K_told _
theorem K_cmp {op:Int} (a b:V) (h:op=10∨op=11∨op=12∨op=13):KindOK 2 (pairV op a b):=by
 unfold pairV
 split
 ·exact K_wrong _
 ·split
  ·exact K_wrong _
  ·unfold pairN
   rcases h with rfl | rfl | rfl | rfl<;>exact K_truth _
theorem K_pair {op:Int} {a b:V} (ha:KindOK 1 a) (hb:KindOK 1 b) (h:op=14∨op=15∨op=16∨op=17∨op=20∨op=21):KindOK 1 (pairV op a b):=by
 unfold pairV
 split
 ·exact K_wrong _
 ·split
  ·exact K_wrong _
  ·rcases h with rfl | rfl | rfl | rfl | rfl | rfl
   ·exact K_told _
   ·exact K_told _
   ·exact K_told _
   ·exact K_told _
   ·show KindOK 1 (if _ then a else b)
    split
    ·exact ha
    ·exact hb
   ·show KindOK 1 (if _ then a else b)
    split
    ·exact ha
    ·exact hb
theorem K_logic {op k:Int} {a b c:V} (ha:op ≠ 19→KindOK k a) (hb:KindOK k b) (hc:op=19→KindOK k c) (h7:op=7→k=2):KindOK k (logicV op a b c):=by
 unfold logicV
 split
 ·exact K_wrong _
 ·split
  ·rename_i h;rw [h7 h];exact K_truth _
  ·split
   ·rename_i h
    split
    ·exact hb
    ·exact hc h
   ·rename_i h
    split
    ·exact ha h
    ·split
     ·exact K_wrong _
     ·exact hb
theorem node_kind {n:Nd} {fld k0 k1 k2:Int} {v a b c:V} (hn:1≤n.op∧n.op≤30) (hr:(kindOf n.op fld k0 k1 k2).2=true) (hv:KindOK fld v) (ha:KindOK k0 a) (hb:KindOK k1 b) (hc:KindOK k2 c):KindOK (kindOf n.op fld k0 k1 k2).1 (nodeV n v a b c):=by
 obtain ⟨op,c',s,nm,k,x,y,z,p⟩:=n
 simp only at hn hr⊢
 have:op=1∨op=2∨op=3∨op=4∨op=5∨op=6∨op=7∨op=8∨op=9∨op=10∨op=11∨op=12∨op=13∨op=14∨op=15∨op=16∨op=17∨op=18∨op=19∨op=20∨op=21∨op=22∨op=23∨op=24∨op=25∨op=26∨op=27∨op=28∨op=29∨op=30:=by omega
 clear hn
 rcases this with rfl | rfl | rfl | rfl | rfl | rfl | rfl | rfl | rfl | rfl | rfl | rfl | rfl | rfl | rfl | rfl | rfl | rfl | rfl | rfl | rfl | rfl | rfl | rfl | rfl | rfl | rfl | rfl | rfl | rfl
 ·exact K_told _
 ·exact K_truth true
 ·exact K_truth false
 ·exact hv
 ·obtain ⟨rfl,rfl⟩:=of_decide_eq_true hr
  exact K_logic (op:=5) (fun _=>ha) hb (fun e=>absurd e (by decide)) (fun e=>absurd e (by decide))
 ·obtain ⟨rfl,rfl⟩:=of_decide_eq_true hr
  exact K_logic (op:=6) (fun _=>ha) hb (fun e=>absurd e (by decide)) (fun e=>absurd e (by decide))
 ·obtain rfl:=of_decide_eq_true hr
  show KindOK 2 (logicV 7 a b c)
  unfold logicV
  split
  ·exact K_wrong _
  ·exact K_truth _
 ·exact K_same _ _ rfl
 ·exact K_same _ _ rfl
 ·exact K_cmp _ _ (by simp)
 ·exact K_cmp _ _ (by simp)
 ·exact K_cmp _ _ (by simp)
 ·exact K_cmp _ _ (by simp)
 ·obtain ⟨rfl,rfl⟩:=of_decide_eq_true hr;exact K_pair ha hb (by simp)
 ·obtain ⟨rfl,rfl⟩:=of_decide_eq_true hr;exact K_pair ha hb (by simp)
 ·obtain ⟨rfl,rfl⟩:=of_decide_eq_true hr;exact K_pair ha hb (by simp)
 ·obtain ⟨rfl,rfl⟩:=of_decide_eq_true hr;exact K_pair ha hb (by simp)
 ·obtain rfl:=of_decide_eq_true hr;exact K_single ha
 ·obtain ⟨rfl,rfl⟩:=of_decide_eq_true hr
  exact K_logic (op:=19) (fun e=>absurd rfl e) hb (fun _=>hc) (fun e=>absurd e (by decide))
 ·obtain ⟨rfl,rfl⟩:=of_decide_eq_true hr;exact K_pair ha hb (by simp)
 ·obtain ⟨rfl,rfl⟩:=of_decide_eq_true hr;exact K_pair ha hb (by simp)
 ·obtain rfl:=of_decide_eq_true hr;exact K_single ha
 ·obtain rfl:=of_decide_eq_true hr;exact K_single ha
 ·show KindOK 2 (if v.k=4 then v else truthV (decide (v.k ≠ 0)))
  split
  ·rename_i h;exact .inr (.inl h)
  ·exact K_truth _
 ·obtain rfl:=of_decide_eq_true hr
  show KindOK _ (if v.k ≠ 0 then v else a)
  split
  ·exact hv
  ·exact ha
 ·exact hv
 ·obtain rfl:=of_decide_eq_true hr;exact hv
 ·obtain rfl:=of_decide_eq_true hr;exact hv
 ·obtain rfl:=of_decide_eq_true hr;exact hv
 ·obtain rfl:=of_decide_eq_true hr;exact hv
theorem wrongL_le {fs:List Fd} {t:List Nd} {i:Nat} {k:Nat} (h:k≤t.length) (hi:i<k):(wrongL fs t k)[i]?=(wrongL fs t (i+1))[i]?:=upG_le h hi
def kindAt (fs:List Fd) (t:List Nd) (i:Nat):Int × Int:=((wrongL fs t (i+1))[i]?).getD (0,0)
theorem kindAt_step {fs:List Fd} {t:List Nd} {i:Nat} {n:Nd} (h:t[i]?=some n):kindAt fs t i=wrongN fs (wrongL fs t i) n:=by
 have hi:=(List.getElem?_eq_some_iff.1 h).1
 unfold kindAt wrongL
 rw [upG_at h];rfl
theorem kidK_at {fs:List Fd} {t:List Nd} {i:Nat} (hi:i≤t.length) {j:Int} (h0:0≤j) (hj:j<(i:Int)):kidK (wrongL fs t i) j=(kindAt fs t j.toNat).1:=by
 unfold kidK kindAt
 rw [if_pos h0,wrongL_le hi (by omega)]
def InOK (fs:List Fd) (o:Opd) (v:V):Prop:=KindOK (fieldK fs o.n).1 v
theorem opdOf_n {n:Nd} {o:Opd} (h:opdOf n=some o):o.n=n.n:=by
 unfold opdOf at h
 split at h
 ·cases h;rfl
 ·split at h
  ·cases h;rfl
  ·cases h
theorem own_kind {fs:List Fd} {l:List Opd} {vals:List V} {n:Nd} (hl:∀ o,opdOf n=some o→o ∈ l) (hin:∀ (j:Nat) (o:Opd),l[j]?=some o→InOK fs o ((vals[j]?).getD noV)):KindOK (fieldK fs n.n).1 (ownV l vals n):=by
 unfold ownV
 split
 ·exact .inl rfl
 ·rename_i o ho
  dsimp only
  split
  ·have hm:=hl o ho
   have hj:l[l.idxOf o]?=some o:=by
    rw [List.getElem?_eq_getElem (List.idxOf_lt_length_of_mem hm)]
    exact congrArg some (List.getElem_idxOf (List.idxOf_lt_length_of_mem hm))
   have:=hin _ o hj
   unfold InOK at this
   rw [opdOf_n ho] at this
   exact this
  ·exact K_bad
theorem up_kind {fs:List Fd} {t:List Nd} {vals:List V} (hW:WholeT t) (hR:∀ i,i<t.length→(kindAt fs t i).2=0) (hin:∀ (j:Nat) (o:Opd),(opds t)[j]?=some o→InOK fs o ((vals[j]?).getD noV)) :
  ∀ k,k≤t.length→∀ i,i<k→KindOK (kindAt fs t i).1 (((upV (opds t) vals t k)[i]?).getD noV)
 | 0,_,i,h=>absurd h (by omega)
 | k+1,hk,i,h=>by
  have IH:=up_kind hW hR hin k (by omega)
  obtain ⟨n,hn⟩:∃ n,t[k]?=some n:=⟨_,List.getElem?_eq_getElem hk⟩
  rw [upV_step hn]
  have hlen:(upV (opds t) vals t k).length=k:=upV_len (by omega)
  by_cases e:i<k
  ·rw [List.getElem?_append_left (by omega)];exact IH i e
  ·obtain rfl:i=k:=by omega
   rw [List.getElem?_append_right (by omega),hlen]
   simp only [Nat.sub_self,List.getElem?_cons_zero,Option.getD_some]
   have hr:=hR i hk
   have hN:=(hW.1 i n hn).1
   rw [kindAt_step hn] at hr⊢
   have key:∀ j:Int,(0≤j∧j<(i:Int))∨j= -1→KindOK (kidK (wrongL fs t i) j) (kidV (upV (opds t) vals t i) j):=by
    intro j hj
    rcases hj with ⟨h0,h1⟩ | rfl
    ·rw [kidK_at (by omega) h0 h1]
     unfold kidV
     rw [if_pos h0]
     exact IH j.toNat (by omega)
    ·unfold kidV
     rw [if_neg (by decide)]
     exact .inl rfl
   have kx:(0≤n.x∧n.x<(i:Int))∨n.x= -1:=by have:=hN.2.1;split at this;exact .inl this;exact .inr this
   have ky:(0≤n.y∧n.y<(i:Int))∨n.y= -1:=by have:=hN.2.2.1;split at this;exact .inl this;exact .inr this
   have kz:(0≤n.z∧n.z<(i:Int))∨n.z= -1:=by have:=hN.2.2.2;split at this;exact .inl this;exact .inr this
   have hmem:n ∈ t:=List.mem_of_getElem? hn
   have hown:=own_kind (fs:=fs) (n:=n) (fun o ho=>opds_has hmem ho) hin
   unfold wrongN at hr⊢
   split
   ·rename_i hf;rw [if_pos hf] at hr;exact absurd hr hf
   ·rename_i hf
    rw [if_neg hf] at hr
    split
    ·rename_i hk2
     exact node_kind (kidsN_op hN.1) hk2 hown (key _ kx) (key _ ky) (key _ kz)
    ·rename_i hk2
     rw [if_neg hk2] at hr
     exact absurd hr (by decide)
theorem value_kind {fs:List Fd} {t:List Nd} {vals:List V} (hW:WholeT t) (hR:∀ i,i<t.length→(kindAt fs t i).2=0) (hin:∀ (j:Nat) (o:Opd),(opds t)[j]?=some o→InOK fs o ((vals[j]?).getD noV)):KindOK (kindAt fs t (t.length - 1)).1 (valueV t vals):=by
 have hl:0<t.length:=List.length_pos_iff.2 hW.2
 have h:=up_kind hW hR hin t.length (Nat.le_refl _) (t.length - 1) (by omega)
 have e:upV (opds t) vals t t.length=allV (opds t) vals t:=by unfold upV allV;rw [List.take_length]
 have hlen:(allV (opds t) vals t).length=t.length:=by rw [←e];exact upV_len (Nat.le_refl _)
 rw [e] at h
 unfold valueV
 rw [List.getLast?_eq_getElem?,hlen]
 exact h
theorem own_more {l:List Opd} {vals:List V} (h:vals.length=l.length) (v:V) {n:Nd} (hl:∀ o,opdOf n=some o→o ∈ l):ownV l (vals++[v]) n=ownV l vals n:=by
 unfold ownV
 split
 ·rfl
 ·rename_i o ho
  have:=List.idxOf_lt_length_of_mem (hl o ho)
  rw [List.getElem?_append_left (by omega)]
theorem all_more {l:List Opd} {vals:List V} (h:vals.length=l.length) (v:V):∀ (t:List Nd) (acc:List V),(∀ n ∈ t,∀ o,opdOf n=some o→o ∈ l)→t.foldl (stepV l (vals++[v])) acc=t.foldl (stepV l vals) acc
 | [],_,_=>rfl
 | n :: r,acc,hl=>by
  have e:stepV l (vals++[v]) acc n=stepV l vals acc n:=by unfold stepV;rw [own_more h v (hl n List.mem_cons_self)]
  show r.foldl _ (stepV l (vals++[v]) acc n)=r.foldl _ (stepV l vals acc n)
  rw [e]
  exact all_more h v r _ (fun m hm=>hl m (List.mem_cons_of_mem _ hm))
theorem value_more {t:List Nd} {vals:List V} (h:vals.length=(opds t).length) (v:V):valueV t (vals++[v])=valueV t vals:=by
 unfold valueV allV
 rw [all_more h v t [] (fun n hn o ho=>opds_has hn ho)]
end Go.Proofs.YteagpbkbdlmdiaaGreat.Ek
