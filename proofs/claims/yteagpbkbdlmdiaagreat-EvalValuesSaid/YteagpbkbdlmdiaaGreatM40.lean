/-
  eval: a row of values in memory, place by place; eval.Value, plain: what stands in the row of values behind k nodes; eval: numbers, walked; EvAlike: what its functions answer.
-/
import Derived.Test.YteagpbkbdlmdiaaGreatM32
import Derived.Test.YteagpbkbdlmdiaaGreatM39
import Derived.Laws.MakeOwn
import Derived.Laws.StructEq
/- eval: a row of values in memory, place by place. -/
namespace Go.Proofs.YteagpbkbdlmdiaaGreat.Ev
open Go Go.RowKit Dt Tx Va
set_option linter.unusedSimpArgs false
set_option linter.unusedVariables false
theorem heap_set4 {w:World} {g b:Nat} (ne:¬b=g) (o0 o1 o2 o3:Nat) (x0 x1 x2 x3:Value):((((w.setCell ⟨g,o0,none⟩ x0).setCell ⟨g,o1,none⟩ x1).setCell ⟨g,o2,none⟩ x2).setCell ⟨g,o3,none⟩ x3).heap[b]?=w.heap[b]?:=by
 rw [heap_setCell_other _ ⟨g,o3,none⟩ b _ ne,heap_setCell_other _ ⟨g,o2,none⟩ b _ ne,heap_setCell_other _ ⟨g,o1,none⟩ b _ ne,heap_setCell_other _ ⟨g,o0,none⟩ b _ ne]
theorem below_set4o {B g:Nat} {a w:World} (h:Below B a w) (hg:B≤g) (o0 o1 o2 o3:Nat) (x0 x1 x2 x3:Value):Below B a ((((w.setCell ⟨g,o0,none⟩ x0).setCell ⟨g,o1,none⟩ x1).setCell ⟨g,o2,none⟩ x2).setCell ⟨g,o3,none⟩ x3):=
 Below.setCell (Below.setCell (Below.setCell (Below.setCell h (p:=⟨g,o0,none⟩) hg _) (p:=⟨g,o1,none⟩) hg _) (p:=⟨g,o2,none⟩) hg _) (p:=⟨g,o3,none⟩) hg _
def AllR (ty:TypeId) (w:World) (g n:Nat) (F:Nat→V):Prop:=∃ cs:Array Value,w.heap[g]?=some (.cells cs ty (0,0))∧cs.size=n*4∧
 ∀ j,j<n→cs[j*4]?=some (.int .u8 (F j).k)∧cs[j*4+1]?=some (.int .i64 (F j).c)∧cs[j*4+2]?=some (.int .i64 (F j).s)∧cs[j*4+3]?=some (.int .i64 (F j).e)
section
variable {ty:TypeId} {w:World} {g n:Nat} {F:Nat→V}
theorem AllR.lt (h:AllR ty w g n F):g<w.heap.size:=by obtain ⟨cs,h1,_⟩:=h;exact (Array.getElem?_eq_some_iff.1 h1).1
theorem AllR.keep {w':World} (h:AllR ty w g n F) (e:w'.heap[g]?=w.heap[g]?):AllR ty w' g n F:=by obtain ⟨cs,h1,h2⟩:=h;exact ⟨cs,e.trans h1,h2⟩
theorem AllR.below {w':World} (h:AllR ty w g n F) (k:Below w.heap.size w w'):AllR ty w' g n F:=h.keep (k.block g h.lt)
theorem AllR.f (h:AllR ty w g n F) (i:Nat):w.frozen? ⟨g,i,none⟩=false:=by obtain ⟨cs,h1,_⟩:=h;exact frozen_of_row w _ _ _ _ h1
theorem AllR.at {v:V} (h:AllR ty w g n F) {j:Nat} (hj:j<n) (hv:F j=v):w.cell? ⟨g,j*4,none⟩=some (.int .u8 v.k)∧w.cell? ⟨g,j*4+1,none⟩=some (.int .i64 v.c)∧w.cell? ⟨g,j*4+2,none⟩=some (.int .i64 v.s)∧w.cell? ⟨g,j*4+3,none⟩=some (.int .i64 v.e):=by
 obtain ⟨cs,h1,h2,h3⟩:=h
 subst hv
 simp only [cell_of_row w _ _ _ _ (0,0) h1]
 exact h3 j hj
theorem AllR.congr {G:Nat→V} (h:AllR ty w g n F) (e:∀ j,j<n→F j=G j):AllR ty w g n G:=by
 obtain ⟨cs,h1,h2,h3⟩:=h
 exact ⟨cs,h1,h2,fun j hj=>by rw [←e j hj];exact h3 j hj⟩
theorem AllR.set (h:AllR ty w g n F) {i:Nat} (hi:i<n) (v:V) :
  AllR ty ((((w.setCell ⟨g,i*4,none⟩ (.int .u8 v.k)).setCell ⟨g,i*4+1,none⟩ (.int .i64 v.c)).setCell ⟨g,i*4+2,none⟩ (.int .i64 v.s)).setCell ⟨g,i*4+3,none⟩ (.int .i64 v.e)) g n (fun j=>if j=i then v else F j):=by
 obtain ⟨cs,h1,h2,h3⟩:=h
 have a1:(w.setCell ⟨g,i*4,none⟩ (.int .u8 v.k)).heap[g]?=some (.cells (cs.setIfInBounds (i*4) (.int .u8 v.k)) ty (0,0)):=by rw [heap_setCell_same w g (i*4) _ _ _ h1]
 have a2:=a1
 replace a2:((w.setCell ⟨g,i*4,none⟩ (.int .u8 v.k)).setCell ⟨g,i*4+1,none⟩ (.int .i64 v.c)).heap[g]?=some (.cells ((cs.setIfInBounds (i*4) (.int .u8 v.k)).setIfInBounds (i*4+1) (.int .i64 v.c)) ty (0,0)):=by rw [heap_setCell_same _ g (i*4+1) _ _ _ a1]
 have a3:(((w.setCell ⟨g,i*4,none⟩ (.int .u8 v.k)).setCell ⟨g,i*4+1,none⟩ (.int .i64 v.c)).setCell ⟨g,i*4+2,none⟩ (.int .i64 v.s)).heap[g]?=some (.cells (((cs.setIfInBounds (i*4) (.int .u8 v.k)).setIfInBounds (i*4+1) (.int .i64 v.c)).setIfInBounds (i*4+2) (.int .i64 v.s)) ty (0,0)):=by rw [heap_setCell_same _ g (i*4+2) _ _ _ a2]
 have a4:((((w.setCell ⟨g,i*4,none⟩ (.int .u8 v.k)).setCell ⟨g,i*4+1,none⟩ (.int .i64 v.c)).setCell ⟨g,i*4+2,none⟩ (.int .i64 v.s)).setCell ⟨g,i*4+3,none⟩ (.int .i64 v.e)).heap[g]?=some (.cells ((((cs.setIfInBounds (i*4) (.int .u8 v.k)).setIfInBounds (i*4+1) (.int .i64 v.c)).setIfInBounds (i*4+2) (.int .i64 v.s)).setIfInBounds (i*4+3) (.int .i64 v.e)) ty (0,0)):=by rw [heap_setCell_same _ g (i*4+3) _ _ _ a3]
 refine ⟨_,a4,by simpa using h2,fun j hj=>?_⟩
 by_cases e:j=i
 ·subst e
  simp only [if_true]
  have z0:j*4<cs.size:=by omega
  have z1:j*4+1<cs.size:=by omega
  have z2:j*4+2<cs.size:=by omega
  have z3:j*4+3<cs.size:=by omega
  refine ⟨?_,?_,?_,?_⟩
  ·rw [Array.getElem?_setIfInBounds_ne (by omega),Array.getElem?_setIfInBounds_ne (by omega),Array.getElem?_setIfInBounds_ne (by omega),Array.getElem?_setIfInBounds];simp [z0]
  ·rw [Array.getElem?_setIfInBounds_ne (by omega),Array.getElem?_setIfInBounds_ne (by omega),Array.getElem?_setIfInBounds];simp [z1]
  ·rw [Array.getElem?_setIfInBounds_ne (by omega),Array.getElem?_setIfInBounds];simp [z2]
  ·rw [Array.getElem?_setIfInBounds];simp [z3]
 ·simp only [if_neg e]
  obtain ⟨b0,b1,b2,b3⟩:=h3 j hj
  refine ⟨?_,?_,?_,?_⟩
  ·rw [Array.getElem?_setIfInBounds_ne (by omega),Array.getElem?_setIfInBounds_ne (by omega),Array.getElem?_setIfInBounds_ne (by omega),Array.getElem?_setIfInBounds_ne (by omega)];exact b0
  ·rw [Array.getElem?_setIfInBounds_ne (by omega),Array.getElem?_setIfInBounds_ne (by omega),Array.getElem?_setIfInBounds_ne (by omega),Array.getElem?_setIfInBounds_ne (by omega)];exact b1
  ·rw [Array.getElem?_setIfInBounds_ne (by omega),Array.getElem?_setIfInBounds_ne (by omega),Array.getElem?_setIfInBounds_ne (by omega),Array.getElem?_setIfInBounds_ne (by omega)];exact b2
  ·rw [Array.getElem?_setIfInBounds_ne (by omega),Array.getElem?_setIfInBounds_ne (by omega),Array.getElem?_setIfInBounds_ne (by omega),Array.getElem?_setIfInBounds_ne (by omega)];exact b3
end
theorem AllR.k3 {w:World} {g:Nat} {F:Nat→V} (h:AllR 54 w g 3 F) {a b d:V} (ea:F 0=a) (eb:F 1=b) (ed:F 2=d):K3 w g a b d:=by
 obtain ⟨cs,h1,h2,h3⟩:=h
 subst ea;subst eb;subst ed
 obtain ⟨a0,a1,a2,a3⟩:=h3 0 (by decide)
 obtain ⟨b0,b1,b2,b3⟩:=h3 1 (by decide)
 obtain ⟨d0,d1,d2,d3⟩:=h3 2 (by decide)
 unfold K3
 rw [h1]
 congr 2
 refine Array.ext_getElem? fun i=>?_
 match i with
 | 0=>simpa using a0
 | 1=>simpa using a1
 | 2=>simpa using a2
 | 3=>simpa using a3
 | 4=>simpa using b0
 | 5=>simpa using b1
 | 6=>simpa using b2
 | 7=>simpa using b3
 | 8=>simpa using d0
 | 9=>simpa using d1
 | 10=>simpa using d2
 | 11=>simpa using d3
 | i+12=>rw [Array.getElem?_eq_none (by omega),Array.getElem?_eq_none (by simp)]
theorem AllR.kids (w:World):AllR 54 (w.alloc (.cells #[.int .u8 0,.int .i64 0,.int .i64 0,.int .i64 0,.int .u8 0,.int .i64 0,.int .i64 0,.int .i64 0,.int .u8 0,.int .i64 0,.int .i64 0,.int .i64 0] 54)) w.heap.size 3 (fun _=>noV):=by
 refine ⟨_,heap_alloc_new w _,rfl,fun j hj=>?_⟩
 match j,hj with
 | 0,_=>exact ⟨rfl,rfl,rfl,rfl⟩
 | 1,_=>exact ⟨rfl,rfl,rfl,rfl⟩
 | 2,_=>exact ⟨rfl,rfl,rfl,rfl⟩
def madeV (w:World) (n:Nat):World:=w.alloc (.cells (madeCells #[.int .u8 0,.int .i64 0,.int .i64 0,.int .i64 0] (n*4)) 33)
theorem madeV_at (w:World) (n:Nat):AllR 33 (madeV w n) w.heap.size n (fun _=>noV):=by
 refine ⟨_,heap_alloc_new w _,size_madeCells _ _,fun j hj=>?_⟩
 have key:∀ q,q<n*4→(madeCells #[(.int .u8 0:Value),.int .i64 0,.int .i64 0,.int .i64 0] (n*4))[q]?=some (#[(.int .u8 0:Value),.int .i64 0,.int .i64 0,.int .i64 0][q % 4]!):=fun q hq=>by
  unfold madeCells
  rw [Array.getElem?_map,Array.getElem?_range,if_pos hq];rfl
 refine ⟨?_,?_,?_,?_⟩
 ·rw [key _ (by omega),show j*4 % 4=0 by omega];rfl
 ·rw [key _ (by omega),show (j*4+1) % 4=1 by omega];rfl
 ·rw [key _ (by omega),show (j*4+2) % 4=2 by omega];rfl
 ·rw [key _ (by omega),show (j*4+3) % 4=3 by omega];rfl
theorem madeV_below (w:World) (n:Nat):Below w.heap.size w (madeV w n):=ba w _
theorem madeV_size (w:World) (n:Nat):(madeV w n).heap.size=w.heap.size+1:=World.size_alloc _ _
theorem make_vals (n:Nat) (hn:n≤1000) (w:World):(Instr.makeSlice 24 (.int .i64 (n:Int)) (.int .i64 (n:Int))).run Tryz.prog w=.ok (.slice (some ⟨w.heap.size,0,none⟩) n n) (madeV w n):=by
 unfold madeV
 obtain ⟨i,hi,h0,h1,h2⟩:=info_parts vaE.info
 have e0:vaE.z=.agg #[.int .u8 0,.int .i64 0,.int .i64 0,.int .i64 0]:=rfl
 have h1':i.size=4:=h1
 have h2':i.bytes=32:=h2
 rw [run_makeSlice w 24 33 i _ Tryz.underlying24 hi h0 .i64 .i64 (n:Int) (n:Int) (by omega) (by omega) (by rw [h1',Int.toNat_natCast];omega) (by rw [h2'];omega) (by omega)]
 rw [h1',Int.toNat_natCast,e0]
 rfl
theorem argV {w:World} {v:Value} {xs:List V} (h:vaE.Arg w v xs):∃ (ao:Option Addr) (cap:Nat),v=.slice ao xs.length cap∧∀ (i:Nat) (x:V),xs[i]?=some x→∃ b o:Nat,ao=some ⟨b,o,none⟩∧b<w.heap.size∧
  w.cell? ⟨b,o+i*4,none⟩=some (.int .u8 x.k)∧w.cell? ⟨b,o+i*4+1,none⟩=some (.int .i64 x.c)∧w.cell? ⟨b,o+i*4+2,none⟩=some (.int .i64 x.s)∧w.cell? ⟨b,o+i*4+3,none⟩=some (.int .i64 x.e):=by
 obtain ⟨ao,cap,e,_,h⟩:=h
 refine ⟨ao,cap,e,fun i x hx=>?_⟩
 obtain ⟨b,o,h1,h2,h3⟩:=h i x hx
 exact ⟨b,o,h1,h2,h3 0 _ rfl,h3 1 _ rfl,h3 2 _ rfl,h3 3 _ rfl⟩
end Go.Proofs.YteagpbkbdlmdiaaGreat.Ev
/- eval.Value, plain: what stands in the row of values behind k nodes. -/
namespace Go.Proofs.YteagpbkbdlmdiaaGreat.Ev
open Go Go.RowKit Dt Tx Va
def upV (l:List Opd) (vals:List V) (t:List Nd) (k:Nat):List V:=(t.take k).foldl (stepV l vals) []
theorem upV_len {l:List Opd} {vals:List V} {t:List Nd} {k:Nat} (h:k≤t.length):(upV l vals t k).length=k:=by
 unfold upV;rw [all_len,List.length_take,Nat.min_eq_left h];simp
theorem upV_step {l:List Opd} {vals:List V} {t:List Nd} {k:Nat} {n:Nd} (h:t[k]?=some n):upV l vals t (k+1)=upV l vals t k++[nodeV n (ownV l vals n) (kidV (upV l vals t k) n.x) (kidV (upV l vals t k) n.y) (kidV (upV l vals t k) n.z)]:=by
 unfold upV
 rw [List.take_add_one,h,List.foldl_append];rfl
theorem upV_fine {l:List Opd} {vals:List V} {t:List Nd} (hv:∀ v ∈ vals,v.ok) (k:Nat):∀ v ∈ upV l vals t k,V.fine v:=all_fine hv _ [] (fun v h=>by cases h)
theorem upV_all {t:List Nd} {vals:List V} {k:Nat} (h:t.length≤k):((upV (opds t) vals t k).getLast?).getD noV=valueV t vals:=by
 unfold upV valueV allV;rw [List.take_of_length_le h]
def rowF (A:List V) (j:Nat):V:=(A[j]?).getD noV
theorem rowF_snoc {A:List V} {k:Nat} (h:A.length=k) (v:V) (j:Nat):(if j=k then v else rowF A j)=rowF (A++[v]) j:=by
 unfold rowF
 by_cases e:j=k
 ·subst e;rw [if_pos rfl,List.getElem?_append_right (by omega),h];simp
 ·rw [if_neg e]
  rcases Nat.lt_or_ge j A.length with g | g
  ·rw [List.getElem?_append_left g]
  ·rw [List.getElem?_eq_none g,List.getElem?_eq_none (by rw [List.length_append,List.length_singleton];omega)]
theorem kid_in {A:List V} {k:Nat} (h:A.length=k) {x:Int} {m:Nat} (hx:x=(m:Int)):kidV A x=rowF A m:=by
 unfold kidV rowF;subst hx;rw [if_pos (by omega),Int.toNat_natCast]
theorem kid_neg {A:List V} {x:Int} (hx:¬0≤x):kidV A x=noV:=by unfold kidV;rw [if_neg hx]
theorem kid_out {A:List V} {k:Nat} (h:A.length=k) {x:Int} (hx:¬x<(k:Int)):kidV A x=noV:=by
 unfold kidV
 split
 ·rw [List.getElem?_eq_none (by omega)];rfl
 ·rfl
def kidX (n:Nd) (j:Nat):Int:=match j with | 0=>n.x | 1=>n.y | _=>n.z
theorem last_snoc (A:List V) (v:V):((A++[v]).getLast?).getD noV=v:=by simp
theorem own_none {l:List Opd} {vals:List V} {n:Nd} (h:opdOf n=none):ownV l vals n=noV:=by unfold ownV;rw [h]
theorem own_may {l:List Opd} {vals:List V} {n:Nd} {q:Opd} {u:V} (h:opdOf n=some q) (hu:(vals[l.idxOf q]?).getD noV=u) (hm:mayV u=true):ownV l vals n=u:=by unfold ownV;rw [h];simp only;rw [hu,if_pos hm]
theorem own_bad {l:List Opd} {vals:List V} {n:Nd} {q:Opd} {u:V} (h:opdOf n=some q) (hu:(vals[l.idxOf q]?).getD noV=u) (hm:mayV u=false):ownV l vals n=badE 13:=by unfold ownV;rw [h];simp only;rw [hu,hm];rfl
theorem kids_done {A:List V} {n:Nd} {j:Nat} {x:Int} (hj:kidX n j=x) (r:Nat):(if r=j then kidV A x else if r<j then kidV A (kidX n r) else noV)=if r<j+1 then kidV A (kidX n r) else noV:=by
 by_cases e:r=j
 ·subst e;rw [if_pos rfl,if_pos (by omega),hj]
 ·rw [if_neg e]
  by_cases g:r<j
  ·rw [if_pos g,if_pos (by omega)]
  ·rw [if_neg g,if_neg (by omega)]
theorem kids_skip {A:List V} {n:Nd} {j:Nat} {x:Int} (hj:kidX n j=x) (hx:kidV A x=noV) (r:Nat):(if r<j then kidV A (kidX n r) else noV)=if r<j+1 then kidV A (kidX n r) else noV:=by
 rw [←kids_done hj r]
 by_cases e:r=j
 ·subst e;rw [if_neg (by omega),if_pos rfl,hx]
 ·rw [if_neg e]
end Go.Proofs.YteagpbkbdlmdiaaGreat.Ev
/- eval: numbers, walked. -/
namespace Go.Proofs.YteagpbkbdlmdiaaGreat.Ev
set_option maxRecDepth 100000
set_option maxHeartbeats 1000000
open Go Go.RowKit Dt Tx Va
set_option linter.unusedSimpArgs false
set_option linter.unusedVariables false
attribute [local go_sem ↓] Go.wp_at_zero Go.wp_at_succ
theorem num_ord2 {w:World} (g:Nat) (a b d r:V) (bf:Nat) (hk:K3 w g a b d) (H:a.k=1→b.k=1→∀ w',Below w.heap.size w w'→Calls Tryz.prog 117 #[.agg #[.int .i64 a.c,.int .i64 a.s],.agg #[.int .i64 b.c,.int .i64 b.s],.pointer (some ⟨bf,0,none⟩)] w' (VP r w')) :
  Calls Tryz.prog 116 #[.slice (some ⟨g,0,none⟩) 2 3,.func (.func 117) #[] #[.pointer (some ⟨bf,0,none⟩)]] w (VP (if a.k ≠ 1 then wrongV a else if b.k ≠ 1 then wrongV b else r) w):=by
 by_cases g1:a.k=1
 ·rw [if_neg (by simpa using g1)]
  by_cases h1:b.k=1
  ·rw [if_neg (by simpa using h1)]
   replace H:=H g1 h1
   have g11:decide (a.k=1)=true:=decide_eq_true g1
   have g12:(a.k==1)=true:=by simpa using g1
   have g13:(a.k !=1)=false:=by simpa using g1
   have h11:decide (b.k=1)=true:=decide_eq_true h1
   have h12:(b.k==1)=true:=by simpa using h1
   have h13:(b.k !=1)=false:=by simpa using h1
   clear g1 h1
   try dsimp only [av,an,ao]
   go_enter Tryz.func116,Tryz.ntmps116
   go_upto_region 1 with fail
   obtain ⟨W0,iR,hW,hR,R0,B0,LR,LI,LS⟩:=mkZ w
   rw [hW.out];try rw [hR.out]
   clear hW hR
   have K0:=Lib.hid (hk.below B0.out)
   have HL:=Lib.hid hk.lt
   clear hk
   have kc0:=K0.out.c0;have kc1:=K0.out.c1;have kc2:=K0.out.c2;have kc3:=K0.out.c3
   go_wp2_with fail
   refine wp_loop_rounds 3 ?_
   rw [rounds_succ]
   go_upto_region 4 with fail
   obtain ⟨W1,iZ1,hW,hZ,Z1,BZ,LZ1,_,_⟩:=mk1 W0 (.cells #[.int .u8 a.k,.int .i64 a.c,.int .i64 a.s,.int .i64 a.e] 33)
   rw [hW.out]
   try rw [hZ.out]
   clear hW hZ
   replace Z1:Hid (Four W1 iZ1 a):=Z1
   have K1:=Lib.hid (K0.out.below BZ.out);have R1:=Lib.hid (R0.out.below BZ.out);have B1:=Lib.hid (bt B0.out BZ.out)
   clear kc0 kc1 kc2 kc3 BZ K0 R0 B0
   have Zc0:=Z1.out.c0;have Zc1:=Z1.out.c1;have Zc2:=Z1.out.c2;have Zc3:=Z1.out.c3
   clear Zc1 Zc2 Zc3
   go_wp2_with fail
   clear Zc0
   have kc0:=K1.out.c4;have kc1:=K1.out.c5;have kc2:=K1.out.c6;have kc3:=K1.out.c7
   rw [rounds_succ]
   go_upto_region 4 with fail
   obtain ⟨W2,iZ2,hW,hZ,Z2,BZ,LZ2,_,_⟩:=mk1 W1 (.cells #[.int .u8 b.k,.int .i64 b.c,.int .i64 b.s,.int .i64 b.e] 33)
   rw [hW.out]
   try rw [hZ.out]
   clear hW hZ
   replace Z2:Hid (Four W2 iZ2 b):=Z2
   have K2:=Lib.hid (K1.out.below BZ.out);have R2:=Lib.hid (R1.out.below BZ.out);have B2:=Lib.hid (bt B1.out BZ.out)
   clear kc0 kc1 kc2 kc3 BZ K1 R1 B1
   have Zc0:=Z2.out.c0;have Zc1:=Z2.out.c1;have Zc2:=Z2.out.c2;have Zc3:=Z2.out.c3
   clear Zc1 Zc2 Zc3
   go_wp2_with fail
   clear Zc0
   rw [rounds_succ]
   go_upto_region 7 with fail
   have HF:=H W2.drew (B2.out.drew)
   clear H
   have Kd:=Lib.hid (K2.out.below (drb W2))
   have HNE:Hid (¬g=iR):=Lib.hid (by have:=HL.out;have:=LR.out;omega)
   have HS0:(fun w':World=>w'.cell? ⟨g,1,none⟩=some (.int .i64 a.c)∧w'.cell? ⟨g,2,none⟩=some (.int .i64 a.s)∧w'.cell? ⟨g,5,none⟩=some (.int .i64 b.c)∧w'.cell? ⟨g,6,none⟩=some (.int .i64 b.s)) W2.drew:=⟨(Kd.out).c1,(Kd.out).c2,(Kd.out).c5,(Kd.out).c6⟩
   have kw0:IntKind.i64.wrap 0=0:=by decide
   have kw1:IntKind.i64.wrap 1=1:=by decide
   have kw2:IntKind.i64.wrap (2 - 1)=1:=by decide
   have kw3:IntKind.i64.wrap (((2:Nat):Int) - 1)=1:=by decide
   go_region_held3 (fun w'=>w'.cell? ⟨g,1,none⟩=some (.int .i64 a.c)∧w'.cell? ⟨g,2,none⟩=some (.int .i64 a.s)∧w'.cell? ⟨g,5,none⟩=some (.int .i64 b.c)∧w'.cell? ⟨g,6,none⟩=some (.int .i64 b.s))
    (first | with_reducible exact HS0 | with_reducible assumption | with_reducible exact HS8 _ _ _ _)
    (first | (go_at_call 117;(with_reducible refine HF.mono ?_);rintro e8 w8 ⟨rfl,q8⟩;have K8:=Lib.hid (Kd.out.below q8);have B8:=Lib.hid (bt (B2.out.drew) q8);have R8:=Lib.hid (R2.out.below (bt (drb W2) q8));have HS7:w8.cell? ⟨g,1,none⟩=some (.int .i64 a.c)∧w8.cell? ⟨g,2,none⟩=some (.int .i64 a.s)∧w8.cell? ⟨g,5,none⟩=some (.int .i64 b.c)∧w8.cell? ⟨g,6,none⟩=some (.int .i64 b.s):=⟨(K8.out).c1,(K8.out).c2,(K8.out).c5,(K8.out).c6⟩;have HS8:∀ x0 x1 x2 x3,(fun w':World=>w'.cell? ⟨g,1,none⟩=some (.int .i64 a.c)∧w'.cell? ⟨g,2,none⟩=some (.int .i64 a.s)∧w'.cell? ⟨g,5,none⟩=some (.int .i64 b.c)∧w'.cell? ⟨g,6,none⟩=some (.int .i64 b.s)) ((((w8.setCell ⟨iR,0,none⟩ x0).setCell ⟨iR,1,none⟩ x1).setCell ⟨iR,2,none⟩ x2).setCell ⟨iR,3,none⟩ x3):=fun x0 x1 x2 x3=>⟨(K8.out.other4 HNE.out x0 x1 x2 x3).c1,(K8.out.other4 HNE.out x0 x1 x2 x3).c2,(K8.out.other4 HNE.out x0 x1 x2 x3).c5,(K8.out.other4 HNE.out x0 x1 x2 x3).c6⟩;have Rc0:=R8.out.c0;have Rc1:=R8.out.c1;have Rc2:=R8.out.c2;have Rc3:=R8.out.c3;have Rf0:=R8.out.f 0;have Rf1:=R8.out.f 1;have Rf2:=R8.out.f 2;have Rf3:=R8.out.f 3;clear q8 HF K8))
   go_wp2_with fail
   exact ret4 4 rfl R8 B8 LR rfl rfl rfl
  ·rw [if_pos h1]
   clear H
   have g11:decide (a.k=1)=true:=decide_eq_true g1
   have g12:(a.k==1)=true:=by simpa using g1
   have g13:(a.k !=1)=false:=by simpa using g1
   have h11:decide (b.k=1)=false:=decide_eq_false h1
   have h12:(b.k==1)=false:=by simpa using h1
   have h13:(b.k !=1)=true:=by simpa using h1
   clear g1 h1
   try dsimp only [av,an,ao]
   go_enter Tryz.func116,Tryz.ntmps116
   go_upto_region 1 with fail
   obtain ⟨W0,iR,hW,hR,R0,B0,LR,LI,LS⟩:=mkZ w
   rw [hW.out];try rw [hR.out]
   clear hW hR
   have K0:=Lib.hid (hk.below B0.out)
   have HL:=Lib.hid hk.lt
   clear hk
   have kc0:=K0.out.c0;have kc1:=K0.out.c1;have kc2:=K0.out.c2;have kc3:=K0.out.c3
   go_wp2_with fail
   refine wp_loop_rounds 3 ?_
   rw [rounds_succ]
   go_upto_region 4 with fail
   obtain ⟨W1,iZ1,hW,hZ,Z1,BZ,LZ1,_,_⟩:=mk1 W0 (.cells #[.int .u8 a.k,.int .i64 a.c,.int .i64 a.s,.int .i64 a.e] 33)
   rw [hW.out]
   try rw [hZ.out]
   clear hW hZ
   replace Z1:Hid (Four W1 iZ1 a):=Z1
   have K1:=Lib.hid (K0.out.below BZ.out);have R1:=Lib.hid (R0.out.below BZ.out);have B1:=Lib.hid (bt B0.out BZ.out)
   clear kc0 kc1 kc2 kc3 BZ K0 R0 B0
   have Zc0:=Z1.out.c0;have Zc1:=Z1.out.c1;have Zc2:=Z1.out.c2;have Zc3:=Z1.out.c3
   clear Zc1 Zc2 Zc3
   go_wp2_with fail
   clear Zc0
   have kc0:=K1.out.c4;have kc1:=K1.out.c5;have kc2:=K1.out.c6;have kc3:=K1.out.c7
   rw [rounds_succ]
   go_upto_region 4 with fail
   obtain ⟨W2,iZ2,hW,hZ,Z2,BZ,LZ2,_,_⟩:=mk1 W1 (.cells #[.int .u8 b.k,.int .i64 b.c,.int .i64 b.s,.int .i64 b.e] 33)
   rw [hW.out]
   try rw [hZ.out]
   clear hW hZ
   replace Z2:Hid (Four W2 iZ2 b):=Z2
   have K2:=Lib.hid (K1.out.below BZ.out);have R2:=Lib.hid (R1.out.below BZ.out);have B2:=Lib.hid (bt B1.out BZ.out)
   clear kc0 kc1 kc2 kc3 BZ K1 R1 B1
   have Zc0:=Z2.out.c0;have Zc1:=Z2.out.c1;have Zc2:=Z2.out.c2;have Zc3:=Z2.out.c3
   go_wp2_with (go_at_call 113;(with_reducible refine (wrong_vp (w:=_) b).mono ?_);rintro e3 w3 ⟨rfl,q3⟩;have B3:=hB B2 q3;have R3:=hF R2 q3;clear q3 B2 R2;obtain ⟨Rc0,Rc1,Rc2,Rc3,Rf0,Rf1,Rf2,Rf3⟩:=R3.out.cf)
   exact ret4 4 rfl R3 B3 LR rfl rfl rfl
 ·rw [if_pos g1]
  clear H
  have g11:decide (a.k=1)=false:=decide_eq_false g1
  have g12:(a.k==1)=false:=by simpa using g1
  have g13:(a.k !=1)=true:=by simpa using g1
  clear g1
  try dsimp only [av,an,ao]
  go_enter Tryz.func116,Tryz.ntmps116
  go_upto_region 1 with fail
  obtain ⟨W0,iR,hW,hR,R0,B0,LR,LI,LS⟩:=mkZ w
  rw [hW.out];try rw [hR.out]
  clear hW hR
  have K0:=Lib.hid (hk.below B0.out)
  have HL:=Lib.hid hk.lt
  clear hk
  have kc0:=K0.out.c0;have kc1:=K0.out.c1;have kc2:=K0.out.c2;have kc3:=K0.out.c3
  go_wp2_with fail
  refine wp_loop_rounds 3 ?_
  rw [rounds_succ]
  go_upto_region 4 with fail
  obtain ⟨W1,iZ1,hW,hZ,Z1,BZ,LZ1,_,_⟩:=mk1 W0 (.cells #[.int .u8 a.k,.int .i64 a.c,.int .i64 a.s,.int .i64 a.e] 33)
  rw [hW.out]
  try rw [hZ.out]
  clear hW hZ
  replace Z1:Hid (Four W1 iZ1 a):=Z1
  have K1:=Lib.hid (K0.out.below BZ.out);have R1:=Lib.hid (R0.out.below BZ.out);have B1:=Lib.hid (bt B0.out BZ.out)
  clear kc0 kc1 kc2 kc3 BZ K0 R0 B0
  have Zc0:=Z1.out.c0;have Zc1:=Z1.out.c1;have Zc2:=Z1.out.c2;have Zc3:=Z1.out.c3
  go_wp2_with (go_at_call 113;(with_reducible refine (wrong_vp (w:=_) a).mono ?_);rintro e2 w2 ⟨rfl,q2⟩;have B2:=hB B1 q2;have R2:=hF R1 q2;clear q2 B1 R1;obtain ⟨Rc0,Rc1,Rc2,Rc3,Rf0,Rf1,Rf2,Rf3⟩:=R2.out.cf)
  exact ret4 4 rfl R2 B2 LR rfl rfl rfl
theorem num_two1 {w:World} (g:Nat) (a b d r:V) (bf:Nat) (hk:K3 w g a b d) (H:a.k=1→∀ w',Below w.heap.size w w'→Calls Tryz.prog 120 #[.agg #[.int .i64 a.c,.int .i64 a.s],.agg #[.int .i64 a.c,.int .i64 a.s],.pointer (some ⟨bf,0,none⟩)] w' (VP r w')) :
  Calls Tryz.prog 116 #[.slice (some ⟨g,0,none⟩) 1 3,.func (.func 120) #[] #[.pointer (some ⟨bf,0,none⟩)]] w (VP (if a.k ≠ 1 then wrongV a else r) w):=by
 by_cases g1:a.k=1
 ·rw [if_neg (by simpa using g1)]
  replace H:=H g1
  have g11:decide (a.k=1)=true:=decide_eq_true g1
  have g12:(a.k==1)=true:=by simpa using g1
  have g13:(a.k !=1)=false:=by simpa using g1
  clear g1
  try dsimp only [av,an,ao]
  go_enter Tryz.func116,Tryz.ntmps116
  go_upto_region 1 with fail
  obtain ⟨W0,iR,hW,hR,R0,B0,LR,LI,LS⟩:=mkZ w
  rw [hW.out];try rw [hR.out]
  clear hW hR
  have K0:=Lib.hid (hk.below B0.out)
  have HL:=Lib.hid hk.lt
  clear hk
  have kc0:=K0.out.c0;have kc1:=K0.out.c1;have kc2:=K0.out.c2;have kc3:=K0.out.c3
  go_wp2_with fail
  refine wp_loop_rounds 2 ?_
  rw [rounds_succ]
  go_upto_region 4 with fail
  obtain ⟨W1,iZ1,hW,hZ,Z1,BZ,LZ1,_,_⟩:=mk1 W0 (.cells #[.int .u8 a.k,.int .i64 a.c,.int .i64 a.s,.int .i64 a.e] 33)
  rw [hW.out]
  try rw [hZ.out]
  clear hW hZ
  replace Z1:Hid (Four W1 iZ1 a):=Z1
  have K1:=Lib.hid (K0.out.below BZ.out);have R1:=Lib.hid (R0.out.below BZ.out);have B1:=Lib.hid (bt B0.out BZ.out)
  clear kc0 kc1 kc2 kc3 BZ K0 R0 B0
  have Zc0:=Z1.out.c0;have Zc1:=Z1.out.c1;have Zc2:=Z1.out.c2;have Zc3:=Z1.out.c3
  clear Zc1 Zc2 Zc3
  go_wp2_with fail
  clear Zc0
  rw [rounds_succ]
  go_upto_region 7 with fail
  have HF:=H W1.drew (B1.out.drew)
  clear H
  have Kd:=Lib.hid (K1.out.below (drb W1))
  have HNE:Hid (¬g=iR):=Lib.hid (by have:=HL.out;have:=LR.out;omega)
  have HS0:(fun w':World=>w'.cell? ⟨g,1,none⟩=some (.int .i64 a.c)∧w'.cell? ⟨g,2,none⟩=some (.int .i64 a.s)) W1.drew:=⟨(Kd.out).c1,(Kd.out).c2⟩
  have kw0:IntKind.i64.wrap 0=0:=by decide
  have kw1:IntKind.i64.wrap 1=1:=by decide
  have kw2:IntKind.i64.wrap (1 - 1)=0:=by decide
  have kw3:IntKind.i64.wrap (((1:Nat):Int) - 1)=0:=by decide
  go_region_held3 (fun w'=>w'.cell? ⟨g,1,none⟩=some (.int .i64 a.c)∧w'.cell? ⟨g,2,none⟩=some (.int .i64 a.s))
   (first | with_reducible exact HS0 | with_reducible assumption | with_reducible exact HS8 _ _ _ _)
   (first | (go_at_call 120;(with_reducible refine HF.mono ?_);rintro e8 w8 ⟨rfl,q8⟩;have K8:=Lib.hid (Kd.out.below q8);have B8:=Lib.hid (bt (B1.out.drew) q8);have R8:=Lib.hid (R1.out.below (bt (drb W1) q8));have HS7:w8.cell? ⟨g,1,none⟩=some (.int .i64 a.c)∧w8.cell? ⟨g,2,none⟩=some (.int .i64 a.s):=⟨(K8.out).c1,(K8.out).c2⟩;have HS8:∀ x0 x1 x2 x3,(fun w':World=>w'.cell? ⟨g,1,none⟩=some (.int .i64 a.c)∧w'.cell? ⟨g,2,none⟩=some (.int .i64 a.s)) ((((w8.setCell ⟨iR,0,none⟩ x0).setCell ⟨iR,1,none⟩ x1).setCell ⟨iR,2,none⟩ x2).setCell ⟨iR,3,none⟩ x3):=fun x0 x1 x2 x3=>⟨(K8.out.other4 HNE.out x0 x1 x2 x3).c1,(K8.out.other4 HNE.out x0 x1 x2 x3).c2⟩;have Rc0:=R8.out.c0;have Rc1:=R8.out.c1;have Rc2:=R8.out.c2;have Rc3:=R8.out.c3;have Rf0:=R8.out.f 0;have Rf1:=R8.out.f 1;have Rf2:=R8.out.f 2;have Rf3:=R8.out.f 3;clear q8 HF K8))
  go_wp2_with fail
  exact ret4 4 rfl R8 B8 LR rfl rfl rfl
 ·rw [if_pos g1]
  clear H
  have g11:decide (a.k=1)=false:=decide_eq_false g1
  have g12:(a.k==1)=false:=by simpa using g1
  have g13:(a.k !=1)=true:=by simpa using g1
  clear g1
  try dsimp only [av,an,ao]
  go_enter Tryz.func116,Tryz.ntmps116
  go_upto_region 1 with fail
  obtain ⟨W0,iR,hW,hR,R0,B0,LR,LI,LS⟩:=mkZ w
  rw [hW.out];try rw [hR.out]
  clear hW hR
  have K0:=Lib.hid (hk.below B0.out)
  have HL:=Lib.hid hk.lt
  clear hk
  have kc0:=K0.out.c0;have kc1:=K0.out.c1;have kc2:=K0.out.c2;have kc3:=K0.out.c3
  go_wp2_with fail
  refine wp_loop_rounds 2 ?_
  rw [rounds_succ]
  go_upto_region 4 with fail
  obtain ⟨W1,iZ1,hW,hZ,Z1,BZ,LZ1,_,_⟩:=mk1 W0 (.cells #[.int .u8 a.k,.int .i64 a.c,.int .i64 a.s,.int .i64 a.e] 33)
  rw [hW.out]
  try rw [hZ.out]
  clear hW hZ
  replace Z1:Hid (Four W1 iZ1 a):=Z1
  have K1:=Lib.hid (K0.out.below BZ.out);have R1:=Lib.hid (R0.out.below BZ.out);have B1:=Lib.hid (bt B0.out BZ.out)
  clear kc0 kc1 kc2 kc3 BZ K0 R0 B0
  have Zc0:=Z1.out.c0;have Zc1:=Z1.out.c1;have Zc2:=Z1.out.c2;have Zc3:=Z1.out.c3
  go_wp2_with (go_at_call 113;(with_reducible refine (wrong_vp (w:=_) a).mono ?_);rintro e2 w2 ⟨rfl,q2⟩;have B2:=hB B1 q2;have R2:=hF R1 q2;clear q2 B1 R1;obtain ⟨Rc0,Rc1,Rc2,Rc3,Rf0,Rf1,Rf2,Rf3⟩:=R2.out.cf)
  exact ret4 4 rfl R2 B2 LR rfl rfl rfl
theorem num_two2 {w:World} (g:Nat) (a b d r:V) (bf:Nat) (hk:K3 w g a b d) (H:a.k=1→b.k=1→∀ w',Below w.heap.size w w'→Calls Tryz.prog 120 #[.agg #[.int .i64 a.c,.int .i64 a.s],.agg #[.int .i64 b.c,.int .i64 b.s],.pointer (some ⟨bf,0,none⟩)] w' (VP r w')) :
  Calls Tryz.prog 116 #[.slice (some ⟨g,0,none⟩) 2 3,.func (.func 120) #[] #[.pointer (some ⟨bf,0,none⟩)]] w (VP (if a.k ≠ 1 then wrongV a else if b.k ≠ 1 then wrongV b else r) w):=by
 by_cases g1:a.k=1
 ·rw [if_neg (by simpa using g1)]
  by_cases h1:b.k=1
  ·rw [if_neg (by simpa using h1)]
   replace H:=H g1 h1
   have g11:decide (a.k=1)=true:=decide_eq_true g1
   have g12:(a.k==1)=true:=by simpa using g1
   have g13:(a.k !=1)=false:=by simpa using g1
   have h11:decide (b.k=1)=true:=decide_eq_true h1
   have h12:(b.k==1)=true:=by simpa using h1
   have h13:(b.k !=1)=false:=by simpa using h1
   clear g1 h1
   try dsimp only [av,an,ao]
   go_enter Tryz.func116,Tryz.ntmps116
   go_upto_region 1 with fail
   obtain ⟨W0,iR,hW,hR,R0,B0,LR,LI,LS⟩:=mkZ w
   rw [hW.out];try rw [hR.out]
   clear hW hR
   have K0:=Lib.hid (hk.below B0.out)
   have HL:=Lib.hid hk.lt
   clear hk
   have kc0:=K0.out.c0;have kc1:=K0.out.c1;have kc2:=K0.out.c2;have kc3:=K0.out.c3
   go_wp2_with fail
   refine wp_loop_rounds 3 ?_
   rw [rounds_succ]
   go_upto_region 4 with fail
   obtain ⟨W1,iZ1,hW,hZ,Z1,BZ,LZ1,_,_⟩:=mk1 W0 (.cells #[.int .u8 a.k,.int .i64 a.c,.int .i64 a.s,.int .i64 a.e] 33)
   rw [hW.out]
   try rw [hZ.out]
   clear hW hZ
   replace Z1:Hid (Four W1 iZ1 a):=Z1
   have K1:=Lib.hid (K0.out.below BZ.out);have R1:=Lib.hid (R0.out.below BZ.out);have B1:=Lib.hid (bt B0.out BZ.out)
   clear kc0 kc1 kc2 kc3 BZ K0 R0 B0
   have Zc0:=Z1.out.c0;have Zc1:=Z1.out.c1;have Zc2:=Z1.out.c2;have Zc3:=Z1.out.c3
   clear Zc1 Zc2 Zc3
   go_wp2_with fail
   clear Zc0
   have kc0:=K1.out.c4;have kc1:=K1.out.c5;have kc2:=K1.out.c6;have kc3:=K1.out.c7
   rw [rounds_succ]
   go_upto_region 4 with fail
   obtain ⟨W2,iZ2,hW,hZ,Z2,BZ,LZ2,_,_⟩:=mk1 W1 (.cells #[.int .u8 b.k,.int .i64 b.c,.int .i64 b.s,.int .i64 b.e] 33)
   rw [hW.out]
   try rw [hZ.out]
   clear hW hZ
   replace Z2:Hid (Four W2 iZ2 b):=Z2
   have K2:=Lib.hid (K1.out.below BZ.out);have R2:=Lib.hid (R1.out.below BZ.out);have B2:=Lib.hid (bt B1.out BZ.out)
   clear kc0 kc1 kc2 kc3 BZ K1 R1 B1
   have Zc0:=Z2.out.c0;have Zc1:=Z2.out.c1;have Zc2:=Z2.out.c2;have Zc3:=Z2.out.c3
   clear Zc1 Zc2 Zc3
   go_wp2_with fail
   clear Zc0
   rw [rounds_succ]
   go_upto_region 7 with fail
   have HF:=H W2.drew (B2.out.drew)
   clear H
   have Kd:=Lib.hid (K2.out.below (drb W2))
   have HNE:Hid (¬g=iR):=Lib.hid (by have:=HL.out;have:=LR.out;omega)
   have HS0:(fun w':World=>w'.cell? ⟨g,1,none⟩=some (.int .i64 a.c)∧w'.cell? ⟨g,2,none⟩=some (.int .i64 a.s)∧w'.cell? ⟨g,5,none⟩=some (.int .i64 b.c)∧w'.cell? ⟨g,6,none⟩=some (.int .i64 b.s)) W2.drew:=⟨(Kd.out).c1,(Kd.out).c2,(Kd.out).c5,(Kd.out).c6⟩
   have kw0:IntKind.i64.wrap 0=0:=by decide
   have kw1:IntKind.i64.wrap 1=1:=by decide
   have kw2:IntKind.i64.wrap (2 - 1)=1:=by decide
   have kw3:IntKind.i64.wrap (((2:Nat):Int) - 1)=1:=by decide
   go_region_held3 (fun w'=>w'.cell? ⟨g,1,none⟩=some (.int .i64 a.c)∧w'.cell? ⟨g,2,none⟩=some (.int .i64 a.s)∧w'.cell? ⟨g,5,none⟩=some (.int .i64 b.c)∧w'.cell? ⟨g,6,none⟩=some (.int .i64 b.s))
    (first | with_reducible exact HS0 | with_reducible assumption | with_reducible exact HS8 _ _ _ _)
    (first | (go_at_call 120;(with_reducible refine HF.mono ?_);rintro e8 w8 ⟨rfl,q8⟩;have K8:=Lib.hid (Kd.out.below q8);have B8:=Lib.hid (bt (B2.out.drew) q8);have R8:=Lib.hid (R2.out.below (bt (drb W2) q8));have HS7:w8.cell? ⟨g,1,none⟩=some (.int .i64 a.c)∧w8.cell? ⟨g,2,none⟩=some (.int .i64 a.s)∧w8.cell? ⟨g,5,none⟩=some (.int .i64 b.c)∧w8.cell? ⟨g,6,none⟩=some (.int .i64 b.s):=⟨(K8.out).c1,(K8.out).c2,(K8.out).c5,(K8.out).c6⟩;have HS8:∀ x0 x1 x2 x3,(fun w':World=>w'.cell? ⟨g,1,none⟩=some (.int .i64 a.c)∧w'.cell? ⟨g,2,none⟩=some (.int .i64 a.s)∧w'.cell? ⟨g,5,none⟩=some (.int .i64 b.c)∧w'.cell? ⟨g,6,none⟩=some (.int .i64 b.s)) ((((w8.setCell ⟨iR,0,none⟩ x0).setCell ⟨iR,1,none⟩ x1).setCell ⟨iR,2,none⟩ x2).setCell ⟨iR,3,none⟩ x3):=fun x0 x1 x2 x3=>⟨(K8.out.other4 HNE.out x0 x1 x2 x3).c1,(K8.out.other4 HNE.out x0 x1 x2 x3).c2,(K8.out.other4 HNE.out x0 x1 x2 x3).c5,(K8.out.other4 HNE.out x0 x1 x2 x3).c6⟩;have Rc0:=R8.out.c0;have Rc1:=R8.out.c1;have Rc2:=R8.out.c2;have Rc3:=R8.out.c3;have Rf0:=R8.out.f 0;have Rf1:=R8.out.f 1;have Rf2:=R8.out.f 2;have Rf3:=R8.out.f 3;clear q8 HF K8))
   go_wp2_with fail
   exact ret4 4 rfl R8 B8 LR rfl rfl rfl
  ·rw [if_pos h1]
   clear H
   have g11:decide (a.k=1)=true:=decide_eq_true g1
   have g12:(a.k==1)=true:=by simpa using g1
   have g13:(a.k !=1)=false:=by simpa using g1
   have h11:decide (b.k=1)=false:=decide_eq_false h1
   have h12:(b.k==1)=false:=by simpa using h1
   have h13:(b.k !=1)=true:=by simpa using h1
   clear g1 h1
   try dsimp only [av,an,ao]
   go_enter Tryz.func116,Tryz.ntmps116
   go_upto_region 1 with fail
   obtain ⟨W0,iR,hW,hR,R0,B0,LR,LI,LS⟩:=mkZ w
   rw [hW.out];try rw [hR.out]
   clear hW hR
   have K0:=Lib.hid (hk.below B0.out)
   have HL:=Lib.hid hk.lt
   clear hk
   have kc0:=K0.out.c0;have kc1:=K0.out.c1;have kc2:=K0.out.c2;have kc3:=K0.out.c3
   go_wp2_with fail
   refine wp_loop_rounds 3 ?_
   rw [rounds_succ]
   go_upto_region 4 with fail
   obtain ⟨W1,iZ1,hW,hZ,Z1,BZ,LZ1,_,_⟩:=mk1 W0 (.cells #[.int .u8 a.k,.int .i64 a.c,.int .i64 a.s,.int .i64 a.e] 33)
   rw [hW.out]
   try rw [hZ.out]
   clear hW hZ
   replace Z1:Hid (Four W1 iZ1 a):=Z1
   have K1:=Lib.hid (K0.out.below BZ.out);have R1:=Lib.hid (R0.out.below BZ.out);have B1:=Lib.hid (bt B0.out BZ.out)
   clear kc0 kc1 kc2 kc3 BZ K0 R0 B0
   have Zc0:=Z1.out.c0;have Zc1:=Z1.out.c1;have Zc2:=Z1.out.c2;have Zc3:=Z1.out.c3
   clear Zc1 Zc2 Zc3
   go_wp2_with fail
   clear Zc0
   have kc0:=K1.out.c4;have kc1:=K1.out.c5;have kc2:=K1.out.c6;have kc3:=K1.out.c7
   rw [rounds_succ]
   go_upto_region 4 with fail
   obtain ⟨W2,iZ2,hW,hZ,Z2,BZ,LZ2,_,_⟩:=mk1 W1 (.cells #[.int .u8 b.k,.int .i64 b.c,.int .i64 b.s,.int .i64 b.e] 33)
   rw [hW.out]
   try rw [hZ.out]
   clear hW hZ
   replace Z2:Hid (Four W2 iZ2 b):=Z2
   have K2:=Lib.hid (K1.out.below BZ.out);have R2:=Lib.hid (R1.out.below BZ.out);have B2:=Lib.hid (bt B1.out BZ.out)
   clear kc0 kc1 kc2 kc3 BZ K1 R1 B1
   have Zc0:=Z2.out.c0;have Zc1:=Z2.out.c1;have Zc2:=Z2.out.c2;have Zc3:=Z2.out.c3
   go_wp2_with (go_at_call 113;(with_reducible refine (wrong_vp (w:=_) b).mono ?_);rintro e3 w3 ⟨rfl,q3⟩;have B3:=hB B2 q3;have R3:=hF R2 q3;clear q3 B2 R2;obtain ⟨Rc0,Rc1,Rc2,Rc3,Rf0,Rf1,Rf2,Rf3⟩:=R3.out.cf)
   exact ret4 4 rfl R3 B3 LR rfl rfl rfl
 ·rw [if_pos g1]
  clear H
  have g11:decide (a.k=1)=false:=decide_eq_false g1
  have g12:(a.k==1)=false:=by simpa using g1
  have g13:(a.k !=1)=true:=by simpa using g1
  clear g1
  try dsimp only [av,an,ao]
  go_enter Tryz.func116,Tryz.ntmps116
  go_upto_region 1 with fail
  obtain ⟨W0,iR,hW,hR,R0,B0,LR,LI,LS⟩:=mkZ w
  rw [hW.out];try rw [hR.out]
  clear hW hR
  have K0:=Lib.hid (hk.below B0.out)
  have HL:=Lib.hid hk.lt
  clear hk
  have kc0:=K0.out.c0;have kc1:=K0.out.c1;have kc2:=K0.out.c2;have kc3:=K0.out.c3
  go_wp2_with fail
  refine wp_loop_rounds 3 ?_
  rw [rounds_succ]
  go_upto_region 4 with fail
  obtain ⟨W1,iZ1,hW,hZ,Z1,BZ,LZ1,_,_⟩:=mk1 W0 (.cells #[.int .u8 a.k,.int .i64 a.c,.int .i64 a.s,.int .i64 a.e] 33)
  rw [hW.out]
  try rw [hZ.out]
  clear hW hZ
  replace Z1:Hid (Four W1 iZ1 a):=Z1
  have K1:=Lib.hid (K0.out.below BZ.out);have R1:=Lib.hid (R0.out.below BZ.out);have B1:=Lib.hid (bt B0.out BZ.out)
  clear kc0 kc1 kc2 kc3 BZ K0 R0 B0
  have Zc0:=Z1.out.c0;have Zc1:=Z1.out.c1;have Zc2:=Z1.out.c2;have Zc3:=Z1.out.c3
  go_wp2_with (go_at_call 113;(with_reducible refine (wrong_vp (w:=_) a).mono ?_);rintro e2 w2 ⟨rfl,q2⟩;have B2:=hB B1 q2;have R2:=hF R1 q2;clear q2 B1 R1;obtain ⟨Rc0,Rc1,Rc2,Rc3,Rf0,Rf1,Rf2,Rf3⟩:=R2.out.cf)
  exact ret4 4 rfl R2 B2 LR rfl rfl rfl
end Go.Proofs.YteagpbkbdlmdiaaGreat.Ev
/- EvAlike: what its functions answer. -/
namespace Go.Proofs.YteagpbkbdlmdiaaGreat.Ev
set_option maxRecDepth 100000
set_option maxHeartbeats 2000000
open Go Go.RowKit Dt Tx Va
set_option linter.unusedSimpArgs false
set_option linter.unusedVariables false
attribute [local go_sem ↓] Go.wp_at_zero Go.wp_at_succ
theorem un_inj {c c':Int} {n n':Nat} (hn:n≤9) (hn':n'≤9) (h:n=0∨c % 10 ≠ 0) (h':n'=0∨c' % 10 ≠ 0) (e:un c n=un c' n'):c=c'∧n=n':=by
 have t:=trim_up c n (9 - n)
 have t':=trim_up c' n' (9 - n')
 rw [show n+(9 - n)=9 by omega,trim_self c n h] at t
 rw [show n'+(9 - n')=9 by omega,trim_self c' n' h'] at t'
 unfold un at e
 rw [e,t'] at t
 cases t
 exact ⟨rfl,rfl⟩
theorem cmpZ_eq (x y:Int):cmpZ x y=0↔x=y:=by
 unfold cmpZ
 split
 ·constructor<;>intro h<;>omega
 ·split
  ·constructor<;>intro h<;>omega
  ·constructor<;>intro h<;>omega
theorem same4 (a b:V):∃ e:Bool,Hid (e=decide (a=b))∧
  (((a.k==b.k)=false∧e=false)∨((a.k==b.k)=true∧(((a.c==b.c)=false∧e=false)∨((a.c==b.c)=true∧(((a.s==b.s)=false∧e=false)∨((a.s==b.s)=true∧(((a.e==b.e)=false∧e=false)∨((a.e==b.e)=true∧e=true)))))))):=by
 obtain ⟨k,c,s,e⟩:=a
 obtain ⟨k',c',s',e'⟩:=b
 refine ⟨_,Lib.hid rfl,?_⟩
 by_cases h1:k=k'<;>by_cases h2:c=c'<;>by_cases h3:s=s'<;>by_cases h4:e=e'<;>simp [h1,h2,h3,h4]
theorem alike_a {w:World} (a b:V) (o:Bool) (h:a.k=0∨a.k=4):Calls Tryz.prog 63 #[av a,av b,.bool o] w (VP (wrongV a) w):=by
 have j0:∀ w,(Instr.index 136 (.agg #[.int .u8 a.k,.int .i64 a.c,.int .i64 a.s,.int .i64 a.e,.int .u8 b.k,.int .i64 b.c,.int .i64 b.s,.int .i64 b.e]) (.int .i64 0)).run Tryz.prog w=.ok (.agg #[.int .u8 a.k,.int .i64 a.c,.int .i64 a.s,.int .i64 a.e]) w:=fun w=>by kernel_rfl
 have j1:∀ w,(Instr.index 136 (.agg #[.int .u8 a.k,.int .i64 a.c,.int .i64 a.s,.int .i64 a.e,.int .u8 b.k,.int .i64 b.c,.int .i64 b.s,.int .i64 b.e]) (.int .i64 1)).run Tryz.prog w=.ok (.agg #[.int .u8 b.k,.int .i64 b.c,.int .i64 b.s,.int .i64 b.e]) w:=fun w=>by kernel_rfl
 try dsimp only [av,an,ao]
 go_enter Tryz.func63,Tryz.ntmps63
 go_upto_region 1 with fail
 obtain ⟨W0,iX,iY,iR,hW,hX,hY,hR,X0,Y0,R0,B0,LX,LY,LR,LI,LS⟩:=mkVVZ w a b
 rw [hW.out];try rw [hR.out];try rw [hY.out];try rw [hX.out]
 clear hW hX hY hR
 obtain ⟨Xc0,Xc1,Xc2,Xc3⟩:=X0.out.cs
 obtain ⟨Yc0,Yc1,Yc2,Yc3⟩:=Y0.out.cs
 go_wp2_with fail
 refine wp_loop_rounds 3 ?_
 clear Xc0 Xc1 Xc2 Xc3 Yc0 Yc1 Yc2 Yc3
 rw [rounds_succ]
 go_upto_region 4 with fail
 obtain ⟨W1,iZ1,hW,hZ,Z1,BZ,LZ1,_,_⟩:=mk1 W0 (.cells #[.int .u8 a.k,.int .i64 a.c,.int .i64 a.s,.int .i64 a.e] 33)
 rw [hW.out]
 try rw [hZ.out]
 clear hW hZ
 replace Z1:Hid (Four W1 iZ1 a):=Z1
 have X1:=Lib.hid (X0.out.below BZ.out);have Y1:=Lib.hid (Y0.out.below BZ.out);have R1:=Lib.hid (R0.out.below BZ.out);have B1:=Lib.hid (bt B0.out BZ.out)
 clear BZ X0 Y0 R0 B0
 have Zc0:=Z1.out.c0;have Zc1:=Z1.out.c1;have Zc2:=Z1.out.c2;have Zc3:=Z1.out.c3
 rcases k04 h with ⟨h0,h1,h2,h3,h4,h5⟩ | ⟨h0,h1,h2,h3,h4,h5⟩<;>clear h
 all_goals
  go_wp2_with (go_at_call 113;(with_reducible refine (wrong_vp (w:=_) a).mono ?_);rintro e2 w2 ⟨rfl,q2⟩;have B2:=hB B1 q2;have R2:=hF R1 q2;clear q2 B1 R1;obtain ⟨Rc0,Rc1,Rc2,Rc3,Rf0,Rf1,Rf2,Rf3⟩:=R2.out.cf)
  exact ret4 6 rfl R2 B2 LR rfl rfl rfl
theorem alike_b {w:World} (a b:V) (o:Bool) (g:¬(a.k=0∨a.k=4)) (h:b.k=0∨b.k=4):Calls Tryz.prog 63 #[av a,av b,.bool o] w (VP (wrongV b) w):=by
 obtain ⟨⟨g0,g1,g2⟩,⟨g3,g4,g5⟩⟩:=kno g
 clear g
 have j0:∀ w,(Instr.index 136 (.agg #[.int .u8 a.k,.int .i64 a.c,.int .i64 a.s,.int .i64 a.e,.int .u8 b.k,.int .i64 b.c,.int .i64 b.s,.int .i64 b.e]) (.int .i64 0)).run Tryz.prog w=.ok (.agg #[.int .u8 a.k,.int .i64 a.c,.int .i64 a.s,.int .i64 a.e]) w:=fun w=>by kernel_rfl
 have j1:∀ w,(Instr.index 136 (.agg #[.int .u8 a.k,.int .i64 a.c,.int .i64 a.s,.int .i64 a.e,.int .u8 b.k,.int .i64 b.c,.int .i64 b.s,.int .i64 b.e]) (.int .i64 1)).run Tryz.prog w=.ok (.agg #[.int .u8 b.k,.int .i64 b.c,.int .i64 b.s,.int .i64 b.e]) w:=fun w=>by kernel_rfl
 try dsimp only [av,an,ao]
 go_enter Tryz.func63,Tryz.ntmps63
 go_upto_region 1 with fail
 obtain ⟨W0,iX,iY,iR,hW,hX,hY,hR,X0,Y0,R0,B0,LX,LY,LR,LI,LS⟩:=mkVVZ w a b
 rw [hW.out];try rw [hR.out];try rw [hY.out];try rw [hX.out]
 clear hW hX hY hR
 obtain ⟨Xc0,Xc1,Xc2,Xc3⟩:=X0.out.cs
 obtain ⟨Yc0,Yc1,Yc2,Yc3⟩:=Y0.out.cs
 go_wp2_with fail
 refine wp_loop_rounds 3 ?_
 clear Xc0 Xc1 Xc2 Xc3 Yc0 Yc1 Yc2 Yc3
 rw [rounds_succ]
 go_upto_region 4 with fail
 obtain ⟨W1,iZ1,hW,hZ,Z1,BZ,LZ1,_,_⟩:=mk1 W0 (.cells #[.int .u8 a.k,.int .i64 a.c,.int .i64 a.s,.int .i64 a.e] 33)
 rw [hW.out]
 try rw [hZ.out]
 clear hW hZ
 replace Z1:Hid (Four W1 iZ1 a):=Z1
 have X1:=Lib.hid (X0.out.below BZ.out);have Y1:=Lib.hid (Y0.out.below BZ.out);have R1:=Lib.hid (R0.out.below BZ.out);have B1:=Lib.hid (bt B0.out BZ.out)
 clear BZ X0 Y0 R0 B0
 have Zc0:=Z1.out.c0;have Zc1:=Z1.out.c1;have Zc2:=Z1.out.c2;have Zc3:=Z1.out.c3
 go_wp2_with fail
 clear Zc0 Zc1 Zc2 Zc3
 rw [rounds_succ]
 go_upto_region 4 with fail
 obtain ⟨W2,iZ2,hW,hZ,Z2,BZ,LZ2,_,_⟩:=mk1 W1 (.cells #[.int .u8 b.k,.int .i64 b.c,.int .i64 b.s,.int .i64 b.e] 33)
 rw [hW.out]
 try rw [hZ.out]
 clear hW hZ
 replace Z2:Hid (Four W2 iZ2 b):=Z2
 have X2:=Lib.hid (X1.out.below BZ.out);have Y2:=Lib.hid (Y1.out.below BZ.out);have R2:=Lib.hid (R1.out.below BZ.out);have B2:=Lib.hid (bt B1.out BZ.out)
 clear BZ X1 Y1 R1 B1
 have Zc0:=Z2.out.c0;have Zc1:=Z2.out.c1;have Zc2:=Z2.out.c2;have Zc3:=Z2.out.c3
 rcases k04 h with ⟨h0,h1,h2,h3,h4,h5⟩ | ⟨h0,h1,h2,h3,h4,h5⟩<;>clear h
 all_goals
  go_wp2_with (go_at_call 113;(with_reducible refine (wrong_vp (w:=_) b).mono ?_);rintro e3 w3 ⟨rfl,q3⟩;have B3:=hB B2 q3;have R3:=hF R2 q3;clear q3 B2 R2;obtain ⟨Rc0,Rc1,Rc2,Rc3,Rf0,Rf1,Rf2,Rf3⟩:=R3.out.cf)
  exact ret4 6 rfl R3 B3 LR rfl rfl rfl
theorem alike_g {w:World} (a b:V) (o:Bool) (g:¬(a.k=0∨a.k=4)) (h:¬(b.k=0∨b.k=4)):Calls Tryz.prog 63 #[av a,av b,.bool o] w (VP (if isT a=isT b then truthV (decide (a=b)==o) else badE 13) w):=by
 obtain ⟨⟨g0,g1,g2⟩,⟨g3,g4,g5⟩⟩:=kno g
 obtain ⟨⟨h0,h1,h2⟩,⟨h3,h4,h5⟩⟩:=kno h
 clear g h
 have IA:=fun w=>ist_is (w:=w) a
 have IB:=fun w=>ist_is (w:=w) b
 obtain ⟨res,E⟩:∃ r,(if isT a=isT b then truthV (decide (a=b)==o) else badE 13)=r:=⟨_,rfl⟩
 rw [E]
 generalize isT a=ta at IA E
 generalize isT b=tb at IB E
 replace E:=Lib.hid E
 have j0:∀ w,(Instr.index 136 (.agg #[.int .u8 a.k,.int .i64 a.c,.int .i64 a.s,.int .i64 a.e,.int .u8 b.k,.int .i64 b.c,.int .i64 b.s,.int .i64 b.e]) (.int .i64 0)).run Tryz.prog w=.ok (.agg #[.int .u8 a.k,.int .i64 a.c,.int .i64 a.s,.int .i64 a.e]) w:=fun w=>by kernel_rfl
 have j1:∀ w,(Instr.index 136 (.agg #[.int .u8 a.k,.int .i64 a.c,.int .i64 a.s,.int .i64 a.e,.int .u8 b.k,.int .i64 b.c,.int .i64 b.s,.int .i64 b.e]) (.int .i64 1)).run Tryz.prog w=.ok (.agg #[.int .u8 b.k,.int .i64 b.c,.int .i64 b.s,.int .i64 b.e]) w:=fun w=>by kernel_rfl
 try dsimp only [av,an,ao]
 go_enter Tryz.func63,Tryz.ntmps63
 go_upto_region 1 with fail
 obtain ⟨W0,iX,iY,iR,hW,hX,hY,hR,X0,Y0,R0,B0,LX,LY,LR,LI,LS⟩:=mkVVZ w a b
 rw [hW.out];try rw [hR.out];try rw [hY.out];try rw [hX.out]
 clear hW hX hY hR
 obtain ⟨Xc0,Xc1,Xc2,Xc3⟩:=X0.out.cs
 obtain ⟨Yc0,Yc1,Yc2,Yc3⟩:=Y0.out.cs
 go_wp2_with fail
 refine wp_loop_rounds 3 ?_
 clear Xc0 Xc1 Xc2 Xc3 Yc0 Yc1 Yc2 Yc3
 rw [rounds_succ]
 go_upto_region 4 with fail
 obtain ⟨W1,iZ1,hW,hZ,Z1,BZ,LZ1,_,_⟩:=mk1 W0 (.cells #[.int .u8 a.k,.int .i64 a.c,.int .i64 a.s,.int .i64 a.e] 33)
 rw [hW.out]
 try rw [hZ.out]
 clear hW hZ
 replace Z1:Hid (Four W1 iZ1 a):=Z1
 have X1:=Lib.hid (X0.out.below BZ.out);have Y1:=Lib.hid (Y0.out.below BZ.out);have R1:=Lib.hid (R0.out.below BZ.out);have B1:=Lib.hid (bt B0.out BZ.out)
 clear BZ X0 Y0 R0 B0
 have Zc0:=Z1.out.c0;have Zc1:=Z1.out.c1;have Zc2:=Z1.out.c2;have Zc3:=Z1.out.c3
 go_wp2_with fail
 clear Zc0 Zc1 Zc2 Zc3
 rw [rounds_succ]
 go_upto_region 4 with fail
 obtain ⟨W2,iZ2,hW,hZ,Z2,BZ,LZ2,_,_⟩:=mk1 W1 (.cells #[.int .u8 b.k,.int .i64 b.c,.int .i64 b.s,.int .i64 b.e] 33)
 rw [hW.out]
 try rw [hZ.out]
 clear hW hZ
 replace Z2:Hid (Four W2 iZ2 b):=Z2
 have X2:=Lib.hid (X1.out.below BZ.out);have Y2:=Lib.hid (Y1.out.below BZ.out);have R2:=Lib.hid (R1.out.below BZ.out);have B2:=Lib.hid (bt B1.out BZ.out)
 clear BZ X1 Y1 R1 B1
 have Zc0:=Z2.out.c0;have Zc1:=Z2.out.c1;have Zc2:=Z2.out.c2;have Zc3:=Z2.out.c3
 go_wp2_with fail
 clear Zc0 Zc1 Zc2 Zc3
 rw [rounds_succ]
 go_upto_region 7 with fail
 have Db:Hid (Below W2.heap.size W2 W2.drew):=Lib.hid ⟨rfl,rfl,rfl,Nat.le_refl _,fun _ _=>rfl⟩
 have Xd:=Lib.hid (X2.out.below Db.out);have Yd:=Lib.hid (Y2.out.below Db.out)
 have mkS:∀ {w'},Four w' iX a→Four w' iY b→w'.cell? ⟨iX,0,none⟩=some (.int .u8 a.k)∧w'.cell? ⟨iX,1,none⟩=some (.int .i64 a.c)∧w'.cell? ⟨iX,2,none⟩=some (.int .i64 a.s)∧w'.cell? ⟨iX,3,none⟩=some (.int .i64 a.e)∧w'.cell? ⟨iY,0,none⟩=some (.int .u8 b.k)∧w'.cell? ⟨iY,1,none⟩=some (.int .i64 b.c)∧w'.cell? ⟨iY,2,none⟩=some (.int .i64 b.s)∧w'.cell? ⟨iY,3,none⟩=some (.int .i64 b.e):=fun x y=>⟨x.c0,x.c1,x.c2,x.c3,y.c0,y.c1,y.c2,y.c3⟩
 have HS0:=mkS Xd.out Yd.out
 go_region_held3 (fun w'=>w'.cell? ⟨iX,0,none⟩=some (.int .u8 a.k)∧w'.cell? ⟨iX,1,none⟩=some (.int .i64 a.c)∧w'.cell? ⟨iX,2,none⟩=some (.int .i64 a.s)∧w'.cell? ⟨iX,3,none⟩=some (.int .i64 a.e)∧w'.cell? ⟨iY,0,none⟩=some (.int .u8 b.k)∧w'.cell? ⟨iY,1,none⟩=some (.int .i64 b.c)∧w'.cell? ⟨iY,2,none⟩=some (.int .i64 b.s)∧w'.cell? ⟨iY,3,none⟩=some (.int .i64 b.e))
  (first | with_reducible exact HS0 | with_reducible assumption)
  (first | (have _t:=IA;clear _t;(go_at_call 112;(with_reducible refine (IA _).mono ?_);rintro e8 w8 ⟨rfl,q8⟩;have X8:=Lib.hid (Xd.out.below q8);have Y8:=Lib.hid (Yd.out.below q8);have B8:=Lib.hid (bt B2.out.drew q8);have R8:=Lib.hid (R2.out.below (bt Db.out q8));have HS8:=mkS X8.out Y8.out;clear q8 IA Xd Yd)) | (go_at_call 112;(with_reducible refine (IB _).mono ?_);rintro e9 w9 ⟨rfl,q9⟩;have X9:=Lib.hid (X8.out.below q9);have Y9:=Lib.hid (Y8.out.below q9);have B9:=Lib.hid (bt B8.out q9);have R9:=Lib.hid (R8.out.below q9);have HS9:=mkS X9.out Y9.out;clear q9 IB X8 Y8 B8 R8))
 clear mkS
 replace E:=E.out
 by_cases ht:ta=tb
 ·subst ht
  rw [if_pos rfl] at E
  obtain ⟨e,he,hd⟩:=same4 a b
  rw [←he.out] at E
  clear HS0 HS8 Db
  obtain ⟨a0,a1,a2,a3,b0,b1,b2,b3⟩:=HS9
  rcases hd with ⟨k1,rfl⟩ | ⟨k1,⟨k2,rfl⟩ | ⟨k2,⟨k3,rfl⟩ | ⟨k3,⟨k4,rfl⟩ | ⟨k4,rfl⟩⟩⟩⟩<;>clear he<;>cases o<;>cases ta
  all_goals
   subst E
   go_wp2_with (go_at_call 34;(with_reducible refine (truth_vp (w:=_) _).mono ?_);rintro e10 w10 ⟨rfl,q10⟩;have B10:=hB B9 q10;have R10:=hF R9 q10;clear q10 B9 R9;obtain ⟨Rc0,Rc1,Rc2,Rc3,Rf0,Rf1,Rf2,Rf3⟩:=R10.out.cf)
   exact ret4 6 rfl R10 B10 LR rfl rfl rfl
 ·rw [if_neg ht] at E
  subst E
  clear HS0 HS8 HS9 Db
  cases ta<;>cases tb<;>first | exact absurd rfl ht | clear ht
  all_goals
   go_wp2_with (go_at_call 23;(with_reducible refine (bad_vp (w:=_) 13).mono ?_);rintro e10 w10 ⟨rfl,q10⟩;have B10:=hB B9 q10;have R10:=hF R9 q10;clear q10 B9 R9;obtain ⟨Rc0,Rc1,Rc2,Rc3,Rf0,Rf1,Rf2,Rf3⟩:=R10.out.cf)
   exact ret4 6 rfl R10 B10 LR rfl rfl rfl
theorem alike_o {w:World} {a b:V} (op:Int) (ha:V.fine a) (hb:V.fine b):Calls Tryz.prog 63 #[av a,av b,.bool (decide (op=8))] w (VP (sameV op a b) w):=by
 unfold sameV
 by_cases p:a.k=0∨a.k=4
 ·rw [if_pos p];exact alike_a a b _ p
 rw [if_neg p]
 by_cases q:b.k=0∨b.k=4
 ·rw [if_pos q];exact alike_b a b _ p q
 rw [if_neg q]
 have key:∀ {v:V},V.fine v→¬(v.k=0∨v.k=4)→v=⟨2,0,0,0⟩∨v=⟨3,0,0,0⟩∨v.k=1:=fun {v} hv hp=>by
  rcases may_kinds hv.may with rfl | rfl | rfl | rfl | rfl | rfl | ⟨e,_⟩
  ·exact absurd (.inl rfl) hp
  ·exact .inl rfl
  ·exact .inr (.inl rfl)
  ·exact absurd (.inr rfl) hp
  ·exact absurd (.inr rfl) hp
  ·exact absurd (.inr rfl) hp
  ·exact .inr (.inr (congrArg V.k e))
 have G:=alike_g (w:=w) a b (decide (op=8)) p q
 rcases key ha p with rfl | rfl | ka
 ·rcases key hb q with rfl | rfl | kb
  ·exact G
  ·exact G
  ·have:isT b=false:=by unfold isT;exact decide_eq_false (by omega)
   rw [this] at G
   rw [kb]
   exact G
 ·rcases key hb q with rfl | rfl | kb
  ·exact G
  ·exact G
  ·have:isT b=false:=by unfold isT;exact decide_eq_false (by omega)
   rw [this] at G
   rw [kb]
   exact G
 ·have ta:isT a=false:=by unfold isT;exact decide_eq_false (by omega)
  rw [ta] at G
  rcases key hb q with rfl | rfl | kb
  ·rw [ka];exact G
  ·rw [ka];exact G
  ·have tb:isT b=false:=by unfold isT;exact decide_eq_false (by omega)
   rw [tb,if_pos rfl] at G
   rw [ka,kb,if_neg (by simp),if_pos rfl]
   have E:decide (cmpZ (unV a) (unV b)=0)=decide (a=b):=by
    obtain ⟨na,ea,la,_,ka'⟩:=num_parts ha ka
    obtain ⟨nb,eb,lb,_,kb'⟩:=num_parts hb kb
    generalize a.c=ca at ea ka'
    generalize b.c=cb at eb kb'
    subst ea eb
    refine decide_eq_decide.2 ((cmpZ_eq _ _).trans ⟨fun e=>?_,fun e=>by rw [e]⟩)
    obtain ⟨rfl,rfl⟩:=un_inj la lb ka' kb' e
    rfl
   rw [E];exact G
theorem alike_8 {w:World} {a b:V} (ha:V.fine a) (hb:V.fine b):Calls Tryz.prog 63 #[av a,av b,.bool true] w (VP (sameV 8 a b) w):=alike_o 8 ha hb
theorem alike_9 {w:World} {a b:V} (ha:V.fine a) (hb:V.fine b):Calls Tryz.prog 63 #[av a,av b,.bool false] w (VP (sameV 9 a b) w):=alike_o 9 ha hb
end Go.Proofs.YteagpbkbdlmdiaaGreat.Ev
