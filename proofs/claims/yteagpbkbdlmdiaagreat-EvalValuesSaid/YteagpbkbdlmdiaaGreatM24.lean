/-
  The words of a text, plain; lexer: bytes, while, named, number, walked; lexer: word, walked; ROWS OF ANY ELEMENT TYPE: a row of the call's own, a row that came in; append, at each place where it may stand; lexer: Lex, walked; The document's words: where one ends, walked.
-/
import Derived.Test.YteagpbkbdlmdiaaGreatM22
import Derived.Test.YteagpbkbdlmdiaaGreatM3
import Derived.Lib.SmallJoins
import Derived.Laws.RangeAny
import Derived.Laws.RangeString
import Derived.Lib.OthersKept
import Derived.LoopN
import Derived.Test.YteagpbkbdlmdiaaGreatM23
import Derived.Test.YteagpbkbdlmdiaaGreatM0
import Derived.Maps.AppendAt
import Derived.Laws.OwnMore
import Derived.OwnWalk
import Derived.OwnWalkIn
import Derived.OrdersIn
/- The words of a text, plain. -/
namespace Go.Proofs.YteagpbkbdlmdiaaGreat.Lx
open Go Dt Tx
def isLo (c:UInt8):Bool:=decide (97≤c.toNat) && decide (c.toNat≤122)
def isAl (c:UInt8):Bool:=isLo c || isDg c
def wh (p:UInt8→Bool) (l:List UInt8):Nat:=(l.takeWhile p).length
def ptB (l:List UInt8) (n:Nat):Bool:=decide (n+1<l.length) && (l[n]?==some 46) && (l[n+1]?).any isDg
def numL (l:List UInt8):Nat:=if ptB l (wh isDg l)=true then wh isDg l+1+wh isDg (l.drop (wh isDg l+1)) else wh isDg l
def oneS (c:UInt8):Bool:=[61,60,62,43,45,42,47,40,41,44].contains c
def twoS (l:List UInt8):Bool:=l.take 2==[60,61] || l.take 2==[62,61] || l.take 2==[60,62]
def sgnL (l:List UInt8):Nat:=if twoS l=true then 2 else if (l[0]?).any oneS=true then 1 else 0
structure Tok where
 k:Int
 t:List UInt8
 c:Int
 s:Int
 p:Int
deriving DecidableEq
def wordP (l:List UInt8) (p:Int):Tok × Int:=
 if (l[0]?).any isLo=true then (⟨1,l.take (wh isAl l),0,0,p⟩,if 12<wh isAl l then 4 else 0)
 else if (l[0]?).any isDg=true then (⟨2,l.take (numL l),(dparse (l.take (numL l))).1.1,(dparse (l.take (numL l))).1.2,p⟩,if (dparse (l.take (numL l))).2=3 then 4 else (dparse (l.take (numL l))).2)
 else if 0<sgnL l then (⟨3,l.take (sgnL l),0,0,p⟩,0)
 else (⟨0,[],0,0,p⟩,4)
def lexF (l:List UInt8):Nat→Nat→List Tok→List Tok × Int × Int
 | 0,_,acc=>(acc,0,0)
 | n+1,at_,acc=>
  match l[at_]? with
  | none=>(acc,0,0)
  | some x=>
   if x=32 then lexF l n (at_+1) acc
   else if (wordP (l.drop at_) (at_:Int)).2=0 then lexF l n (at_+(wordP (l.drop at_) (at_:Int)).1.t.length) (acc++[(wordP (l.drop at_) (at_:Int)).1])
   else ([],(at_:Int),(wordP (l.drop at_) (at_:Int)).2)
def lexP (l:List UInt8):List Tok × Int × Int:=if 400<l.length then ([],0,3) else lexF l l.length 0 []
theorem wh_le (p:UInt8→Bool) (l:List UInt8):wh p l≤l.length:=by unfold wh;exact (List.takeWhile_sublist p).length_le
theorem wh_pos {p:UInt8→Bool} {l:List UInt8} (h:(l[0]?).any p=true):0<wh p l:=by
 unfold wh
 cases l with
 | nil=>simp at h
 | cons x r=>simp at h;rw [List.takeWhile_cons,if_pos h];simp
theorem wh_before (p:UInt8→Bool):∀ (l:List UInt8) (i:Nat),i<wh p l→(l[i]?).any p=true
 | [],i,h=>by simp [wh] at h
 | x :: r,i,h=>by
  unfold wh at h
  rw [List.takeWhile_cons] at h
  split at h
  ·rename_i hx
   cases i with
   | zero=>simpa using hx
   | succ i=>
    simp only [List.length_cons] at h
    have:=wh_before p r i (by unfold wh;omega)
    simpa using this
  ·simp at h
theorem wh_at (p:UInt8→Bool):∀ (l:List UInt8),(l[wh p l]?).any p=false
 | []=>by simp [wh]
 | x :: r=>by
  unfold wh
  rw [List.takeWhile_cons]
  split
  ·have:=wh_at p r
   simp only [List.length_cons,List.getElem?_cons_succ]
   exact this
  ·rename_i hx
   simp only [List.length_nil,List.getElem?_cons_zero,Option.any_some]
   simpa using hx
theorem wh_eq {p:UInt8→Bool} {l:List UInt8} {k:Nat} (h1:∀ i,i<k→(l[i]?).any p=true) (h2:(l[k]?).any p=false):wh p l=k:=by
 rcases Nat.lt_trichotomy (wh p l) k with h | h | h
 ·have:=h1 _ h;rw [wh_at] at this;cases this
 ·exact h
 ·have:=wh_before p l k h;rw [h2] at this;cases this
theorem numL_le (l:List UInt8):numL l≤l.length:=by
 unfold numL
 split
 ·rename_i h
  unfold ptB at h
  simp only [Bool.and_eq_true,decide_eq_true_eq] at h
  have:=wh_le isDg (l.drop (wh isDg l+1))
  rw [List.length_drop] at this
  omega
 ·exact wh_le _ _
theorem numL_pos {l:List UInt8} (h:(l[0]?).any isDg=true):0<numL l:=by
 have:=wh_pos h
 unfold numL
 split<;>omega
theorem sgnL_le {l:List UInt8}:sgnL l≤l.length:=by
 unfold sgnL
 split
 ·rename_i h
  unfold twoS at h
  simp only [Bool.or_eq_true,beq_iff_eq] at h
  rcases Nat.lt_or_ge l.length 2 with k | k
  ·have:(l.take 2).length<2:=by rw [List.length_take];omega
   rcases h with (h | h) | h<;>(rw [h] at this;simp at this)
  ·exact k
 ·split
  ·rename_i h
   cases l with
   | nil=>simp at h
   | cons x r=>simp
  ·omega
theorem word_len {l:List UInt8} {p:Int} (h:(wordP l p).2=0):0<(wordP l p).1.t.length∧(wordP l p).1.t=l.take (wordP l p).1.t.length∧(wordP l p).1.t.length≤l.length:=by
 unfold wordP at h⊢
 have key:∀ n,n≤l.length→0<n→0<(l.take n).length∧l.take n=l.take (l.take n).length∧(l.take n).length≤l.length:=fun n h1 h2=>by
  rw [List.length_take,Nat.min_eq_left h1];exact ⟨h2,rfl,h1⟩
 split at h
 ·rename_i c1
  rw [if_pos c1]
  refine key _ (wh_le _ _) (wh_pos ?_)
  cases hx:l[0]? with
  | none=>rw [hx] at c1;simp at c1
  | some x=>rw [hx] at c1;simp only [Option.any_some] at c1⊢;unfold isAl;rw [c1];rfl
 ·rename_i c1
  rw [if_neg c1]
  split at h
  ·rename_i c2
   rw [if_pos c2]
   exact key _ (numL_le _) (numL_pos c2)
  ·rename_i c2
   rw [if_neg c2]
   split at h
   ·rename_i c3
    rw [if_pos c3]
    exact key _ sgnL_le c3
   ·simp at h
theorem lexF_more (l:List UInt8):∀ (n m at_:Nat) (acc:List Tok),l.length - at_≤n→l.length - at_≤m→lexF l n at_ acc=lexF l m at_ acc
 | 0,0,_,_,_,_=>rfl
 | 0,m+1,at_,acc,h,_=>by
  have:l[at_]?=none:=List.getElem?_eq_none (by omega)
  simp [lexF,this]
 | n+1,0,at_,acc,_,h=>by
  have:l[at_]?=none:=List.getElem?_eq_none (by omega)
  simp [lexF,this]
 | n+1,m+1,at_,acc,h1,h2=>by
  simp only [lexF]
  cases hx:l[at_]? with
  | none=>rfl
  | some x=>
   have hlt:=(List.getElem?_eq_some_iff.1 hx).1
   simp only
   split
   ·exact lexF_more l n m (at_+1) acc (by omega) (by omega)
   ·split
    ·rename_i hw
     have:=(word_len hw).1
     exact lexF_more l n m _ _ (by omega) (by omega)
    ·rfl
def lexR (l:List UInt8) (at_:Nat) (acc:List Tok):List Tok × Int × Int:=lexF l (l.length - at_) at_ acc
theorem lexR_done {l:List UInt8} {at_:Nat} {acc:List Tok} (h:l[at_]?=none):lexR l at_ acc=(acc,0,0):=by
 have:l.length - at_=0:=by have:=List.getElem?_eq_none_iff.1 h;omega
 unfold lexR;rw [this];rfl
theorem lexR_blank {l:List UInt8} {at_:Nat} {acc:List Tok} (h:l[at_]?=some 32):lexR l at_ acc=lexR l (at_+1) acc:=by
 have hlt:=(List.getElem?_eq_some_iff.1 h).1
 unfold lexR
 rw [show l.length - at_=(l.length - (at_+1))+1 by omega]
 simp only [lexF,h,if_true]
theorem lexR_word {l:List UInt8} {at_:Nat} {acc:List Tok} {x:UInt8} (h:l[at_]?=some x) (hx:x ≠ 32) (hw:(wordP (l.drop at_) (at_:Int)).2=0) :
  lexR l at_ acc=lexR l (at_+(wordP (l.drop at_) (at_:Int)).1.t.length) (acc++[(wordP (l.drop at_) (at_:Int)).1]):=by
 have hlt:=(List.getElem?_eq_some_iff.1 h).1
 have:=(word_len hw).1
 unfold lexR
 rw [show l.length - at_=(l.length - (at_+1))+1 by omega]
 simp only [lexF,h,if_neg hx,hw,if_true]
 exact lexF_more l _ _ _ _ (by omega) (by omega)
theorem lexR_bad {l:List UInt8} {at_:Nat} {acc:List Tok} {x:UInt8} (h:l[at_]?=some x) (hx:x ≠ 32) (hw:¬(wordP (l.drop at_) (at_:Int)).2=0) :
  lexR l at_ acc=([],(at_:Int),(wordP (l.drop at_) (at_:Int)).2):=by
 have hlt:=(List.getElem?_eq_some_iff.1 h).1
 unfold lexR
 rw [show l.length - at_=(l.length - (at_+1))+1 by omega]
 simp only [lexF,h,if_neg hx,hw,if_false]
theorem lexP_eq {l:List UInt8} (h:l.length≤400):lexP l=lexR l 0 []:=by unfold lexP lexR;rw [if_neg (by omega)];rfl
end Go.Proofs.YteagpbkbdlmdiaaGreat.Lx
/- lexer: bytes, while, named, number, walked. -/
namespace Go.Proofs.YteagpbkbdlmdiaaGreat.Lx
open Go Go.RowKit Dt Tx
set_option linter.unusedSimpArgs false
set_option linter.unusedVariables false
attribute [local go_sem ↓] Go.wp_at_zero Go.wp_at_succ
theorem small_is (c:UInt8) (w:World):Calls Tryz.prog 97 #[.int .u8 (c.toNat:Int)] w fun e w'=>e=.returned (.bool (isLo c))∧w'=w:=by
 unfold isLo
 obtain ⟨n,hn⟩:∃ n,Hid (c.toNat=n):=⟨_,rfl⟩
 rw [hn.out]
 by_cases h1:97≤n
 ·by_cases h2:n≤122
  ·have d1:decide ((97:Int)≤(n:Int))=true:=by simp;omega
   have d2:decide ((n:Int)≤122)=true:=by simp;omega
   go_enter Tryz.func97,Tryz.ntmps97
   go_wp2_with fail
   go_ret
   exact ⟨by simp [h1,h2],rfl⟩
  ·have d1:decide ((97:Int)≤(n:Int))=true:=by simp;omega
   have d2:decide ((n:Int)≤122)=false:=by simp;omega
   go_enter Tryz.func97,Tryz.ntmps97
   go_wp2_with fail
   go_ret
   exact ⟨by simp [h1,h2],rfl⟩
 ·have d1:decide ((97:Int)≤(n:Int))=false:=by simp;omega
  go_enter Tryz.func97,Tryz.ntmps97
  go_wp2_with fail
  go_ret
  exact ⟨by simp [h1],rfl⟩
theorem rdigit_is (c:UInt8) (w:World):Calls Tryz.prog 98 #[.int .u8 (c.toNat:Int)] w fun e w'=>e=.returned (.bool (isDg c))∧w'=w:=by
 unfold isDg
 obtain ⟨n,hn⟩:∃ n,Hid (c.toNat=n):=⟨_,rfl⟩
 rw [hn.out]
 by_cases h1:48≤n
 ·by_cases h2:n≤57
  ·have d1:decide ((48:Int)≤(n:Int))=true:=by simp;omega
   have d2:decide ((n:Int)≤57)=true:=by simp;omega
   go_enter Tryz.func98,Tryz.ntmps98
   go_wp2_with fail
   go_ret
   exact ⟨by simp [h1,h2],rfl⟩
  ·have d1:decide ((48:Int)≤(n:Int))=true:=by simp;omega
   have d2:decide ((n:Int)≤57)=false:=by simp;omega
   go_enter Tryz.func98,Tryz.ntmps98
   go_wp2_with fail
   go_ret
   exact ⟨by simp [h1,h2],rfl⟩
 ·have d1:decide ((48:Int)≤(n:Int))=false:=by simp;omega
  go_enter Tryz.func98,Tryz.ntmps98
  go_wp2_with fail
  go_ret
  exact ⟨by simp [h1],rfl⟩
theorem slice_both (l:List UInt8) (i k:Nat) (hi:i≤k) (hk:k≤l.length) (w:World):(Instr.slice 9 (.string (bs l)) (some (.int .i64 (i:Int))) (some (.int .i64 (k:Int))) none).run Tryz.prog w=.ok (.string (bs ((l.drop i).take (k - i)))) w:=by
 rw [run_slice_string (P:=Tryz.prog) w 9 (bs l) .i64 .i64 (i:Int) (k:Int) Tryz.underlying9 (by omega) (by omega) (by rw [bs_size];omega)]
 rw [slice_lo,Int.toNat_natCast,Int.toNat_natCast]
theorem wrap_one (a:Nat) (h:a≤1000000):IntKind.i64.wrap ((a:Int)+1)=(a:Int)+1:=by
 rw [IntWalk.i64_left,IntWalk.wrap64_in _ (by omega)]
end Go.Proofs.YteagpbkbdlmdiaaGreat.Lx
/- lexer: word, walked. -/
namespace Go.Proofs.YteagpbkbdlmdiaaGreat.Lx
open Go Go.RowKit Dt Tx
set_option linter.unusedSimpArgs false
set_option linter.unusedVariables false
attribute [local go_sem ↓] Go.wp_at_zero Go.wp_at_succ
def Five (w:World) (b:Nat) (k:Int) (t:ByteArray) (c s p:Int):Prop:=w.heap[b]?=some (.cells #[.int .u8 k,.string t,.int .i64 c,.int .i64 s,.int .i64 p] 119 (0,0))
section
variable {w:World} {b:Nat} {k c s p:Int} {t:ByteArray}
theorem Five.lt (h:Five w b k t c s p):b<w.heap.size:=(Array.getElem?_eq_some_iff.1 h).1
theorem Five.c0 (h:Five w b k t c s p):w.cell? ⟨b,0,none⟩=some (.int .u8 k):=by rw [cell_of_row w _ _ _ _ (0,0) h];rfl
theorem Five.c1 (h:Five w b k t c s p):w.cell? ⟨b,1,none⟩=some (.string t):=by rw [cell_of_row w _ _ _ _ (0,0) h];rfl
theorem Five.c2 (h:Five w b k t c s p):w.cell? ⟨b,2,none⟩=some (.int .i64 c):=by rw [cell_of_row w _ _ _ _ (0,0) h];rfl
theorem Five.c3 (h:Five w b k t c s p):w.cell? ⟨b,3,none⟩=some (.int .i64 s):=by rw [cell_of_row w _ _ _ _ (0,0) h];rfl
theorem Five.c4 (h:Five w b k t c s p):w.cell? ⟨b,4,none⟩=some (.int .i64 p):=by rw [cell_of_row w _ _ _ _ (0,0) h];rfl
theorem Five.f (h:Five w b k t c s p) (i:Nat):w.frozen? ⟨b,i,none⟩=false:=frozen_of_row w _ _ _ _ h
theorem Five.below {w':World} (h:Five w b k t c s p) (q:Below w.heap.size w w'):Five w' b k t c s p:=(q.block b h.lt).trans h
theorem Five.new (w:World) (k:Int) (t:ByteArray) (c s p:Int):Five (w.alloc (.cells #[.int .u8 k,.string t,.int .i64 c,.int .i64 s,.int .i64 p] 119)) w.heap.size k t c s p:=by
 show (w.heap.push _)[w.heap.size]?=_
 rw [Array.getElem?_push_size]
theorem Five.s0 (h:Five w b k t c s p) (x:Int):Five (w.setCell ⟨b,0,none⟩ (.int .u8 x)) b x t c s p:=by show _=_;rw [heap_setCell_same w b 0 _ _ _ h];rfl
theorem Five.s1 (h:Five w b k t c s p) (x:ByteArray):Five (w.setCell ⟨b,1,none⟩ (.string x)) b k x c s p:=by show _=_;rw [heap_setCell_same w b 1 _ _ _ h];rfl
theorem Five.s2 (h:Five w b k t c s p) (x:Int):Five (w.setCell ⟨b,2,none⟩ (.int .i64 x)) b k t x s p:=by show _=_;rw [heap_setCell_same w b 2 _ _ _ h];rfl
theorem Five.s3 (h:Five w b k t c s p) (x:Int):Five (w.setCell ⟨b,3,none⟩ (.int .i64 x)) b k t c x p:=by show _=_;rw [heap_setCell_same w b 3 _ _ _ h];rfl
theorem Five.s4 (h:Five w b k t c s p) (x:Int):Five (w.setCell ⟨b,4,none⟩ (.int .i64 x)) b k t c s x:=by show _=_;rw [heap_setCell_same w b 4 _ _ _ h];rfl
theorem Five.set (h:Five w b k t c s p) (k':Int) (t':ByteArray) (c' s' p':Int):Five (((((w.setCell ⟨b,0,none⟩ (.int .u8 k')).setCell ⟨b,1,none⟩ (.string t')).setCell ⟨b,2,none⟩ (.int .i64 c')).setCell ⟨b,3,none⟩ (.int .i64 s')).setCell ⟨b,4,none⟩ (.int .i64 p')) b k' t' c' s' p':=
 ((((h.s0 k').s1 t').s2 c').s3 s').s4 p'
end
theorem word_lo {l:List UInt8} {p:Int} (h:(l[0]?).any isLo=true):wordP l p=(⟨1,l.take (wh isAl l),0,0,p⟩,if 12<wh isAl l then 4 else 0):=by unfold wordP;rw [if_pos h]
theorem word_dg {l:List UInt8} {p:Int} (h:(l[0]?).any isLo=false) (h2:(l[0]?).any isDg=true):wordP l p=(⟨2,l.take (numL l),(dparse (l.take (numL l))).1.1,(dparse (l.take (numL l))).1.2,p⟩,if (dparse (l.take (numL l))).2=3 then 4 else (dparse (l.take (numL l))).2):=by
 unfold wordP;rw [h,h2];rfl
theorem word_sg {l:List UInt8} {p:Int} (h:(l[0]?).any isLo=false) (h2:(l[0]?).any isDg=false) (h3:0<sgnL l):wordP l p=(⟨3,l.take (sgnL l),0,0,p⟩,0):=by
 unfold wordP;rw [h,h2];simp [h3]
theorem word_no {l:List UInt8} {p:Int} (h:(l[0]?).any isLo=false) (h2:(l[0]?).any isDg=false) (h3:¬0<sgnL l):wordP l p=(⟨0,[],0,0,p⟩,4):=by
 unfold wordP;rw [h,h2];simp [h3]
end Go.Proofs.YteagpbkbdlmdiaaGreat.Lx
/- ROWS OF ANY ELEMENT TYPE: a row of the call's own, a row that came in; append, at each place where it may stand. -/
namespace Go.Proofs.YteagpbkbdlmdiaaGreat
open Go Go.RowKit
structure Elem (P:Program) (α:Type) where
 sl:TypeId
 e:TypeId
 sz:Nat
 bytes:Nat
 z:Value
 enc:α→List Value
 und:P.underlying sl=some (.slice e)
 info:(P.info? e).map (fun i=>(i.zero,i.size,i.bytes))=some (some z,sz,bytes)
 zs:z.cells.size=sz
 pos:0<sz
 len:∀ x,(enc x).length=sz
 one:∀ x,∀ u ∈ enc x,u.oneCell'=true
theorem cell_eq {w w':World} {p:Addr} (h:w'.heap[p.block]?=w.heap[p.block]?):w'.cell? p=w.cell? p:=by
 unfold World.cell?;rw [h]
theorem add_lit0 (b o j:Nat):(⟨b,o,none⟩:Addr).add j=⟨b,o+j,none⟩:=by unfold Addr.add;split<;>simp_all
namespace Elem
variable {P:Program} {α:Type} (E:Elem P α)
def Row (w:World) (B:Nat) (v:Value) (xs:List α):Prop:=w.ownsRow B E.e E.sz v xs.length (xs.flatMap E.enc)
def Arg (w:World) (v:Value) (xs:List α):Prop:=∃ (ao:Option Addr) (cap:Nat),v=.slice ao xs.length cap∧(xs.length≤cap∧(ao=none→cap=0))∧
 ∀ (i:Nat) (x:α),xs[i]?=some x→∃ b o:Nat,ao=some ⟨b,o,none⟩∧b<w.heap.size∧∀ j u,(E.enc x)[j]?=some u→w.cell? ⟨b,o+i*E.sz+j,none⟩=some u
theorem flat (xs:List α):(xs.flatMap E.enc).length=xs.length*E.sz:=by
 induction xs with
 | nil=>simp
 | cons x xs ih=>rw [List.flatMap_cons,List.length_append,ih,E.len,List.length_cons,Nat.add_mul];omega
theorem flat_get:∀ (xs:List α) {i:Nat} {x:α} (_:xs[i]?=some x) {j:Nat} (_:j<E.sz),(xs.flatMap E.enc)[i*E.sz+j]?=(E.enc x)[j]?
 | [],i,x,h,_,_=>by simp at h
 | y :: ys,0,x,h,j,hj=>by
  simp only [List.getElem?_cons_zero,Option.some.injEq] at h
  subst h
  rw [List.flatMap_cons,Nat.zero_mul,Nat.zero_add,List.getElem?_append_left (by rw [E.len];exact hj)]
 | y :: ys,i+1,x,h,j,hj=>by
  rw [List.getElem?_cons_succ] at h
  rw [List.flatMap_cons,List.getElem?_append_right (by rw [E.len,Nat.add_mul];omega),E.len,show (i+1)*E.sz+j - E.sz=i*E.sz+j by rw [Nat.add_mul];omega]
  exact flat_get ys h hj
theorem ones (xs:List α):∀ u ∈ xs.flatMap E.enc,u.oneCell'=true:=by
 intro u hu
 obtain ⟨y,_,hy⟩:=List.mem_flatMap.1 hu
 exact E.one y u hy
variable {E}
theorem Row.nil (w:World) (B:Nat):E.Row w B (.slice none 0 0) []:=World.ownsRow_nil _ _ _ _
theorem Row.form {w:World} {B:Nat} {v:Value} {xs:List α} (h:E.Row w B v xs):∃ ao cap,v=.slice ao xs.length cap∧xs.length≤cap∧(0<xs.length→∃ g,ao=some ⟨g,0,none⟩):=by
 rcases h.2 with ⟨rfl,hn⟩ | ⟨g,cap,cur,rfl,_,_,h1,_⟩
 ·exact ⟨none,0,by rw [hn],by omega,fun h=>absurd h (by omega)⟩
 ·exact ⟨some ⟨g,0,none⟩,cap,rfl,h1,fun _=>⟨g,rfl⟩⟩
theorem Row.alloc {w:World} {B:Nat} {v:Value} {xs:List α} (h:E.Row w B v xs) (o:Obj):E.Row (w.alloc o) B v xs:=World.ownsRow.alloc h o
theorem Row.lt {w:World} {B:Nat} {v:Value} {xs:List α} (h:E.Row w B v xs):∀ k,v.ownBlock=some k→B≤k∧k<w.heap.size:=World.ownsRow.lt h
theorem Row.block {w w':World} {B:Nat} {v:Value} {xs:List α} (h:E.Row w B v xs) (k:∀ g,v.ownBlock=some g→w'.heap[g]?=w.heap[g]?):E.Row w' B v xs:=by
 refine ⟨h.1,?_⟩
 rcases h.2 with hn | ⟨g,cap,cur,rfl,hb,hgg,rest⟩
 ·exact .inl hn
 ·exact .inr ⟨g,cap,cur,rfl,hb,(k g rfl).trans hgg,rest⟩
theorem Row.at {w:World} {B:Nat} {v:Value} {xs:List α} (h:E.Row w B v xs) {g:Nat} (hg:v.ownBlock=some g):∃ cur,w.heap[g]?=some (.cells cur E.e (0,0)):=by
 rcases h.2 with ⟨rfl,_⟩ | ⟨g',cap,cur,rfl,_,hgg,_⟩
 ·cases hg
 ·cases hg;exact ⟨cur,hgg⟩
theorem Row.ne {w:World} {B:Nat} {v:Value} {xs:List α} (h:E.Row w B v xs) {g:Nat} {cur:Array Value} {t:TypeId} (hg:w.heap[g]?=some (.cells cur t (0,0))) (ht:t ≠ E.e):some g ≠ v.ownBlock:=by
 intro e
 obtain ⟨cur',h2⟩:=h.at e.symm
 rw [h2] at hg
 cases hg
 exact ht rfl
theorem Row.below {w w':World} {B:Nat} {v:Value} {xs:List α} (h:E.Row w B v xs) (k:Below w.heap.size w w'):E.Row w' B v xs:=h.block fun g hg=>k.block g (h.lt g hg).2
theorem Row.low {w:World} {B B':Nat} {v:Value} {xs:List α} (h:E.Row w B v xs) (hb:B'≤B):E.Row w B' v xs:=by
 refine ⟨h.1,?_⟩
 rcases h.2 with hn | ⟨g,cap,cur,rfl,h4,rest⟩
 ·exact .inl hn
 ·exact .inr ⟨g,cap,cur,rfl,by omega,rest⟩
theorem Row.arg {w:World} {B:Nat} {v:Value} {xs:List α} (h:E.Row w B v xs):E.Arg w v xs:=by
 have hnil:∀ ao cap,v=.slice ao xs.length cap→ao=none→cap=0:=fun ao cap e1 e2=>by
  rcases h.2 with ⟨e,_⟩ | ⟨g,c,cur,e,_⟩
  ·rw [e1] at e;simp only [Value.slice.injEq] at e;exact e.2.2
  ·rw [e1] at e;simp only [Value.slice.injEq] at e;rw [e2] at e;cases e.1
 obtain ⟨ao,cap,rfl,hc,hg⟩:=h.form
 refine ⟨ao,cap,rfl,⟨hc,hnil _ _ rfl⟩,fun i x hx=>?_⟩
 have il:=(List.getElem?_eq_some_iff.1 hx).1
 obtain ⟨g,rfl⟩:=hg (by omega)
 refine ⟨g,0,rfl,(h.lt g rfl).2,fun j u hu=>?_⟩
 have jl:j<E.sz:=by have:=(List.getElem?_eq_some_iff.1 hu).1;rw [E.len] at this;exact this
 have:=World.ownsRow.cells h (g:=g) rfl (i*E.sz+j) u (by rw [E.flat_get xs hx jl];exact hu)
 rw [add_lit0,←Nat.add_assoc] at this;exact this
theorem Arg.nil (w:World):E.Arg w (.slice none 0 0) []:=⟨none,0,rfl,⟨Nat.le_refl _,fun _=>rfl⟩,fun i x h=>by simp at h⟩
def argBlock (v:Value) (g:Nat):Prop:=∃ o n c,v=.slice (some ⟨g,o,none⟩) n c
theorem Arg.block {w w':World} {v:Value} {xs:List α} (h:E.Arg w v xs) (hz:w.heap.size≤w'.heap.size) (k:∀ g,argBlock v g→0<xs.length→g<w.heap.size→w'.heap[g]?=w.heap[g]?):E.Arg w' v xs:=by
 obtain ⟨ao,cap,e,hc,h⟩:=h
 refine ⟨ao,cap,e,hc,fun i x hx=>?_⟩
 obtain ⟨b,o,h1,h2,h3⟩:=h i x hx
 have il:=(List.getElem?_eq_some_iff.1 hx).1
 exact ⟨b,o,h1,by omega,fun j u hu=>(cell_eq (p:=⟨b,_,none⟩) (k b ⟨o,_,_,by rw [e,h1]⟩ (by omega) h2)).trans (h3 j u hu)⟩
theorem Arg.below {w w':World} {v:Value} {xs:List α} (h:E.Arg w v xs) (k:Below w.heap.size w w'):E.Arg w' v xs:=h.block k.size fun g _ _ hg=>k.block g hg
theorem Arg.lt {w:World} {v:Value} {xs:List α} (h:E.Arg w v xs) {g:Nat} (hg:argBlock v g) (hl:0<xs.length):g<w.heap.size:=by
 obtain ⟨ao,cap,rfl,hc,h⟩:=h
 obtain ⟨o,n,c,e⟩:=hg
 obtain ⟨b,o',h1,h2,_⟩:=h 0 _ (List.getElem?_eq_getElem hl)
 rw [h1] at e
 cases e
 exact h2
theorem run_app {w:World} {B:Nat} {v:Value} {xs:List α} {vs:Value} {rs:List α} (ty:TypeId) (hown:E.Row w B v xs) (hsrc:E.Arg w vs rs) (h1:xs.length+rs.length≤1000001)
  (h2:(1000001:Nat)*E.bytes≤140737488355328) (hB:B≤w.heap.size) :
  ∃ (v':Value) (w':World),(Builtin.append_ #[E.sl,E.sl] ty #[v,vs]).run P w=.ok v' w'∧E.Row w' B v' (xs++rs)∧w.grownBy w' v.ownBlock∧(v'.ownBlock=v.ownBlock∨v'.ownBlock=some w.heap.size):=by
 obtain ⟨i0,hi,hz0,hz1,hz2⟩:=info_parts E.info
 obtain ⟨ao,cap,rfl,hc,hcell⟩:=hsrc
 cases ao with
 | none=>
  have hr:rs=[]:=by
   cases rs with
   | nil=>rfl
   | cons x rs=>obtain ⟨b,o,e,_⟩:=hcell 0 x rfl;cases e
  subst hr
  obtain rfl:=hc.2 rfl
  have hrun:=run_append_owned_none (P:=P) (w:=w) B E.sl ty E.e i0 E.sz E.und hi v xs.length _ hown
  exact ⟨v,w,hrun,by rw [List.append_nil];exact hown,⟨rfl,rfl,rfl,Nat.le_refl _,fun _ _ _=>rfl⟩,.inl rfl⟩
 | some a=>
  have hb2:(xs.length+rs.length)*E.bytes≤140737488355328:=Nat.le_trans (Nat.mul_le_mul_right _ h1) h2
  obtain ⟨v',w',k1,k2,k3,_,k5⟩:=run_append_own_at (P:=P) w B E.sl ty E.e i0 E.z E.sz E.bytes E.und hi hz0 hz1 hz2 E.zs E.pos v xs.length _ hown a rs.length cap (rs.flatMap E.enc) (E.flat rs) (fun j u hu=>by
   have jl:=(List.getElem?_eq_some_iff.1 hu).1
   rw [E.flat] at jl
   have hq:j / E.sz<rs.length:=Nat.div_lt_of_lt_mul (by rw [Nat.mul_comm];exact jl)
   have hm:=Nat.mod_lt j E.pos
   have hdm:=Nat.div_add_mod j E.sz
   have ej:j / E.sz*E.sz+j % E.sz=j:=by rw [Nat.mul_comm];exact hdm
   have hx:=List.getElem?_eq_getElem hq
   have hu2:=E.flat_get rs hx hm
   rw [ej,hu] at hu2
   obtain ⟨b',o',e1,_,h3⟩:=hcell _ _ hx
   cases e1
   have:=h3 _ _ hu2.symm
   rw [add_lit0,←ej,←Nat.add_assoc];exact this) (E.ones rs) (by simp only [maxLen];omega) hb2 hB
  refine ⟨v',w',k1,?_,k3,k5⟩
  unfold Row
  rw [List.length_append,List.flatMap_append];exact k2
theorem app {w:World} {ops:Array Oper} {rest:List Oper} {o:Oper} {a:Act} {Q:Exit→Act→World→Prop} (hgd:o.guard=none) (s x:Operand)
  (ho:o.op=.call {callee:=.builtin .append,args:=#[s,x],argTypes:=#[E.sl,E.sl]}) (B:Nat) (v:Value) (xs:List α) (vs:Value) (rs:List α) (hs:a.eval s=v) (hx:a.eval x=vs)
  (hown:E.Row w B v xs) (hsrc:E.Arg w vs rs) (h1:xs.length+rs.length≤1000001) (h2:(1000001:Nat)*E.bytes≤140737488355328) (hB:B≤w.heap.size)
  (h:∀ v' w',E.Row w' B v' (xs++rs)→w.grownBy w' v.ownBlock→(v'.ownBlock=v.ownBlock∨v'.ownBlock=some w.heap.size)→wpList P ops Q rest (a.put o.dst v') w'):wpList P ops Q (o :: rest) a w:=by
 refine wpList_plain hgd fun K hK=>?_
 obtain ⟨v',w',hr,k2,k3,k4⟩:=run_app o.type hown hsrc h1 h2 hB
 unfold Oper.wp execOp
 simp only [ho,resolve,invoke,builtin,Sem.run_bind,Sem.run_pure,Result.andThen_ok,List.map_toArray,List.map_cons,List.map_nil,hs,hx,hr]
 exact hK _ _ (h v' w' k2 k3 k4)
theorem step {w:World} {ops:Array Oper} {o:Oper} {a:Act} {K:Act→World→Prop} {Q:Exit→Act→World→Prop} {G:Prop} (hgd:o.guard=none) (s x:Operand)
  (ho:o.op=.call {callee:=.builtin .append,args:=#[s,x],argTypes:=#[E.sl,E.sl]}) (B:Nat) (v:Value) (xs:List α) (vs:Value) (rs:List α) (hs:a.eval s=v) (hx:a.eval x=vs)
  (hown:E.Row w B v xs) (hsrc:E.Arg w vs rs) (h1:xs.length+rs.length≤1000001) (h2:(1000001:Nat)*E.bytes≤140737488355328) (hB:B≤w.heap.size)
  (h:∀ v' w',E.Row w' B v' (xs++rs)→w.grownBy w' v.ownBlock→(v'.ownBlock=v.ownBlock∨v'.ownBlock=some w.heap.size)→K (a.put o.dst v') w') :
  if Region.wanted o (yielded ops a.tmps)=true then Oper.wp P o a w K Q else G:=by
 have hw:Region.wanted o (yielded ops a.tmps)=true:=by simp [Region.wanted,hgd]
 rw [if_pos hw]
 obtain ⟨v',w',hr,k2,k3,k4⟩:=run_app o.type hown hsrc h1 h2 hB
 unfold Oper.wp execOp
 simp only [ho,resolve,invoke,builtin,Sem.run_bind,Sem.run_pure,Result.andThen_ok,List.map_toArray,List.map_cons,List.map_nil,hs,hx,hr]
 exact h v' w' k2 k3 k4
theorem arg_one {w:World} (x:α) (ty:TypeId):E.Arg (w.alloc (.cells (E.enc x).toArray ty)) (.slice (some ⟨w.heap.size,0,none⟩) 1 1) [x]:=by
 refine ⟨_,1,rfl,⟨Nat.le_refl _,fun e=>by cases e⟩,fun i y hy=>?_⟩
 match i,hy with
 | 0,hy=>
  cases hy
  refine ⟨w.heap.size,0,rfl,by simp,fun j u hu=>?_⟩
  rw [cell_of_row _ _ _ _ _ (0,0) (heap_alloc_new w _)]
  simpa using hu
 | i+1,hy=>simp at hy
theorem arg_lit {w:World} (xs:List α) (n:Nat) (hn:xs.length=n) (ty:TypeId):E.Arg (w.alloc (.cells (xs.flatMap E.enc).toArray ty)) (.slice (some ⟨w.heap.size,0,none⟩) n n) xs:=by
 subst hn
 refine ⟨_,_,rfl,⟨Nat.le_refl _,fun e=>by cases e⟩,fun i x hx=>⟨w.heap.size,0,rfl,by simp,fun j u hu=>?_⟩⟩
 have jl:j<E.sz:=by have:=(List.getElem?_eq_some_iff.1 hu).1;rw [E.len] at this;exact this
 rw [cell_of_row _ _ _ _ _ (0,0) (heap_alloc_new w _),Nat.zero_add,List.getElem?_toArray,E.flat_get xs hx jl];exact hu
end Elem
end Go.Proofs.YteagpbkbdlmdiaaGreat
/- lexer: Lex, walked. -/
namespace Go.Proofs.YteagpbkbdlmdiaaGreat.Lx
open Go Go.RowKit Dt Tx
set_option linter.unusedSimpArgs false
set_option linter.unusedVariables false
attribute [local go_sem ↓] Go.wp_at_zero Go.wp_at_succ
def tokE:Elem Tryz.prog Tok where
 sl:=85
 e:=119
 sz:=5
 bytes:=48
 z:=.agg #[.int .u8 0,.string ⟨#[]⟩,.int .i64 0,.int .i64 0,.int .i64 0]
 enc:=fun x=>[.int .u8 x.k,.string (bs x.t),.int .i64 x.c,.int .i64 x.s,.int .i64 x.p]
 und:=Tryz.underlying85
 info:=by kernel_rfl
 zs:=rfl
 pos:=by decide
 len:=fun _=>rfl
 one:=fun x u hu=>by simp only [List.mem_cons,List.not_mem_nil,or_false] at hu;rcases hu with rfl | rfl | rfl | rfl | rfl<;>rfl
def LexPost (r:List Tok × Int × Int) (w:World) (e:Ending) (w':World):Prop:=∃ v,e=.returned (.tuple #[v,.int .i64 r.2.1,.int .i64 r.2.2])∧tokE.Arg w' v r.1∧Below w.heap.size w w'
theorem word_at (l:List UInt8) (p:Int):wordP l p=(⟨(wordP l 0).1.k,(wordP l 0).1.t,(wordP l 0).1.c,(wordP l 0).1.s,p⟩,(wordP l 0).2):=by
 unfold wordP
 split
 ·rfl
 ·split
  ·rfl
  ·split<;>rfl
theorem lex_step {l:List UInt8} {at_:Nat} {acc:List Tok} {x:UInt8} (h:l[at_]?=some x) (hx:x ≠ 32) {k c s p e:Int} {t:List UInt8} (hw:wordP (l.drop at_) 0=(⟨k,t,c,s,p⟩,e)) :
  (e=0→lexR l at_ acc=lexR l (at_+t.length) (acc++[⟨k,t,c,s,(at_:Int)⟩])∧0<t.length∧t.length≤l.length - at_)∧(¬e=0→lexR l at_ acc=([],(at_:Int),e)):=by
 have hwk:=word_at (l.drop at_) (at_:Int)
 rw [hw] at hwk
 simp only at hwk
 constructor
 ·rintro rfl
  have h1:=lexR_word (acc:=acc) h hx (by rw [hwk])
  have h2:=word_len (l:=l.drop at_) (p:=(at_:Int)) (by rw [hwk])
  rw [hwk] at h1 h2
  simp only at h1 h2
  rw [List.length_drop] at h2
  exact ⟨h1,h2.1,h2.2.2⟩
 ·intro he
  have h1:=lexR_bad (acc:=acc) h hx (by rw [hwk];exact he)
  rw [hwk] at h1
  exact h1
end Go.Proofs.YteagpbkbdlmdiaaGreat.Lx
/- The document's words: where one ends, walked. -/
namespace Go.Proofs.YteagpbkbdlmdiaaGreat.Lx
set_option maxRecDepth 100000
set_option maxHeartbeats 2000000
open Go Go.RowKit Dt Tx
set_option linter.unusedSimpArgs false
set_option linter.unusedVariables false
attribute [local go_sem ↓] Go.wp_at_zero Go.wp_at_succ
def endL (l:List UInt8):Nat:=if (l[0]?).any isLo=true then wh isAl l else if (l[0]?).any isDg=true then numL l else sgnL l
theorem wh_drop {p:UInt8→Bool} {l:List UInt8} {a q:Nat} (ha:a≤q) (h1:∀ r,a≤r→r<q→(l[r]?).any p=true) (h2:(l[q]?).any p=false):wh p (l.drop a)=q - a:=by
 refine wh_eq (fun i hi=>?_) ?_
 ·rw [List.getElem?_drop];exact h1 _ (by omega) (by omega)
 ·rw [List.getElem?_drop,show a+(q - a)=q by omega];exact h2
def EndPost (n:Nat) (w:World) (e:Ending) (w':World):Prop:=e=.returned (.int .i64 (n:Int))∧w'=w
theorem wrap1 (a:Nat) (h:a≤1000000):IntKind.i64.wrap ((a:Int)+1)=(a:Int)+1:=wrap_one a h
theorem end_lo {w:World} (l:List UInt8) (hl:l.length≤1000) (a:Nat) (x:UInt8) (hx:l[a]?=some x) (h:isLo x=true):Calls Tryz.prog 96 #[.string (bs l),.int .i64 (a:Int)] w (EndPost (a+wh isAl (l.drop a)) w):=by
 have hz:(bs l).size=l.length:=bs_size l
 have hlt:=(List.getElem?_eq_some_iff.1 hx).1
 have kc:=at_byte l a x hx
 have SM:=fun w=>small_is x w
 have DG:=fun w=>rdigit_is x w
 have i0:(0:Int)≤(a:Int):=by omega
 obtain ⟨N,hN⟩:∃ N,Hid (l.length=N):=⟨_,rfl⟩
 rw [hN.out] at hz hl hlt
 obtain ⟨S,hS⟩:∃ S,Hid (bs l=S):=⟨_,rfl⟩
 rw [hS.out] at hz kc⊢
 have HL:=Lib.hid hl
 rw [h] at SM
 obtain ⟨y,hy⟩:∃ y,Hid (x.toNat=y):=⟨_,rfl⟩
 rw [hy.out] at SM kc
 have HLT:=Lib.hid hlt
 clear hx h hy hl DG hlt
 go_enter Tryz.func96,Tryz.ntmps96
 go_wp2_with (go_at_call 97;(with_reducible refine (SM _).mono ?_);rintro e1 w1 ⟨rfl,hq⟩;obtain rfl:=hq.symm;clear SM)
 go_loopw [5] (fun i wr=>∃ q:Nat,i=.int .i64 (q:Int)∧q≤N∧Hid (a≤q)∧Hid (∀ r,a≤r→r<q→(l[r]?).any isAl=true)∧Hid (wr=w)) (fun i _=>N - (intOf i).toNat)
 case atStart=>exact ⟨a,rfl,Nat.le_of_lt HLT.out,Nat.le_refl _,fun r h1 h2=>absurd h2 (by omega),rfl⟩
 case round=>
  obtain ⟨q,rfl,hq,HA,HB,HW⟩:=hrel
  obtain rfl:=HW.out.symm
  by_cases hql:q<N
  ·obtain ⟨c,hc⟩:∃ c,l[q]?=some c:=⟨_,List.getElem?_eq_getElem (by rw [hN.out];exact hql)⟩
   have kq:=at_byte l q c hc
   rw [hS.out] at kq
   have j0:(0:Int)≤(q:Int):=by omega
   have j1:decide ((q:Int)<(N:Int))=true:=by simp;omega
   have S2:=fun w=>small_is c w
   have D2:=fun w=>rdigit_is c w
   have kw:IntKind.i64.wrap ((q:Int)+1)=(q:Int)+1:=wrap1 q (by have:=HL.out;omega)
   have HQ:=Lib.hid hql
   have HC:=Lib.hid hc
   obtain ⟨z,hzz⟩:∃ y,Hid (c.toNat=y):=⟨_,rfl⟩
   rw [hzz.out] at S2 D2 kq
   have key:isAl c=true→Hid (∀ r,a≤r→r<q+1→(l[r]?).any isAl=true):=fun hcl r h1 h2=>by
    rcases Nat.lt_or_ge r q with h | h
    ·exact HB.out r h1 h
    ·have:r=q:=by omega
     subst this;rw [HC.out];exact hcl
   cases h1:isLo c
   ·rw [h1] at S2
    cases h2:isDg c
    ·rw [h2] at D2
     have E:=Lib.hid (wh_drop HA.out HB.out (by rw [hc];show isAl c=false;unfold isAl;rw [h1,h2];rfl))
     clear hc hql hq key h1 h2 hzz
     go_wp2_with (first | (go_at_call 97;(with_reducible refine (S2 _).mono ?_);rintro e1 w1 ⟨rfl,hq⟩;obtain rfl:=hq.symm;clear S2) | (go_at_call 98;(with_reducible refine (D2 _).mono ?_);rintro e2 w2 ⟨rfl,hq⟩;obtain rfl:=hq.symm;clear D2))
     go_ret
     refine ⟨?_,rfl⟩
     rw [E.out,show a+(q - a)=q by have:=HA.out;omega];rfl
    ·rw [h2] at D2
     have K:=key (by unfold isAl;rw [h1,h2];rfl)
     clear hc hql hq key h1 h2 hzz HB
     go_wp2_with (first | (go_at_call 97;(with_reducible refine (S2 _).mono ?_);rintro e1 w1 ⟨rfl,hq⟩;obtain rfl:=hq.symm;clear S2) | (go_at_call 98;(with_reducible refine (D2 _).mono ?_);rintro e2 w2 ⟨rfl,hq⟩;obtain rfl:=hq.symm;clear D2))
     refine ⟨⟨q+1,rfl,HQ.out,Nat.le_succ_of_le HA.out,K,by first | exact rfl | exact (trivial:True)⟩,?_⟩
     show N - ((q:Int)+1).toNat<N - (q:Int).toNat
     have:=HQ.out;omega
   ·rw [h1] at S2
    have K:=key (by unfold isAl;rw [h1];rfl)
    clear hc hql hq key h1 hzz D2 HB
    go_wp2_with (first | (go_at_call 97;(with_reducible refine (S2 _).mono ?_);rintro e1 w1 ⟨rfl,hq⟩;obtain rfl:=hq.symm;clear S2))
    refine ⟨⟨q+1,rfl,HQ.out,Nat.le_succ_of_le HA.out,K,by first | exact rfl | exact (trivial:True)⟩,?_⟩
    show N - ((q:Int)+1).toNat<N - (q:Int).toNat
    have:=HQ.out;omega
  ·have hqN:q=N:=by omega
   subst hqN
   have E:=Lib.hid (wh_drop HA.out HB.out (by rw [List.getElem?_eq_none (by rw [hN.out];exact Nat.le_refl _)];rfl))
   clear hql hq HB
   go_wp2_with fail
   go_ret
   refine ⟨?_,rfl⟩
   rw [E.out,show a+(q - a)=q by have:=HA.out;omega];rfl
theorem pt_drop (l:List UInt8) (a q:Nat) (ha:a≤q):ptB (l.drop a) (q - a)=(decide (q+1<l.length) && (l[q]?==some 46) && (l[q+1]?).any isDg):=by
 unfold ptB
 rw [List.length_drop,List.getElem?_drop,List.getElem?_drop,show a+(q - a)=q by omega,show a+(q - a+1)=q+1 by omega]
 congr 2
 rw [decide_eq_decide];omega
theorem num_drop (l:List UInt8) (a q:Nat) (ha:a≤q) (h:wh isDg (l.drop a)=q - a):a+numL (l.drop a)=if (decide (q+1<l.length) && (l[q]?==some 46) && (l[q+1]?).any isDg)=true then q+1+wh isDg (l.drop (q+1)) else q:=by
 unfold numL
 rw [h,pt_drop l a q ha,List.drop_drop,show a+(q - a+1)=q+1 by omega]
 split<;>omega
theorem end_dg {w:World} (l:List UInt8) (hl:l.length≤1000) (a:Nat) (x:UInt8) (hx:l[a]?=some x) (h:isLo x=false) (h2:isDg x=true):Calls Tryz.prog 96 #[.string (bs l),.int .i64 (a:Int)] w (EndPost (a+numL (l.drop a)) w):=by
 have hz:(bs l).size=l.length:=bs_size l
 have hlt:=(List.getElem?_eq_some_iff.1 hx).1
 have kc:=at_byte l a x hx
 have SM:=fun w=>small_is x w
 have DG:=fun w=>rdigit_is x w
 have i0:(0:Int)≤(a:Int):=by omega
 obtain ⟨N,hN⟩:∃ N,Hid (l.length=N):=⟨_,rfl⟩
 rw [hN.out] at hz hl hlt
 obtain ⟨S,hS⟩:∃ S,Hid (bs l=S):=⟨_,rfl⟩
 rw [hS.out] at hz kc⊢
 have HL:=Lib.hid hl
 rw [h] at SM
 rw [h2] at DG
 obtain ⟨y,hy⟩:∃ y,Hid (x.toNat=y):=⟨_,rfl⟩
 rw [hy.out] at SM DG kc
 have HLT:=Lib.hid hlt
 clear hx h h2 hy hl hlt
 go_enter Tryz.func96,Tryz.ntmps96
 go_wp2_with (first | (go_at_call 97;(with_reducible refine (SM _).mono ?_);rintro e1 w1 ⟨rfl,hq⟩;obtain rfl:=hq.symm;clear SM) | (go_at_call 98;(with_reducible refine (DG _).mono ?_);rintro e2 w2 ⟨rfl,hq⟩;obtain rfl:=hq.symm;clear DG))
 go_loopw [5] (fun i wr=>∃ q:Nat,i=.int .i64 (q:Int)∧q≤N∧Hid (a≤q)∧Hid (∀ r,a≤r→r<q→(l[r]?).any isDg=true)∧Hid (wr=w)) (fun i _=>N - (intOf i).toNat)
 case atStart=>exact ⟨a,rfl,Nat.le_of_lt HLT.out,Nat.le_refl _,fun r h1 h2=>absurd h2 (by omega),rfl⟩
 case round=>
  obtain ⟨q,rfl,hq,HA,HB,HW⟩:=hrel
  obtain rfl:=HW.out.symm
  have fin:(l[q]?).any isDg=false→Hid (a+numL (l.drop a)=if (decide (q+1<l.length) && (l[q]?==some 46) && (l[q+1]?).any isDg)=true then q+1+wh isDg (l.drop (q+1)) else q):=fun hq=>Lib.hid (num_drop l a q HA.out (wh_drop HA.out HB.out hq))
  rw [hN.out] at fin
  by_cases hql:q<N
  ·obtain ⟨c,hc⟩:∃ c,l[q]?=some c:=⟨_,List.getElem?_eq_getElem (by rw [hN.out];exact hql)⟩
   have kq:=at_byte l q c hc
   rw [hS.out] at kq
   have j0:(0:Int)≤(q:Int):=by omega
   have j1:decide ((q:Int)<(N:Int))=true:=by simp;omega
   have D2:=fun w=>rdigit_is c w
   have kw:IntKind.i64.wrap ((q:Int)+1)=(q:Int)+1:=wrap1 q (by have:=HL.out;omega)
   have HQ:=Lib.hid hql
   have HC:=Lib.hid hc
   obtain ⟨z,hzz⟩:∃ y,Hid (c.toNat=y):=⟨_,rfl⟩
   rw [hzz.out] at D2 kq
   cases h2:isDg c
   ·rw [h2] at D2
    have F:=fin (by rw [hc];exact h2)
    rw [hc] at F
    by_cases p1:q+1<N
    ·have j2:decide ((q:Int)+1<(N:Int))=true:=by simp;omega
     obtain ⟨d,hd⟩:∃ c,l[q+1]?=some c:=⟨_,List.getElem?_eq_getElem (by rw [hN.out];exact p1)⟩
     have kd:∀ w,(Instr.index 9 (.string (bs l)) (.int .i64 ((q:Int)+1))).run Tryz.prog w=.ok (.int .u8 (d.toNat:Int)) w:=at_byte l (q+1) d hd
     rw [hS.out] at kd
     have j3:(0:Int)≤(q:Int)+1:=by omega
     by_cases p2:c=46
     ·subst p2
      have hz46:z=46:=hzz.out.symm
      have t1:((z:Int)==46)=true:=by simp;omega
      have t2:decide ((z:Int)=46)=true:=by simp;omega
      have t3:decide (z=46)=true:=by simpa using hz46
      have D3:=fun w=>rdigit_is d w
      obtain ⟨zd,hzd⟩:∃ y,Hid (d.toNat=y):=⟨_,rfl⟩
      rw [hzd.out] at D3 kd
      cases h3:isDg d
      ·rw [h3] at D3
       have E:Hid (a+numL (l.drop a)=q):=Lib.hid (by rw [F.out,if_neg (by rw [hd];simp [h3])])
       clear hc hql hq h2 h3 hd hzd fin F p1 HB hz46 hzz HC
       go_wp2_with (first | (go_at_call 98;(with_reducible refine (D2 _).mono ?_);rintro e2 w2 ⟨rfl,hq⟩;obtain rfl:=hq.symm;clear D2) | (go_at_call 98;(with_reducible refine (D3 _).mono ?_);rintro e2 w2 ⟨rfl,hq⟩;obtain rfl:=hq.symm;clear D3))
       go_ret
       exact ⟨by rw [E.out];rfl,rfl⟩
      ·rw [h3] at D3
       have E:Hid (a+numL (l.drop a)=q+1+wh isDg (l.drop (q+1))):=Lib.hid (by rw [F.out,if_pos (by rw [hd];simp [h3,p1])])
       have HP:=Lib.hid p1
       clear hc hql hq h2 h3 hd hzd fin F p1 HB hz46 hzz HC
       go_wp2_with (first | (go_at_call 98;(with_reducible refine (D2 _).mono ?_);rintro e2 w2 ⟨rfl,hq⟩;obtain rfl:=hq.symm;clear D2) | (go_at_call 98;(with_reducible refine (D3 _).mono ?_);rintro e2 w2 ⟨rfl,hq⟩;obtain rfl:=hq.symm;clear D3))
       go_loopw [5] (fun i wr=>∃ r:Nat,i=.int .i64 (r:Int)∧r≤N∧Hid (q+1≤r)∧Hid (∀ s,q+1≤s→s<r→(l[s]?).any isDg=true)∧Hid (wr=w)) (fun i _=>N - (intOf i).toNat)
       case atStart=>exact ⟨q+1,rfl,Nat.le_of_lt HP.out,Nat.le_refl _,fun r h1 h2=>absurd h2 (by omega),by first | exact rfl | exact (trivial:True)⟩
       case round=>
        obtain ⟨r,rfl,hr,HA3,HB3,HW3⟩:=hrel
        obtain rfl:=HW3.out.symm
        by_cases hrl:r<N
        ·obtain ⟨c3,hc3⟩:∃ c,l[r]?=some c:=⟨_,List.getElem?_eq_getElem (by rw [hN.out];exact hrl)⟩
         have kr:=at_byte l r c3 hc3
         rw [hS.out] at kr
         have r0:(0:Int)≤(r:Int):=by omega
         have r1:decide ((r:Int)<(N:Int))=true:=by simp;omega
         have D4:=fun w=>rdigit_is c3 w
         have kw3:IntKind.i64.wrap ((r:Int)+1)=(r:Int)+1:=wrap1 r (by have:=HL.out;omega)
         have HQ3:=Lib.hid hrl
         have HC3:=Lib.hid hc3
         obtain ⟨z3,hz3⟩:∃ y,Hid (c3.toNat=y):=⟨_,rfl⟩
         rw [hz3.out] at D4 kr
         cases h4:isDg c3
         ·rw [h4] at D4
          have E3:=Lib.hid (wh_drop HA3.out HB3.out (by rw [hc3];exact h4))
          clear hc3 hrl hr h4 hz3 HB3
          go_wp2_with (first | (go_at_call 98;(with_reducible refine (D4 _).mono ?_);rintro e2 w2 ⟨rfl,hq⟩;obtain rfl:=hq.symm;clear D4))
          go_ret
          exact ⟨by rw [E.out,E3.out,show q+1+(r - (q+1))=r by have:=HA3.out;omega];rfl,by first | exact rfl | exact (trivial:True)⟩
         ·rw [h4] at D4
          have K3:Hid (∀ s,q+1≤s→s<r+1→(l[s]?).any isDg=true):=fun s h1 h2=>by
           rcases Nat.lt_or_ge s r with h | h
           ·exact HB3.out s h1 h
           ·have:s=r:=by omega
            subst this;rw [HC3.out];exact h4
          clear hc3 hrl hr h4 hz3 HB3
          go_wp2_with (first | (go_at_call 98;(with_reducible refine (D4 _).mono ?_);rintro e2 w2 ⟨rfl,hq⟩;obtain rfl:=hq.symm;clear D4))
          refine ⟨⟨r+1,rfl,HQ3.out,Nat.le_succ_of_le HA3.out,K3,by first | exact rfl | exact (trivial:True)⟩,?_⟩
          show N - ((r:Int)+1).toNat<N - (r:Int).toNat
          have:=HQ3.out;omega
        ·have hrN:r=N:=by omega
         subst hrN
         have E3:=Lib.hid (wh_drop HA3.out HB3.out (by rw [List.getElem?_eq_none (by rw [hN.out];exact Nat.le_refl _)];rfl))
         clear hrl hr HB3
         go_wp2_with fail
         go_ret
         exact ⟨by rw [E.out,E3.out,show q+1+(r - (q+1))=r by have:=HA3.out;omega];rfl,by first | exact rfl | exact (trivial:True)⟩
     ·have hz46:¬z=46:=fun e=>p2 (UInt8.toNat.inj (hzz.out.trans e))
      have t1:((z:Int)==46)=false:=by simp;omega
      have t2:decide ((z:Int)=46)=false:=by simp;omega
      have t3:decide (z=46)=false:=by simpa using hz46
      have E:Hid (a+numL (l.drop a)=q):=Lib.hid (by rw [F.out,if_neg (by simp [p2])])
      clear hc hql hq h2 hd fin F p1 HB hz46 hzz HC p2 kd
      go_wp2_with (first | (go_at_call 98;(with_reducible refine (D2 _).mono ?_);rintro e2 w2 ⟨rfl,hq⟩;obtain rfl:=hq.symm;clear D2))
      go_ret
      exact ⟨by rw [E.out];rfl,rfl⟩
    ·have j2:decide ((q:Int)+1<(N:Int))=false:=by simp;omega
     have E:Hid (a+numL (l.drop a)=q):=Lib.hid (by rw [F.out,if_neg (by simp [p1])])
     clear hc hql hq h2 fin F p1 HB hzz HC
     go_wp2_with (first | (go_at_call 98;(with_reducible refine (D2 _).mono ?_);rintro e2 w2 ⟨rfl,hq⟩;obtain rfl:=hq.symm;clear D2))
     go_ret
     exact ⟨by rw [E.out];rfl,rfl⟩
   ·rw [h2] at D2
    have K:Hid (∀ r,a≤r→r<q+1→(l[r]?).any isDg=true):=fun r h1 h3=>by
     rcases Nat.lt_or_ge r q with h | h
     ·exact HB.out r h1 h
     ·have:r=q:=by omega
      subst this;rw [HC.out];exact h2
    clear hc hql hq h2 hzz HB fin HC
    go_wp2_with (first | (go_at_call 98;(with_reducible refine (D2 _).mono ?_);rintro e2 w2 ⟨rfl,hq⟩;obtain rfl:=hq.symm;clear D2))
    refine ⟨⟨q+1,rfl,HQ.out,Nat.le_succ_of_le HA.out,K,by first | exact rfl | exact (trivial:True)⟩,?_⟩
    show N - ((q:Int)+1).toNat<N - (q:Int).toNat
    have:=HQ.out;omega
  ·have hqN:q=N:=by omega
   subst hqN
   have F:=fin (by rw [List.getElem?_eq_none (by rw [hN.out];exact Nat.le_refl _)];rfl)
   have E:Hid (a+numL (l.drop a)=q):=Lib.hid (by rw [F.out,if_neg (by simp;intro h;omega)])
   have j2:decide ((q:Int)+1<(q:Int))=false:=by simp;omega
   have kw:IntKind.i64.wrap ((q:Int)+1)=(q:Int)+1:=wrap1 q (by have:=HL.out;omega)
   clear hql hq HB fin F
   go_wp2_with fail
   go_ret
   exact ⟨by rw [E.out];rfl,rfl⟩
end Go.Proofs.YteagpbkbdlmdiaaGreat.Lx
