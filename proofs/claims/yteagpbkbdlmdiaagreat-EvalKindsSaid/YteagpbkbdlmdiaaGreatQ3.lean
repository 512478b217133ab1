/-
  DATES' TEXTS, plain: digits; what a text is read as; texts' order; DECIMALS' TEXTS, plain: digits; the library's reading of a number; a number's text; DECIMALS' TEXTS, plain: a number's digits and its text; Decimals' texts: strings as rows of bytes; the library's functions as they are asked here; dectext: Parse, walked; CONTRACTS of math/bits at this program: Add64, Sub64, Mul64, Len64, LeadingZeros64; PLAIN LAWS of math/bits.Div64 (no Go in sight): the school method by halves of a word.
-/
import Derived.Test.YteagpbkbdlmdiaaGreatQ2
import Derived.Lib.ItoaNum
import Derived.Lib.ParseIntB
import Derived.Lib.IndexMore
import Derived.Test.YteagpbkbdlmdiaaGreatRows
import Derived.Test.YteagpbkbdlmdiaaGreatQ0
import Derived.Lib.SmallJoins
import Derived.Lib.OthersKept
import Derived.BigQuiet
import Derived.Deep.DeepCutAuto
import Derived.Deep.RegionHeld3
import Derived.Deep.RegionLaw
import Derived.WalkMore
import Derived.Deep.DrawnRows
import Derived.Laws.ResultCell
import Derived.Laws.Rows
import Derived.Shelf.Spec.BitsCarry
import Derived.Lib.Mul64
import Derived.Laws.Bits64b
import Derived.Lib.Strings
import Derived.Lib.Slices
import Derived.Lib.Small
import Derived.Lib.Walk
import Derived.Lib.BitFns
set_option linter.unusedSimpArgs false
set_option linter.unusedVariables false
namespace Go.Proofs.YteagpbkbdlmdiaaGreat.Dt
open Go
def dg (n:Nat):UInt8:=UInt8.ofNat (48+n % 10)
def isDg (c:UInt8):Bool:=decide (48≤c.toNat) && decide (c.toNat≤57)
def dv (c:UInt8):Nat:=c.toNat - 48
theorem dg_nat (n:Nat):(dg n).toNat=48+n % 10:=by
 unfold dg
 rw [UInt8.toNat_ofNat']
 omega
theorem dv_lt {c:UInt8} (h:isDg c=true):dv c<10:=by
 unfold isDg at h
 simp only [Bool.and_eq_true,decide_eq_true_eq] at h
 unfold dv;omega
theorem dd1 (n:Nat) (h:n<10):Lib.decDigits n=[dg n]:=by
 unfold Lib.decDigits
 rw [dif_pos h];unfold dg
 rw [Nat.mod_eq_of_lt h]
theorem dd2 (n:Nat) (h:¬n<10):Lib.decDigits n=Lib.decDigits (n / 10)++[dg n]:=by
 rw [Lib.decDigits,dif_neg h];rfl
def lowD (n:Nat):Nat→List UInt8
 | 0=>[]
 | k+1=>dg (n / 10 ^ k) :: lowD n k
theorem lowD_len (n k:Nat):(lowD n k).length=k:=by induction k with | zero=>rfl | succ k ih=>simp [lowD,ih]
end Go.Proofs.YteagpbkbdlmdiaaGreat.Dt
namespace Go.Proofs.YteagpbkbdlmdiaaGreat.Tx
open Go Dt
def digs (l:List UInt8):Bool:=!l.isEmpty && l.all isDg
def valF (l:List UInt8) (a:Nat):Nat:=l.foldl (fun n c=>n*10+dv c) a
def val (l:List UInt8):Nat:=valF l 0
theorem valF_cons (c:UInt8) (l:List UInt8) (a:Nat):valF (c :: l) a=valF l (a*10+dv c):=by unfold valF;rw [List.foldl_cons]
theorem valF_nil (a:Nat):valF [] a=a:=rfl
theorem valF_app (l k:List UInt8) (a:Nat):valF (l++k) a=valF k (valF l a):=by unfold valF;rw [List.foldl_append]
theorem val_snoc (l:List UInt8) (c:UInt8):val (l++[c])=val l*10+dv c:=by unfold val;rw [valF_app,valF_cons,valF_nil]
theorem valF_lt:∀ (l:List UInt8) (a k:Nat),a<10 ^ k→l.all isDg=true→valF l a<10 ^ (k+l.length)
 | [],a,k,h,_=>by rw [valF_nil];simpa using h
 | c :: l,a,k,h,hd=>by
  simp only [List.all_cons,Bool.and_eq_true] at hd
  have hc:=dv_lt hd.1
  have:=valF_lt l (a*10+dv c) (k+1) (by rw [Nat.pow_succ];omega) hd.2
  rw [valF_cons,List.length_cons,show k+(l.length+1)=k+1+l.length by omega]
  exact this
theorem val_lt (l:List UInt8) (h:l.all isDg=true):val l<10 ^ l.length:=by
 have:=valF_lt l 0 0 (by decide) h
 rw [Nat.zero_add] at this
 exact this
def Fit (z:Int):Prop:=-9223372036854775808≤z∧z≤9223372036854775807
instance (z:Int):Decidable (Fit z):=by unfold Fit;exact inferInstance
def sg (neg:Bool) (n:Nat):Int:=if neg=true then -(n:Int) else (n:Int)
def sgn (neg:Bool):List UInt8:=if neg=true then [45] else []
end Go.Proofs.YteagpbkbdlmdiaaGreat.Tx
namespace Go.Proofs.YteagpbkbdlmdiaaGreat.Tx
open Go Dt
theorem dd_len_pos (a:Nat):1≤(Lib.decDigits a).length:=by
 by_cases h:a<10
 ·rw [dd1 a h];exact Nat.le_refl _
 ·rw [dd2 a h,List.length_append];exact Nat.le_add_left _ _
theorem dd_bounds:∀ (n a:Nat),a≤n→a<10 ^ (Lib.decDigits a).length∧((Lib.decDigits a).length=1∨10 ^ ((Lib.decDigits a).length - 1)≤a)
 | n,a,hn=>by
  by_cases h:a<10
  ·rw [dd1 a h];exact ⟨by simpa using h,.inl rfl⟩
  ·match n,hn with
   | 0,hn=>omega
   | n+1,hn=>
    obtain ⟨i1,i2⟩:=dd_bounds n (a / 10) (by omega)
    have p:=dd_len_pos (a / 10)
    rw [dd2 a h,List.length_append,List.length_singleton]
    refine ⟨by rw [Nat.pow_succ];omega,.inr ?_⟩
    rw [Nat.add_sub_cancel]
    obtain ⟨k,hk⟩:∃ k,(Lib.decDigits (a / 10)).length=k+1:=⟨_,(Nat.sub_add_cancel p).symm⟩
    rw [hk] at i2⊢
    rw [Nat.pow_succ]
    rcases i2 with e | e
    ·have:k=0:=by omega
     subst this;omega
    ·rw [Nat.add_sub_cancel] at e;omega
def lenT (a s:Nat):Nat:=max (s+1) (Lib.decDigits a).length
def refT (a s k:Nat):List UInt8:=if s=0∨k≤s then lowD a k else lowD (a / 10 ^ s) (k - s)++46 :: lowD a s
def dtxt (c:Int) (s:Nat):List UInt8:=sgn (decide (c<0))++refT c.natAbs s (lenT c.natAbs s)
theorem lenT_gt (a s:Nat):s<lenT a s:=by unfold lenT;have:=Nat.le_max_left (s+1) (Lib.decDigits a).length;omega
theorem more_digits {a s k:Nat} (h:k≤s∨a / 10 ^ k ≠ 0):k<lenT a s:=by
 unfold lenT
 have m1:=Nat.le_max_left (s+1) (Lib.decDigits a).length
 have m2:=Nat.le_max_right (s+1) (Lib.decDigits a).length
 rcases h with h | h
 ·omega
 ·have b:=(dd_bounds a a (Nat.le_refl _)).1
  rcases Nat.lt_or_ge k (Lib.decDigits a).length with g | g
  ·omega
  ·exact absurd (Nat.div_eq_of_lt (Nat.lt_of_lt_of_le b (Nat.pow_le_pow_right (by decide) g))) h
theorem no_digits {a s k:Nat} (h1:s<k) (h2:a / 10 ^ k=0) (h3:k≤lenT a s):k=lenT a s:=by
 have b:=dd_bounds a a (Nat.le_refl _)
 have lt:a<10 ^ k:=by
  rcases Nat.lt_or_ge a (10 ^ k) with g | g
  ·exact g
  ·have:=Nat.div_pos g (Nat.pow_pos (by decide));omega
 unfold lenT at h3⊢
 have:(Lib.decDigits a).length≤k:=by
  rcases b.2 with e | e
  ·omega
  ·rcases Nat.lt_or_ge k (Lib.decDigits a).length with g | g
   ·have:=Nat.pow_le_pow_right (n:=10) (by decide) (show k≤(Lib.decDigits a).length - 1 by omega)
    omega
   ·exact g
 omega
theorem refT_lo {a s k:Nat} (h:s=0∨k≤s):refT a s k=lowD a k:=by unfold refT;rw [if_pos h]
theorem refT_hi {a s k:Nat} (h:¬(s=0∨k≤s)):refT a s k=lowD (a / 10 ^ s) (k - s)++46 :: lowD a s:=by unfold refT;rw [if_neg h]
theorem refT_step (a s k:Nat):refT a s (k+1)=dg (a / 10 ^ k) :: (if k=s∧0<k then 46 :: refT a s k else refT a s k):=by
 by_cases h0:s=0
 ·subst h0
  rw [if_neg (show ¬(k=0∧0<k) by omega),refT_lo (.inl rfl),refT_lo (.inl rfl)];rfl
 ·by_cases h1:k<s
  ·rw [if_neg (show ¬(k=s∧0<k) by omega),refT_lo (.inr (by omega)),refT_lo (.inr (by omega))];rfl
  ·by_cases h2:k=s
   ·subst h2
    rw [if_pos (show k=k∧0<k from ⟨rfl,by omega⟩),refT_hi (by omega),refT_lo (.inr (Nat.le_refl _)),show k+1 - k=1 by omega]
    simp [lowD]
   ·rw [if_neg (show ¬(k=s∧0<k) by omega),refT_hi (by omega),refT_hi (by omega),show k+1 - s=(k - s)+1 by omega]
    show dg (a / 10 ^ s / 10 ^ (k - s)) :: (lowD (a / 10 ^ s) (k - s)++_)=_
    rw [Nat.div_div_eq_div_mul,←Nat.pow_add,show s+(k - s)=k by omega]
end Go.Proofs.YteagpbkbdlmdiaaGreat.Tx
namespace Go.Proofs.YteagpbkbdlmdiaaGreat.Tx
open Go Go.RowKit Dt
def bs (l:List UInt8):ByteArray:=⟨l.toArray⟩
theorem bs_size (l:List UInt8):(bs l).size=l.length:=by unfold bs;rfl
theorem bs_cat (l k:List UInt8):bs l++bs k=bs (l++k):=by
 unfold bs
 apply ByteArray.ext
 rw [ByteArray.data_append]
 simp
theorem bs_of (s:ByteArray):bs s.data.toList=s:=by unfold bs;simp
theorem bs_list (l:List UInt8):(bs l).data.toList=l:=by unfold bs;simp
theorem bs_toList (l:List UInt8):(bs l).toList=l:=by unfold bs;simp
theorem self_toList (S:ByteArray):(S.toList==S.toList)=true:=by simp
theorem slice_lo (l:List UInt8) (i j:Nat):(bs l).extract i j=bs ((l.drop i).take (j - i)):=by
 unfold bs
 apply ByteArray.ext
 rw [ByteArray.data_extract]
 simp [List.extract_eq_take_drop]
theorem at_byte (l:List UInt8) (k:Nat) (c:UInt8) (h:l[k]?=some c) (w:World):(Instr.index 9 (.string (bs l)) (.int .i64 (k:Int))).run Tryz.prog w=.ok (.int .u8 (c.toNat:Int)) w:=by
 rw [run_index_string w 9 (bs l) .i64 (k:Int) Tryz.underlying9]
 obtain ⟨hk,he⟩:=List.getElem?_eq_some_iff.1 h
 rw [dif_pos ⟨by omega,by rw [bs_size];omega⟩]
 have:(bs l)[((k:Int)).toNat]'(by rw [bs_size];simpa using hk)=c:=by
  show l.toArray[((k:Int)).toNat]'_=c
  simp only [Int.toNat_natCast,List.getElem_toArray]
  exact he
 rw [this]
theorem take_snoc {l:List UInt8} {k:Nat} {c:UInt8} (h:l[k]?=some c):l.take (k+1)=l.take k++[c]:=by rw [List.take_add_one,h];rfl
theorem drewN_below (w:World) (n:Nat):Below w.heap.size w (w.drewN n):=⟨rfl,rfl,rfl,Nat.le_refl _,fun _ _=>rfl⟩
def body (l:List UInt8):List UInt8:=if l.head?=some 45 then l.drop 1 else l
def cutP (l:List UInt8):List UInt8 × List UInt8 × Bool:=Lib.cut l [46]
def IntPost (z:Int) (w:World) (e:Ending) (w':World):Prop:=((Fit z∧e=.returned (.tuple #[.int .i64 z,.nilIface]))∨(¬Fit z∧∃ (v:Int) (t:TypeId) (p:Value),e=.returned (.tuple #[.int .i64 v,.iface t p])))∧Below w.heap.size w w'
end Go.Proofs.YteagpbkbdlmdiaaGreat.Tx
namespace Go.Proofs.YteagpbkbdlmdiaaGreat.Tx
open Go Go.RowKit Dt
attribute [local go_sem ↓] Go.wp_at_zero Go.wp_at_succ
def neg (l:List UInt8):Bool:=decide (l.head?=some 45)
def wBad (v:List UInt8):Bool:=!digs v || (decide (1<v.length) && decide (v.head?=some 48))
def rBad (r:List UInt8):Bool:=!digs r || decide (9<r.length) || decide (r.getLast?=some 48)
def dparse (l:List UInt8):(Int × Int) × Int:=
 if 21<l.length then ((0,0),3)
 else if wBad (cutP (body l)).1=true∨((cutP (body l)).2.2=true∧rBad (cutP (body l)).2.1=true)∨l=[45,48] then ((0,0),4)
 else if Fit (sg (neg l) (val ((cutP (body l)).1++(cutP (body l)).2.1))) then ((sg (neg l) (val ((cutP (body l)).1++(cutP (body l)).2.1)),((cutP (body l)).2.1.length:Int)),0)
 else ((0,0),11)
def DpPost (r:(Int × Int) × Int) (w:World) (e:Ending) (w':World):Prop:=e=.returned (.tuple #[.agg #[.int .i64 r.1.1,.int .i64 r.1.2],.int .i64 r.2])∧Below w.heap.size w w'
theorem DpPost.mk {r:(Int × Int) × Int} {a b e:Int} {w w':World} (h:r=((a,b),e)) (hb:Below w.heap.size w w'):DpPost r w (.returned (.tuple #[.agg #[.int .i64 a,.int .i64 b],.int .i64 e])) w':=by
 subst h;exact ⟨rfl,hb⟩
def Two (w:World) (b:Nat) (x y:Int):Prop:=w.heap[b]?=some (.cells #[.int .i64 x,.int .i64 y] 30 (0,0))
section
variable {w:World} {b:Nat} {x y:Int}
theorem Two.lt (h:Two w b x y):b<w.heap.size:=(Array.getElem?_eq_some_iff.1 h).1
theorem Two.c0 (h:Two w b x y):w.cell? ⟨b,0,none⟩=some (.int .i64 x):=by rw [cell_of_row w _ _ _ _ (0,0) h];rfl
theorem Two.c1 (h:Two w b x y):w.cell? ⟨b,1,none⟩=some (.int .i64 y):=by rw [cell_of_row w _ _ _ _ (0,0) h];rfl
theorem Two.f (h:Two w b x y) (i:Nat):w.frozen? ⟨b,i,none⟩=false:=frozen_of_row w _ _ _ _ h
theorem Two.below {w':World} (h:Two w b x y) (k:Below w.heap.size w w'):Two w' b x y:=(k.block b h.lt).trans h
theorem Two.set (h:Two w b x y) (x' y':Int):Two ((w.setCell ⟨b,0,none⟩ (.int .i64 x')).setCell ⟨b,1,none⟩ (.int .i64 y')) b x' y':=by
 have h1:Two (w.setCell ⟨b,0,none⟩ (.int .i64 x')) b x' y:=by show _=_;rw [heap_setCell_same w b 0 _ _ _ h];rfl
 show _=_
 rw [heap_setCell_same _ b 1 _ _ _ h1];rfl
theorem results_cell2 {P:Program} {fn:Func} {p u:Tmp} {ty:TypeId} (h:fn.results=#[.cell p ty,.tmp u]) (tmps:Array Value) (w:World) (g:Nat) (t:TypeId) (cs:Array Value) (fr:Nat × Nat) (d:TypeDesc)
  (hp:tmps.getD p undef=.pointer (some ⟨g,0,none⟩)) (hg:w.heap[g]?=some (.cells cs t fr))
  (hu:P.underlying ty=some d) (hd:(match d with | .struct _ | .array _ _=>true | _=>false)=true) (hi:(P.info? ty).map (·.size)=some cs.size) :
  (results fn tmps).run P w=.ok (.tuple #[.agg cs,tmps.getD u undef]) w:=by
 rw [results_cell_tmp h,hp]
 simp [asAddr,run_loadVar_row w g t ty cs fr d hg hu hd hi,Result.andThen]
theorem Two.new (w:World) (x y:Int):Two (w.alloc (.cells #[.int .i64 x,.int .i64 y] 30)) w.heap.size x y:=by
 show (w.heap.push _)[w.heap.size]?=_
 rw [Array.getElem?_push_size]
end
theorem cutP_cases (l:List UInt8):cutP l=(l,[],false)∨∃ i:Nat,cutP l=(l.take i,l.drop (i+1),true)∧i<l.length∧l[i]?=some 46∧∀ j,j<i→l[j]? ≠ some 46:=by
 unfold cutP Lib.cut
 have hd:∀ j,j<l.length→(Lib.occAt l [46] j=true↔l[j]?=some 46):=fun j hj=>by
  rw [Lib.occAt_iff_take l [46] j (by show j+1≤_;omega),List.length_singleton,List.take_one,List.head?_drop,List.getElem?_eq_getElem hj]
  simp
 rcases Lib.index_spec l [46] with ⟨h,_⟩ | ⟨i,h,hi,ho,hn⟩
 ·rw [h];exact .inl rfl
 ·rw [h]
  have room:i+1≤l.length:=by
   rcases Lib.occAt_room ho with k | k
   ·exact k
   ·cases k
  refine .inr ⟨i,by rw [if_pos (by omega),Int.toNat_natCast];rfl,room,(hd i room).1 ho,fun j hj k=>?_⟩
  have:=(hd j (by omega)).2 k
  rw [hn j hj] at this
  cases this
end Go.Proofs.YteagpbkbdlmdiaaGreat.Tx
namespace Go.Proofs.YteagpbkbdlmdiaaGreat
set_option maxHeartbeats 4000000
open Go.RowKit
theorem add64 (x y c:Int) (hx:0≤x) (hy:0≤y) (hx':x<18446744073709551616) (hy':y<18446744073709551616) (hc0:0≤c) (hc:c≤1) (w:World):(callFunc 157 #[.int .u64 x,.int .u64 y,.int .u64 c]).run Tryz.prog w=
  .ok (.value (.tuple #[.int .u64 ((x+y+c) % 18446744073709551616),.int .u64 ((x+y+c) / 18446744073709551616)])) w:=by
 obtain ⟨x,rfl⟩:=Int.eq_ofNat_of_zero_le hx
 obtain ⟨y,rfl⟩:=Int.eq_ofNat_of_zero_le hy
 obtain ⟨c,rfl⟩:=Int.eq_ofNat_of_zero_le hc0
 rw [run_callFunc_extern Tryz.func157 (by kernel_rfl) (by kernel_rfl) (by kernel_rfl) (e:=add64Entry) (by kernel_rfl),run_add64 x y c (by omega) (by omega) (by omega) (by omega)]
 simp only [Result.andThen]
theorem sub64 (x y b:Int) (hx:0≤x) (hx':x<18446744073709551616) (hy:0≤y) (hy':y<18446744073709551616) (hb0:0≤b) (hb:b≤1) (w:World):(callFunc 165 #[.int .u64 x,.int .u64 y,.int .u64 b]).run Tryz.prog w=
  .ok (.value (.tuple #[.int .u64 ((x - y - b) % 18446744073709551616),.int .u64 (if x<y+b then 1 else 0)])) w:=by
 obtain ⟨x,rfl⟩:=Int.eq_ofNat_of_zero_le hx
 obtain ⟨y,rfl⟩:=Int.eq_ofNat_of_zero_le hy
 obtain ⟨b,rfl⟩:=Int.eq_ofNat_of_zero_le hb0
 have e1:(((x+18446744073709551616 - y - b) % 18446744073709551616:Nat):Int)=((x:Int) - y - b) % 18446744073709551616:=by omega
 have e2:((if x<y+b then 1 else 0:Nat):Int)=if (x:Int)<y+b then 1 else 0:=by split<;>split<;>omega
 rw [←e1,←e2]
 rw [run_callFunc_extern Tryz.func165 (by kernel_rfl) (by kernel_rfl) (by kernel_rfl) (e:=sub64Entry) (by kernel_rfl),run_sub64 x y b (by omega)]
 rfl
namespace Bt
theorem maskN (a:Nat) (ha:a<18446744073709551616):bits .and .u64 (a:Int) 4294967295=((a % 4294967296:Nat):Int):=by
 have h:=bits_and_u64_nat a 4294967295 ha (by omega)
 have e:a &&& 4294967295=a % 4294967296:=Nat.and_two_pow_sub_one_eq_mod a 32
 rw [e] at h
 exact h
theorem divN (a:Nat):(a:Int) / 4294967296=((a / 4294967296:Nat):Int):=by omega
theorem mulN (a b:Nat):(a:Int)*(b:Int)=((a*b:Nat):Int):=(Int.natCast_mul a b).symm
theorem addN (a b:Nat):(a:Int)+(b:Int)=((a+b:Nat):Int):=(Int.natCast_add a b).symm
theorem wrapN (a:Nat) (ha:a<18446744073709551616):IntKind.u64.wrap (a:Int)=(a:Int):=by rw [IntKind.wrap_u64];omega
theorem wrapM (a:Nat):IntKind.u64.wrap (a:Int)=((a % 18446744073709551616:Nat):Int):=by rw [IntKind.wrap_u64];omega
theorem aux_spec:∀ (f x:Nat),x<2 ^ f→x<2 ^ Lib.bitLenAux f x∧(x ≠ 0→2 ^ Lib.bitLenAux f x≤2*x)
 | 0,x,h=>by simp at h;subst h;simp [Lib.bitLenAux]
 | f+1,x,h=>by
  simp only [Lib.bitLenAux]
  split
  ·rename_i e;subst e;simp
  ·have ih:=aux_spec f (x / 2) (by rw [Nat.pow_succ] at h;omega)
   rw [Nat.add_comm,Nat.pow_succ]
   refine ⟨by omega,fun _=>?_⟩
   by_cases e:x / 2=0
   ·have:x=1:=by omega
    subst this
    cases f<;>simp [Lib.bitLenAux]
   ·have:=ih.2 e;omega
theorem len_spec (x:Nat) (h:x<18446744073709551616) (h0:x ≠ 0):x<2 ^ Lib.bitLen x∧2 ^ Lib.bitLen x≤2*x:=⟨(aux_spec 64 x h).1,(aux_spec 64 x h).2 h0⟩
theorem len_le (x:Nat) (h:x<18446744073709551616) (h0:x ≠ 0):1≤Lib.bitLen x∧Lib.bitLen x≤64:=by
 have s:=len_spec x h h0
 constructor
 ·rcases Nat.eq_zero_or_pos (Lib.bitLen x) with e | e
  ·rw [e] at s;omega
  ·exact e
 ·have:2 ^ Lib.bitLen x<2 ^ 65:=by omega
  have:=(Nat.pow_lt_pow_iff_right (by omega:1<2)).1 this
  omega
theorem tab (b:Int) (h0:0≤b) (h1:b<256) (h:b.toNat<Lib.len8tab.size):((Lib.len8tab[b.toNat]'h).toNat:Int)=(Lib.bitLen b.toNat:Int):=by
 have e:=Lib.len8_of b h0 (by omega)
 unfold Lib.len8 at e
 rw [getElem?_pos Lib.len8tab b.toNat h] at e
 exact e
theorem wr (K:Int) (k z:Nat) (hK:K=k) (hk:k≤56) (hz:z≤8):wrap64 (K+wrap64 (z:Int))=((k+z:Nat):Int):=by unfold wrap64;omega
theorem wr0 (z:Nat) (hz:z≤8):wrap64 (wrap64 (z:Int))=(z:Int):=by unfold wrap64;omega
end Bt
theorem mul64_any (x y:Nat) (hx:x<18446744073709551616) (hy:y<18446744073709551616) (w:World) :
  Calls Tryz.prog 156 #[.int .u64 x,.int .u64 y] w fun e w'=>e=.returned (.tuple #[.int .u64 ((x*y / 18446744073709551616:Nat):Int),.int .u64 ((x*y % 18446744073709551616:Nat):Int)])∧w'=w:=by
 obtain ⟨bd,bt,bw,hhi⟩:=Lib.mul64_hi x y hx hy
 have ba:=Lib.half_mul_le (a:=x / 4294967296) (b:=y / 4294967296) (by omega) (by omega)
 have bb:=Lib.half_mul_le (a:=x / 4294967296) (b:=y % 4294967296) (by omega) (by omega)
 have bc:=Lib.half_mul_le (a:=x % 4294967296) (b:=y / 4294967296) (by omega) (by omega)
 have ba':x / 4294967296*(y / 4294967296)<18446744073709551616:=by omega
 have bb':x / 4294967296*(y % 4294967296)<18446744073709551616:=by omega
 have bc':x % 4294967296*(y / 4294967296)<18446744073709551616:=by omega
 have bh1:x / 4294967296*(y / 4294967296)+(x / 4294967296*(y % 4294967296)+x % 4294967296*(y % 4294967296) / 4294967296) / 4294967296<18446744073709551616:=by omega
 have bh:x / 4294967296*(y / 4294967296)+(x / 4294967296*(y % 4294967296)+x % 4294967296*(y % 4294967296) / 4294967296) / 4294967296+((x / 4294967296*(y % 4294967296)+x % 4294967296*(y % 4294967296) / 4294967296) % 4294967296+x % 4294967296*(y / 4294967296)) / 4294967296<18446744073709551616:=by omega
 go_enter Tryz.func156,Tryz.ntmps156
 go_wp2
 simp only [Bt.maskN x hx,Bt.maskN y hy,Bt.divN,Bt.mulN,Bt.addN,Bt.wrapN _ bd,Bt.wrapN _ bb',Bt.wrapN _ bt,Bt.maskN _ bt,Bt.wrapN _ bc',Bt.wrapN _ bw,Bt.wrapN _ ba',Bt.wrapN _ bh1,Bt.wrapN _ bh,Bt.wrapM (x*y)]
 rw [hhi]
 go_ret2
 exact ⟨rfl,rfl⟩
set_option maxRecDepth 100000 in
theorem len64_any (x:Int) (w:World) (h0:0≤x) (h1:x≤18446744073709551615) :
  Calls Tryz.prog 170 #[.int .u64 x] w fun e w'=>e=.returned (.int .i64 (Lib.bitLen x.toNat))∧w'=w:=by
 go_enter Tryz.func170,Tryz.ntmps170
 go_wp2
 all_goals have hs:=Lib.len8tab_size
 all_goals first
  | (exfalso;omega)
  | (have _g0:=‹256≤x / 4294967296 / 65536›
     have hb:=Bt.tab (x / 4294967296 / 65536 / 256) (by omega) (by omega) (by omega)
     have e:(x / 4294967296 / 65536 / 256).toNat=x.toNat / 72057594037927936:=by omega
     have l:=Lib.bitLen_le8' (x / 4294967296 / 65536 / 256) (by omega) (by omega)
     have s:=Lib.bitLen_shift56 x.toNat (by omega) (by omega)
     have e2:=congrArg Lib.bitLen e
     refine bodyPost_ret (v:=.int .i64 (Lib.bitLen x.toNat)) (by simp [results,Tryz.results170,go_sem,hb];rw [s,←e2];exact Bt.wr 56 56 _ rfl (by decide) l) rfl ⟨rfl,rfl⟩)
  | (have _g0:=‹65536≤x / 4294967296›;have _g1:=‹x / 4294967296 / 65536<256›
     have hb:=Bt.tab (x / 4294967296 / 65536) (by omega) (by omega) (by omega)
     have e:(x / 4294967296 / 65536).toNat=x.toNat / 281474976710656:=by omega
     have l:=Lib.bitLen_le8' (x / 4294967296 / 65536) (by omega) (by omega)
     have s:=Lib.bitLen_shift48 x.toNat (by omega) (by omega)
     have e2:=congrArg Lib.bitLen e
     refine bodyPost_ret (v:=.int .i64 (Lib.bitLen x.toNat)) (by simp [results,Tryz.results170,go_sem,hb];rw [s,←e2];exact Bt.wr 48 48 _ rfl (by decide) l) rfl ⟨rfl,rfl⟩)
  | (have _g0:=‹x / 4294967296<65536›;have _g1:=‹256≤x / 4294967296›
     have hb:=Bt.tab (x / 4294967296 / 256) (by omega) (by omega) (by omega)
     have e:(x / 4294967296 / 256).toNat=x.toNat / 1099511627776:=by omega
     have l:=Lib.bitLen_le8' (x / 4294967296 / 256) (by omega) (by omega)
     have s:=Lib.bitLen_shift40 x.toNat (by omega) (by omega)
     have e2:=congrArg Lib.bitLen e
     refine bodyPost_ret (v:=.int .i64 (Lib.bitLen x.toNat)) (by simp [results,Tryz.results170,go_sem,hb];rw [s,←e2];exact Bt.wr 40 40 _ rfl (by decide) l) rfl ⟨rfl,rfl⟩)
  | (have _g0:=‹x / 4294967296<65536›;have _g1:=‹x / 4294967296<256›
     have hb:=Bt.tab (x / 4294967296) (by omega) (by omega) (by omega)
     have e:(x / 4294967296).toNat=x.toNat / 4294967296:=by omega
     have l:=Lib.bitLen_le8' (x / 4294967296) (by omega) (by omega)
     have s:=Lib.bitLen_shift32 x.toNat (by omega) (by omega)
     have e2:=congrArg Lib.bitLen e
     refine bodyPost_ret (v:=.int .i64 (Lib.bitLen x.toNat)) (by simp [results,Tryz.results170,go_sem,hb];rw [s,←e2];exact Bt.wr 32 32 _ rfl (by decide) l) rfl ⟨rfl,rfl⟩)
  | (have _g0:=‹256≤x / 65536›
     have hb:=Bt.tab (x / 65536 / 256) (by omega) (by omega) (by omega)
     have e:(x / 65536 / 256).toNat=x.toNat / 16777216:=by omega
     have l:=Lib.bitLen_le8' (x / 65536 / 256) (by omega) (by omega)
     have s:=Lib.bitLen_shift24 x.toNat (by omega) (by omega)
     have e2:=congrArg Lib.bitLen e
     refine bodyPost_ret (v:=.int .i64 (Lib.bitLen x.toNat)) (by simp [results,Tryz.results170,go_sem,hb];rw [s,←e2];exact Bt.wr 24 24 _ rfl (by decide) l) rfl ⟨rfl,rfl⟩)
  | (have _g0:=‹x / 65536<256›
     have hb:=Bt.tab (x / 65536) (by omega) (by omega) (by omega)
     have e:(x / 65536).toNat=x.toNat / 65536:=by omega
     have l:=Lib.bitLen_le8' (x / 65536) (by omega) (by omega)
     have s:=Lib.bitLen_shift16 x.toNat (by omega) (by omega)
     have e2:=congrArg Lib.bitLen e
     refine bodyPost_ret (v:=.int .i64 (Lib.bitLen x.toNat)) (by simp [results,Tryz.results170,go_sem,hb];rw [s,←e2];exact Bt.wr 16 16 _ rfl (by decide) l) rfl ⟨rfl,rfl⟩)
  | (have _g0:=‹x<256›
     have hb:=Bt.tab x (by omega) (by omega) (by omega)
     have l:=Lib.bitLen_le8' x (by omega) (by omega)
     refine bodyPost_ret (v:=.int .i64 (Lib.bitLen x.toNat)) (by simp [results,Tryz.results170,go_sem,hb];exact Bt.wr0 _ l) rfl ⟨rfl,rfl⟩)
  | (have _g0:=‹x<65536›;have _g1:=‹256≤x›
     have hb:=Bt.tab (x / 256) (by omega) (by omega) (by omega)
     have e:(x / 256).toNat=x.toNat / 256:=by omega
     have l:=Lib.bitLen_le8' (x / 256) (by omega) (by omega)
     have s:=Lib.bitLen_shift8 x.toNat (by omega) (by omega)
     have e2:=congrArg Lib.bitLen e
     refine bodyPost_ret (v:=.int .i64 (Lib.bitLen x.toNat)) (by simp [results,Tryz.results170,go_sem,hb];rw [s,←e2];exact Bt.wr 8 8 _ rfl (by decide) l) rfl ⟨rfl,rfl⟩)
theorem lz64_any (x:Int) (w:World) (h0:0<x) (h1:x≤18446744073709551615) :
  Calls Tryz.prog 167 #[.int .u64 x] w fun e w'=>e=.returned (.int .i64 (64 - (Lib.bitLen x.toNat:Int)))∧w'=w:=by
 have hl:=Bt.len_le x.toNat (by omega) (by omega)
 have e8:(64 - (Lib.bitLen x.toNat:Int)+9223372036854775808) % 18446744073709551616 - 9223372036854775808=64 - (Lib.bitLen x.toNat:Int):=by omega
 have e9:IntKind.i64.wrap (64 - (Lib.bitLen x.toNat:Int))=64 - (Lib.bitLen x.toNat:Int):=by rw [IntKind.wrap_i64];omega
 go_enter Tryz.func167,Tryz.ntmps167
 go_wp2_with (go_at_call 170;refine (len64_any x _ (by omega) h1).mono ?_;rintro e w' ⟨rfl,rfl⟩)
 go_ret
 exact ⟨rfl,rfl⟩
end Go.Proofs.YteagpbkbdlmdiaaGreat
namespace Go.Proofs.YteagpbkbdlmdiaaGreat
open Go.RowKit
namespace Dv
structure Inv (U u Y y1 y0 q r:Nat):Prop where
 split:q*y1+r=U
 above:U*4294967296+u<(q+1)*Y
 small:q≤4294967297
structure Div (U u Y y1 y0:Nat):Prop where
 y:Y=y1*4294967296+y0
 l1:y1<4294967296
 h1:2147483648≤y1
 l0:y0<4294967296
 lu:U<Y
 l:u<4294967296
variable {U u Y y1 y0 q r:Nat}
theorem mulY (D:Div U u Y y1 y0):q*Y=q*y1*4294967296+q*y0:=by
 rw [D.y,Nat.mul_add,Nat.mul_assoc]
theorem mulY1 (D:Div U u Y y1 y0):(q+1)*Y=q*y1*4294967296+q*y0+Y:=by
 rw [Nat.add_mul,Nat.one_mul,mulY D]
theorem init (D:Div U u Y y1 y0):Inv U u Y y1 y0 (U / y1) (U % y1):=by
 have hy:=D.h1
 have e:=Nat.div_add_mod U y1
 have l:=Nat.mod_lt U (show 0<y1 by omega)
 have c:=Nat.mul_comm y1 (U / y1)
 generalize U / y1=Q at*
 generalize U % y1=R at*
 refine ⟨by omega,?_,?_⟩
 ·rw [mulY1 D,D.y]
  have:=D.l
  have:U=Q*y1+R:=by omega
  rw [this]
  generalize Q*y1=P
  omega
 ·have hu:=D.lu;rw [D.y] at hu
  have h0:=D.l0
  rcases Nat.lt_or_ge 4294967297 Q with h | h
  ·have:=Nat.mul_le_mul_right y1 h
   have e2:(4294967297+1)*y1=4294967298*y1:=rfl
   omega
  ·exact h
theorem step (D:Div U u Y y1 y0) (h:Inv U u Y y1 y0 q r) (t:4294967296≤q∨4294967296*r+u<q*y0) :
  1≤q∧Inv U u Y y1 y0 (q - 1) (r+y1)∧q - 1≤4294967296:=by
 have hq:1≤q:=by
  rcases t with t | t
  ·omega
  ·rcases Nat.eq_zero_or_pos q with e | e
   ·subst e;simp at t
   ·exact e
 obtain ⟨p,rfl⟩:∃ p,q=p+1:=⟨q - 1,by omega⟩
 have a:=h.split;have b:=h.small
 refine ⟨hq,⟨?_,?_,by omega⟩,by omega⟩
 ·rw [Nat.add_sub_cancel,←a,Nat.add_mul];omega
 ·rw [Nat.add_sub_cancel]
  rcases t with t | t
  ·have h1:4294967296*Y≤(p+1)*Y:=Nat.mul_le_mul_right _ t
   have:=D.lu;have:=D.l
   omega
  ·rw [mulY D,←a]
   generalize (p+1)*y1=P at*
   generalize (p+1)*y0=S at*
   omega
theorem found (D:Div U u Y y1 y0) (h:Inv U u Y y1 y0 q r) (t:q*y0≤4294967296*r+u):q=(U*4294967296+u) / Y:=by
 have h1:q*Y≤U*4294967296+u:=by
  rw [mulY D,←h.split]
  generalize q*y1=P
  generalize q*y0=S at*
  omega
 have hy:0<Y:=by have:=D.lu;omega
 have a:=(Nat.le_div_iff_mul_le hy).2 h1
 have b:=(Nat.div_lt_iff_lt_mul hy).2 h.above
 omega
theorem broke (D:Div U u Y y1 y0) (hq:q≤4294967296) (hr:4294967296≤r):q*y0≤4294967296*r+u:=by
 have h1:q*y0≤4294967296*y0:=Nat.mul_le_mul_right _ hq
 have:=D.l0
 omega
theorem bothB (B U u1 u0 Y:Nat) (hY:0<Y) :
  ((U*B+u1)*B+u0) / Y=(U*B+u1) / Y*B+((U*B+u1) % Y*B+u0) / Y∧
  ((U*B+u1)*B+u0) % Y=((U*B+u1) % Y*B+u0) % Y:=by
 have e1:=Nat.div_add_mod (U*B+u1) Y
 have e2:=Nat.div_add_mod ((U*B+u1) % Y*B+u0) Y
 have l2:=Nat.mod_lt ((U*B+u1) % Y*B+u0) hY
 generalize (U*B+u1) / Y=Q1 at*
 generalize (U*B+u1) % Y=R1 at*
 generalize (R1*B+u0) / Y=Q0 at*
 generalize (R1*B+u0) % Y=R0 at*
 have key:(U*B+u1)*B+u0=Y*(Q1*B+Q0)+R0:=by
  rw [←e1,Nat.mul_add,Nat.add_mul,←Nat.mul_assoc,Nat.add_assoc,←e2]
  generalize Y*Q1*B=A
  generalize Y*Q0=C
  omega
 rw [key]
 refine ⟨?_,?_⟩
 ·rw [Nat.mul_add_div hY,Nat.div_eq_of_lt l2,Nat.add_zero]
 ·rw [Nat.mul_add_mod,Nat.mod_eq_of_lt l2]
theorem both (U u1 u0 Y:Nat) (hY:0<Y) :
  ((U*4294967296+u1)*4294967296+u0) / Y=(U*4294967296+u1) / Y*4294967296+((U*4294967296+u1) % Y*4294967296+u0) / Y∧
  ((U*4294967296+u1)*4294967296+u0) % Y=((U*4294967296+u1) % Y*4294967296+u0) % Y:=bothB 4294967296 U u1 u0 Y hY
theorem shifted (N y s:Nat):(N*2 ^ s) / (y*2 ^ s)=N / y∧(N*2 ^ s) % (y*2 ^ s) / 2 ^ s=N % y:=by
 have hp:0<2 ^ s:=Nat.two_pow_pos s
 refine ⟨Nat.mul_div_mul_right _ _ hp,?_⟩
 rw [Nat.mul_mod_mul_right,Nat.mul_div_cancel _ hp]
theorem upperW (W hi lo y s t:Nat) (hq:2 ^ s*2 ^ t=W) (hy:hi<y) (hl:lo<W) (hY:y*2 ^ s<W) :
  hi*2 ^ s<W∧lo / 2 ^ t<2 ^ s∧hi*2 ^ s+lo / 2 ^ t<y*2 ^ s∧
  (hi*W+lo)*2 ^ s=(hi*2 ^ s+lo / 2 ^ t)*W+lo*2 ^ s % W:=by
 have hp:0<2 ^ s:=Nat.two_pow_pos s
 have hr:0<2 ^ t:=Nat.two_pow_pos _
 have h1:(hi+1)*2 ^ s≤y*2 ^ s:=Nat.mul_le_mul_right _ hy
 have h2:lo / 2 ^ t<2 ^ s:=by
  rw [Nat.div_lt_iff_lt_mul hr,hq];exact hl
 rw [Nat.add_mul,Nat.one_mul] at h1
 refine ⟨by omega,h2,by omega,?_⟩
 have e:=Nat.div_add_mod lo (2 ^ t)
 have l:=Nat.mod_lt lo hr
 have e3:lo*2 ^ s=W*(lo / 2 ^ t)+lo % 2 ^ t*2 ^ s:=by
  conv=>lhs;rw [←e]
  rw [Nat.add_mul,Nat.mul_right_comm,Nat.mul_comm (2 ^ t) (2 ^ s),hq]
 have l2:lo % 2 ^ t*2 ^ s<W:=by
  rw [←hq,Nat.mul_comm (2 ^ s)];exact Nat.mul_lt_mul_of_pos_right l hp
 have e4:lo*2 ^ s % W=lo % 2 ^ t*2 ^ s:=by
  rw [e3,Nat.mul_add_mod,Nat.mod_eq_of_lt l2]
 rw [e4,Nat.add_mul,Nat.add_mul,e3,Nat.mul_right_comm,Nat.mul_comm (lo / 2 ^ t) W,Nat.add_assoc]
theorem upper (hi lo y s:Nat) (hs:s≤63) (hy:hi<y) (hl:lo<18446744073709551616) (hY:y*2 ^ s<18446744073709551616) :
  hi*2 ^ s<18446744073709551616∧lo / 2 ^ (64 - s)<2 ^ s∧hi*2 ^ s+lo / 2 ^ (64 - s)<y*2 ^ s∧
  (hi*18446744073709551616+lo)*2 ^ s=(hi*2 ^ s+lo / 2 ^ (64 - s))*18446744073709551616+lo*2 ^ s % 18446744073709551616:=
 upperW 18446744073709551616 hi lo y s (64 - s) (by rw [←Nat.pow_add,show s+(64 - s)=64 by omega]) hy hl hY
theorem or_parts (a s b:Nat) (hb:b<2 ^ s):a*2 ^ s ||| b=a*2 ^ s+b:=by
 rw [Nat.mul_comm,Nat.two_pow_add_eq_or_of_lt hb]
theorem norm (y s:Nat) (h:y<18446744073709551616) (h0:y ≠ 0) (hs:s=64 - Lib.bitLen y):s≤63∧y*2 ^ s<18446744073709551616∧9223372036854775808≤y*2 ^ s:=by
 have a:=Bt.len_spec y h h0
 have b:=Bt.len_le y h h0
 have e:2 ^ Lib.bitLen y*2 ^ s=18446744073709551616:=by rw [←Nat.pow_add,show Lib.bitLen y+s=64 by omega]
 have hp:0<2 ^ s:=Nat.two_pow_pos s
 have c1:y*2 ^ s<2 ^ Lib.bitLen y*2 ^ s:=Nat.mul_lt_mul_of_pos_right a.1 hp
 have c2:2 ^ Lib.bitLen y*2 ^ s≤2*y*2 ^ s:=Nat.mul_le_mul_right _ a.2
 rw [Nat.mul_assoc] at c2
 omega
end Dv
end Go.Proofs.YteagpbkbdlmdiaaGreat
