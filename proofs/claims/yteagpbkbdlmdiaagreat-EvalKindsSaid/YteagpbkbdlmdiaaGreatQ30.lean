/-
  The document's parser: Same, walked: it answers; The words of a text, plain; lexer: bytes, while, named, number, walked; lexer: word, walked; lexer: Lex, walked; The document's words: where one ends, walked.
-/
import Derived.Test.YteagpbkbdlmdiaaGreatQ28
import Derived.ChangeKeysEq
import Derived.Test.YteagpbkbdlmdiaaGreatQ22
import Derived.Test.YteagpbkbdlmdiaaGreatQ3
import Derived.Lib.SmallJoins
import Derived.Laws.RangeAny
import Derived.Laws.RangeString
import Derived.Lib.OthersKept
import Derived.LoopN
import Derived.Test.YteagpbkbdlmdiaaGreatQ24
set_option linter.unusedSimpArgs false
set_option linter.unusedVariables false
namespace Go.Proofs.YteagpbkbdlmdiaaGreat.Ek
open Go Go.RowKit Dt Tx Va Ev
attribute [local go_sem ↓] Go.wp_at_zero Go.wp_at_succ
theorem two_new (wo:World) (x y:Nd):Nine ((wo.alloc (no x)).alloc (no y)).drew wo.heap.size x∧Nine ((wo.alloc (no x)).alloc (no y)).drew (wo.heap.size+1) y∧Below wo.heap.size wo ((wo.alloc (no x)).alloc (no y)).drew:=by
 have b1:=ba wo (no x);have b2:=ba (wo.alloc (no x)) (no y)
 have n1:Nine (wo.alloc (no x)) wo.heap.size x:=heap_alloc_new wo _
 have n2:Nine ((wo.alloc (no x)).alloc (no y)) (wo.heap.size+1) y:=by have:=heap_alloc_new (wo.alloc (no x)) (no y);rw [World.size_alloc] at this;exact this
 exact ⟨(n1.below b2).below (drb _),n2.below (drb _),(bt b1 b2).drew⟩
theorem nine_zero {w:World} {i:Nat} {n:Nd} (h:Nine w i n):Nine (w.setCell ⟨i,8,none⟩ (.int .i64 0)) i {n with p:=0}:=by
 show _=_
 rw [heap_setCell_same w i 8 _ _ _ h];rfl
theorem nine_other {w:World} {i j:Nat} {n:Nd} (h:Nine w i n) (o:Nat) (v:Value) (ne:¬i=j):Nine (w.setCell ⟨j,o,none⟩ v) i n:=(heap_setCell_other _ ⟨j,o,none⟩ i _ ne).trans h
theorem arr_eq (d:Nat) (a0 a1 a2 b0 b1 b2:Int):∃ b:Bool,∀ w,(Op.equalIn (d+2) 37 (.agg #[.int .i64 a0,.int .i64 a1,.int .i64 a2]) (.agg #[.int .i64 b0,.int .i64 b1,.int .i64 b2])).run Tryz.prog w=.ok b w:=by
 have he:Tryz.prog.plainKey 3=true:=by kernel_rfl
 have hc:Tryz.prog.cellsOf 3=1:=by kernel_rfl
 have hp:∀ (xs:Array Value) (o:Nat) (v:Value) (w:World),xs[o]?=some v→(part 3 xs o).run Tryz.prog w=.ok v w:=fun xs o v w h=>run_part_plain w he h
 have hq:∀ (d:Nat) (a b:Int) (w:World),(Op.equalIn (d+1) 3 (.int .i64 a) (.int .i64 b)).run Tryz.prog w=.ok (a==b) w:=fun d a b w=>run_equalIn_int w d _ _ _ _ _ Tryz.underlying3
 obtain ⟨i,hi⟩:∃ i,Tryz.prog.info? 3=some i:=by
  have h:=intE.info
  change (Tryz.prog.info? 3).map _=_ at h
  cases e:Tryz.prog.info? 3 with
  | none=>rw [e] at h;cases h
  | some i=>exact ⟨i,rfl⟩
 refine ⟨(a0==b0) && ((a1==b1) && (a2==b2)),fun w=>?_⟩
 rw [run_equalIn_array w (d+1) _ _ Tryz.underlying37 hi,hc]
 simp only [show List.range 3=[0,1,2] from rfl,Op.eqItems,Sem.run_bind]
 rw [hp #[.int .i64 a0,.int .i64 a1,.int .i64 a2] (0*1) (.int .i64 a0) w rfl,Result.andThen_ok,hp #[.int .i64 b0,.int .i64 b1,.int .i64 b2] (0*1) (.int .i64 b0) w rfl,Result.andThen_ok,hq,Result.andThen_ok]
 cases a0==b0
 ·simp
 ·simp only [Bool.not_true,Bool.false_eq_true,if_false,Sem.run_bind]
  rw [hp #[.int .i64 a0,.int .i64 a1,.int .i64 a2] (1*1) (.int .i64 a1) w rfl,Result.andThen_ok,hp #[.int .i64 b0,.int .i64 b1,.int .i64 b2] (1*1) (.int .i64 b1) w rfl,Result.andThen_ok,hq,Result.andThen_ok]
  cases a1==b1
  ·simp
  ·simp only [Bool.not_true,Bool.false_eq_true,if_false,Sem.run_bind]
   rw [hp #[.int .i64 a0,.int .i64 a1,.int .i64 a2] (2*1) (.int .i64 a2) w rfl,Result.andThen_ok,hp #[.int .i64 b0,.int .i64 b1,.int .i64 b2] (2*1) (.int .i64 b2) w rfl,Result.andThen_ok,hq,Result.andThen_ok]
   cases a2==b2<;>simp
theorem any6 (b0 b1 b2 b3 b4 b5:Bool):b0=false∨(b0=true∧b1=false)∨(b0=true∧b1=true∧b2=false)∨(b0=true∧b1=true∧b2=true∧b3=false)∨(b0=true∧b1=true∧b2=true∧b3=true∧b4=false)∨(b0=true∧b1=true∧b2=true∧b3=true∧b4=true∧b5=false)∨(b0=true∧b1=true∧b2=true∧b3=true∧b4=true∧b5=true):=by
 cases b0;exact .inl rfl
 cases b1;exact .inr (.inl ⟨rfl,rfl⟩)
 cases b2;exact .inr (.inr (.inl ⟨rfl,rfl,rfl⟩))
 cases b3;exact .inr (.inr (.inr (.inl ⟨rfl,rfl,rfl,rfl⟩)))
 cases b4;exact .inr (.inr (.inr (.inr (.inl ⟨rfl,rfl,rfl,rfl,rfl⟩))))
 cases b5;exact .inr (.inr (.inr (.inr (.inr (.inl ⟨rfl,rfl,rfl,rfl,rfl,rfl⟩)))))
 exact .inr (.inr (.inr (.inr (.inr (.inr ⟨rfl,rfl,rfl,rfl,rfl,rfl⟩)))))
def BoolP (w:World) (e:Ending) (w':World):Prop:=∃ b:Bool,e=.returned (.bool b)∧Below w.heap.size w w'
set_option maxRecDepth 100000 in
set_option maxHeartbeats 4000000 in
theorem tsame_any {w:World} {va vb:Value} {t u:List Nd} (ha:ndE.Arg w va t) (hb:ndE.Arg w vb u) (hl:t.length≤1000):Calls Tryz.prog 46 #[va,vb,.bool true] w (BoolP w):=by
 obtain ⟨aa,ca,rfl,h1⟩:=argN ha
 obtain ⟨ab,cb,rfl,h2⟩:=argN hb
 have HA:=Lib.hid h1;have HB:=Lib.hid h2;have HL:=Lib.hid hl
 obtain ⟨N,hN⟩:∃ N,Hid (t.length=N):=⟨_,Lib.hid rfl⟩
 obtain ⟨M,hM⟩:∃ N,Hid (u.length=N):=⟨_,Lib.hid rfl⟩
 rw [hN.out,hM.out]
 clear ha hb h1 h2 hl
 by_cases hnm:N=M
 ·subst hnm
  have e1:(N !=N)=false:=by simp
  have e2:((N:Int) !=(N:Int))=false:=by simp
  have e3:decide (N=N)=true:=by simp
  go_enter Tryz.func46,Tryz.ntmps46
  go_wp2_with fail
  go_loopw [7] (fun i wr=>∃ (k:Nat),i=.int .i64 (k:Int)∧k≤N∧Hid (Below w.heap.size w wr)) (fun i _=>N - (intOf i).toNat)
  case atStart=>exact ⟨0,rfl,by omega,Below.refl _ _⟩
  case round=>
   obtain ⟨wo,rfl⟩:∃ wo:World,wo=wr:=⟨_,rfl⟩
   obtain ⟨k,rfl,hk,B⟩:=hrel
   by_cases hkl:k<N
   ·obtain ⟨x,hx⟩:∃ n,t[k]?=some n:=⟨_,List.getElem?_eq_getElem (by rw [hN.out];exact hkl)⟩
    obtain ⟨y,hy⟩:∃ n,u[k]?=some n:=⟨_,List.getElem?_eq_getElem (by rw [hM.out];exact hkl)⟩
    obtain ⟨ba,oa,rfl,la,a0,a1,a2,a3,a4,a5,a6,a7,a8⟩:=HA.out k x hx
    obtain ⟨bb,ob,rfl,lb,b0,b1,b2,b3,b4,b5,b6,b7,b8⟩:=HB.out k y hy
    have i0:(0:Int)≤(k:Int):=by omega
    have i1:(k:Int)<(N:Int):=by omega
    have i2:decide ((k:Int)<(N:Int))=true:=by simp;omega
    have i3:decide (k<N)=true:=by simpa using hkl
    have kw:IntKind.i64.wrap ((k:Int)+1)=(k:Int)+1:=wrap1 k (by have:=HL.out;have:=hN.out;omega)
    have kc:=fun {o:Nat} {v:Value} (h:w.cell? ⟨ba,o,none⟩=some v)=>(B.out.cell (p:=⟨ba,o,none⟩) la).trans h
    have kd:=fun {o:Nat} {v:Value} (h:w.cell? ⟨bb,o,none⟩=some v)=>(B.out.cell (p:=⟨bb,o,none⟩) lb).trans h
    replace a0:=kc a0;replace a1:=kc a1;replace a2:=kc a2;replace a3:=kc a3;replace a4:=kc a4;replace a5:=kc a5;replace a6:=kc a6;replace a7:=kc a7;replace a8:=kc a8
    replace b0:=kd b0;replace b1:=kd b1;replace b2:=kd b2;replace b3:=kd b3;replace b4:=kd b4;replace b5:=kd b5;replace b6:=kd b6;replace b7:=kd b7;replace b8:=kd b8
    have HK:=Lib.hid hkl
    have LA:=Lib.hid (Nat.lt_of_lt_of_le la B.out.size);have LB:=Lib.hid (Nat.lt_of_lt_of_le lb B.out.size)
    have SS:∀ w',Below wo.heap.size wo w'→(Below wo.heap.size wo w'∧w'.cell? ⟨ba,oa+k*9,none⟩=some (.int .u8 x.op)∧w'.cell? ⟨ba,oa+k*9+1,none⟩=some (.int .i64 x.c)∧w'.cell? ⟨ba,oa+k*9+2,none⟩=some (.int .i64 x.s)∧w'.cell? ⟨ba,oa+k*9+3,none⟩=some (.string (bs x.n))∧w'.cell? ⟨ba,oa+k*9+4,none⟩=some (.int .i64 x.k)∧w'.cell? ⟨ba,oa+k*9+5,none⟩=some (.int .i64 x.x)∧w'.cell? ⟨ba,oa+k*9+6,none⟩=some (.int .i64 x.y)∧w'.cell? ⟨ba,oa+k*9+7,none⟩=some (.int .i64 x.z)∧w'.cell? ⟨ba,oa+k*9+8,none⟩=some (.int .i64 x.p)∧w'.cell? ⟨bb,ob+k*9,none⟩=some (.int .u8 y.op)∧w'.cell? ⟨bb,ob+k*9+1,none⟩=some (.int .i64 y.c)∧w'.cell? ⟨bb,ob+k*9+2,none⟩=some (.int .i64 y.s)∧w'.cell? ⟨bb,ob+k*9+3,none⟩=some (.string (bs y.n))∧w'.cell? ⟨bb,ob+k*9+4,none⟩=some (.int .i64 y.k)∧w'.cell? ⟨bb,ob+k*9+5,none⟩=some (.int .i64 y.x)∧w'.cell? ⟨bb,ob+k*9+6,none⟩=some (.int .i64 y.y)∧w'.cell? ⟨bb,ob+k*9+7,none⟩=some (.int .i64 y.z)∧w'.cell? ⟨bb,ob+k*9+8,none⟩=some (.int .i64 y.p)):=fun w' hb=>
     have f:=fun {o:Nat} {v:Value} (h:wo.cell? ⟨ba,o,none⟩=some v)=>(hb.cell (p:=⟨ba,o,none⟩) LA.out).trans h
     have g:=fun {o:Nat} {v:Value} (h:wo.cell? ⟨bb,o,none⟩=some v)=>(hb.cell (p:=⟨bb,o,none⟩) LB.out).trans h
     ⟨hb,f a0,f a1,f a2,f a3,f a4,f a5,f a6,f a7,f a8,g b0,g b1,g b2,g b3,g b4,g b5,g b6,g b7,g b8⟩
    have HSS:=Lib.hid SS
    clear hk hkl hx hy kc kd la lb SS a0 a1 a2 a3 a4 a5 a6 a7 a8 b0 b1 b2 b3 b4 b5 b6 b7 b8
    go_upto_region 6 with fail
    go_cut [8,9] (fun p8 p9 wx=>∃ (i8 i9:Nat),p8=.pointer (some ⟨i8,0,none⟩)∧p9=.pointer (some ⟨i9,0,none⟩)∧Nine wx i8 x∧Nine wx i9 y∧i8 ≠ i9∧wo.heap.size≤i8∧wo.heap.size≤i9∧Below wo.heap.size wo wx)
    case first=>
     have mkS:=HSS.out
     have HS0:=mkS _ ((Below.refl _ _).drew)
     go_region_held3 (fun w'=>Below wo.heap.size wo w'∧w'.cell? ⟨ba,oa+k*9,none⟩=some (.int .u8 x.op)∧w'.cell? ⟨ba,oa+k*9+1,none⟩=some (.int .i64 x.c)∧w'.cell? ⟨ba,oa+k*9+2,none⟩=some (.int .i64 x.s)∧w'.cell? ⟨ba,oa+k*9+3,none⟩=some (.string (bs x.n))∧w'.cell? ⟨ba,oa+k*9+4,none⟩=some (.int .i64 x.k)∧w'.cell? ⟨ba,oa+k*9+5,none⟩=some (.int .i64 x.x)∧w'.cell? ⟨ba,oa+k*9+6,none⟩=some (.int .i64 x.y)∧w'.cell? ⟨ba,oa+k*9+7,none⟩=some (.int .i64 x.z)∧w'.cell? ⟨ba,oa+k*9+8,none⟩=some (.int .i64 x.p)∧w'.cell? ⟨bb,ob+k*9,none⟩=some (.int .u8 y.op)∧w'.cell? ⟨bb,ob+k*9+1,none⟩=some (.int .i64 y.c)∧w'.cell? ⟨bb,ob+k*9+2,none⟩=some (.int .i64 y.s)∧w'.cell? ⟨bb,ob+k*9+3,none⟩=some (.string (bs y.n))∧w'.cell? ⟨bb,ob+k*9+4,none⟩=some (.int .i64 y.k)∧w'.cell? ⟨bb,ob+k*9+5,none⟩=some (.int .i64 y.x)∧w'.cell? ⟨bb,ob+k*9+6,none⟩=some (.int .i64 y.y)∧w'.cell? ⟨bb,ob+k*9+7,none⟩=some (.int .i64 y.z)∧w'.cell? ⟨bb,ob+k*9+8,none⟩=some (.int .i64 y.p))
      (first | with_reducible exact HS0 | with_reducible assumption | (refine mkS _ ?_;(repeat (first | with_reducible exact And.left (by with_reducible assumption) | with_reducible exact Below.refl _ _ | refine Below.setCell ?_ (by first | omega | (simp only [World.size_alloc,hdrew];omega) | (simp<;>omega)) _ | refine Below.alloc ?_ (by first | omega | (simp only [World.size_alloc,hdrew];omega) | (simp<;>omega)) _ | refine Below.drew ?_))))
      (fail)
     all_goals
      dsimp only [Exit.then]
      refine ‹∀ (a':Act) (w':World),Met _ a' w'→_› _ _ ?_
      go_meet
     all_goals
      case rel=>first | exact ⟨_,_,rfl,rfl,(two_new wo x y).1,(two_new wo x y).2.1,by omega,by omega,by omega,(two_new wo x y).2.2⟩ | exact ⟨_,_,rfl,rfl,(two_new wo y x).2.1,(two_new wo y x).1,by omega,by omega,by omega,(two_new wo y x).2.2⟩
    case rest=>
     obtain ⟨i8,i9,rfl,rfl,X1,Y1,ne,L8,L9,Bc⟩:=hcut
     have ne':¬i9=i8:=fun e=>ne e.symm
     have f8:=X1.f 8;have f9:=Y1.f 8;have q8:=X1.c8;have q9:=Y1.c8
     have X2:=Lib.hid (nine_other (nine_zero X1) 8 (.int .i64 0) ne)
     have Y2:=Lib.hid (nine_zero (nine_other Y1 8 (.int .i64 0) ne'))
     have BW:=Lib.hid (bt B.out ((Bc.setCell (p:=⟨i8,8,none⟩) L8 (.int .i64 0)).setCell (p:=⟨i9,8,none⟩) L9 (.int .i64 0)))
     obtain ⟨W,hW⟩:∃ W,Hid ((wc.setCell ⟨i8,8,none⟩ (.int .i64 0)).setCell ⟨i9,8,none⟩ (.int .i64 0)=W):=⟨_,Lib.hid rfl⟩
     clear HSS X1 Y1 Bc L8 L9
     go_upto_region 9 with fail
     rw [hW.out]
     rw [hW.out] at X2 Y2 BW
     obtain ⟨SX,hSX⟩:∃ S,Hid (bs x.n=S):=⟨_,Lib.hid rfl⟩
     obtain ⟨SY,hSY⟩:∃ S,Hid (bs y.n=S):=⟨_,Lib.hid rfl⟩
     obtain ⟨x0,x1,x2,x3,x4,x5,x6,x7,x8⟩:=X2.out.cs
     obtain ⟨y0,y1,y2,y3,y4,y5,y6,y7,y8⟩:=Y2.out.cs
     dsimp only at x0 x1 x2 x3 x4 x5 x6 x7 x8 y0 y1 y2 y3 y4 y5 y6 y7 y8
     rw [hSX.out] at x3
     rw [hSY.out] at y3
     clear hW f8 f9 q8 q9 ne ne' X2 Y2 hSX hSY
     obtain ⟨eb,HE⟩:=arr_eq 9997 x.x x.y x.z y.x y.y y.z
     have HEB:∀ w,(Op.equalIn 9999 37 (.agg #[.int .i64 x.x,.int .i64 x.y,.int .i64 x.z]) (.agg #[.int .i64 y.x,.int .i64 y.y,.int .i64 y.z])).run Tryz.prog w=.ok eb w:=HE
     clear HE
     rcases any6 (x.op==y.op) (x.c==y.c) (x.s==y.s) (SX.toList==SY.toList) (x.k==y.k) eb with t0 | ⟨t0,t1⟩ | ⟨t0,t1,t2⟩ | ⟨t0,t1,t2,t3⟩ | ⟨t0,t1,t2,t3,t4⟩ | ⟨t0,t1,t2,t3,t4,rfl⟩ | ⟨t0,t1,t2,t3,t4,rfl⟩
     all_goals
      go_wp2_with fail
      first
      | (go_ret;exact ⟨_,rfl,BW.out⟩)
      | (go_roundw
         case rel=>exact ⟨k+1,rfl,by have:=HK.out;omega,BW.out⟩
         case measure=>show N - ((k:Int)+1).toNat<N - ((k:Int)).toNat;have:=HK.out;omega)
   ·have hke:k=N:=by omega
    subst hke
    have i2:decide ((k:Int)<(k:Int))=false:=by simp
    clear hkl hk
    go_wp2_with fail
    go_ret
    exact ⟨_,rfl,B.out⟩
 ·have e1:(N !=M)=true:=by simpa using hnm
  have e2:((N:Int) !=(M:Int))=true:=by simp;omega
  have e3:decide (N=M)=false:=decide_eq_false hnm
  clear hnm
  go_enter Tryz.func46,Tryz.ntmps46
  go_wp2_with fail
  go_ret
  exact ⟨_,rfl,Below.refl _ _⟩
end Go.Proofs.YteagpbkbdlmdiaaGreat.Ek
namespace Go.Proofs.YteagpbkbdlmdiaaGreat.Lx
open Go Dt Tx
def isLo (c:UInt8):Bool:=decide (97≤c.toNat) && decide (c.toNat≤122)
def isAl (c:UInt8):Bool:=isLo c || isDg c
def wh (p:UInt8→Bool) (l:List UInt8):Nat:=(l.takeWhile p).length
def ptB (l:List UInt8) (n:Nat):Bool:=decide (n+1<l.length) && (l[n]?==some 46) && (l[n+1]?).any isDg
def numL (l:List UInt8):Nat:=if ptB l (wh isDg l)=true then wh isDg l+1+wh isDg (l.drop (wh isDg l+1)) else wh isDg l
def oneS (c:UInt8):Bool:=[61,60,62,43,45,42,47,40,41,44].contains c
def twoS (l:List UInt8):Bool:=l.take 2==[60,61] || l.take 2==[62,61] || l.take 2==[60,62]
def sgnL (l:List UInt8):Nat:=if twoS l=true then 2 else if (l[0]?).any oneS=true then 1 else 0
structure Tok where
 k:Int
 t:List UInt8
 c:Int
 s:Int
 p:Int
deriving DecidableEq
def wordP (l:List UInt8) (p:Int):Tok × Int:=
 if (l[0]?).any isLo=true then (⟨1,l.take (wh isAl l),0,0,p⟩,if 12<wh isAl l then 4 else 0)
 else if (l[0]?).any isDg=true then (⟨2,l.take (numL l),(dparse (l.take (numL l))).1.1,(dparse (l.take (numL l))).1.2,p⟩,if (dparse (l.take (numL l))).2=3 then 4 else (dparse (l.take (numL l))).2)
 else if 0<sgnL l then (⟨3,l.take (sgnL l),0,0,p⟩,0)
 else (⟨0,[],0,0,p⟩,4)
def lexF (l:List UInt8):Nat→Nat→List Tok→List Tok × Int × Int
 | 0,_,acc=>(acc,0,0)
 | n+1,at_,acc=>
  match l[at_]? with
  | none=>(acc,0,0)
  | some x=>
   if x=32 then lexF l n (at_+1) acc
   else if (wordP (l.drop at_) (at_:Int)).2=0 then lexF l n (at_+(wordP (l.drop at_) (at_:Int)).1.t.length) (acc++[(wordP (l.drop at_) (at_:Int)).1])
   else ([],(at_:Int),(wordP (l.drop at_) (at_:Int)).2)
def lexP (l:List UInt8):List Tok × Int × Int:=if 400<l.length then ([],0,3) else lexF l l.length 0 []
theorem wh_le (p:UInt8→Bool) (l:List UInt8):wh p l≤l.length:=by unfold wh;exact (List.takeWhile_sublist p).length_le
theorem wh_pos {p:UInt8→Bool} {l:List UInt8} (h:(l[0]?).any p=true):0<wh p l:=by
 unfold wh
 cases l with
 | nil=>simp at h
 | cons x r=>simp at h;rw [List.takeWhile_cons,if_pos h];simp
theorem wh_before (p:UInt8→Bool):∀ (l:List UInt8) (i:Nat),i<wh p l→(l[i]?).any p=true
 | [],i,h=>by simp [wh] at h
 | x :: r,i,h=>by
  unfold wh at h
  rw [List.takeWhile_cons] at h
  split at h
  ·rename_i hx
   cases i with
   | zero=>simpa using hx
   | succ i=>
    simp only [List.length_cons] at h
    have:=wh_before p r i (by unfold wh;omega)
    simpa using this
  ·simp at h
theorem wh_at (p:UInt8→Bool):∀ (l:List UInt8),(l[wh p l]?).any p=false
 | []=>by simp [wh]
 | x :: r=>by
  unfold wh
  rw [List.takeWhile_cons]
  split
  ·have:=wh_at p r
   simp only [List.length_cons,List.getElem?_cons_succ]
   exact this
  ·rename_i hx
   simp only [List.length_nil,List.getElem?_cons_zero,Option.any_some]
   simpa using hx
theorem wh_eq {p:UInt8→Bool} {l:List UInt8} {k:Nat} (h1:∀ i,i<k→(l[i]?).any p=true) (h2:(l[k]?).any p=false):wh p l=k:=by
 rcases Nat.lt_trichotomy (wh p l) k with h | h | h
 ·have:=h1 _ h;rw [wh_at] at this;cases this
 ·exact h
 ·have:=wh_before p l k h;rw [h2] at this;cases this
theorem numL_le (l:List UInt8):numL l≤l.length:=by
 unfold numL
 split
 ·rename_i h
  unfold ptB at h
  simp only [Bool.and_eq_true,decide_eq_true_eq] at h
  have:=wh_le isDg (l.drop (wh isDg l+1))
  rw [List.length_drop] at this
  omega
 ·exact wh_le _ _
theorem numL_pos {l:List UInt8} (h:(l[0]?).any isDg=true):0<numL l:=by
 have:=wh_pos h
 unfold numL
 split<;>omega
theorem sgnL_le {l:List UInt8}:sgnL l≤l.length:=by
 unfold sgnL
 split
 ·rename_i h
  unfold twoS at h
  simp only [Bool.or_eq_true,beq_iff_eq] at h
  rcases Nat.lt_or_ge l.length 2 with k | k
  ·have:(l.take 2).length<2:=by rw [List.length_take];omega
   rcases h with (h | h) | h<;>(rw [h] at this;simp at this)
  ·exact k
 ·split
  ·rename_i h
   cases l with
   | nil=>simp at h
   | cons x r=>simp
  ·omega
theorem word_len {l:List UInt8} {p:Int} (h:(wordP l p).2=0):0<(wordP l p).1.t.length∧(wordP l p).1.t=l.take (wordP l p).1.t.length∧(wordP l p).1.t.length≤l.length:=by
 unfold wordP at h⊢
 have key:∀ n,n≤l.length→0<n→0<(l.take n).length∧l.take n=l.take (l.take n).length∧(l.take n).length≤l.length:=fun n h1 h2=>by
  rw [List.length_take,Nat.min_eq_left h1];exact ⟨h2,rfl,h1⟩
 split at h
 ·rename_i c1
  rw [if_pos c1]
  refine key _ (wh_le _ _) (wh_pos ?_)
  cases hx:l[0]? with
  | none=>rw [hx] at c1;simp at c1
  | some x=>rw [hx] at c1;simp only [Option.any_some] at c1⊢;unfold isAl;rw [c1];rfl
 ·rename_i c1
  rw [if_neg c1]
  split at h
  ·rename_i c2
   rw [if_pos c2]
   exact key _ (numL_le _) (numL_pos c2)
  ·rename_i c2
   rw [if_neg c2]
   split at h
   ·rename_i c3
    rw [if_pos c3]
    exact key _ sgnL_le c3
   ·simp at h
theorem lexF_more (l:List UInt8):∀ (n m at_:Nat) (acc:List Tok),l.length - at_≤n→l.length - at_≤m→lexF l n at_ acc=lexF l m at_ acc
 | 0,0,_,_,_,_=>rfl
 | 0,m+1,at_,acc,h,_=>by
  have:l[at_]?=none:=List.getElem?_eq_none (by omega)
  simp [lexF,this]
 | n+1,0,at_,acc,_,h=>by
  have:l[at_]?=none:=List.getElem?_eq_none (by omega)
  simp [lexF,this]
 | n+1,m+1,at_,acc,h1,h2=>by
  simp only [lexF]
  cases hx:l[at_]? with
  | none=>rfl
  | some x=>
   have hlt:=(List.getElem?_eq_some_iff.1 hx).1
   simp only
   split
   ·exact lexF_more l n m (at_+1) acc (by omega) (by omega)
   ·split
    ·rename_i hw
     have:=(word_len hw).1
     exact lexF_more l n m _ _ (by omega) (by omega)
    ·rfl
def lexR (l:List UInt8) (at_:Nat) (acc:List Tok):List Tok × Int × Int:=lexF l (l.length - at_) at_ acc
theorem lexR_done {l:List UInt8} {at_:Nat} {acc:List Tok} (h:l[at_]?=none):lexR l at_ acc=(acc,0,0):=by
 have:l.length - at_=0:=by have:=List.getElem?_eq_none_iff.1 h;omega
 unfold lexR;rw [this];rfl
theorem lexR_blank {l:List UInt8} {at_:Nat} {acc:List Tok} (h:l[at_]?=some 32):lexR l at_ acc=lexR l (at_+1) acc:=by
 have hlt:=(List.getElem?_eq_some_iff.1 h).1
 unfold lexR
 rw [show l.length - at_=(l.length - (at_+1))+1 by omega]
 simp only [lexF,h,if_true]
theorem lexR_word {l:List UInt8} {at_:Nat} {acc:List Tok} {x:UInt8} (h:l[at_]?=some x) (hx:x ≠ 32) (hw:(wordP (l.drop at_) (at_:Int)).2=0) :
  lexR l at_ acc=lexR l (at_+(wordP (l.drop at_) (at_:Int)).1.t.length) (acc++[(wordP (l.drop at_) (at_:Int)).1]):=by
 have hlt:=(List.getElem?_eq_some_iff.1 h).1
 have:=(word_len hw).1
 unfold lexR
 rw [show l.length - at_=(l.length - (at_+1))+1 by omega]
 simp only [lexF,h,if_neg hx,hw,if_true]
 exact lexF_more l _ _ _ _ (by omega) (by omega)
theorem lexR_bad {l:List UInt8} {at_:Nat} {acc:List Tok} {x:UInt8} (h:l[at_]?=some x) (hx:x ≠ 32) (hw:¬(wordP (l.drop at_) (at_:Int)).2=0) :
  lexR l at_ acc=([],(at_:Int),(wordP (l.drop at_) (at_:Int)).2):=by
 have hlt:=(List.getElem?_eq_some_iff.1 h).1
 unfold lexR
 rw [show l.length - at_=(l.length - (at_+1))+1 by omega]
 simp only [lexF,h,if_neg hx,hw,if_false]
theorem lexP_eq {l:List UInt8} (h:l.length≤400):lexP l=lexR l 0 []:=by unfold lexP lexR;rw [if_neg (by omega)];rfl
end Go.Proofs.YteagpbkbdlmdiaaGreat.Lx
namespace Go.Proofs.YteagpbkbdlmdiaaGreat.Lx
open Go Go.RowKit Dt Tx
attribute [local go_sem ↓] Go.wp_at_zero Go.wp_at_succ
theorem small_is (c:UInt8) (w:World):Calls Tryz.prog 97 #[.int .u8 (c.toNat:Int)] w fun e w'=>e=.returned (.bool (isLo c))∧w'=w:=by
 unfold isLo
 obtain ⟨n,hn⟩:∃ n,Hid (c.toNat=n):=⟨_,rfl⟩
 rw [hn.out]
 by_cases h1:97≤n
 ·by_cases h2:n≤122
  ·have d1:decide ((97:Int)≤(n:Int))=true:=by simp;omega
   have d2:decide ((n:Int)≤122)=true:=by simp;omega
   go_enter Tryz.func97,Tryz.ntmps97
   go_wp2_with fail
   go_ret
   exact ⟨by simp [h1,h2],rfl⟩
  ·have d1:decide ((97:Int)≤(n:Int))=true:=by simp;omega
   have d2:decide ((n:Int)≤122)=false:=by simp;omega
   go_enter Tryz.func97,Tryz.ntmps97
   go_wp2_with fail
   go_ret
   exact ⟨by simp [h1,h2],rfl⟩
 ·have d1:decide ((97:Int)≤(n:Int))=false:=by simp;omega
  go_enter Tryz.func97,Tryz.ntmps97
  go_wp2_with fail
  go_ret
  exact ⟨by simp [h1],rfl⟩
theorem rdigit_is (c:UInt8) (w:World):Calls Tryz.prog 98 #[.int .u8 (c.toNat:Int)] w fun e w'=>e=.returned (.bool (isDg c))∧w'=w:=by
 unfold isDg
 obtain ⟨n,hn⟩:∃ n,Hid (c.toNat=n):=⟨_,rfl⟩
 rw [hn.out]
 by_cases h1:48≤n
 ·by_cases h2:n≤57
  ·have d1:decide ((48:Int)≤(n:Int))=true:=by simp;omega
   have d2:decide ((n:Int)≤57)=true:=by simp;omega
   go_enter Tryz.func98,Tryz.ntmps98
   go_wp2_with fail
   go_ret
   exact ⟨by simp [h1,h2],rfl⟩
  ·have d1:decide ((48:Int)≤(n:Int))=true:=by simp;omega
   have d2:decide ((n:Int)≤57)=false:=by simp;omega
   go_enter Tryz.func98,Tryz.ntmps98
   go_wp2_with fail
   go_ret
   exact ⟨by simp [h1,h2],rfl⟩
 ·have d1:decide ((48:Int)≤(n:Int))=false:=by simp;omega
  go_enter Tryz.func98,Tryz.ntmps98
  go_wp2_with fail
  go_ret
  exact ⟨by simp [h1],rfl⟩
theorem slice_both (l:List UInt8) (i k:Nat) (hi:i≤k) (hk:k≤l.length) (w:World):(Instr.slice 9 (.string (bs l)) (some (.int .i64 (i:Int))) (some (.int .i64 (k:Int))) none).run Tryz.prog w=.ok (.string (bs ((l.drop i).take (k - i)))) w:=by
 rw [run_slice_string (P:=Tryz.prog) w 9 (bs l) .i64 .i64 (i:Int) (k:Int) Tryz.underlying9 (by omega) (by omega) (by rw [bs_size];omega)]
 rw [slice_lo,Int.toNat_natCast,Int.toNat_natCast]
theorem wrap_one (a:Nat) (h:a≤1000000):IntKind.i64.wrap ((a:Int)+1)=(a:Int)+1:=by
 rw [IntWalk.i64_left,IntWalk.wrap64_in _ (by omega)]
end Go.Proofs.YteagpbkbdlmdiaaGreat.Lx
namespace Go.Proofs.YteagpbkbdlmdiaaGreat.Lx
open Go Go.RowKit Dt Tx
attribute [local go_sem ↓] Go.wp_at_zero Go.wp_at_succ
def Five (w:World) (b:Nat) (k:Int) (t:ByteArray) (c s p:Int):Prop:=w.heap[b]?=some (.cells #[.int .u8 k,.string t,.int .i64 c,.int .i64 s,.int .i64 p] 119 (0,0))
section
variable {w:World} {b:Nat} {k c s p:Int} {t:ByteArray}
theorem Five.lt (h:Five w b k t c s p):b<w.heap.size:=(Array.getElem?_eq_some_iff.1 h).1
theorem Five.c0 (h:Five w b k t c s p):w.cell? ⟨b,0,none⟩=some (.int .u8 k):=by rw [cell_of_row w _ _ _ _ (0,0) h];rfl
theorem Five.c1 (h:Five w b k t c s p):w.cell? ⟨b,1,none⟩=some (.string t):=by rw [cell_of_row w _ _ _ _ (0,0) h];rfl
theorem Five.c2 (h:Five w b k t c s p):w.cell? ⟨b,2,none⟩=some (.int .i64 c):=by rw [cell_of_row w _ _ _ _ (0,0) h];rfl
theorem Five.c3 (h:Five w b k t c s p):w.cell? ⟨b,3,none⟩=some (.int .i64 s):=by rw [cell_of_row w _ _ _ _ (0,0) h];rfl
theorem Five.c4 (h:Five w b k t c s p):w.cell? ⟨b,4,none⟩=some (.int .i64 p):=by rw [cell_of_row w _ _ _ _ (0,0) h];rfl
theorem Five.f (h:Five w b k t c s p) (i:Nat):w.frozen? ⟨b,i,none⟩=false:=frozen_of_row w _ _ _ _ h
theorem Five.below {w':World} (h:Five w b k t c s p) (q:Below w.heap.size w w'):Five w' b k t c s p:=(q.block b h.lt).trans h
theorem Five.new (w:World) (k:Int) (t:ByteArray) (c s p:Int):Five (w.alloc (.cells #[.int .u8 k,.string t,.int .i64 c,.int .i64 s,.int .i64 p] 119)) w.heap.size k t c s p:=by
 show (w.heap.push _)[w.heap.size]?=_
 rw [Array.getElem?_push_size]
theorem Five.s0 (h:Five w b k t c s p) (x:Int):Five (w.setCell ⟨b,0,none⟩ (.int .u8 x)) b x t c s p:=by show _=_;rw [heap_setCell_same w b 0 _ _ _ h];rfl
theorem Five.s1 (h:Five w b k t c s p) (x:ByteArray):Five (w.setCell ⟨b,1,none⟩ (.string x)) b k x c s p:=by show _=_;rw [heap_setCell_same w b 1 _ _ _ h];rfl
theorem Five.s2 (h:Five w b k t c s p) (x:Int):Five (w.setCell ⟨b,2,none⟩ (.int .i64 x)) b k t x s p:=by show _=_;rw [heap_setCell_same w b 2 _ _ _ h];rfl
theorem Five.s3 (h:Five w b k t c s p) (x:Int):Five (w.setCell ⟨b,3,none⟩ (.int .i64 x)) b k t c x p:=by show _=_;rw [heap_setCell_same w b 3 _ _ _ h];rfl
theorem Five.s4 (h:Five w b k t c s p) (x:Int):Five (w.setCell ⟨b,4,none⟩ (.int .i64 x)) b k t c s x:=by show _=_;rw [heap_setCell_same w b 4 _ _ _ h];rfl
theorem Five.set (h:Five w b k t c s p) (k':Int) (t':ByteArray) (c' s' p':Int):Five (((((w.setCell ⟨b,0,none⟩ (.int .u8 k')).setCell ⟨b,1,none⟩ (.string t')).setCell ⟨b,2,none⟩ (.int .i64 c')).setCell ⟨b,3,none⟩ (.int .i64 s')).setCell ⟨b,4,none⟩ (.int .i64 p')) b k' t' c' s' p':=
 ((((h.s0 k').s1 t').s2 c').s3 s').s4 p'
end
theorem word_lo {l:List UInt8} {p:Int} (h:(l[0]?).any isLo=true):wordP l p=(⟨1,l.take (wh isAl l),0,0,p⟩,if 12<wh isAl l then 4 else 0):=by unfold wordP;rw [if_pos h]
theorem word_dg {l:List UInt8} {p:Int} (h:(l[0]?).any isLo=false) (h2:(l[0]?).any isDg=true):wordP l p=(⟨2,l.take (numL l),(dparse (l.take (numL l))).1.1,(dparse (l.take (numL l))).1.2,p⟩,if (dparse (l.take (numL l))).2=3 then 4 else (dparse (l.take (numL l))).2):=by
 unfold wordP;rw [h,h2];rfl
theorem word_sg {l:List UInt8} {p:Int} (h:(l[0]?).any isLo=false) (h2:(l[0]?).any isDg=false) (h3:0<sgnL l):wordP l p=(⟨3,l.take (sgnL l),0,0,p⟩,0):=by
 unfold wordP;rw [h,h2];simp [h3]
theorem word_no {l:List UInt8} {p:Int} (h:(l[0]?).any isLo=false) (h2:(l[0]?).any isDg=false) (h3:¬0<sgnL l):wordP l p=(⟨0,[],0,0,p⟩,4):=by
 unfold wordP;rw [h,h2];simp [h3]
end Go.Proofs.YteagpbkbdlmdiaaGreat.Lx
namespace Go.Proofs.YteagpbkbdlmdiaaGreat.Lx
open Go Go.RowKit Dt Tx
attribute [local go_sem ↓] Go.wp_at_zero Go.wp_at_succ
def tokE:Elem Tryz.prog Tok where
 sl:=85
 e:=119
 sz:=5
 bytes:=48
 z:=.agg #[.int .u8 0,.string ⟨#[]⟩,.int .i64 0,.int .i64 0,.int .i64 0]
 enc:=fun x=>[.int .u8 x.k,.string (bs x.t),.int .i64 x.c,.int .i64 x.s,.int .i64 x.p]
 und:=Tryz.underlying85
 info:=by kernel_rfl
 zs:=rfl
 pos:=by decide
 len:=fun _=>rfl
 one:=fun x u hu=>by simp only [List.mem_cons,List.not_mem_nil,or_false] at hu;rcases hu with rfl | rfl | rfl | rfl | rfl<;>rfl
def LexPost (r:List Tok × Int × Int) (w:World) (e:Ending) (w':World):Prop:=∃ v,e=.returned (.tuple #[v,.int .i64 r.2.1,.int .i64 r.2.2])∧tokE.Arg w' v r.1∧Below w.heap.size w w'
theorem word_at (l:List UInt8) (p:Int):wordP l p=(⟨(wordP l 0).1.k,(wordP l 0).1.t,(wordP l 0).1.c,(wordP l 0).1.s,p⟩,(wordP l 0).2):=by
 unfold wordP
 split
 ·rfl
 ·split
  ·rfl
  ·split<;>rfl
theorem lex_step {l:List UInt8} {at_:Nat} {acc:List Tok} {x:UInt8} (h:l[at_]?=some x) (hx:x ≠ 32) {k c s p e:Int} {t:List UInt8} (hw:wordP (l.drop at_) 0=(⟨k,t,c,s,p⟩,e)) :
  (e=0→lexR l at_ acc=lexR l (at_+t.length) (acc++[⟨k,t,c,s,(at_:Int)⟩])∧0<t.length∧t.length≤l.length - at_)∧(¬e=0→lexR l at_ acc=([],(at_:Int),e)):=by
 have hwk:=word_at (l.drop at_) (at_:Int)
 rw [hw] at hwk
 simp only at hwk
 constructor
 ·rintro rfl
  have h1:=lexR_word (acc:=acc) h hx (by rw [hwk])
  have h2:=word_len (l:=l.drop at_) (p:=(at_:Int)) (by rw [hwk])
  rw [hwk] at h1 h2
  simp only at h1 h2
  rw [List.length_drop] at h2
  exact ⟨h1,h2.1,h2.2.2⟩
 ·intro he
  have h1:=lexR_bad (acc:=acc) h hx (by rw [hwk];exact he)
  rw [hwk] at h1
  exact h1
end Go.Proofs.YteagpbkbdlmdiaaGreat.Lx
namespace Go.Proofs.YteagpbkbdlmdiaaGreat.Lx
set_option maxRecDepth 100000
set_option maxHeartbeats 2000000
open Go Go.RowKit Dt Tx
attribute [local go_sem ↓] Go.wp_at_zero Go.wp_at_succ
def endL (l:List UInt8):Nat:=if (l[0]?).any isLo=true then wh isAl l else if (l[0]?).any isDg=true then numL l else sgnL l
theorem wh_drop {p:UInt8→Bool} {l:List UInt8} {a q:Nat} (ha:a≤q) (h1:∀ r,a≤r→r<q→(l[r]?).any p=true) (h2:(l[q]?).any p=false):wh p (l.drop a)=q - a:=by
 refine wh_eq (fun i hi=>?_) ?_
 ·rw [List.getElem?_drop];exact h1 _ (by omega) (by omega)
 ·rw [List.getElem?_drop,show a+(q - a)=q by omega];exact h2
def EndPost (n:Nat) (w:World) (e:Ending) (w':World):Prop:=e=.returned (.int .i64 (n:Int))∧w'=w
theorem wrap1 (a:Nat) (h:a≤1000000):IntKind.i64.wrap ((a:Int)+1)=(a:Int)+1:=wrap_one a h
theorem end_lo {w:World} (l:List UInt8) (hl:l.length≤1000) (a:Nat) (x:UInt8) (hx:l[a]?=some x) (h:isLo x=true):Calls Tryz.prog 96 #[.string (bs l),.int .i64 (a:Int)] w (EndPost (a+wh isAl (l.drop a)) w):=by
 have hz:(bs l).size=l.length:=bs_size l
 have hlt:=(List.getElem?_eq_some_iff.1 hx).1
 have kc:=at_byte l a x hx
 have SM:=fun w=>small_is x w
 have DG:=fun w=>rdigit_is x w
 have i0:(0:Int)≤(a:Int):=by omega
 obtain ⟨N,hN⟩:∃ N,Hid (l.length=N):=⟨_,rfl⟩
 rw [hN.out] at hz hl hlt
 obtain ⟨S,hS⟩:∃ S,Hid (bs l=S):=⟨_,rfl⟩
 rw [hS.out] at hz kc⊢
 have HL:=Lib.hid hl
 rw [h] at SM
 obtain ⟨y,hy⟩:∃ y,Hid (x.toNat=y):=⟨_,rfl⟩
 rw [hy.out] at SM kc
 have HLT:=Lib.hid hlt
 clear hx h hy hl DG hlt
 go_enter Tryz.func96,Tryz.ntmps96
 go_wp2_with (go_at_call 97;(with_reducible refine (SM _).mono ?_);rintro e1 w1 ⟨rfl,hq⟩;obtain rfl:=hq.symm;clear SM)
 go_loopw [5] (fun i wr=>∃ q:Nat,i=.int .i64 (q:Int)∧q≤N∧Hid (a≤q)∧Hid (∀ r,a≤r→r<q→(l[r]?).any isAl=true)∧Hid (wr=w)) (fun i _=>N - (intOf i).toNat)
 case atStart=>exact ⟨a,rfl,Nat.le_of_lt HLT.out,Nat.le_refl _,fun r h1 h2=>absurd h2 (by omega),rfl⟩
 case round=>
  obtain ⟨q,rfl,hq,HA,HB,HW⟩:=hrel
  obtain rfl:=HW.out.symm
  by_cases hql:q<N
  ·obtain ⟨c,hc⟩:∃ c,l[q]?=some c:=⟨_,List.getElem?_eq_getElem (by rw [hN.out];exact hql)⟩
   have kq:=at_byte l q c hc
   rw [hS.out] at kq
   have j0:(0:Int)≤(q:Int):=by omega
   have j1:decide ((q:Int)<(N:Int))=true:=by simp;omega
   have S2:=fun w=>small_is c w
   have D2:=fun w=>rdigit_is c w
   have kw:IntKind.i64.wrap ((q:Int)+1)=(q:Int)+1:=wrap1 q (by have:=HL.out;omega)
   have HQ:=Lib.hid hql
   have HC:=Lib.hid hc
   obtain ⟨z,hzz⟩:∃ y,Hid (c.toNat=y):=⟨_,rfl⟩
   rw [hzz.out] at S2 D2 kq
   have key:isAl c=true→Hid (∀ r,a≤r→r<q+1→(l[r]?).any isAl=true):=fun hcl r h1 h2=>by
    rcases Nat.lt_or_ge r q with h | h
    ·exact HB.out r h1 h
    ·have:r=q:=by omega
     subst this;rw [HC.out];exact hcl
   cases h1:isLo c
   ·rw [h1] at S2
    cases h2:isDg c
    ·rw [h2] at D2
     have E:=Lib.hid (wh_drop HA.out HB.out (by rw [hc];show isAl c=false;unfold isAl;rw [h1,h2];rfl))
     clear hc hql hq key h1 h2 hzz
     go_wp2_with (first | (go_at_call 97;(with_reducible refine (S2 _).mono ?_);rintro e1 w1 ⟨rfl,hq⟩;obtain rfl:=hq.symm;clear S2) | (go_at_call 98;(with_reducible refine (D2 _).mono ?_);rintro e2 w2 ⟨rfl,hq⟩;obtain rfl:=hq.symm;clear D2))
     go_ret
     refine ⟨?_,rfl⟩
     rw [E.out,show a+(q - a)=q by have:=HA.out;omega];rfl
    ·rw [h2] at D2
     have K:=key (by unfold isAl;rw [h1,h2];rfl)
     clear hc hql hq key h1 h2 hzz HB
     go_wp2_with (first | (go_at_call 97;(with_reducible refine (S2 _).mono ?_);rintro e1 w1 ⟨rfl,hq⟩;obtain rfl:=hq.symm;clear S2) | (go_at_call 98;(with_reducible refine (D2 _).mono ?_);rintro e2 w2 ⟨rfl,hq⟩;obtain rfl:=hq.symm;clear D2))
     refine ⟨⟨q+1,rfl,HQ.out,Nat.le_succ_of_le HA.out,K,by first | exact rfl | exact (trivial:True)⟩,?_⟩
     show N - ((q:Int)+1).toNat<N - (q:Int).toNat
     have:=HQ.out;omega
   ·rw [h1] at S2
    have K:=key (by unfold isAl;rw [h1];rfl)
    clear hc hql hq key h1 hzz D2 HB
    go_wp2_with (first | (go_at_call 97;(with_reducible refine (S2 _).mono ?_);rintro e1 w1 ⟨rfl,hq⟩;obtain rfl:=hq.symm;clear S2))
    refine ⟨⟨q+1,rfl,HQ.out,Nat.le_succ_of_le HA.out,K,by first | exact rfl | exact (trivial:True)⟩,?_⟩
    show N - ((q:Int)+1).toNat<N - (q:Int).toNat
    have:=HQ.out;omega
  ·have hqN:q=N:=by omega
   subst hqN
   have E:=Lib.hid (wh_drop HA.out HB.out (by rw [List.getElem?_eq_none (by rw [hN.out];exact Nat.le_refl _)];rfl))
   clear hql hq HB
   go_wp2_with fail
   go_ret
   refine ⟨?_,rfl⟩
   rw [E.out,show a+(q - a)=q by have:=HA.out;omega];rfl
theorem pt_drop (l:List UInt8) (a q:Nat) (ha:a≤q):ptB (l.drop a) (q - a)=(decide (q+1<l.length) && (l[q]?==some 46) && (l[q+1]?).any isDg):=by
 unfold ptB
 rw [List.length_drop,List.getElem?_drop,List.getElem?_drop,show a+(q - a)=q by omega,show a+(q - a+1)=q+1 by omega]
 congr 2
 rw [decide_eq_decide];omega
theorem num_drop (l:List UInt8) (a q:Nat) (ha:a≤q) (h:wh isDg (l.drop a)=q - a):a+numL (l.drop a)=if (decide (q+1<l.length) && (l[q]?==some 46) && (l[q+1]?).any isDg)=true then q+1+wh isDg (l.drop (q+1)) else q:=by
 unfold numL
 rw [h,pt_drop l a q ha,List.drop_drop,show a+(q - a+1)=q+1 by omega]
 split<;>omega
theorem end_dg {w:World} (l:List UInt8) (hl:l.length≤1000) (a:Nat) (x:UInt8) (hx:l[a]?=some x) (h:isLo x=false) (h2:isDg x=true):Calls Tryz.prog 96 #[.string (bs l),.int .i64 (a:Int)] w (EndPost (a+numL (l.drop a)) w):=by
 have hz:(bs l).size=l.length:=bs_size l
 have hlt:=(List.getElem?_eq_some_iff.1 hx).1
 have kc:=at_byte l a x hx
 have SM:=fun w=>small_is x w
 have DG:=fun w=>rdigit_is x w
 have i0:(0:Int)≤(a:Int):=by omega
 obtain ⟨N,hN⟩:∃ N,Hid (l.length=N):=⟨_,rfl⟩
 rw [hN.out] at hz hl hlt
 obtain ⟨S,hS⟩:∃ S,Hid (bs l=S):=⟨_,rfl⟩
 rw [hS.out] at hz kc⊢
 have HL:=Lib.hid hl
 rw [h] at SM
 rw [h2] at DG
 obtain ⟨y,hy⟩:∃ y,Hid (x.toNat=y):=⟨_,rfl⟩
 rw [hy.out] at SM DG kc
 have HLT:=Lib.hid hlt
 clear hx h h2 hy hl hlt
 go_enter Tryz.func96,Tryz.ntmps96
 go_wp2_with (first | (go_at_call 97;(with_reducible refine (SM _).mono ?_);rintro e1 w1 ⟨rfl,hq⟩;obtain rfl:=hq.symm;clear SM) | (go_at_call 98;(with_reducible refine (DG _).mono ?_);rintro e2 w2 ⟨rfl,hq⟩;obtain rfl:=hq.symm;clear DG))
 go_loopw [5] (fun i wr=>∃ q:Nat,i=.int .i64 (q:Int)∧q≤N∧Hid (a≤q)∧Hid (∀ r,a≤r→r<q→(l[r]?).any isDg=true)∧Hid (wr=w)) (fun i _=>N - (intOf i).toNat)
 case atStart=>exact ⟨a,rfl,Nat.le_of_lt HLT.out,Nat.le_refl _,fun r h1 h2=>absurd h2 (by omega),rfl⟩
 case round=>
  obtain ⟨q,rfl,hq,HA,HB,HW⟩:=hrel
  obtain rfl:=HW.out.symm
  have fin:(l[q]?).any isDg=false→Hid (a+numL (l.drop a)=if (decide (q+1<l.length) && (l[q]?==some 46) && (l[q+1]?).any isDg)=true then q+1+wh isDg (l.drop (q+1)) else q):=fun hq=>Lib.hid (num_drop l a q HA.out (wh_drop HA.out HB.out hq))
  rw [hN.out] at fin
  by_cases hql:q<N
  ·obtain ⟨c,hc⟩:∃ c,l[q]?=some c:=⟨_,List.getElem?_eq_getElem (by rw [hN.out];exact hql)⟩
   have kq:=at_byte l q c hc
   rw [hS.out] at kq
   have j0:(0:Int)≤(q:Int):=by omega
   have j1:decide ((q:Int)<(N:Int))=true:=by simp;omega
   have D2:=fun w=>rdigit_is c w
   have kw:IntKind.i64.wrap ((q:Int)+1)=(q:Int)+1:=wrap1 q (by have:=HL.out;omega)
   have HQ:=Lib.hid hql
   have HC:=Lib.hid hc
   obtain ⟨z,hzz⟩:∃ y,Hid (c.toNat=y):=⟨_,rfl⟩
   rw [hzz.out] at D2 kq
   cases h2:isDg c
   ·rw [h2] at D2
    have F:=fin (by rw [hc];exact h2)
    rw [hc] at F
    by_cases p1:q+1<N
    ·have j2:decide ((q:Int)+1<(N:Int))=true:=by simp;omega
     obtain ⟨d,hd⟩:∃ c,l[q+1]?=some c:=⟨_,List.getElem?_eq_getElem (by rw [hN.out];exact p1)⟩
     have kd:∀ w,(Instr.index 9 (.string (bs l)) (.int .i64 ((q:Int)+1))).run Tryz.prog w=.ok (.int .u8 (d.toNat:Int)) w:=at_byte l (q+1) d hd
     rw [hS.out] at kd
     have j3:(0:Int)≤(q:Int)+1:=by omega
     by_cases p2:c=46
     ·subst p2
      have hz46:z=46:=hzz.out.symm
      have t1:((z:Int)==46)=true:=by simp;omega
      have t2:decide ((z:Int)=46)=true:=by simp;omega
      have t3:decide (z=46)=true:=by simpa using hz46
      have D3:=fun w=>rdigit_is d w
      obtain ⟨zd,hzd⟩:∃ y,Hid (d.toNat=y):=⟨_,rfl⟩
      rw [hzd.out] at D3 kd
      cases h3:isDg d
      ·rw [h3] at D3
       have E:Hid (a+numL (l.drop a)=q):=Lib.hid (by rw [F.out,if_neg (by rw [hd];simp [h3])])
       clear hc hql hq h2 h3 hd hzd fin F p1 HB hz46 hzz HC
       go_wp2_with (first | (go_at_call 98;(with_reducible refine (D2 _).mono ?_);rintro e2 w2 ⟨rfl,hq⟩;obtain rfl:=hq.symm;clear D2) | (go_at_call 98;(with_reducible refine (D3 _).mono ?_);rintro e2 w2 ⟨rfl,hq⟩;obtain rfl:=hq.symm;clear D3))
       go_ret
       exact ⟨by rw [E.out];rfl,rfl⟩
      ·rw [h3] at D3
       have E:Hid (a+numL (l.drop a)=q+1+wh isDg (l.drop (q+1))):=Lib.hid (by rw [F.out,if_pos (by rw [hd];simp [h3,p1])])
       have HP:=Lib.hid p1
       clear hc hql hq h2 h3 hd hzd fin F p1 HB hz46 hzz HC
       go_wp2_with (first | (go_at_call 98;(with_reducible refine (D2 _).mono ?_);rintro e2 w2 ⟨rfl,hq⟩;obtain rfl:=hq.symm;clear D2) | (go_at_call 98;(with_reducible refine (D3 _).mono ?_);rintro e2 w2 ⟨rfl,hq⟩;obtain rfl:=hq.symm;clear D3))
       go_loopw [5] (fun i wr=>∃ r:Nat,i=.int .i64 (r:Int)∧r≤N∧Hid (q+1≤r)∧Hid (∀ s,q+1≤s→s<r→(l[s]?).any isDg=true)∧Hid (wr=w)) (fun i _=>N - (intOf i).toNat)
       case atStart=>exact ⟨q+1,rfl,Nat.le_of_lt HP.out,Nat.le_refl _,fun r h1 h2=>absurd h2 (by omega),by first | exact rfl | exact (trivial:True)⟩
       case round=>
        obtain ⟨r,rfl,hr,HA3,HB3,HW3⟩:=hrel
        obtain rfl:=HW3.out.symm
        by_cases hrl:r<N
        ·obtain ⟨c3,hc3⟩:∃ c,l[r]?=some c:=⟨_,List.getElem?_eq_getElem (by rw [hN.out];exact hrl)⟩
         have kr:=at_byte l r c3 hc3
         rw [hS.out] at kr
         have r0:(0:Int)≤(r:Int):=by omega
         have r1:decide ((r:Int)<(N:Int))=true:=by simp;omega
         have D4:=fun w=>rdigit_is c3 w
         have kw3:IntKind.i64.wrap ((r:Int)+1)=(r:Int)+1:=wrap1 r (by have:=HL.out;omega)
         have HQ3:=Lib.hid hrl
         have HC3:=Lib.hid hc3
         obtain ⟨z3,hz3⟩:∃ y,Hid (c3.toNat=y):=⟨_,rfl⟩
         rw [hz3.out] at D4 kr
         cases h4:isDg c3
         ·rw [h4] at D4
          have E3:=Lib.hid (wh_drop HA3.out HB3.out (by rw [hc3];exact h4))
          clear hc3 hrl hr h4 hz3 HB3
          go_wp2_with (first | (go_at_call 98;(with_reducible refine (D4 _).mono ?_);rintro e2 w2 ⟨rfl,hq⟩;obtain rfl:=hq.symm;clear D4))
          go_ret
          exact ⟨by rw [E.out,E3.out,show q+1+(r - (q+1))=r by have:=HA3.out;omega];rfl,by first | exact rfl | exact (trivial:True)⟩
         ·rw [h4] at D4
          have K3:Hid (∀ s,q+1≤s→s<r+1→(l[s]?).any isDg=true):=fun s h1 h2=>by
           rcases Nat.lt_or_ge s r with h | h
           ·exact HB3.out s h1 h
           ·have:s=r:=by omega
            subst this;rw [HC3.out];exact h4
          clear hc3 hrl hr h4 hz3 HB3
          go_wp2_with (first | (go_at_call 98;(with_reducible refine (D4 _).mono ?_);rintro e2 w2 ⟨rfl,hq⟩;obtain rfl:=hq.symm;clear D4))
          refine ⟨⟨r+1,rfl,HQ3.out,Nat.le_succ_of_le HA3.out,K3,by first | exact rfl | exact (trivial:True)⟩,?_⟩
          show N - ((r:Int)+1).toNat<N - (r:Int).toNat
          have:=HQ3.out;omega
        ·have hrN:r=N:=by omega
         subst hrN
         have E3:=Lib.hid (wh_drop HA3.out HB3.out (by rw [List.getElem?_eq_none (by rw [hN.out];exact Nat.le_refl _)];rfl))
         clear hrl hr HB3
         go_wp2_with fail
         go_ret
         exact ⟨by rw [E.out,E3.out,show q+1+(r - (q+1))=r by have:=HA3.out;omega];rfl,by first | exact rfl | exact (trivial:True)⟩
     ·have hz46:¬z=46:=fun e=>p2 (UInt8.toNat.inj (hzz.out.trans e))
      have t1:((z:Int)==46)=false:=by simp;omega
      have t2:decide ((z:Int)=46)=false:=by simp;omega
      have t3:decide (z=46)=false:=by simpa using hz46
      have E:Hid (a+numL (l.drop a)=q):=Lib.hid (by rw [F.out,if_neg (by simp [p2])])
      clear hc hql hq h2 hd fin F p1 HB hz46 hzz HC p2 kd
      go_wp2_with (first | (go_at_call 98;(with_reducible refine (D2 _).mono ?_);rintro e2 w2 ⟨rfl,hq⟩;obtain rfl:=hq.symm;clear D2))
      go_ret
      exact ⟨by rw [E.out];rfl,rfl⟩
    ·have j2:decide ((q:Int)+1<(N:Int))=false:=by simp;omega
     have E:Hid (a+numL (l.drop a)=q):=Lib.hid (by rw [F.out,if_neg (by simp [p1])])
     clear hc hql hq h2 fin F p1 HB hzz HC
     go_wp2_with (first | (go_at_call 98;(with_reducible refine (D2 _).mono ?_);rintro e2 w2 ⟨rfl,hq⟩;obtain rfl:=hq.symm;clear D2))
     go_ret
     exact ⟨by rw [E.out];rfl,rfl⟩
   ·rw [h2] at D2
    have K:Hid (∀ r,a≤r→r<q+1→(l[r]?).any isDg=true):=fun r h1 h3=>by
     rcases Nat.lt_or_ge r q with h | h
     ·exact HB.out r h1 h
     ·have:r=q:=by omega
      subst this;rw [HC.out];exact h2
    clear hc hql hq h2 hzz HB fin HC
    go_wp2_with (first | (go_at_call 98;(with_reducible refine (D2 _).mono ?_);rintro e2 w2 ⟨rfl,hq⟩;obtain rfl:=hq.symm;clear D2))
    refine ⟨⟨q+1,rfl,HQ.out,Nat.le_succ_of_le HA.out,K,by first | exact rfl | exact (trivial:True)⟩,?_⟩
    show N - ((q:Int)+1).toNat<N - (q:Int).toNat
    have:=HQ.out;omega
  ·have hqN:q=N:=by omega
   subst hqN
   have F:=fin (by rw [List.getElem?_eq_none (by rw [hN.out];exact Nat.le_refl _)];rfl)
   have E:Hid (a+numL (l.drop a)=q):=Lib.hid (by rw [F.out,if_neg (by simp;intro h;omega)])
   have j2:decide ((q:Int)+1<(q:Int))=false:=by simp;omega
   have kw:IntKind.i64.wrap ((q:Int)+1)=(q:Int)+1:=wrap1 q (by have:=HL.out;omega)
   clear hql hq HB fin F
   go_wp2_with fail
   go_ret
   exact ⟨by rw [E.out];rfl,rfl⟩
end Go.Proofs.YteagpbkbdlmdiaaGreat.Lx
