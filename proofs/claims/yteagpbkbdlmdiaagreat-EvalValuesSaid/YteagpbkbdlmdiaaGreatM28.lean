/-
  Names: kept words; the document's Name and the program's, walked; Names: the document's Name, the program's, walked; The document's parser, plain; eval and its document: the small functions, walked.
-/
import Derived.Test.YteagpbkbdlmdiaaGreatM27
import Derived.Test.YteagpbkbdlmdiaaGreatM23
import Derived.Test.YteagpbkbdlmdiaaGreatM22
/- Names: kept words; the document's Name and the program's, walked. -/
namespace Go.Proofs.YteagpbkbdlmdiaaGreat.Lx
open Go Go.RowKit Dt Tx
set_option linter.unusedSimpArgs false
set_option linter.unusedVariables false
attribute [local go_sem ↓] Go.wp_at_zero Go.wp_at_succ
def keptW:List (List UInt8):=[[116,114,117,101],[102,97,108,115,101],[97,110,100],[111,114],[110,111,116],[105,102],[109,105,110],[109,97,120],[97,98,115],[114,111,117,110,100],[104,97,115],[111,114,101,108,115,101],[108,97,103],[108,101,97,115,116],[109,111,115,116],[97,110,121],[101,118,101,114,121]]
def nameP (l:List UInt8):Bool:=decide (0<l.length) && decide (l.length≤12) && (l[0]?).any isLo && decide (wh isAl l=l.length) && !keptW.contains l
theorem kept_cases (l:List UInt8):(keptW.contains l=true∧(l=[116,114,117,101]∨l=[102,97,108,115,101]∨l=[97,110,100]∨l=[111,114]∨l=[110,111,116]∨l=[105,102]∨l=[109,105,110]∨l=[109,97,120]∨l=[97,98,115]∨l=[114,111,117,110,100]∨l=[104,97,115]∨l=[111,114,101,108,115,101]∨l=[108,97,103]∨l=[108,101,97,115,116]∨l=[109,111,115,116]∨l=[97,110,121]∨l=[101,118,101,114,121]))∨(keptW.contains l=false∧¬l=[116,114,117,101]∧¬l=[102,97,108,115,101]∧¬l=[97,110,100]∧¬l=[111,114]∧¬l=[110,111,116]∧¬l=[105,102]∧¬l=[109,105,110]∧¬l=[109,97,120]∧¬l=[97,98,115]∧¬l=[114,111,117,110,100]∧¬l=[104,97,115]∧¬l=[111,114,101,108,115,101]∧¬l=[108,97,103]∧¬l=[108,101,97,115,116]∧¬l=[109,111,115,116]∧¬l=[97,110,121]∧¬l=[101,118,101,114,121]):=by
 unfold keptW
 cases h:List.contains [[116,114,117,101],[102,97,108,115,101],[97,110,100],[111,114],[110,111,116],[105,102],[109,105,110],[109,97,120],[97,98,115],[114,111,117,110,100],[104,97,115],[111,114,101,108,115,101],[108,97,103],[108,101,97,115,116],[109,111,115,116],[97,110,121],[101,118,101,114,121]] l
 ·right
  refine ⟨rfl,?_⟩
  simpa [List.contains_cons,Bool.or_eq_false_iff] using h
 ·left
  refine ⟨rfl,?_⟩
  simpa [List.contains_cons,Bool.or_eq_true] using h
set_option maxRecDepth 100000 in
set_option maxHeartbeats 4000000 in
theorem rkept_is {w:World} (l:List UInt8):Calls Tryz.prog 166 #[.string (bs l)] w fun e w'=>e=.returned (.bool (keptW.contains l))∧w'=w:=by
 rcases kept_cases l with ⟨h,k⟩ | ⟨h,k⟩
 ·rw [h]
  clear h
  rcases k with rfl | rfl | rfl | rfl | rfl | rfl | rfl | rfl | rfl | rfl | rfl | rfl | rfl | rfl | rfl | rfl | rfl
  all_goals
   simp only [bs]
   go_enter Tryz.func166,Tryz.ntmps166
   go_wp2_with fail
   go_ret
   exact ⟨rfl,rfl⟩
 ·rw [h]
  clear h
  obtain ⟨n0,n1,n2,n3,n4,n5,n6,n7,n8,n9,n10,n11,n12,n13,n14,n15,n16⟩:=k
  have m0:((bs l).toList==[116,114,117,101])=false:=by rw [bs_toList];exact beq_eq_false_iff_ne.2 n0
  have m1:((bs l).toList==[102,97,108,115,101])=false:=by rw [bs_toList];exact beq_eq_false_iff_ne.2 n1
  have m2:((bs l).toList==[97,110,100])=false:=by rw [bs_toList];exact beq_eq_false_iff_ne.2 n2
  have m3:((bs l).toList==[111,114])=false:=by rw [bs_toList];exact beq_eq_false_iff_ne.2 n3
  have m4:((bs l).toList==[110,111,116])=false:=by rw [bs_toList];exact beq_eq_false_iff_ne.2 n4
  have m5:((bs l).toList==[105,102])=false:=by rw [bs_toList];exact beq_eq_false_iff_ne.2 n5
  have m6:((bs l).toList==[109,105,110])=false:=by rw [bs_toList];exact beq_eq_false_iff_ne.2 n6
  have m7:((bs l).toList==[109,97,120])=false:=by rw [bs_toList];exact beq_eq_false_iff_ne.2 n7
  have m8:((bs l).toList==[97,98,115])=false:=by rw [bs_toList];exact beq_eq_false_iff_ne.2 n8
  have m9:((bs l).toList==[114,111,117,110,100])=false:=by rw [bs_toList];exact beq_eq_false_iff_ne.2 n9
  have m10:((bs l).toList==[104,97,115])=false:=by rw [bs_toList];exact beq_eq_false_iff_ne.2 n10
  have m11:((bs l).toList==[111,114,101,108,115,101])=false:=by rw [bs_toList];exact beq_eq_false_iff_ne.2 n11
  have m12:((bs l).toList==[108,97,103])=false:=by rw [bs_toList];exact beq_eq_false_iff_ne.2 n12
  have m13:((bs l).toList==[108,101,97,115,116])=false:=by rw [bs_toList];exact beq_eq_false_iff_ne.2 n13
  have m14:((bs l).toList==[109,111,115,116])=false:=by rw [bs_toList];exact beq_eq_false_iff_ne.2 n14
  have m15:((bs l).toList==[97,110,121])=false:=by rw [bs_toList];exact beq_eq_false_iff_ne.2 n15
  have m16:((bs l).toList==[101,118,101,114,121])=false:=by rw [bs_toList];exact beq_eq_false_iff_ne.2 n16
  obtain ⟨S,hS⟩:∃ S,Hid (bs l=S):=⟨_,rfl⟩
  rw [hS.out] at m0 m1 m2 m3 m4 m5 m6 m7 m8 m9 m10 m11 m12 m13 m14 m15 m16⊢
  clear n0 n1 n2 n3 n4 n5 n6 n7 n8 n9 n10 n11 n12 n13 n14 n15 n16 hS
  go_enter Tryz.func166,Tryz.ntmps166
  go_wp2_with fail
  go_ret
  exact ⟨rfl,rfl⟩
end Go.Proofs.YteagpbkbdlmdiaaGreat.Lx
/- Names: the document's Name, the program's, walked. -/
namespace Go.Proofs.YteagpbkbdlmdiaaGreat.Lx
open Go Go.RowKit Dt Tx
set_option linter.unusedSimpArgs false
set_option linter.unusedVariables false
attribute [local go_sem ↓] Go.wp_at_zero Go.wp_at_succ
theorem name_nil:nameP []=false:=by decide
theorem name_long {l:List UInt8} (h:12<l.length):nameP l=false:=by unfold nameP;rw [decide_eq_false (p:=l.length≤12) (by omega)];simp
theorem name_first {l:List UInt8} (h:(l[0]?).any isLo=false):nameP l=false:=by unfold nameP;rw [h];simp
theorem name_kept {l:List UInt8} (h:keptW.contains l=true):nameP l=false:=by unfold nameP;rw [h];simp
theorem name_wh {l:List UInt8} (h:¬wh isAl l=l.length):nameP l=false:=by unfold nameP;rw [decide_eq_false h];simp
theorem name_yes {l:List UInt8} (h0:0<l.length) (h1:l.length≤12) (h2:(l[0]?).any isLo=true) (h3:wh isAl l=l.length) (h4:keptW.contains l=false):nameP l=true:=by
 unfold nameP;rw [decide_eq_true h0,decide_eq_true h1,h2,decide_eq_true h3,h4];rfl
end Go.Proofs.YteagpbkbdlmdiaaGreat.Lx
/- The document's parser, plain. -/
namespace Go.Proofs.YteagpbkbdlmdiaaGreat.Ps
open Go Dt Tx Va Ev Lx
structure Rd where
 a:Nat
 d:Int
 t:List Nd
 e:Int
 b:Int
def wNot:List UInt8:=[110,111,116]
def wLp:List UInt8:=[40]
def wRp:List UInt8:=[41]
def wCm:List UInt8:=[44]
def wMi:List UInt8:=[45]
def wIf:List UInt8:=[105,102]
def wMin:List UInt8:=[109,105,110]
def wMax:List UInt8:=[109,97,120]
def wAbs:List UInt8:=[97,98,115]
def wRound:List UInt8:=[114,111,117,110,100]
def wHas:List UInt8:=[104,97,115]
def wOrelse:List UInt8:=[111,114,101,108,115,101]
def callW (w:List UInt8):Bool:=decide (w=wIf∨w=wMin∨w=wMax∨w=wAbs∨w=wRound∨w=wHas∨w=wOrelse)
section
variable (L:List Tok) (En:Int)
def placeR (s:Rd):Int:=match L[s.a]? with | some x=>x.p | none=>En
def nextR (s:Rd):List UInt8:=match L[s.a]? with | some x=>if x.k=2 then [] else x.t | none=>[]
def stopR (e:Int) (s:Rd):Rd:=if s.e=0 then {s with e:=e,b:=placeR L En s} else s
def upR (s:Rd):Rd:={s with a:=s.a+1}
def outR (s:Rd):Rd:={s with d:=s.d - 1}
def mustR (w:List UInt8) (s:Rd):Rd:=if s.e=0 then (if nextR L s=w then upR s else stopR L En 4 s) else s
def fullR (s:Rd):Rd:=if 16≤s.d then stopR L En 10 s else s
def deeperR (s:Rd):Rd:={fullR L En s with d:=s.d+1}
def addR (n:Nd) (s:Rd):Rd × Int:=({s with t:=s.t++[n]},(s.t.length:Int))
def putR (op p x y z:Int) (s:Rd):Rd × Int:=addR ⟨op,0,0,[],0,x,y,z,p⟩ s
def infixR (l:Nat) (w:List UInt8):Int:=
 if l=0 then (if w=[111,114] then 5 else 0)
 else if l=1 then (if w=[97,110,100] then 6 else 0)
 else if l=3 then (if w=[61] then 8 else if w=[60,62] then 9 else if w=[60] then 10 else if w=[60,61] then 11 else if w=[62] then 12 else if w=[62,61] then 13 else 0)
 else if l=4 then (if w=[43] then 14 else if w=[45] then 15 else 0)
 else if l=5 then (if w=[42] then 16 else if w=[47] then 17 else 0)
 else 0
def windowR (w:List UInt8):Int:=if w=[108,97,103] then 26 else if w=[108,101,97,115,116] then 27 else if w=[109,111,115,116] then 28 else if w=[97,110,121] then 29 else if w=[101,118,101,114,121] then 30 else 0
def wordK (s:Rd):Bool:=(L[s.a]?).any fun x=>decide (x.k=1)
def fieldR (s:Rd):Rd × List UInt8:=if s.e=0∧wordK L s=true∧nameP (nextR L s)=true then (upR s,nextR L s) else (stopR L En 4 s,[])
def wholeR (m:Int) (s:Rd):Rd × Int:=if s.e=0 then (match L[s.a]? with
  | some x=>if x.k=2∧x.s=0∧x.c≤m then (upR s,x.c) else (stopR L En 4 s,0)
  | none=>(stopR L En 4 s,0)) else (s,0)
def beginR (s:Rd):Rd:=mustR L En wLp (if nextR L (upR s)=wLp then deeperR L En (upR s) else upR s)
def endR (n:Nd) (s:Rd):Rd × Int:=addR n (outR (mustR L En wRp s))
inductive Md where
 | ex (l:Nat)
 | lo (l:Nat) (x:Int)
 | atm
 | ca (w:List UInt8) (n:Nd)
def nodeAt (s:Rd):Nd:=⟨0,0,0,[],0, -1, -1, -1,placeR L En s⟩
def runR:Nat→Md→Rd→Rd × Int
 | 0,_,s=>(s, -1)
 | f+1,.ex l,s=>
  if s.e=0 then
   if l=7 then runR f .atm s
   else if l=2∨l=6 then
    if nextR L s=(if l=6 then wMi else wNot) then
     putR (if l=6 then 18 else 7) (placeR L En s) (runR f (.ex l) (upR (deeperR L En s))).2 (-1) (-1) (outR (runR f (.ex l) (upR (deeperR L En s))).1)
    else runR f (.ex (l+1)) s
   else runR f (.lo l (runR f (.ex (l+1)) s).2) (runR f (.ex (l+1)) s).1
  else (s, -1)
 | f+1,.lo l x,s=>
  if s.e=0∧infixR l (nextR L s) ≠ 0 then
   if l=3 then putR (infixR l (nextR L s)) (placeR L En s) x (runR f (.ex (l+1)) (upR s)).2 (-1) (runR f (.ex (l+1)) (upR s)).1
   else runR f (.lo l (putR (infixR l (nextR L s)) (placeR L En s) x (runR f (.ex (l+1)) (upR s)).2 (-1) (runR f (.ex (l+1)) (upR s)).1).2) (putR (infixR l (nextR L s)) (placeR L En s) x (runR f (.ex (l+1)) (upR s)).2 (-1) (runR f (.ex (l+1)) (upR s)).1).1
  else (s,x)
 | f+1,.atm,s=>
  match L[s.a]? with
  | some x=>if x.k=2 then addR ⟨1,x.c,x.s,[],0, -1, -1, -1,x.p⟩ (upR s) else
   if x.t=wTrue then addR {nodeAt L En s with op:=2} (upR s)
   else if x.t=wFalse then addR {nodeAt L En s with op:=3} (upR s)
   else if x.t=wLp then (outR (mustR L En wRp (runR f (.ex 0) (upR (deeperR L En s))).1),(runR f (.ex 0) (upR (deeperR L En s))).2)
   else if callW x.t=true then runR f (.ca x.t (nodeAt L En s)) s
   else if windowR x.t ≠ 0 then
    endR L En {nodeAt L En s with op:=windowR x.t,n:=(fieldR L En (beginR L En s)).2,k:=(wholeR L En 3660 (mustR L En wCm (fieldR L En (beginR L En s)).1)).2} (wholeR L En 3660 (mustR L En wCm (fieldR L En (beginR L En s)).1)).1
   else addR {nodeAt L En s with op:=4,n:=(fieldR L En s).2} (fieldR L En s).1
  | none=>addR {nodeAt L En s with op:=4,n:=(fieldR L En s).2} (fieldR L En s).1
 | f+1,.ca w n,s=>
  if w=wHas then endR L En {n with op:=24,n:=(fieldR L En (beginR L En s)).2} (fieldR L En (beginR L En s)).1
  else if w=wOrelse then
   endR L En {n with op:=25,n:=(fieldR L En (beginR L En s)).2,x:=(runR f (.ex 0) (mustR L En wCm (fieldR L En (beginR L En s)).1)).2} (runR f (.ex 0) (mustR L En wCm (fieldR L En (beginR L En s)).1)).1
  else if w=wAbs then endR L En {n with op:=22,x:=(runR f (.ex 0) (beginR L En s)).2} (runR f (.ex 0) (beginR L En s)).1
  else if w=wRound then
   endR L En {n with op:=23,x:=(runR f (.ex 0) (beginR L En s)).2,k:=(wholeR L En 9 (mustR L En wCm (runR f (.ex 0) (beginR L En s)).1)).2} (wholeR L En 9 (mustR L En wCm (runR f (.ex 0) (beginR L En s)).1)).1
  else if w=wIf then
   endR L En {n with op:=19,x:=(runR f (.ex 0) (beginR L En s)).2,y:=(runR f (.ex 0) (mustR L En wCm (runR f (.ex 0) (beginR L En s)).1)).2,z:=(runR f (.ex 0) (mustR L En wCm (runR f (.ex 0) (mustR L En wCm (runR f (.ex 0) (beginR L En s)).1)).1)).2} (runR f (.ex 0) (mustR L En wCm (runR f (.ex 0) (mustR L En wCm (runR f (.ex 0) (beginR L En s)).1)).1)).1
  else
   endR L En {n with op:=(if w=wMax then 21 else 20),x:=(runR f (.ex 0) (beginR L En s)).2,y:=(runR f (.ex 0) (mustR L En wCm (runR f (.ex 0) (beginR L En s)).1)).2} (runR f (.ex 0) (mustR L En wCm (runR f (.ex 0) (beginR L En s)).1)).1
end
def muR (N:Nat) (m:Md) (a:Nat):Nat:=match m with
 | .ex l=>24*(N - a)+2*(8 - l)
 | .lo l _=>24*(N - a)+2*(8 - l) - 1
 | .atm=>24*(N - a)+1
 | .ca _ _=>24*(N - a)
def fl (s:Rd):Nat:=if s.e=0 then 0 else 1
structure Inv (N:Nat) (s:Rd):Prop where
 a:s.a≤N
 t:s.t.length≤s.a+fl s
 dl:-(s.a:Int)≤s.d
 dh:s.d≤17
 d0:fl s=0→s.d≤16
structure Gt (N:Nat) (u v:Int) (s s':Rd):Prop where
 a:s.a≤s'.a
 n:s'.a≤N
 t:(s'.t.length:Int)+s.a+fl s≤s.t.length+s'.a+fl s'+v
 dl:s.d+u+s.a≤s'.d+s'.a
 dh:s'.d≤s.d+u
 e:s.e ≠ 0→s'.e=s.e
theorem fl_le {N:Nat} {u v:Int} {s s':Rd} (h:Gt N u v s s'):fl s≤fl s':=by
 unfold fl
 by_cases e:s.e=0
 ·rw [if_pos e];omega
 ·rw [if_neg e,if_neg (by rw [h.e e];exact e)];omega
theorem Gt.refl {N:Nat} {s:Rd} (h:s.a≤N):Gt N 0 0 s s:=⟨Nat.le_refl _,h,by omega,by omega,by omega,fun _=>rfl⟩
theorem Gt.trans {N:Nat} {u v u' v' x y:Int} {s s1 s2:Rd} (h:Gt N u v s s1) (k:Gt N u' v' s1 s2) (hx:x=u+u') (hy:y=v+v'):Gt N x y s s2:=by
 refine ⟨Nat.le_trans h.a k.a,k.n,?_,?_,?_,fun e=>?_⟩
 ·have:=h.t;have:=k.t;omega
 ·have:=h.dl;have:=k.dl;omega
 ·have:=h.dh;have:=k.dh;omega
 ·have e1:=h.e e
  exact (k.e (by rw [e1];exact e)).trans e1
theorem Gt.more {N:Nat} {u v v':Int} {s s':Rd} (h:Gt N u v s s') (l:v≤v'):Gt N u v' s s':=⟨h.a,h.n,by have:=h.t;omega,h.dl,h.dh,h.e⟩
theorem Gt.fin {N:Nat} {u v:Int} {s s':Rd} (h:Gt N u v s s') (hu:u=0) (hv:v≤0):Gt N 0 0 s s':=by subst hu;exact h.more hv
theorem Inv.of {N:Nat} {s s':Rd} (i:Inv N s) (h:Gt N 0 0 s s'):Inv N s':=by
 have l:=fl_le h
 refine ⟨h.n,?_,?_,?_,fun e=>?_⟩
 ·have:=h.t;have:=i.t;omega
 ·have:=h.dl;have:=i.dl;omega
 ·have:=h.dh;have:=i.dh;omega
 ·have:=i.d0 (by omega);have:=h.dh;omega
section
variable {N:Nat} {L:List Tok} {En:Int} {s:Rd}
theorem gt_up (h:s.a<N):Gt N 0 (-1) s (upR s):=⟨Nat.le_succ _,h,by show ((s.t.length:Int)+s.a+fl s≤s.t.length+((s.a+1:Nat):Int)+fl s+ -1);omega,by show s.d+0+(s.a:Int)≤s.d+((s.a+1:Nat):Int);omega,by show s.d≤_;omega,fun _=>rfl⟩
theorem gt_out (h:s.a≤N):Gt N (-1) 0 s (outR s):=⟨Nat.le_refl _,h,by show ((s.t.length:Int)+s.a+fl s≤s.t.length+s.a+fl s+0);omega,by show _≤s.d - 1+(s.a:Int);omega,by show s.d - 1≤_;omega,fun _=>rfl⟩
theorem gt_add (n:Nd) (h:s.a≤N):Gt N 0 1 s (addR n s).1:=⟨Nat.le_refl _,h,by show (((s.t++[n]).length:Nat):Int)+s.a+fl s≤s.t.length+s.a+fl s+1;rw [List.length_append,List.length_singleton];omega,by show _≤s.d+(s.a:Int);omega,by show s.d≤_;omega,fun _=>rfl⟩
theorem stop_eq (e:Int) (h:¬s.e=0):stopR L En e s=s:=if_neg h
theorem stop_a (e:Int):(stopR L En e s).a=s.a∧(stopR L En e s).t=s.t∧(stopR L En e s).d=s.d:=by unfold stopR;split<;>exact ⟨rfl,rfl,rfl⟩
theorem stop_e {e:Int} (he:e ≠ 0):(stopR L En e s).e ≠ 0:=by
 unfold stopR
 by_cases h:s.e=0
 ·rw [if_pos h];exact he
 ·rw [if_neg h];exact h
theorem gt_stop0 {e:Int} (he:e ≠ 0) (h:s.a≤N) (h0:s.e=0):Gt N 0 (-1) s (stopR L En e s):=by
 obtain ⟨ea,et,ed⟩:=stop_a (L:=L) (En:=En) (s:=s) e
 have f1:fl s=0:=if_pos h0
 have f2:fl (stopR L En e s)=1:=if_neg (stop_e he)
 exact ⟨by rw [ea];exact Nat.le_refl _,by rw [ea];exact h,by rw [ea,et,f1,f2];omega,by rw [ea,ed];omega,by rw [ed];omega,fun k=>absurd h0 k⟩
theorem gt_stop {e:Int} (he:e ≠ 0) (h:s.a≤N):Gt N 0 0 s (stopR L En e s):=by
 by_cases h0:s.e=0
 ·exact (gt_stop0 he h h0).more (by omega)
 ·rw [stop_eq e h0];exact Gt.refl h
theorem next_lt {w:List UInt8} (hw:w ≠ []) (h:nextR L s=w):s.a<L.length:=by
 unfold nextR at h
 cases hx:L[s.a]? with
 | none=>rw [hx] at h;exact absurd h.symm hw
 | some x=>exact (List.getElem?_eq_some_iff.1 hx).1
theorem gt_must {w:List UInt8} (hw:w ≠ []) (h:s.a≤L.length):Gt L.length 0 0 s (mustR L En w s):=by
 unfold mustR
 split
 ·split
  ·rename_i h2
   exact (gt_up (next_lt hw h2)).more (by omega)
  ·exact gt_stop (by decide) h
 ·exact Gt.refl h
theorem full_a:(fullR L En s).a=s.a∧(fullR L En s).t=s.t∧(fullR L En s).d=s.d:=by
 unfold fullR;split
 ·exact stop_a _
 ·exact ⟨rfl,rfl,rfl⟩
theorem gt_full (h:s.a≤N):Gt N 0 0 s (fullR L En s):=by
 unfold fullR;split
 ·exact gt_stop (by decide) h
 ·exact Gt.refl h
theorem gt_deeper (h:s.a≤N):Gt N 1 0 s (deeperR L En s):=by
 have k:=gt_full (L:=L) (En:=En) h
 obtain ⟨ea,et,ed⟩:=full_a (L:=L) (En:=En) (s:=s)
 exact ⟨k.a,k.n,k.t,by show _≤s.d+1+((fullR L En s).a:Int);rw [ea];omega,by show s.d+1≤_;omega,k.e⟩
theorem deeper_e (h:16≤s.d):(deeperR L En s).e ≠ 0:=by
 show (fullR L En s).e ≠ 0
 unfold fullR;rw [if_pos h];exact stop_e (by decide)
theorem word_lt (h:wordK L s=true):s.a<L.length:=by
 unfold wordK at h
 cases hx:L[s.a]? with
 | none=>rw [hx] at h;cases h
 | some x=>exact (List.getElem?_eq_some_iff.1 hx).1
theorem gt_field0 (h:s.a≤L.length) (h0:s.e=0):Gt L.length 0 (-1) s (fieldR L En s).1:=by
 unfold fieldR
 split
 ·rename_i k;exact gt_up (word_lt k.2.1)
 ·exact gt_stop0 (by decide) h h0
theorem gt_field (h:s.a≤L.length):Gt L.length 0 0 s (fieldR L En s).1:=by
 by_cases h0:s.e=0
 ·exact (gt_field0 h h0).more (by omega)
 ·unfold fieldR
  rw [if_neg (fun k=>h0 k.1)]
  exact gt_stop (by decide) h
theorem gt_whole (m:Int) (h:s.a≤L.length):Gt L.length 0 0 s (wholeR L En m s).1:=by
 unfold wholeR
 split
 ·cases hx:L[s.a]? with
  | none=>exact gt_stop (by decide) h
  | some x=>
   simp only
   split
   ·exact (gt_up (List.getElem?_eq_some_iff.1 hx).1).more (by omega)
   ·exact gt_stop (by decide) h
 ·exact Gt.refl h
theorem gt_begin (h:s.a<L.length):Gt L.length 1 (-1) s (beginR L En s):=by
 unfold beginR
 split
 ·exact ((gt_up h).trans (gt_deeper h) rfl rfl).trans (gt_must (by decide) (gt_deeper (L:=L) (En:=En) (s:=upR s) h).n) (by omega) (by omega)
 ·have k:=gt_must (L:=L) (En:=En) (s:=upR s) (w:=wLp) (by decide) h
  refine ⟨by have:s.a+1≤_:=k.a;omega,k.n,?_,?_,?_,fun e=>k.e e⟩
  ·have:((mustR L En wLp (upR s)).t.length:Int)+(s.a+1:Nat)+fl s≤s.t.length+(mustR L En wLp (upR s)).a+fl (mustR L En wLp (upR s))+0:=k.t
   omega
  ·have:s.d+0+((s.a+1:Nat):Int)≤(mustR L En wLp (upR s)).d+(mustR L En wLp (upR s)).a:=k.dl
   omega
  ·have:(mustR L En wLp (upR s)).d≤s.d+0:=k.dh
   omega
theorem gt_endR (n:Nd) (h:s.a≤L.length):Gt L.length (-1) 1 s (endR L En n s).1:=by
 have k:=gt_must (L:=L) (En:=En) (s:=s) (w:=wRp) (by decide) h
 exact (k.trans (gt_out k.n) rfl rfl).trans (gt_add n k.n) (by omega) (by omega)
def okM (L:List Tok):Md→Rd→Prop
 | .atm,s=>s.e=0
 | .ca _ _,s=>s.a<L.length
 | _,_=>True
theorem infixR_ne {l:Nat} {w:List UInt8} (h:infixR l w ≠ 0):w ≠ []:=by
 rintro rfl
 apply h
 unfold infixR
 split
 ·rfl
 ·split
  ·rfl
  ·split
   ·rfl
   ·split
    ·rfl
    ·split<;>rfl
theorem run_gt:∀ (f:Nat) (m:Md) (s:Rd),s.a≤L.length→okM L m s→Gt L.length 0 0 s (runR L En f m s).1:=by
 intro f
 induction f with
 | zero=>intro m s h _;exact Gt.refl h
 | succ f ih=>
  intro m s h hm
  have IX:=fun (l:Nat) (q:Rd) (hq:q.a≤L.length)=>ih (.ex l) q hq trivial
  cases m with
  | ex l=>
   simp only [runR]
   by_cases h0:s.e=0
   ·rw [if_pos h0]
    by_cases h7:l=7
    ·rw [if_pos h7];exact ih .atm s h h0
    ·rw [if_neg h7]
     by_cases h26:l=2∨l=6
     ·rw [if_pos h26]
      by_cases hw:nextR L s=(if l=6 then wMi else wNot)
      ·rw [if_pos hw]
       have lt:s.a<L.length:=next_lt (w:=if l=6 then wMi else wNot) (by split<;>decide) hw
       have k1:=gt_deeper (L:=L) (En:=En) (s:=s) (N:=L.length) h
       have lt2:(deeperR L En s).a<L.length:=by
        show (fullR L En s).a<_;rw [full_a.1];exact lt
       have k2:=k1.trans (gt_up lt2) rfl rfl
       have k3:=k2.trans (IX l _ k2.n) rfl rfl
       have k4:=k3.trans (gt_out k3.n) rfl rfl
       exact (k4.trans (gt_add ⟨if l=6 then 18 else 7,0,0,[],0,(runR L En f (.ex l) (upR (deeperR L En s))).2, -1, -1,placeR L En s⟩ k4.n) rfl rfl).fin (by omega) (by omega)
      ·rw [if_neg hw];exact IX _ s h
     ·rw [if_neg h26]
      have k:=IX (l+1) s h
      exact k.trans (ih (.lo l _) _ k.n trivial) rfl rfl
   ·rw [if_neg h0];exact Gt.refl h
  | lo l x=>
   simp only [runR]
   split
   ·rename_i h0
    have lt:=next_lt (infixR_ne h0.2) rfl
    have k1:=gt_up (N:=L.length) lt
    have k2:=k1.trans (IX (l+1) _ k1.n) rfl rfl
    have k3:=k2.trans (gt_add ⟨infixR l (nextR L s),0,0,[],0,x,(runR L En f (.ex (l+1)) (upR s)).2, -1,placeR L En s⟩ k2.n) rfl rfl
    split
    ·exact k3.fin (by omega) (by omega)
    ·have k4:=ih (.lo l (putR (infixR l (nextR L s)) (placeR L En s) x (runR L En f (.ex (l+1)) (upR s)).2 (-1) (runR L En f (.ex (l+1)) (upR s)).1).2) (putR (infixR l (nextR L s)) (placeR L En s) x (runR L En f (.ex (l+1)) (upR s)).2 (-1) (runR L En f (.ex (l+1)) (upR s)).1).1 k3.n trivial
     exact (k3.trans k4 rfl rfl).fin (by omega) (by omega)
   ·exact Gt.refl h
  | atm=>
   simp only [runR]
   have h0:s.e=0:=hm
   have ADD:∀ n:Nd,Gt L.length 0 0 s (addR n (fieldR L En s).1).1:=fun n=>by
    have k:=gt_field0 (L:=L) (En:=En) h h0
    exact (k.trans (gt_add n k.n) rfl rfl).more (by omega)
   cases hx:L[s.a]? with
   | none=>exact ADD _
   | some x=>
    have lt:=(List.getElem?_eq_some_iff.1 hx).1
    have UP:∀ n:Nd,Gt L.length 0 0 s (addR n (upR s)).1:=fun n=>((gt_up lt).trans (gt_add n lt) rfl rfl).more (by omega)
    simp only
    split
    ·exact UP _
    ·split
     ·exact UP _
     ·split
      ·exact UP _
      ·split
       ·have k1:=gt_deeper (L:=L) (En:=En) (s:=s) (N:=L.length) h
        have lt2:(deeperR L En s).a<L.length:=by
         show (fullR L En s).a<_;rw [full_a.1];exact lt
        have k2:=k1.trans (gt_up lt2) rfl rfl
        have k3:=k2.trans (IX 0 _ k2.n) rfl rfl
        have k4:=k3.trans (gt_must (w:=wRp) (En:=En) (by decide) k3.n) rfl rfl
        have k5:=k4.trans (gt_out k4.n) rfl rfl
        exact k5.fin (by omega) (by omega)
       ·split
        ·exact ih (.ca x.t _) s h lt
        ·split
         ·have k1:=gt_begin (L:=L) (En:=En) lt
          have k2:=k1.trans (gt_field (En:=En) k1.n) rfl rfl
          have k3:=k2.trans (gt_must (w:=wCm) (En:=En) (by decide) k2.n) rfl rfl
          have k4:=k3.trans (gt_whole (En:=En) 3660 k3.n) rfl rfl
          have k5:=k4.trans (gt_endR (En:=En) {nodeAt L En s with op:=windowR x.t,n:=(fieldR L En (beginR L En s)).2,k:=(wholeR L En 3660 (mustR L En wCm (fieldR L En (beginR L En s)).1)).2} k4.n) rfl rfl
          exact k5.fin (by omega) (by omega)
         ·exact ADD _
  | ca w n=>
   simp only [runR]
   have lt:s.a<L.length:=hm
   have k1:=gt_begin (L:=L) (En:=En) lt
   have FIN:∀ {q:Rd} (n:Nd),Gt L.length 1 (-1) s q→Gt L.length 0 0 s (endR L En n q).1:=fun n k=>by
    have k5:=k.trans (gt_endR (En:=En) n k.n) rfl rfl
    exact k5.fin (by omega) (by omega)
   have NX:∀ {q r:Rd},Gt L.length 1 (-1) s q→Gt L.length 0 0 q r→Gt L.length 1 (-1) s r:=fun a b=>a.trans b rfl rfl
   split
   ·exact FIN _ (NX k1 (gt_field k1.n))
   ·split
    ·have k2:=NX k1 (gt_field (En:=En) k1.n)
     have k3:=NX k2 (gt_must (w:=wCm) (En:=En) (by decide) k2.n)
     exact FIN _ (NX k3 (IX 0 _ k3.n))
    ·have k2:=NX k1 (IX 0 _ k1.n)
     split
     ·exact FIN _ k2
     ·have k3:=NX k2 (gt_must (w:=wCm) (En:=En) (by decide) k2.n)
      split
      ·exact FIN _ (NX k3 (gt_whole 9 k3.n))
      ·have k4:=NX k3 (IX 0 _ k3.n)
       split
       ·have k5:=NX k4 (gt_must (w:=wCm) (En:=En) (by decide) k4.n)
        exact FIN _ (NX k5 (IX 0 _ k5.n))
       ·exact FIN _ k4
end
end Go.Proofs.YteagpbkbdlmdiaaGreat.Ps
/- eval and its document: the small functions, walked. -/
namespace Go.Proofs.YteagpbkbdlmdiaaGreat.Va
open Go
theorem Four.cs {w:World} {i:Nat} {v:V} (h:Four w i v):w.cell? ⟨i,0,none⟩=some (.int .u8 v.k)∧w.cell? ⟨i,1,none⟩=some (.int .i64 v.c)∧w.cell? ⟨i,2,none⟩=some (.int .i64 v.s)∧w.cell? ⟨i,3,none⟩=some (.int .i64 v.e):=⟨h.c0,h.c1,h.c2,h.c3⟩
theorem Four.cf {w:World} {i:Nat} {v:V} (h:Four w i v):w.cell? ⟨i,0,none⟩=some (.int .u8 v.k)∧w.cell? ⟨i,1,none⟩=some (.int .i64 v.c)∧w.cell? ⟨i,2,none⟩=some (.int .i64 v.s)∧w.cell? ⟨i,3,none⟩=some (.int .i64 v.e)∧w.frozen? ⟨i,0,none⟩=false∧w.frozen? ⟨i,1,none⟩=false∧w.frozen? ⟨i,2,none⟩=false∧w.frozen? ⟨i,3,none⟩=false:=⟨h.c0,h.c1,h.c2,h.c3,h.f 0,h.f 1,h.f 2,h.f 3⟩
end Go.Proofs.YteagpbkbdlmdiaaGreat.Va
namespace Go.Proofs.YteagpbkbdlmdiaaGreat.Ev
open Go Go.RowKit Dt Tx Va
set_option linter.unusedSimpArgs false
set_option linter.unusedVariables false
attribute [local go_sem ↓] Go.wp_at_zero Go.wp_at_succ
theorem mk1 (w:World) (o0:Obj):∃ (W:World) (i0:Nat),Hid (w.alloc o0=W)∧Hid (w.heap.size=i0)∧Hid (W.heap[i0]?=some o0)∧Hid (Below w.heap.size w W)∧Hid (w.heap.size≤i0)∧Hid (True)∧Hid (W.heap.size=w.heap.size+1):=by
 exact ⟨_,_,Lib.hid rfl,Lib.hid rfl,Lib.hid (heap_alloc_new w o0),Lib.hid (ba _ _),Lib.hid (Nat.le_refl _),Lib.hid trivial,Lib.hid (World.size_alloc _ _)⟩
theorem mk2 (w:World) (o0 o1:Obj):∃ (W:World) (i0 i1:Nat),Hid ((w.alloc o0).alloc o1=W)∧Hid (w.heap.size=i0)∧Hid (w.heap.size+1=i1)∧Hid (W.heap[i0]?=some o0)∧Hid (W.heap[i1]?=some o1)∧Hid (Below w.heap.size w W)∧Hid (w.heap.size≤i0)∧Hid (w.heap.size≤i1)∧Hid (True∧i0<i1)∧Hid (W.heap.size=w.heap.size+1+1):=by
 obtain ⟨W,i0,hW,h0,X0,B,L0,LI,S⟩:=mk1 w o0
 have hS:=S.out
 have t0:=(Array.getElem?_eq_some_iff.1 X0.out).1
 have l:=LI.out
 exact ⟨W.alloc o1,i0,W.heap.size,Lib.hid (by rw [hW.out]),h0,Lib.hid hS.symm,Lib.hid ((Below.heap_alloc _ _ _ t0).trans X0.out),Lib.hid (heap_alloc_new W o1),Lib.hid (bt B.out (ba _ _)),L0,Lib.hid (by omega),Lib.hid ⟨trivial,by omega⟩,Lib.hid (by rw [World.size_alloc,hS])⟩
theorem mk3 (w:World) (o0 o1 o2:Obj):∃ (W:World) (i0 i1 i2:Nat),Hid (((w.alloc o0).alloc o1).alloc o2=W)∧Hid (w.heap.size=i0)∧Hid (w.heap.size+1=i1)∧Hid (w.heap.size+1+1=i2)∧Hid (W.heap[i0]?=some o0)∧Hid (W.heap[i1]?=some o1)∧Hid (W.heap[i2]?=some o2)∧Hid (Below w.heap.size w W)∧Hid (w.heap.size≤i0)∧Hid (w.heap.size≤i1)∧Hid (w.heap.size≤i2)∧Hid (True∧i0<i1∧i1<i2)∧Hid (W.heap.size=w.heap.size+1+1+1):=by
 obtain ⟨W,i0,i1,hW,h0,h1,X0,X1,B,L0,L1,LI,S⟩:=mk2 w o0 o1
 have hS:=S.out
 have t0:=(Array.getElem?_eq_some_iff.1 X0.out).1
 have t1:=(Array.getElem?_eq_some_iff.1 X1.out).1
 have l:=LI.out
 exact ⟨W.alloc o2,i0,i1,W.heap.size,Lib.hid (by rw [hW.out]),h0,h1,Lib.hid hS.symm,Lib.hid ((Below.heap_alloc _ _ _ t0).trans X0.out),Lib.hid ((Below.heap_alloc _ _ _ t1).trans X1.out),Lib.hid (heap_alloc_new W o2),Lib.hid (bt B.out (ba _ _)),L0,L1,Lib.hid (by omega),Lib.hid ⟨trivial,by omega,by omega⟩,Lib.hid (by rw [World.size_alloc,hS])⟩
theorem mk4 (w:World) (o0 o1 o2 o3:Obj):∃ (W:World) (i0 i1 i2 i3:Nat),Hid ((((w.alloc o0).alloc o1).alloc o2).alloc o3=W)∧Hid (w.heap.size=i0)∧Hid (w.heap.size+1=i1)∧Hid (w.heap.size+1+1=i2)∧Hid (w.heap.size+1+1+1=i3)∧Hid (W.heap[i0]?=some o0)∧Hid (W.heap[i1]?=some o1)∧Hid (W.heap[i2]?=some o2)∧Hid (W.heap[i3]?=some o3)∧Hid (Below w.heap.size w W)∧Hid (w.heap.size≤i0)∧Hid (w.heap.size≤i1)∧Hid (w.heap.size≤i2)∧Hid (w.heap.size≤i3)∧Hid (True∧i0<i1∧i1<i2∧i2<i3)∧Hid (W.heap.size=w.heap.size+1+1+1+1):=by
 obtain ⟨W,i0,i1,i2,hW,h0,h1,h2,X0,X1,X2,B,L0,L1,L2,LI,S⟩:=mk3 w o0 o1 o2
 have hS:=S.out
 have t0:=(Array.getElem?_eq_some_iff.1 X0.out).1
 have t1:=(Array.getElem?_eq_some_iff.1 X1.out).1
 have t2:=(Array.getElem?_eq_some_iff.1 X2.out).1
 have l:=LI.out
 exact ⟨W.alloc o3,i0,i1,i2,W.heap.size,Lib.hid (by rw [hW.out]),h0,h1,h2,Lib.hid hS.symm,Lib.hid ((Below.heap_alloc _ _ _ t0).trans X0.out),Lib.hid ((Below.heap_alloc _ _ _ t1).trans X1.out),Lib.hid ((Below.heap_alloc _ _ _ t2).trans X2.out),Lib.hid (heap_alloc_new W o3),Lib.hid (bt B.out (ba _ _)),L0,L1,L2,Lib.hid (by omega),Lib.hid ⟨trivial,by omega,by omega,by omega⟩,Lib.hid (by rw [World.size_alloc,hS])⟩
theorem mk5 (w:World) (o0 o1 o2 o3 o4:Obj):∃ (W:World) (i0 i1 i2 i3 i4:Nat),Hid (((((w.alloc o0).alloc o1).alloc o2).alloc o3).alloc o4=W)∧Hid (w.heap.size=i0)∧Hid (w.heap.size+1=i1)∧Hid (w.heap.size+1+1=i2)∧Hid (w.heap.size+1+1+1=i3)∧Hid (w.heap.size+1+1+1+1=i4)∧Hid (W.heap[i0]?=some o0)∧Hid (W.heap[i1]?=some o1)∧Hid (W.heap[i2]?=some o2)∧Hid (W.heap[i3]?=some o3)∧Hid (W.heap[i4]?=some o4)∧Hid (Below w.heap.size w W)∧Hid (w.heap.size≤i0)∧Hid (w.heap.size≤i1)∧Hid (w.heap.size≤i2)∧Hid (w.heap.size≤i3)∧Hid (w.heap.size≤i4)∧Hid (True∧i0<i1∧i1<i2∧i2<i3∧i3<i4)∧Hid (W.heap.size=w.heap.size+1+1+1+1+1):=by
 obtain ⟨W,i0,i1,i2,i3,hW,h0,h1,h2,h3,X0,X1,X2,X3,B,L0,L1,L2,L3,LI,S⟩:=mk4 w o0 o1 o2 o3
 have hS:=S.out
 have t0:=(Array.getElem?_eq_some_iff.1 X0.out).1
 have t1:=(Array.getElem?_eq_some_iff.1 X1.out).1
 have t2:=(Array.getElem?_eq_some_iff.1 X2.out).1
 have t3:=(Array.getElem?_eq_some_iff.1 X3.out).1
 have l:=LI.out
 exact ⟨W.alloc o4,i0,i1,i2,i3,W.heap.size,Lib.hid (by rw [hW.out]),h0,h1,h2,h3,Lib.hid hS.symm,Lib.hid ((Below.heap_alloc _ _ _ t0).trans X0.out),Lib.hid ((Below.heap_alloc _ _ _ t1).trans X1.out),Lib.hid ((Below.heap_alloc _ _ _ t2).trans X2.out),Lib.hid ((Below.heap_alloc _ _ _ t3).trans X3.out),Lib.hid (heap_alloc_new W o4),Lib.hid (bt B.out (ba _ _)),L0,L1,L2,L3,Lib.hid (by omega),Lib.hid ⟨trivial,by omega,by omega,by omega,by omega⟩,Lib.hid (by rw [World.size_alloc,hS])⟩
theorem mk6 (w:World) (o0 o1 o2 o3 o4 o5:Obj):∃ (W:World) (i0 i1 i2 i3 i4 i5:Nat),Hid ((((((w.alloc o0).alloc o1).alloc o2).alloc o3).alloc o4).alloc o5=W)∧Hid (w.heap.size=i0)∧Hid (w.heap.size+1=i1)∧Hid (w.heap.size+1+1=i2)∧Hid (w.heap.size+1+1+1=i3)∧Hid (w.heap.size+1+1+1+1=i4)∧Hid (w.heap.size+1+1+1+1+1=i5)∧Hid (W.heap[i0]?=some o0)∧Hid (W.heap[i1]?=some o1)∧Hid (W.heap[i2]?=some o2)∧Hid (W.heap[i3]?=some o3)∧Hid (W.heap[i4]?=some o4)∧Hid (W.heap[i5]?=some o5)∧Hid (Below w.heap.size w W)∧Hid (w.heap.size≤i0)∧Hid (w.heap.size≤i1)∧Hid (w.heap.size≤i2)∧Hid (w.heap.size≤i3)∧Hid (w.heap.size≤i4)∧Hid (w.heap.size≤i5)∧Hid (True∧i0<i1∧i1<i2∧i2<i3∧i3<i4∧i4<i5)∧Hid (W.heap.size=w.heap.size+1+1+1+1+1+1):=by
 obtain ⟨W,i0,i1,i2,i3,i4,hW,h0,h1,h2,h3,h4,X0,X1,X2,X3,X4,B,L0,L1,L2,L3,L4,LI,S⟩:=mk5 w o0 o1 o2 o3 o4
 have hS:=S.out
 have t0:=(Array.getElem?_eq_some_iff.1 X0.out).1
 have t1:=(Array.getElem?_eq_some_iff.1 X1.out).1
 have t2:=(Array.getElem?_eq_some_iff.1 X2.out).1
 have t3:=(Array.getElem?_eq_some_iff.1 X3.out).1
 have t4:=(Array.getElem?_eq_some_iff.1 X4.out).1
 have l:=LI.out
 exact ⟨W.alloc o5,i0,i1,i2,i3,i4,W.heap.size,Lib.hid (by rw [hW.out]),h0,h1,h2,h3,h4,Lib.hid hS.symm,Lib.hid ((Below.heap_alloc _ _ _ t0).trans X0.out),Lib.hid ((Below.heap_alloc _ _ _ t1).trans X1.out),Lib.hid ((Below.heap_alloc _ _ _ t2).trans X2.out),Lib.hid ((Below.heap_alloc _ _ _ t3).trans X3.out),Lib.hid ((Below.heap_alloc _ _ _ t4).trans X4.out),Lib.hid (heap_alloc_new W o5),Lib.hid (bt B.out (ba _ _)),L0,L1,L2,L3,L4,Lib.hid (by omega),Lib.hid ⟨trivial,by omega,by omega,by omega,by omega,by omega⟩,Lib.hid (by rw [World.size_alloc,hS])⟩
abbrev av (v:V):Value:=.agg #[.int .u8 v.k,.int .i64 v.c,.int .i64 v.s,.int .i64 v.e]
abbrev an (n:Nd):Value:=.agg #[.int .u8 n.op,.int .i64 n.c,.int .i64 n.s,.string (bs n.n),.int .i64 n.k,.int .i64 n.x,.int .i64 n.y,.int .i64 n.z,.int .i64 n.p]
abbrev ao (q:Opd):Value:=.agg #[.int .u8 q.op,.string (bs q.n),.int .i64 q.k]
abbrev fo (v:V):Obj:=(.cells #[.int .u8 v.k,.int .i64 v.c,.int .i64 v.s,.int .i64 v.e] 33)
abbrev no (n:Nd):Obj:=(.cells #[.int .u8 n.op,.int .i64 n.c,.int .i64 n.s,.string (bs n.n),.int .i64 n.k,.int .i64 n.x,.int .i64 n.y,.int .i64 n.z,.int .i64 n.p] 39)
theorem drb (w:World):Below w.heap.size w w.drew:=⟨rfl,rfl,rfl,Nat.le_refl _,fun _ _=>rfl⟩
theorem hB {w a b:World} (h:Hid (Below w.heap.size w a)) (q:Below a.heap.size a b):Hid (Below w.heap.size w b):=Lib.hid (bt h.out q)
theorem hF {w a:World} {i:Nat} {v:V} (h:Hid (Four w i v)) (q:Below w.heap.size w a):Hid (Four a i v):=Lib.hid (h.out.below q)
theorem hD {w a:World} {i:Nat} {x y:Int} (h:Hid (Two w i x y)) (q:Below w.heap.size w a):Hid (Two a i x y):=Lib.hid (h.out.below q)
theorem mkZ (w:World) :∃ (W:World) (i0:Nat),Hid (w.alloc ((.cells #[.int .u8 0,.int .i64 0,.int .i64 0,.int .i64 0] 33))=W)∧Hid (w.heap.size=i0)∧Hid (Four W i0 noV)∧Hid (Below w.heap.size w W)∧Hid (w.heap.size≤i0)∧Hid (True)∧Hid (W.heap.size=w.heap.size+1):=mk1 w _
theorem mkV (w:World) (x0:V):∃ (W:World) (i0:Nat),Hid (w.alloc (fo x0)=W)∧Hid (w.heap.size=i0)∧Hid (Four W i0 x0)∧Hid (Below w.heap.size w W)∧Hid (w.heap.size≤i0)∧Hid (True)∧Hid (W.heap.size=w.heap.size+1):=mk1 w _
theorem mkVZ (w:World) (x0:V):∃ (W:World) (i0 i1:Nat),Hid ((w.alloc (fo x0)).alloc ((.cells #[.int .u8 0,.int .i64 0,.int .i64 0,.int .i64 0] 33))=W)∧Hid (w.heap.size=i0)∧Hid (w.heap.size+1=i1)∧Hid (Four W i0 x0)∧Hid (Four W i1 noV)∧Hid (Below w.heap.size w W)∧Hid (w.heap.size≤i0)∧Hid (w.heap.size≤i1)∧Hid (True∧i0<i1)∧Hid (W.heap.size=w.heap.size+1+1):=mk2 w _ _
theorem mkVVZ (w:World) (x0:V) (x1:V):∃ (W:World) (i0 i1 i2:Nat),Hid (((w.alloc (fo x0)).alloc (fo x1)).alloc ((.cells #[.int .u8 0,.int .i64 0,.int .i64 0,.int .i64 0] 33))=W)∧Hid (w.heap.size=i0)∧Hid (w.heap.size+1=i1)∧Hid (w.heap.size+1+1=i2)∧Hid (Four W i0 x0)∧Hid (Four W i1 x1)∧Hid (Four W i2 noV)∧Hid (Below w.heap.size w W)∧Hid (w.heap.size≤i0)∧Hid (w.heap.size≤i1)∧Hid (w.heap.size≤i2)∧Hid (True∧i0<i1∧i1<i2)∧Hid (W.heap.size=w.heap.size+1+1+1):=mk3 w _ _ _
theorem mkDZ (w:World) (x0 y0:Int):∃ (W:World) (i0 i1:Nat),Hid ((w.alloc ((.cells #[.int .i64 x0,.int .i64 y0] 30))).alloc ((.cells #[.int .u8 0,.int .i64 0,.int .i64 0,.int .i64 0] 33))=W)∧Hid (w.heap.size=i0)∧Hid (w.heap.size+1=i1)∧Hid (Two W i0 x0 y0)∧Hid (Four W i1 noV)∧Hid (Below w.heap.size w W)∧Hid (w.heap.size≤i0)∧Hid (w.heap.size≤i1)∧Hid (True∧i0<i1)∧Hid (W.heap.size=w.heap.size+1+1):=mk2 w _ _
theorem mkDDZ (w:World) (x0 y0:Int) (x1 y1:Int):∃ (W:World) (i0 i1 i2:Nat),Hid (((w.alloc ((.cells #[.int .i64 x0,.int .i64 y0] 30))).alloc ((.cells #[.int .i64 x1,.int .i64 y1] 30))).alloc ((.cells #[.int .u8 0,.int .i64 0,.int .i64 0,.int .i64 0] 33))=W)∧Hid (w.heap.size=i0)∧Hid (w.heap.size+1=i1)∧Hid (w.heap.size+1+1=i2)∧Hid (Two W i0 x0 y0)∧Hid (Two W i1 x1 y1)∧Hid (Four W i2 noV)∧Hid (Below w.heap.size w W)∧Hid (w.heap.size≤i0)∧Hid (w.heap.size≤i1)∧Hid (w.heap.size≤i2)∧Hid (True∧i0<i1∧i1<i2)∧Hid (W.heap.size=w.heap.size+1+1+1):=mk3 w _ _ _
theorem mkDDE (w:World) (x0 y0:Int) (x1 y1:Int):∃ (W:World) (i0 i1 i2:Nat),Hid (((w.alloc ((.cells #[.int .i64 x0,.int .i64 y0] 30))).alloc ((.cells #[.int .i64 x1,.int .i64 y1] 30))).alloc ((.cells #[.int .i64 0,.int .i64 0] 30))=W)∧Hid (w.heap.size=i0)∧Hid (w.heap.size+1=i1)∧Hid (w.heap.size+1+1=i2)∧Hid (Two W i0 x0 y0)∧Hid (Two W i1 x1 y1)∧Hid (Two W i2 0 0)∧Hid (Below w.heap.size w W)∧Hid (w.heap.size≤i0)∧Hid (w.heap.size≤i1)∧Hid (w.heap.size≤i2)∧Hid (True∧i0<i1∧i1<i2)∧Hid (W.heap.size=w.heap.size+1+1+1):=mk3 w _ _ _
theorem mkDE (w:World) (x0 y0:Int):∃ (W:World) (i0 i1:Nat),Hid ((w.alloc ((.cells #[.int .i64 x0,.int .i64 y0] 30))).alloc ((.cells #[.int .i64 0,.int .i64 0] 30))=W)∧Hid (w.heap.size=i0)∧Hid (w.heap.size+1=i1)∧Hid (Two W i0 x0 y0)∧Hid (Two W i1 0 0)∧Hid (Below w.heap.size w W)∧Hid (w.heap.size≤i0)∧Hid (w.heap.size≤i1)∧Hid (True∧i0<i1)∧Hid (W.heap.size=w.heap.size+1+1):=mk2 w _ _
theorem k04 {v:V} (h:v.k=0∨v.k=4):(decide (v.k=4)=true∧(v.k==4)=true∧(v.k !=4)=false∧decide (v.k=0)=false∧(v.k==0)=false∧(v.k !=0)=true)∨(decide (v.k=4)=false∧(v.k==4)=false∧(v.k !=4)=true∧decide (v.k=0)=true∧(v.k==0)=true∧(v.k !=0)=false):=by
 rcases h with h | h<;>simp [h]
theorem kno {v:V} (h:¬(v.k=0∨v.k=4)):(decide (v.k=4)=false∧(v.k==4)=false∧(v.k !=4)=true)∧(decide (v.k=0)=false∧(v.k==0)=false∧(v.k !=0)=true):=by
 have h0:¬v.k=0:=fun e=>h (.inl e)
 have h4:¬v.k=4:=fun e=>h (.inr e)
 simp [h0,h4]
def VP (v:V) (w:World) (e:Ending) (w':World):Prop:=e=.returned (.agg #[.int .u8 v.k,.int .i64 v.c,.int .i64 v.s,.int .i64 v.e])∧Below w.heap.size w w'
def BP (b:Bool) (w:World) (e:Ending) (w':World):Prop:=e=.returned (.bool b)∧Below w.heap.size w w'
theorem ret4 {fn:Func} (p:Tmp) (hf:fn.results=#[.cell p 33]) {a:Act} {w0 W:World} {iR:Nat} {old v:V} (R:Hid (Four W iR old)) (B:Hid (Below w0.heap.size w0 W)) (L:Hid (w0.heap.size≤iR)) {k c s e:Int}
  (hp:a.tmps.getD p undef=.pointer (some ⟨iR,0,none⟩)) (hd:a.defers=[]) (he:Value.agg #[.int .u8 k,.int .i64 c,.int .i64 s,.int .i64 e]=av v):bodyPost Tryz.prog fn (VP v w0) .ret a ((((W.setCell ⟨iR,0,none⟩ (.int .u8 k)).setCell ⟨iR,1,none⟩ (.int .i64 c)).setCell ⟨iR,2,none⟩ (.int .i64 s)).setCell ⟨iR,3,none⟩ (.int .i64 e)):=by
 refine bodyPost_ret (v:=.agg #[.int .u8 k,.int .i64 c,.int .i64 s,.int .i64 e]) (results_cell_row hf _ _ iR _ _ (0,0) _ hp (R.out.set _ _ _ _) Tryz.underlying33 rfl (by kernel_rfl)) hd ?_
 exact ⟨congrArg Ending.returned he,below_set4 B.out L.out _ _ _ _⟩
theorem truth_vp {w:World} (b:Bool):Calls Tryz.prog 34 #[.bool b] w (VP (truthV b) w):=by
 refine (truth_is (w:=w) b).mono ?_
 rintro e w' ⟨rfl,h⟩
 cases b<;>exact ⟨rfl,h⟩
theorem bad_vp {w:World} (n:Int):Calls Tryz.prog 23 #[.int .i64 n] w (VP (badE n) w):=by
 try dsimp only [av,an,ao]
 go_enter Tryz.func23,Tryz.ntmps23
 go_upto_region 1 with fail
 obtain ⟨W0,iR,hW,hR,R0,B0,LR,LI,LS⟩:=mkZ w
 rw [hW.out];try rw [hR.out]
 clear hW hR
 obtain ⟨Rc0,Rc1,Rc2,Rc3,Rf0,Rf1,Rf2,Rf3⟩:=R0.out.cf
 go_wp2_with fail
 exact ret4 2 rfl R0 B0 LR rfl rfl rfl
theorem rbad_vp {w:World} (n:Int):Calls Tryz.prog 15 #[.int .i64 n] w (VP (badE n) w):=by
 try dsimp only [av,an,ao]
 go_enter Tryz.func15,Tryz.ntmps15
 go_upto_region 1 with fail
 obtain ⟨W0,iR,hW,hR,R0,B0,LR,LI,LS⟩:=mkZ w
 rw [hW.out];try rw [hR.out]
 clear hW hR
 obtain ⟨Rc0,Rc1,Rc2,Rc3,Rf0,Rf1,Rf2,Rf3⟩:=R0.out.cf
 go_wp2_with fail
 exact ret4 2 rfl R0 B0 LR rfl rfl rfl
theorem rtruth_vp {w:World} (b:Bool):Calls Tryz.prog 16 #[.bool b] w (VP (truthV b) w):=by
 cases b
 all_goals
  try dsimp only [av,an,ao]
  go_enter Tryz.func16,Tryz.ntmps16
  go_upto_region 1 with fail
  obtain ⟨W0,iR,hW,hR,R0,B0,LR,LI,LS⟩:=mkZ w
  rw [hW.out];try rw [hR.out]
  clear hW hR
  obtain ⟨Rc0,Rc1,Rc2,Rc3,Rf0,Rf1,Rf2,Rf3⟩:=R0.out.cf
  go_wp2_with fail
  exact ret4 2 rfl R0 B0 LR rfl rfl rfl
theorem ist_is {w:World} (v:V):Calls Tryz.prog 112 #[av v] w (BP (isT v) w):=by
 by_cases h2:v.k=2
 ·have E:isT v=true:=by unfold isT;rw [decide_eq_true (.inl h2)]
  rw [E]
  have d1:decide (v.k=2)=true:=decide_eq_true h2
  have d2:(v.k==2)=true:=by simpa using h2
  clear E h2
  try dsimp only [av,an,ao]
  go_enter Tryz.func112,Tryz.ntmps112
  go_upto_region 1 with fail
  obtain ⟨W0,iX,hW,hX,X0,B0,LX,LI,LS⟩:=mkV w v
  rw [hW.out];try rw [hX.out]
  clear hW hX
  have Xc0:=X0.out.c0
  go_wp2_with fail
  go_ret
  exact ⟨rfl,B0.out⟩
 ·have d1:decide (v.k=2)=false:=decide_eq_false h2
  have d2:(v.k==2)=false:=by simpa using h2
  have E:isT v=decide (v.k=3):=by unfold isT;by_cases h3:v.k=3<;>simp [h2,h3]
  rw [E]
  obtain ⟨b,hb⟩:∃ b,decide (v.k=3)=b:=⟨_,rfl⟩
  have d4:(v.k==3)=b:=by rw [←hb];rfl
  rw [hb]
  clear E h2
  cases b
  all_goals
   try dsimp only [av,an,ao]
   go_enter Tryz.func112,Tryz.ntmps112
   go_upto_region 1 with fail
   obtain ⟨W0,iX,hW,hX,X0,B0,LX,LI,LS⟩:=mkV w v
   rw [hW.out];try rw [hX.out]
   clear hW hX
   have Xc0:=X0.out.c0
   go_wp2_with fail
   go_ret
   exact ⟨rfl,B0.out⟩
theorem rist_is {w:World} (v:V):Calls Tryz.prog 39 #[av v] w (BP (isT v) w):=by
 by_cases h2:v.k=2
 ·have E:isT v=true:=by unfold isT;rw [decide_eq_true (.inl h2)]
  rw [E]
  have d1:decide (v.k=2)=true:=decide_eq_true h2
  have d2:(v.k==2)=true:=by simpa using h2
  clear E h2
  try dsimp only [av,an,ao]
  go_enter Tryz.func39,Tryz.ntmps39
  go_upto_region 1 with fail
  obtain ⟨W0,iX,hW,hX,X0,B0,LX,LI,LS⟩:=mkV w v
  rw [hW.out];try rw [hX.out]
  clear hW hX
  have Xc0:=X0.out.c0
  go_wp2_with fail
  go_ret
  exact ⟨rfl,B0.out⟩
 ·have d1:decide (v.k=2)=false:=decide_eq_false h2
  have d2:(v.k==2)=false:=by simpa using h2
  have E:isT v=decide (v.k=3):=by unfold isT;by_cases h3:v.k=3<;>simp [h2,h3]
  rw [E]
  obtain ⟨b,hb⟩:∃ b,decide (v.k=3)=b:=⟨_,rfl⟩
  have d4:(v.k==3)=b:=by rw [←hb];rfl
  rw [hb]
  clear E h2
  cases b
  all_goals
   try dsimp only [av,an,ao]
   go_enter Tryz.func39,Tryz.ntmps39
   go_upto_region 1 with fail
   obtain ⟨W0,iX,hW,hX,X0,B0,LX,LI,LS⟩:=mkV w v
   rw [hW.out];try rw [hX.out]
   clear hW hX
   have Xc0:=X0.out.c0
   go_wp2_with fail
   go_ret
   exact ⟨rfl,B0.out⟩
theorem wrong_vp {w:World} (v:V):Calls Tryz.prog 113 #[av v] w (VP (wrongV v) w):=by
 by_cases h4:v.k=4
 ·have E:wrongV v=v:=by unfold wrongV;rw [if_pos h4]
  rw [E]
  have d1:decide (v.k=4)=true:=decide_eq_true h4
  have d2:(v.k==4)=true:=by simpa using h4
  clear E h4
  try dsimp only [av,an,ao]
  go_enter Tryz.func113,Tryz.ntmps113
  go_upto_region 1 with fail
  obtain ⟨W0,iX,iR,hW,hX,hR,X0,R0,B0,LX,LR,LI,LS⟩:=mkVZ w v
  rw [hW.out];try rw [hR.out];try rw [hX.out]
  clear hW hX hR
  obtain ⟨Xc0,Xc1,Xc2,Xc3⟩:=X0.out.cs
  obtain ⟨Rc0,Rc1,Rc2,Rc3,Rf0,Rf1,Rf2,Rf3⟩:=R0.out.cf
  go_wp2_with fail
  exact ret4 2 rfl R0 B0 LR rfl rfl rfl
 ·have E:wrongV v=badE 13:=by unfold wrongV;rw [if_neg h4]
  rw [E]
  have d1:decide (v.k=4)=false:=decide_eq_false h4
  have d2:(v.k==4)=false:=by simpa using h4
  clear E h4
  try dsimp only [av,an,ao]
  go_enter Tryz.func113,Tryz.ntmps113
  go_upto_region 1 with fail
  obtain ⟨W0,iX,iR,hW,hX,hR,X0,R0,B0,LX,LR,LI,LS⟩:=mkVZ w v
  rw [hW.out];try rw [hR.out];try rw [hX.out]
  clear hW hX hR
  have Xc0:=X0.out.c0
  go_wp2_with (go_at_call 23;(with_reducible refine (bad_vp (w:=_) 13).mono ?_);rintro e1 w1 ⟨rfl,q1⟩;have B1:=hB B0 q1;have R1:=hF R0 q1;clear q1 B0 R0;obtain ⟨Rc0,Rc1,Rc2,Rc3,Rf0,Rf1,Rf2,Rf3⟩:=R1.out.cf)
  exact ret4 2 rfl R1 B1 LR rfl rfl rfl
theorem rwrong_vp {w:World} (v:V):Calls Tryz.prog 40 #[av v] w (VP (wrongV v) w):=by
 by_cases h4:v.k=4
 ·have E:wrongV v=v:=by unfold wrongV;rw [if_pos h4]
  rw [E]
  have d1:decide (v.k=4)=true:=decide_eq_true h4
  have d2:(v.k==4)=true:=by simpa using h4
  clear E h4
  try dsimp only [av,an,ao]
  go_enter Tryz.func40,Tryz.ntmps40
  go_upto_region 1 with fail
  obtain ⟨W0,iX,iR,hW,hX,hR,X0,R0,B0,LX,LR,LI,LS⟩:=mkVZ w v
  rw [hW.out];try rw [hR.out];try rw [hX.out]
  clear hW hX hR
  obtain ⟨Xc0,Xc1,Xc2,Xc3⟩:=X0.out.cs
  obtain ⟨Rc0,Rc1,Rc2,Rc3,Rf0,Rf1,Rf2,Rf3⟩:=R0.out.cf
  go_wp2_with fail
  exact ret4 2 rfl R0 B0 LR rfl rfl rfl
 ·have E:wrongV v=badE 13:=by unfold wrongV;rw [if_neg h4]
  rw [E]
  have d1:decide (v.k=4)=false:=decide_eq_false h4
  have d2:(v.k==4)=false:=by simpa using h4
  clear E h4
  try dsimp only [av,an,ao]
  go_enter Tryz.func40,Tryz.ntmps40
  go_upto_region 1 with fail
  obtain ⟨W0,iX,iR,hW,hX,hR,X0,R0,B0,LX,LR,LI,LS⟩:=mkVZ w v
  rw [hW.out];try rw [hR.out];try rw [hX.out]
  clear hW hX hR
  have Xc0:=X0.out.c0
  go_wp2_with (go_at_call 15;(with_reducible refine (rbad_vp (w:=_) 13).mono ?_);rintro e1 w1 ⟨rfl,q1⟩;have B1:=hB B0 q1;have R1:=hF R0 q1;clear q1 B0 R0;obtain ⟨Rc0,Rc1,Rc2,Rc3,Rf0,Rf1,Rf2,Rf3⟩:=R1.out.cf)
  exact ret4 2 rfl R1 B1 LR rfl rfl rfl
theorem told_vp {w:World} (c s e:Int):Calls Tryz.prog 32 #[.agg #[.int .i64 c,.int .i64 s],.int .i64 e] w (VP (toldV (c,s,e)) w):=by
 by_cases h0:e=0
 ·subst h0
  have E:toldV (c,s,0)=⟨1,c,s,0⟩:=rfl
  rw [E]
  clear E
  try dsimp only [av,an,ao]
  go_enter Tryz.func32,Tryz.ntmps32
  go_upto_region 1 with fail
  obtain ⟨W0,iX,iR,hW,hX,hR,X0,R0,B0,LX,LR,LI,LS⟩:=mkDZ w c s
  rw [hW.out];try rw [hR.out];try rw [hX.out]
  clear hW hX hR
  have Xc0:=X0.out.c0;have Xc1:=X0.out.c1
  obtain ⟨Rc0,Rc1,Rc2,Rc3,Rf0,Rf1,Rf2,Rf3⟩:=R0.out.cf
  go_wp2_with fail
  exact ret4 4 rfl R0 B0 LR rfl rfl rfl
 ·have d1:decide (e=0)=false:=decide_eq_false h0
  have d2:(e==0)=false:=by simpa using h0
  by_cases h11:e=11
  ·subst h11
   have E:toldV (c,s,11)=badE 11:=rfl
   rw [E]
   try dsimp only [av,an,ao]
   go_enter Tryz.func32,Tryz.ntmps32
   go_upto_region 1 with fail
   obtain ⟨W0,iX,iR,hW,hX,hR,X0,R0,B0,LX,LR,LI,LS⟩:=mkDZ w c s
   rw [hW.out];try rw [hR.out];try rw [hX.out]
   clear hW hX hR
   go_wp2_with (go_at_call 23;(with_reducible refine (bad_vp (w:=_) 11).mono ?_);rintro e1 w1 ⟨rfl,q1⟩;have B1:=hB B0 q1;have R1:=hF R0 q1;clear q1 B0 R0;obtain ⟨Rc0,Rc1,Rc2,Rc3,Rf0,Rf1,Rf2,Rf3⟩:=R1.out.cf)
   exact ret4 4 rfl R1 B1 LR rfl rfl rfl
  ·have d12:decide (e=11)=false:=decide_eq_false h11
   have d12a:(e==11)=false:=by simpa using h11
   by_cases h12:e=12
   ·subst h12
    have E:toldV (c,s,12)=badE 12:=rfl
    rw [E]
    try dsimp only [av,an,ao]
    go_enter Tryz.func32,Tryz.ntmps32
    go_upto_region 1 with fail
    obtain ⟨W0,iX,iR,hW,hX,hR,X0,R0,B0,LX,LR,LI,LS⟩:=mkDZ w c s
    rw [hW.out];try rw [hR.out];try rw [hX.out]
    clear hW hX hR
    go_wp2_with (go_at_call 23;(with_reducible refine (bad_vp (w:=_) 12).mono ?_);rintro e1 w1 ⟨rfl,q1⟩;have B1:=hB B0 q1;have R1:=hF R0 q1;clear q1 B0 R0;obtain ⟨Rc0,Rc1,Rc2,Rc3,Rf0,Rf1,Rf2,Rf3⟩:=R1.out.cf)
    exact ret4 4 rfl R1 B1 LR rfl rfl rfl
   ·have d13:decide (e=12)=false:=decide_eq_false h12
    have d13a:(e==12)=false:=by simpa using h12
    have E:toldV (c,s,e)=badE 13:=by unfold toldV;simp only [h0,h11,h12,if_false]
    rw [E]
    clear E h0 h11 h12
    try dsimp only [av,an,ao]
    go_enter Tryz.func32,Tryz.ntmps32
    go_upto_region 1 with fail
    obtain ⟨W0,iX,iR,hW,hX,hR,X0,R0,B0,LX,LR,LI,LS⟩:=mkDZ w c s
    rw [hW.out];try rw [hR.out];try rw [hX.out]
    clear hW hX hR
    go_wp2_with (go_at_call 23;(with_reducible refine (bad_vp (w:=_) 13).mono ?_);rintro e1 w1 ⟨rfl,q1⟩;have B1:=hB B0 q1;have R1:=hF R0 q1;clear q1 B0 R0;obtain ⟨Rc0,Rc1,Rc2,Rc3,Rf0,Rf1,Rf2,Rf3⟩:=R1.out.cf)
    exact ret4 4 rfl R1 B1 LR rfl rfl rfl
theorem rdec_vp {w:World} (c s e:Int) (he:e=0∨e=2∨e=11∨e=12):Calls Tryz.prog 37 #[.agg #[.int .i64 c,.int .i64 s],.int .i64 e] w (VP (toldV (c,s,e)) w):=by
 by_cases h0:e=0
 ·subst h0
  have E:toldV (c,s,0)=⟨1,c,s,0⟩:=rfl
  rw [E]
  clear E
  try dsimp only [av,an,ao]
  go_enter Tryz.func37,Tryz.ntmps37
  go_upto_region 1 with fail
  obtain ⟨W0,iX,iR,hW,hX,hR,X0,R0,B0,LX,LR,LI,LS⟩:=mkDZ w c s
  rw [hW.out];try rw [hR.out];try rw [hX.out]
  clear hW hX hR
  have Xc0:=X0.out.c0;have Xc1:=X0.out.c1
  obtain ⟨Rc0,Rc1,Rc2,Rc3,Rf0,Rf1,Rf2,Rf3⟩:=R0.out.cf
  go_wp2_with fail
  exact ret4 4 rfl R0 B0 LR rfl rfl rfl
 ·have d1:decide (e=0)=false:=decide_eq_false h0
  have d2:(e==0)=false:=by simpa using h0
  by_cases h2:e=2
  ·subst h2
   have E:toldV (c,s,2)=badE 13:=rfl
   rw [E]
   try dsimp only [av,an,ao]
   go_enter Tryz.func37,Tryz.ntmps37
   go_upto_region 1 with fail
   obtain ⟨W0,iX,iR,hW,hX,hR,X0,R0,B0,LX,LR,LI,LS⟩:=mkDZ w c s
   rw [hW.out];try rw [hR.out];try rw [hX.out]
   clear hW hX hR
   go_wp2_with (go_at_call 15;(with_reducible refine (rbad_vp (w:=_) 13).mono ?_);rintro e1 w1 ⟨rfl,q1⟩;have B1:=hB B0 q1;have R1:=hF R0 q1;clear q1 B0 R0;obtain ⟨Rc0,Rc1,Rc2,Rc3,Rf0,Rf1,Rf2,Rf3⟩:=R1.out.cf)
   exact ret4 4 rfl R1 B1 LR rfl rfl rfl
  ·have d3:decide (e=2)=false:=decide_eq_false h2
   have d3a:(e==2)=false:=by simpa using h2
   by_cases h11:e=11
   ·subst h11
    have E:toldV (c,s,11)=badE 11:=rfl
    rw [E]
    try dsimp only [av,an,ao]
    go_enter Tryz.func37,Tryz.ntmps37
    go_upto_region 1 with fail
    obtain ⟨W0,iX,iR,hW,hX,hR,X0,R0,B0,LX,LR,LI,LS⟩:=mkDZ w c s
    rw [hW.out];try rw [hR.out];try rw [hX.out]
    clear hW hX hR
    go_wp2_with (go_at_call 15;(with_reducible refine (rbad_vp (w:=_) 11).mono ?_);rintro e1 w1 ⟨rfl,q1⟩;have B1:=hB B0 q1;have R1:=hF R0 q1;clear q1 B0 R0;obtain ⟨Rc0,Rc1,Rc2,Rc3,Rf0,Rf1,Rf2,Rf3⟩:=R1.out.cf)
    exact ret4 4 rfl R1 B1 LR rfl rfl rfl
   ·have d12:decide (e=11)=false:=decide_eq_false h11
    have d12a:(e==11)=false:=by simpa using h11
    by_cases h12:e=12
    ·subst h12
     have E:toldV (c,s,12)=badE 12:=rfl
     rw [E]
     try dsimp only [av,an,ao]
     go_enter Tryz.func37,Tryz.ntmps37
     go_upto_region 1 with fail
     obtain ⟨W0,iX,iR,hW,hX,hR,X0,R0,B0,LX,LR,LI,LS⟩:=mkDZ w c s
     rw [hW.out];try rw [hR.out];try rw [hX.out]
     clear hW hX hR
     go_wp2_with (go_at_call 15;(with_reducible refine (rbad_vp (w:=_) 12).mono ?_);rintro e1 w1 ⟨rfl,q1⟩;have B1:=hB B0 q1;have R1:=hF R0 q1;clear q1 B0 R0;obtain ⟨Rc0,Rc1,Rc2,Rc3,Rf0,Rf1,Rf2,Rf3⟩:=R1.out.cf)
     exact ret4 4 rfl R1 B1 LR rfl rfl rfl
    ·have d13:decide (e=12)=false:=decide_eq_false h12
     have d13a:(e==12)=false:=by simpa using h12
     exfalso;omega
end Go.Proofs.YteagpbkbdlmdiaaGreat.Ev
