/-
  Names: kept words; the document's Name and the program's, walked; Names: the document's Name, the program's, walked; The document's parser, plain; The document's parser: a reader in memory; place, next, walked.
-/
import Derived.Test.YteagpbkbdlmdiaaGreatQ33
import Derived.Test.YteagpbkbdlmdiaaGreatQ23
import Derived.Test.YteagpbkbdlmdiaaGreatQ24
import Derived.BigQuiet
set_option linter.unusedSimpArgs false
set_option linter.unusedVariables false
namespace Go.Proofs.YteagpbkbdlmdiaaGreat.Lx
open Go Go.RowKit Dt Tx
attribute [local go_sem ↓] Go.wp_at_zero Go.wp_at_succ
def keptW:List (List UInt8):=[[116,114,117,101],[102,97,108,115,101],[97,110,100],[111,114],[110,111,116],[105,102],[109,105,110],[109,97,120],[97,98,115],[114,111,117,110,100],[104,97,115],[111,114,101,108,115,101],[108,97,103],[108,101,97,115,116],[109,111,115,116],[97,110,121],[101,118,101,114,121]]
def nameP (l:List UInt8):Bool:=decide (0<l.length) && decide (l.length≤12) && (l[0]?).any isLo && decide (wh isAl l=l.length) && !keptW.contains l
theorem kept_cases (l:List UInt8):(keptW.contains l=true∧(l=[116,114,117,101]∨l=[102,97,108,115,101]∨l=[97,110,100]∨l=[111,114]∨l=[110,111,116]∨l=[105,102]∨l=[109,105,110]∨l=[109,97,120]∨l=[97,98,115]∨l=[114,111,117,110,100]∨l=[104,97,115]∨l=[111,114,101,108,115,101]∨l=[108,97,103]∨l=[108,101,97,115,116]∨l=[109,111,115,116]∨l=[97,110,121]∨l=[101,118,101,114,121]))∨(keptW.contains l=false∧¬l=[116,114,117,101]∧¬l=[102,97,108,115,101]∧¬l=[97,110,100]∧¬l=[111,114]∧¬l=[110,111,116]∧¬l=[105,102]∧¬l=[109,105,110]∧¬l=[109,97,120]∧¬l=[97,98,115]∧¬l=[114,111,117,110,100]∧¬l=[104,97,115]∧¬l=[111,114,101,108,115,101]∧¬l=[108,97,103]∧¬l=[108,101,97,115,116]∧¬l=[109,111,115,116]∧¬l=[97,110,121]∧¬l=[101,118,101,114,121]):=by
 unfold keptW
 cases h:List.contains [[116,114,117,101],[102,97,108,115,101],[97,110,100],[111,114],[110,111,116],[105,102],[109,105,110],[109,97,120],[97,98,115],[114,111,117,110,100],[104,97,115],[111,114,101,108,115,101],[108,97,103],[108,101,97,115,116],[109,111,115,116],[97,110,121],[101,118,101,114,121]] l
 ·right
  refine ⟨rfl,?_⟩
  simpa [List.contains_cons,Bool.or_eq_false_iff] using h
 ·left
  refine ⟨rfl,?_⟩
  simpa [List.contains_cons,Bool.or_eq_true] using h
set_option maxRecDepth 100000 in
set_option maxHeartbeats 4000000 in
theorem rkept_is {w:World} (l:List UInt8):Calls Tryz.prog 166 #[.string (bs l)] w fun e w'=>e=.returned (.bool (keptW.contains l))∧w'=w:=by
 rcases kept_cases l with ⟨h,k⟩ | ⟨h,k⟩
 ·rw [h]
  clear h
  rcases k with rfl | rfl | rfl | rfl | rfl | rfl | rfl | rfl | rfl | rfl | rfl | rfl | rfl | rfl | rfl | rfl | rfl
  all_goals
   simp only [bs]
   go_enter Tryz.func166,Tryz.ntmps166
   go_wp2_with fail
   go_ret
   exact ⟨rfl,rfl⟩
 ·rw [h]
  clear h
  obtain ⟨n0,n1,n2,n3,n4,n5,n6,n7,n8,n9,n10,n11,n12,n13,n14,n15,n16⟩:=k
  have m0:((bs l).toList==[116,114,117,101])=false:=by rw [bs_toList];exact beq_eq_false_iff_ne.2 n0
  have m1:((bs l).toList==[102,97,108,115,101])=false:=by rw [bs_toList];exact beq_eq_false_iff_ne.2 n1
  have m2:((bs l).toList==[97,110,100])=false:=by rw [bs_toList];exact beq_eq_false_iff_ne.2 n2
  have m3:((bs l).toList==[111,114])=false:=by rw [bs_toList];exact beq_eq_false_iff_ne.2 n3
  have m4:((bs l).toList==[110,111,116])=false:=by rw [bs_toList];exact beq_eq_false_iff_ne.2 n4
  have m5:((bs l).toList==[105,102])=false:=by rw [bs_toList];exact beq_eq_false_iff_ne.2 n5
  have m6:((bs l).toList==[109,105,110])=false:=by rw [bs_toList];exact beq_eq_false_iff_ne.2 n6
  have m7:((bs l).toList==[109,97,120])=false:=by rw [bs_toList];exact beq_eq_false_iff_ne.2 n7
  have m8:((bs l).toList==[97,98,115])=false:=by rw [bs_toList];exact beq_eq_false_iff_ne.2 n8
  have m9:((bs l).toList==[114,111,117,110,100])=false:=by rw [bs_toList];exact beq_eq_false_iff_ne.2 n9
  have m10:((bs l).toList==[104,97,115])=false:=by rw [bs_toList];exact beq_eq_false_iff_ne.2 n10
  have m11:((bs l).toList==[111,114,101,108,115,101])=false:=by rw [bs_toList];exact beq_eq_false_iff_ne.2 n11
  have m12:((bs l).toList==[108,97,103])=false:=by rw [bs_toList];exact beq_eq_false_iff_ne.2 n12
  have m13:((bs l).toList==[108,101,97,115,116])=false:=by rw [bs_toList];exact beq_eq_false_iff_ne.2 n13
  have m14:((bs l).toList==[109,111,115,116])=false:=by rw [bs_toList];exact beq_eq_false_iff_ne.2 n14
  have m15:((bs l).toList==[97,110,121])=false:=by rw [bs_toList];exact beq_eq_false_iff_ne.2 n15
  have m16:((bs l).toList==[101,118,101,114,121])=false:=by rw [bs_toList];exact beq_eq_false_iff_ne.2 n16
  obtain ⟨S,hS⟩:∃ S,Hid (bs l=S):=⟨_,rfl⟩
  rw [hS.out] at m0 m1 m2 m3 m4 m5 m6 m7 m8 m9 m10 m11 m12 m13 m14 m15 m16⊢
  clear n0 n1 n2 n3 n4 n5 n6 n7 n8 n9 n10 n11 n12 n13 n14 n15 n16 hS
  go_enter Tryz.func166,Tryz.ntmps166
  go_wp2_with fail
  go_ret
  exact ⟨rfl,rfl⟩
end Go.Proofs.YteagpbkbdlmdiaaGreat.Lx
namespace Go.Proofs.YteagpbkbdlmdiaaGreat.Lx
open Go Go.RowKit Dt Tx
attribute [local go_sem ↓] Go.wp_at_zero Go.wp_at_succ
theorem name_nil:nameP []=false:=by decide
theorem name_long {l:List UInt8} (h:12<l.length):nameP l=false:=by unfold nameP;rw [decide_eq_false (p:=l.length≤12) (by omega)];simp
theorem name_first {l:List UInt8} (h:(l[0]?).any isLo=false):nameP l=false:=by unfold nameP;rw [h];simp
theorem name_kept {l:List UInt8} (h:keptW.contains l=true):nameP l=false:=by unfold nameP;rw [h];simp
theorem name_wh {l:List UInt8} (h:¬wh isAl l=l.length):nameP l=false:=by unfold nameP;rw [decide_eq_false h];simp
theorem name_yes {l:List UInt8} (h0:0<l.length) (h1:l.length≤12) (h2:(l[0]?).any isLo=true) (h3:wh isAl l=l.length) (h4:keptW.contains l=false):nameP l=true:=by
 unfold nameP;rw [decide_eq_true h0,decide_eq_true h1,h2,decide_eq_true h3,h4];rfl
end Go.Proofs.YteagpbkbdlmdiaaGreat.Lx
namespace Go.Proofs.YteagpbkbdlmdiaaGreat.Ps
open Go Dt Tx Va Ev Lx
structure Rd where
 a:Nat
 d:Int
 t:List Nd
 e:Int
 b:Int
def wNot:List UInt8:=[110,111,116]
def wLp:List UInt8:=[40]
def wRp:List UInt8:=[41]
def wCm:List UInt8:=[44]
def wMi:List UInt8:=[45]
def wIf:List UInt8:=[105,102]
def wMin:List UInt8:=[109,105,110]
def wMax:List UInt8:=[109,97,120]
def wAbs:List UInt8:=[97,98,115]
def wRound:List UInt8:=[114,111,117,110,100]
def wHas:List UInt8:=[104,97,115]
def wOrelse:List UInt8:=[111,114,101,108,115,101]
def callW (w:List UInt8):Bool:=decide (w=wIf∨w=wMin∨w=wMax∨w=wAbs∨w=wRound∨w=wHas∨w=wOrelse)
section
variable (L:List Tok) (En:Int)
def placeR (s:Rd):Int:=match L[s.a]? with | some x=>x.p | none=>En
def nextR (s:Rd):List UInt8:=match L[s.a]? with | some x=>if x.k=2 then [] else x.t | none=>[]
def stopR (e:Int) (s:Rd):Rd:=if s.e=0 then {s with e:=e,b:=placeR L En s} else s
def upR (s:Rd):Rd:={s with a:=s.a+1}
def outR (s:Rd):Rd:={s with d:=s.d - 1}
def mustR (w:List UInt8) (s:Rd):Rd:=if s.e=0 then (if nextR L s=w then upR s else stopR L En 4 s) else s
def fullR (s:Rd):Rd:=if 16≤s.d then stopR L En 10 s else s
def deeperR (s:Rd):Rd:={fullR L En s with d:=s.d+1}
def addR (n:Nd) (s:Rd):Rd × Int:=({s with t:=s.t++[n]},(s.t.length:Int))
def putR (op p x y z:Int) (s:Rd):Rd × Int:=addR ⟨op,0,0,[],0,x,y,z,p⟩ s
def infixR (l:Nat) (w:List UInt8):Int:=
 if l=0 then (if w=[111,114] then 5 else 0)
 else if l=1 then (if w=[97,110,100] then 6 else 0)
 else if l=3 then (if w=[61] then 8 else if w=[60,62] then 9 else if w=[60] then 10 else if w=[60,61] then 11 else if w=[62] then 12 else if w=[62,61] then 13 else 0)
 else if l=4 then (if w=[43] then 14 else if w=[45] then 15 else 0)
 else if l=5 then (if w=[42] then 16 else if w=[47] then 17 else 0)
 else 0
def windowR (w:List UInt8):Int:=if w=[108,97,103] then 26 else if w=[108,101,97,115,116] then 27 else if w=[109,111,115,116] then 28 else if w=[97,110,121] then 29 else if w=[101,118,101,114,121] then 30 else 0
def wordK (s:Rd):Bool:=(L[s.a]?).any fun x=>decide (x.k=1)
def fieldR (s:Rd):Rd × List UInt8:=if s.e=0∧wordK L s=true∧nameP (nextR L s)=true then (upR s,nextR L s) else (stopR L En 4 s,[])
def wholeR (m:Int) (s:Rd):Rd × Int:=if s.e=0 then (match L[s.a]? with
  | some x=>if x.k=2∧x.s=0∧x.c≤m then (upR s,x.c) else (stopR L En 4 s,0)
  | none=>(stopR L En 4 s,0)) else (s,0)
def beginR (s:Rd):Rd:=mustR L En wLp (if nextR L (upR s)=wLp then deeperR L En (upR s) else upR s)
def endR (n:Nd) (s:Rd):Rd × Int:=addR n (outR (mustR L En wRp s))
inductive Md where
 | ex (l:Nat)
 | lo (l:Nat) (x:Int)
 | atm
 | ca (w:List UInt8) (n:Nd)
def nodeAt (s:Rd):Nd:=⟨0,0,0,[],0, -1, -1, -1,placeR L En s⟩
def runR:Nat→Md→Rd→Rd × Int
 | 0,_,s=>(s, -1)
 | f+1,.ex l,s=>
  if s.e=0 then
   if l=7 then runR f .atm s
   else if l=2∨l=6 then
    if nextR L s=(if l=6 then wMi else wNot) then
     putR (if l=6 then 18 else 7) (placeR L En s) (runR f (.ex l) (upR (deeperR L En s))).2 (-1) (-1) (outR (runR f (.ex l) (upR (deeperR L En s))).1)
    else runR f (.ex (l+1)) s
   else runR f (.lo l (runR f (.ex (l+1)) s).2) (runR f (.ex (l+1)) s).1
  else (s, -1)
 | f+1,.lo l x,s=>
  if s.e=0∧infixR l (nextR L s) ≠ 0 then
   if l=3 then putR (infixR l (nextR L s)) (placeR L En s) x (runR f (.ex (l+1)) (upR s)).2 (-1) (runR f (.ex (l+1)) (upR s)).1
   else runR f (.lo l (putR (infixR l (nextR L s)) (placeR L En s) x (runR f (.ex (l+1)) (upR s)).2 (-1) (runR f (.ex (l+1)) (upR s)).1).2) (putR (infixR l (nextR L s)) (placeR L En s) x (runR f (.ex (l+1)) (upR s)).2 (-1) (runR f (.ex (l+1)) (upR s)).1).1
  else (s,x)
 | f+1,.atm,s=>
  match L[s.a]? with
  | some x=>if x.k=2 then addR ⟨1,x.c,x.s,[],0, -1, -1, -1,x.p⟩ (upR s) else
   if x.t=wTrue then addR {nodeAt L En s with op:=2} (upR s)
   else if x.t=wFalse then addR {nodeAt L En s with op:=3} (upR s)
   else if x.t=wLp then (outR (mustR L En wRp (runR f (.ex 0) (upR (deeperR L En s))).1),(runR f (.ex 0) (upR (deeperR L En s))).2)
   else if callW x.t=true then runR f (.ca x.t (nodeAt L En s)) s
   else if windowR x.t ≠ 0 then
    endR L En {nodeAt L En s with op:=windowR x.t,n:=(fieldR L En (beginR L En s)).2,k:=(wholeR L En 3660 (mustR L En wCm (fieldR L En (beginR L En s)).1)).2} (wholeR L En 3660 (mustR L En wCm (fieldR L En (beginR L En s)).1)).1
   else addR {nodeAt L En s with op:=4,n:=(fieldR L En s).2} (fieldR L En s).1
  | none=>addR {nodeAt L En s with op:=4,n:=(fieldR L En s).2} (fieldR L En s).1
 | f+1,.ca w n,s=>
  if w=wHas then endR L En {n with op:=24,n:=(fieldR L En (beginR L En s)).2} (fieldR L En (beginR L En s)).1
  else if w=wOrelse then
   endR L En {n with op:=25,n:=(fieldR L En (beginR L En s)).2,x:=(runR f (.ex 0) (mustR L En wCm (fieldR L En (beginR L En s)).1)).2} (runR f (.ex 0) (mustR L En wCm (fieldR L En (beginR L En s)).1)).1
  else if w=wAbs then endR L En {n with op:=22,x:=(runR f (.ex 0) (beginR L En s)).2} (runR f (.ex 0) (beginR L En s)).1
  else if w=wRound then
   endR L En {n with op:=23,x:=(runR f (.ex 0) (beginR L En s)).2,k:=(wholeR L En 9 (mustR L En wCm (runR f (.ex 0) (beginR L En s)).1)).2} (wholeR L En 9 (mustR L En wCm (runR f (.ex 0) (beginR L En s)).1)).1
  else if w=wIf then
   endR L En {n with op:=19,x:=(runR f (.ex 0) (beginR L En s)).2,y:=(runR f (.ex 0) (mustR L En wCm (runR f (.ex 0) (beginR L En s)).1)).2,z:=(runR f (.ex 0) (mustR L En wCm (runR f (.ex 0) (mustR L En wCm (runR f (.ex 0) (beginR L En s)).1)).1)).2} (runR f (.ex 0) (mustR L En wCm (runR f (.ex 0) (mustR L En wCm (runR f (.ex 0) (beginR L En s)).1)).1)).1
  else
   endR L En {n with op:=(if w=wMax then 21 else 20),x:=(runR f (.ex 0) (beginR L En s)).2,y:=(runR f (.ex 0) (mustR L En wCm (runR f (.ex 0) (beginR L En s)).1)).2} (runR f (.ex 0) (mustR L En wCm (runR f (.ex 0) (beginR L En s)).1)).1
end
def muR (N:Nat) (m:Md) (a:Nat):Nat:=match m with
 | .ex l=>24*(N - a)+2*(8 - l)
 | .lo l _=>24*(N - a)+2*(8 - l) - 1
 | .atm=>24*(N - a)+1
 | .ca _ _=>24*(N - a)
def fl (s:Rd):Nat:=if s.e=0 then 0 else 1
structure Inv (N:Nat) (s:Rd):Prop where
 a:s.a≤N
 t:s.t.length≤s.a+fl s
 dl:-(s.a:Int)≤s.d
 dh:s.d≤17
 d0:fl s=0→s.d≤16
structure Gt (N:Nat) (u v:Int) (s s':Rd):Prop where
 a:s.a≤s'.a
 n:s'.a≤N
 t:(s'.t.length:Int)+s.a+fl s≤s.t.length+s'.a+fl s'+v
 dl:s.d+u+s.a≤s'.d+s'.a
 dh:s'.d≤s.d+u
 e:s.e ≠ 0→s'.e=s.e
theorem fl_le {N:Nat} {u v:Int} {s s':Rd} (h:Gt N u v s s'):fl s≤fl s':=by
 unfold fl
 by_cases e:s.e=0
 ·rw [if_pos e];omega
 ·rw [if_neg e,if_neg (by rw [h.e e];exact e)];omega
theorem Gt.refl {N:Nat} {s:Rd} (h:s.a≤N):Gt N 0 0 s s:=⟨Nat.le_refl _,h,by omega,by omega,by omega,fun _=>rfl⟩
theorem Gt.trans {N:Nat} {u v u' v' x y:Int} {s s1 s2:Rd} (h:Gt N u v s s1) (k:Gt N u' v' s1 s2) (hx:x=u+u') (hy:y=v+v'):Gt N x y s s2:=by
 refine ⟨Nat.le_trans h.a k.a,k.n,?_,?_,?_,fun e=>?_⟩
 ·have:=h.t;have:=k.t;omega
 ·have:=h.dl;have:=k.dl;omega
 ·have:=h.dh;have:=k.dh;omega
 ·have e1:=h.e e
  exact (k.e (by rw [e1];exact e)).trans e1
theorem Gt.more {N:Nat} {u v v':Int} {s s':Rd} (h:Gt N u v s s') (l:v≤v'):Gt N u v' s s':=⟨h.a,h.n,by have:=h.t;omega,h.dl,h.dh,h.e⟩
theorem Gt.fin {N:Nat} {u v:Int} {s s':Rd} (h:Gt N u v s s') (hu:u=0) (hv:v≤0):Gt N 0 0 s s':=by subst hu;exact h.more hv
theorem Inv.of {N:Nat} {s s':Rd} (i:Inv N s) (h:Gt N 0 0 s s'):Inv N s':=by
 have l:=fl_le h
 refine ⟨h.n,?_,?_,?_,fun e=>?_⟩
 ·have:=h.t;have:=i.t;omega
 ·have:=h.dl;have:=i.dl;omega
 ·have:=h.dh;have:=i.dh;omega
 ·have:=i.d0 (by omega);have:=h.dh;omega
section
variable {N:Nat} {L:List Tok} {En:Int} {s:Rd}
theorem gt_up (h:s.a<N):Gt N 0 (-1) s (upR s):=⟨Nat.le_succ _,h,by show ((s.t.length:Int)+s.a+fl s≤s.t.length+((s.a+1:Nat):Int)+fl s+ -1);omega,by show s.d+0+(s.a:Int)≤s.d+((s.a+1:Nat):Int);omega,by show s.d≤_;omega,fun _=>rfl⟩
theorem gt_out (h:s.a≤N):Gt N (-1) 0 s (outR s):=⟨Nat.le_refl _,h,by show ((s.t.length:Int)+s.a+fl s≤s.t.length+s.a+fl s+0);omega,by show _≤s.d - 1+(s.a:Int);omega,by show s.d - 1≤_;omega,fun _=>rfl⟩
theorem gt_add (n:Nd) (h:s.a≤N):Gt N 0 1 s (addR n s).1:=⟨Nat.le_refl _,h,by show (((s.t++[n]).length:Nat):Int)+s.a+fl s≤s.t.length+s.a+fl s+1;rw [List.length_append,List.length_singleton];omega,by show _≤s.d+(s.a:Int);omega,by show s.d≤_;omega,fun _=>rfl⟩
theorem stop_eq (e:Int) (h:¬s.e=0):stopR L En e s=s:=if_neg h
theorem stop_a (e:Int):(stopR L En e s).a=s.a∧(stopR L En e s).t=s.t∧(stopR L En e s).d=s.d:=by unfold stopR;split<;>exact ⟨rfl,rfl,rfl⟩
theorem stop_e {e:Int} (he:e ≠ 0):(stopR L En e s).e ≠ 0:=by
 unfold stopR
 by_cases h:s.e=0
 ·rw [if_pos h];exact he
 ·rw [if_neg h];exact h
theorem gt_stop0 {e:Int} (he:e ≠ 0) (h:s.a≤N) (h0:s.e=0):Gt N 0 (-1) s (stopR L En e s):=by
 obtain ⟨ea,et,ed⟩:=stop_a (L:=L) (En:=En) (s:=s) e
 have f1:fl s=0:=if_pos h0
 have f2:fl (stopR L En e s)=1:=if_neg (stop_e he)
 exact ⟨by rw [ea];exact Nat.le_refl _,by rw [ea];exact h,by rw [ea,et,f1,f2];omega,by rw [ea,ed];omega,by rw [ed];omega,fun k=>absurd h0 k⟩
theorem gt_stop {e:Int} (he:e ≠ 0) (h:s.a≤N):Gt N 0 0 s (stopR L En e s):=by
 by_cases h0:s.e=0
 ·exact (gt_stop0 he h h0).more (by omega)
 ·rw [stop_eq e h0];exact Gt.refl h
theorem next_lt {w:List UInt8} (hw:w ≠ []) (h:nextR L s=w):s.a<L.length:=by
 unfold nextR at h
 cases hx:L[s.a]? with
 | none=>rw [hx] at h;exact absurd h.symm hw
 | some x=>exact (List.getElem?_eq_some_iff.1 hx).1
theorem gt_must {w:List UInt8} (hw:w ≠ []) (h:s.a≤L.length):Gt L.length 0 0 s (mustR L En w s):=by
 unfold mustR
 split
 ·split
  ·rename_i h2
   exact (gt_up (next_lt hw h2)).more (by omega)
  ·exact gt_stop (by decide) h
 ·exact Gt.refl h
theorem full_a:(fullR L En s).a=s.a∧(fullR L En s).t=s.t∧(fullR L En s).d=s.d:=by
 unfold fullR;split
 ·exact stop_a _
 ·exact ⟨rfl,rfl,rfl⟩
theorem gt_full (h:s.a≤N):Gt N 0 0 s (fullR L En s):=by
 unfold fullR;split
 ·exact gt_stop (by decide) h
 ·exact Gt.refl h
theorem gt_deeper (h:s.a≤N):Gt N 1 0 s (deeperR L En s):=by
 have k:=gt_full (L:=L) (En:=En) h
 obtain ⟨ea,et,ed⟩:=full_a (L:=L) (En:=En) (s:=s)
 exact ⟨k.a,k.n,k.t,by show _≤s.d+1+((fullR L En s).a:Int);rw [ea];omega,by show s.d+1≤_;omega,k.e⟩
theorem deeper_e (h:16≤s.d):(deeperR L En s).e ≠ 0:=by
 show (fullR L En s).e ≠ 0
 unfold fullR;rw [if_pos h];exact stop_e (by decide)
theorem word_lt (h:wordK L s=true):s.a<L.length:=by
 unfold wordK at h
 cases hx:L[s.a]? with
 | none=>rw [hx] at h;cases h
 | some x=>exact (List.getElem?_eq_some_iff.1 hx).1
theorem gt_field0 (h:s.a≤L.length) (h0:s.e=0):Gt L.length 0 (-1) s (fieldR L En s).1:=by
 unfold fieldR
 split
 ·rename_i k;exact gt_up (word_lt k.2.1)
 ·exact gt_stop0 (by decide) h h0
theorem gt_field (h:s.a≤L.length):Gt L.length 0 0 s (fieldR L En s).1:=by
 by_cases h0:s.e=0
 ·exact (gt_field0 h h0).more (by omega)
 ·unfold fieldR
  rw [if_neg (fun k=>h0 k.1)]
  exact gt_stop (by decide) h
theorem gt_whole (m:Int) (h:s.a≤L.length):Gt L.length 0 0 s (wholeR L En m s).1:=by
 unfold wholeR
 split
 ·cases hx:L[s.a]? with
  | none=>exact gt_stop (by decide) h
  | some x=>
   simp only
   split
   ·exact (gt_up (List.getElem?_eq_some_iff.1 hx).1).more (by omega)
   ·exact gt_stop (by decide) h
 ·exact Gt.refl h
theorem gt_begin (h:s.a<L.length):Gt L.length 1 (-1) s (beginR L En s):=by
 unfold beginR
 split
 ·exact ((gt_up h).trans (gt_deeper h) rfl rfl).trans (gt_must (by decide) (gt_deeper (L:=L) (En:=En) (s:=upR s) h).n) (by omega) (by omega)
 ·have k:=gt_must (L:=L) (En:=En) (s:=upR s) (w:=wLp) (by decide) h
  refine ⟨by have:s.a+1≤_:=k.a;omega,k.n,?_,?_,?_,fun e=>k.e e⟩
  ·have:((mustR L En wLp (upR s)).t.length:Int)+(s.a+1:Nat)+fl s≤s.t.length+(mustR L En wLp (upR s)).a+fl (mustR L En wLp (upR s))+0:=k.t
   omega
  ·have:s.d+0+((s.a+1:Nat):Int)≤(mustR L En wLp (upR s)).d+(mustR L En wLp (upR s)).a:=k.dl
   omega
  ·have:(mustR L En wLp (upR s)).d≤s.d+0:=k.dh
   omega
theorem gt_endR (n:Nd) (h:s.a≤L.length):Gt L.length (-1) 1 s (endR L En n s).1:=by
 have k:=gt_must (L:=L) (En:=En) (s:=s) (w:=wRp) (by decide) h
 exact (k.trans (gt_out k.n) rfl rfl).trans (gt_add n k.n) (by omega) (by omega)
def okM (L:List Tok):Md→Rd→Prop
 | .atm,s=>s.e=0
 | .ca _ _,s=>s.a<L.length
 | _,_=>True
theorem infixR_ne {l:Nat} {w:List UInt8} (h:infixR l w ≠ 0):w ≠ []:=by
 rintro rfl
 apply h
 unfold infixR
 split
 ·rfl
 ·split
  ·rfl
  ·split
   ·rfl
   ·split
    ·rfl
    ·split<;>rfl
theorem run_gt:∀ (f:Nat) (m:Md) (s:Rd),s.a≤L.length→okM L m s→Gt L.length 0 0 s (runR L En f m s).1:=by
 intro f
 induction f with
 | zero=>intro m s h _;exact Gt.refl h
 | succ f ih=>
  intro m s h hm
  have IX:=fun (l:Nat) (q:Rd) (hq:q.a≤L.length)=>ih (.ex l) q hq trivial
  cases m with
  | ex l=>
   simp only [runR]
   by_cases h0:s.e=0
   ·rw [if_pos h0]
    by_cases h7:l=7
    ·rw [if_pos h7];exact ih .atm s h h0
    ·rw [if_neg h7]
     by_cases h26:l=2∨l=6
     ·rw [if_pos h26]
      by_cases hw:nextR L s=(if l=6 then wMi else wNot)
      ·rw [if_pos hw]
       have lt:s.a<L.length:=next_lt (w:=if l=6 then wMi else wNot) (by split<;>decide) hw
       have k1:=gt_deeper (L:=L) (En:=En) (s:=s) (N:=L.length) h
       have lt2:(deeperR L En s).a<L.length:=by
        show (fullR L En s).a<_;rw [full_a.1];exact lt
       have k2:=k1.trans (gt_up lt2) rfl rfl
       have k3:=k2.trans (IX l _ k2.n) rfl rfl
       have k4:=k3.trans (gt_out k3.n) rfl rfl
       exact (k4.trans (gt_add ⟨if l=6 then 18 else 7,0,0,[],0,(runR L En f (.ex l) (upR (deeperR L En s))).2, -1, -1,placeR L En s⟩ k4.n) rfl rfl).fin (by omega) (by omega)
      ·rw [if_neg hw];exact IX _ s h
     ·rw [if_neg h26]
      have k:=IX (l+1) s h
      exact k.trans (ih (.lo l _) _ k.n trivial) rfl rfl
   ·rw [if_neg h0];exact Gt.refl h
  | lo l x=>
   simp only [runR]
   split
   ·rename_i h0
    have lt:=next_lt (infixR_ne h0.2) rfl
    have k1:=gt_up (N:=L.length) lt
    have k2:=k1.trans (IX (l+1) _ k1.n) rfl rfl
    have k3:=k2.trans (gt_add ⟨infixR l (nextR L s),0,0,[],0,x,(runR L En f (.ex (l+1)) (upR s)).2, -1,placeR L En s⟩ k2.n) rfl rfl
    split
    ·exact k3.fin (by omega) (by omega)
    ·have k4:=ih (.lo l (putR (infixR l (nextR L s)) (placeR L En s) x (runR L En f (.ex (l+1)) (upR s)).2 (-1) (runR L En f (.ex (l+1)) (upR s)).1).2) (putR (infixR l (nextR L s)) (placeR L En s) x (runR L En f (.ex (l+1)) (upR s)).2 (-1) (runR L En f (.ex (l+1)) (upR s)).1).1 k3.n trivial
     exact (k3.trans k4 rfl rfl).fin (by omega) (by omega)
   ·exact Gt.refl h
  | atm=>
   simp only [runR]
   have h0:s.e=0:=hm
   have ADD:∀ n:Nd,Gt L.length 0 0 s (addR n (fieldR L En s).1).1:=fun n=>by
    have k:=gt_field0 (L:=L) (En:=En) h h0
    exact (k.trans (gt_add n k.n) rfl rfl).more (by omega)
   cases hx:L[s.a]? with
   | none=>exact ADD _
   | some x=>
    have lt:=(List.getElem?_eq_some_iff.1 hx).1
    have UP:∀ n:Nd,Gt L.length 0 0 s (addR n (upR s)).1:=fun n=>((gt_up lt).trans (gt_add n lt) rfl rfl).more (by omega)
    simp only
    split
    ·exact UP _
    ·split
     ·exact UP _
     ·split
      ·exact UP _
      ·split
       ·have k1:=gt_deeper (L:=L) (En:=En) (s:=s) (N:=L.length) h
        have lt2:(deeperR L En s).a<L.length:=by
         show (fullR L En s).a<_;rw [full_a.1];exact lt
        have k2:=k1.trans (gt_up lt2) rfl rfl
        have k3:=k2.trans (IX 0 _ k2.n) rfl rfl
        have k4:=k3.trans (gt_must (w:=wRp) (En:=En) (by decide) k3.n) rfl rfl
        have k5:=k4.trans (gt_out k4.n) rfl rfl
        exact k5.fin (by omega) (by omega)
       ·split
        ·exact ih (.ca x.t _) s h lt
        ·split
         ·have k1:=gt_begin (L:=L) (En:=En) lt
          have k2:=k1.trans (gt_field (En:=En) k1.n) rfl rfl
          have k3:=k2.trans (gt_must (w:=wCm) (En:=En) (by decide) k2.n) rfl rfl
          have k4:=k3.trans (gt_whole (En:=En) 3660 k3.n) rfl rfl
          have k5:=k4.trans (gt_endR (En:=En) {nodeAt L En s with op:=windowR x.t,n:=(fieldR L En (beginR L En s)).2,k:=(wholeR L En 3660 (mustR L En wCm (fieldR L En (beginR L En s)).1)).2} k4.n) rfl rfl
          exact k5.fin (by omega) (by omega)
         ·exact ADD _
  | ca w n=>
   simp only [runR]
   have lt:s.a<L.length:=hm
   have k1:=gt_begin (L:=L) (En:=En) lt
   have FIN:∀ {q:Rd} (n:Nd),Gt L.length 1 (-1) s q→Gt L.length 0 0 s (endR L En n q).1:=fun n k=>by
    have k5:=k.trans (gt_endR (En:=En) n k.n) rfl rfl
    exact k5.fin (by omega) (by omega)
   have NX:∀ {q r:Rd},Gt L.length 1 (-1) s q→Gt L.length 0 0 q r→Gt L.length 1 (-1) s r:=fun a b=>a.trans b rfl rfl
   split
   ·exact FIN _ (NX k1 (gt_field k1.n))
   ·split
    ·have k2:=NX k1 (gt_field (En:=En) k1.n)
     have k3:=NX k2 (gt_must (w:=wCm) (En:=En) (by decide) k2.n)
     exact FIN _ (NX k3 (IX 0 _ k3.n))
    ·have k2:=NX k1 (IX 0 _ k1.n)
     split
     ·exact FIN _ k2
     ·have k3:=NX k2 (gt_must (w:=wCm) (En:=En) (by decide) k2.n)
      split
      ·exact FIN _ (NX k3 (gt_whole 9 k3.n))
      ·have k4:=NX k3 (IX 0 _ k3.n)
       split
       ·have k5:=NX k4 (gt_must (w:=wCm) (En:=En) (by decide) k4.n)
        exact FIN _ (NX k5 (IX 0 _ k5.n))
       ·exact FIN _ k4
end
end Go.Proofs.YteagpbkbdlmdiaaGreat.Ps
namespace Go.Proofs.YteagpbkbdlmdiaaGreat.Ps
set_option maxRecDepth 100000
open Go Go.RowKit Dt Tx Va Ev Lx
attribute [local go_sem ↓] Go.wp_at_zero Go.wp_at_succ
structure KX (b:Nat) (tv:Value) (w w':World):Prop where
 low:Below 0 w w'
 size:w.heap.size≤w'.heap.size
 block:∀ i,i<w.heap.size→i ≠ b→some i ≠ tv.ownBlock→w'.heap[i]?=w.heap[i]?
def Fr (tv:Value) (w:World) (tv':Value):Prop:=tv'.ownBlock=tv.ownBlock∨∃ g,tv'.ownBlock=some g∧w.heap.size≤g
theorem Fr.refl (tv:Value) (w:World):Fr tv w tv:=.inl rfl
section
variable {b:Nat} {tv tv1 tv2:Value} {w w1 w2:World}
theorem KX.of_below (h:Below w.heap.size w w1):KX b tv w w1:=⟨h.mono (Nat.zero_le _),h.size,fun i hi _ _=>h.block i hi⟩
theorem KX.refl:KX b tv w w:=KX.of_below (Below.refl _ _)
theorem KX.trans (h:KX b tv w w1) (k:KX b tv1 w1 w2) (f:Fr tv w tv1):KX b tv w w2:=by
 refine ⟨h.low.trans k.low,Nat.le_trans h.size k.size,fun i hi hb ht=>?_⟩
 refine (k.block i (Nat.lt_of_lt_of_le hi h.size) hb ?_).trans (h.block i hi hb ht)
 rcases f with e | ⟨g,e,hg⟩
 ·rw [e];exact ht
 ·rw [e];intro e2;have:=Option.some.inj e2;omega
theorem Fr.trans (f:Fr tv w tv1) (k:Fr tv1 w1 tv2) (h:w.heap.size≤w1.heap.size):Fr tv w tv2:=by
 rcases k with e | ⟨g,e,hg⟩
 ·rcases f with e2 | ⟨g,e2,hg⟩
  ·exact .inl (e.trans e2)
  ·exact .inr ⟨g,e.trans e2,hg⟩
 ·exact .inr ⟨g,e,Nat.le_trans h hg⟩
theorem KX.set (h:KX b tv w w1) (o:Nat) (v:Value):KX b tv w (w1.setCell ⟨b,o,none⟩ v):=by
 refine ⟨h.low.setCell (Nat.zero_le _) _,by have:=h.size;simpa using this,fun i hi hb ht=>?_⟩
 rw [heap_setCell_other _ ⟨b,o,none⟩ i _ hb];exact h.block i hi hb ht
theorem KX.below {B:Nat} (h:KX b tv w w1) (hB:B≤b) (ht:∀ g,tv.ownBlock=some g→B≤g) (hs:B≤w.heap.size):Below B w w1:=by
 refine ⟨h.low.os,h.low.tape,h.low.output,h.size,fun i hi=>h.block i (by omega) (by omega) fun e=>?_⟩
 have:=ht i e.symm;omega
end
structure St (L:List Tok) (En:Int) (B b:Nat) (lv:Value) (w:World) (tv:Value) (s:Rd):Prop where
 box:w.heap[b]?=some (.cells #[lv,.int .i64 (s.a:Int),.int .i64 En,.int .i64 s.d,tv,.int .i64 s.e,.int .i64 s.b] 90 (0,0))
 toks:tokE.Arg w lv L
 row:ndE.Row w B tv s.t
 bB:B≤b
 tb:∀ g,Elem.argBlock lv g→0<L.length→g<B
section
variable {L:List Tok} {En:Int} {B b:Nat} {lv tv:Value} {w:World} {s:Rd}
theorem St.lt (h:St L En B b lv w tv s):b<w.heap.size:=(Array.getElem?_eq_some_iff.1 h.box).1
theorem St.c0 (h:St L En B b lv w tv s):w.cell? ⟨b,0,none⟩=some lv:=by rw [cell_of_row w _ _ _ _ (0,0) h.box];rfl
theorem St.c1 (h:St L En B b lv w tv s):w.cell? ⟨b,1,none⟩=some (.int .i64 (s.a:Int)):=by rw [cell_of_row w _ _ _ _ (0,0) h.box];rfl
theorem St.c2 (h:St L En B b lv w tv s):w.cell? ⟨b,2,none⟩=some (.int .i64 En):=by rw [cell_of_row w _ _ _ _ (0,0) h.box];rfl
theorem St.c3 (h:St L En B b lv w tv s):w.cell? ⟨b,3,none⟩=some (.int .i64 s.d):=by rw [cell_of_row w _ _ _ _ (0,0) h.box];rfl
theorem St.c4 (h:St L En B b lv w tv s):w.cell? ⟨b,4,none⟩=some tv:=by rw [cell_of_row w _ _ _ _ (0,0) h.box];rfl
theorem St.c5 (h:St L En B b lv w tv s):w.cell? ⟨b,5,none⟩=some (.int .i64 s.e):=by rw [cell_of_row w _ _ _ _ (0,0) h.box];rfl
theorem St.c6 (h:St L En B b lv w tv s):w.cell? ⟨b,6,none⟩=some (.int .i64 s.b):=by rw [cell_of_row w _ _ _ _ (0,0) h.box];rfl
theorem St.f (h:St L En B b lv w tv s) (i:Nat):w.frozen? ⟨b,i,none⟩=false:=frozen_of_row w _ _ _ _ h.box
theorem St.below {w':World} (h:St L En B b lv w tv s) (k:Below w.heap.size w w'):St L En B b lv w' tv s:=⟨(k.block b h.lt).trans h.box,h.toks.below k,h.row.below k,h.bB,h.tb⟩
theorem St.tne (h:St L En B b lv w tv s):∀ g,tv.ownBlock=some g→g ≠ b:=fun g hg e=>by
 subst e
 exact h.row.ne h.box (by decide) hg.symm
theorem St.setC (h:St L En B b lv w tv s) (o:Nat) (v:Value) {s':Rd} (et:s'.t=s.t) (hb:(#[lv,(.int .i64 (s.a:Int):Value),.int .i64 En,.int .i64 s.d,tv,.int .i64 s.e,.int .i64 s.b].setIfInBounds o v)=#[lv,.int .i64 (s'.a:Int),.int .i64 En,.int .i64 s'.d,tv,.int .i64 s'.e,.int .i64 s'.b]) :
  St L En B b lv (w.setCell ⟨b,o,none⟩ v) tv s':=by
 refine ⟨?_,h.toks.block (by simp) (fun g hg hl hlt=>?_),?_,h.bB,h.tb⟩
 ·rw [heap_setCell_same w b o _ _ _ h.box,hb]
 ·have:=h.tb g hg hl;have:=h.bB
  exact heap_setCell_other _ ⟨b,o,none⟩ g _ (show ¬g=b by omega)
 ·rw [et]
  exact h.row.block fun g hg=>heap_setCell_other _ ⟨b,o,none⟩ g _ (h.tne g hg)
theorem St.setA (h:St L En B b lv w tv s) (x:Nat):St L En B b lv (w.setCell ⟨b,1,none⟩ (.int .i64 (x:Int))) tv {s with a:=x}:=h.setC 1 _ rfl rfl
theorem St.setD (h:St L En B b lv w tv s) (x:Int):St L En B b lv (w.setCell ⟨b,3,none⟩ (.int .i64 x)) tv {s with d:=x}:=h.setC 3 _ rfl rfl
theorem St.setE (h:St L En B b lv w tv s) (x:Int):St L En B b lv (w.setCell ⟨b,5,none⟩ (.int .i64 x)) tv {s with e:=x}:=h.setC 5 _ rfl rfl
theorem St.setB (h:St L En B b lv w tv s) (x:Int):St L En B b lv (w.setCell ⟨b,6,none⟩ (.int .i64 x)) tv {s with b:=x}:=h.setC 6 _ rfl rfl
theorem St.keep {w':World} {tv':Value} (h:St L En B b lv w tv s) (hk:∀ i,i<w.heap.size→some i ≠ tv.ownBlock→w'.heap[i]?=w.heap[i]?) (hz:w.heap.size≤w'.heap.size) (hr:ndE.Row w' B tv s.t):St L En B b lv w' tv s:=by
 refine ⟨(hk b h.lt fun e=>h.tne b e.symm rfl).trans h.box,h.toks.block hz (fun g hg hl hlt=>hk g hlt fun e=>?_),hr,h.bB,h.tb⟩
 have:=h.tb g hg hl
 have:=(h.row.lt g e.symm).1
 omega
end
theorem argT {w:World} {v:Value} {xs:List Tok} (h:tokE.Arg w v xs):∃ (ao:Option Addr) (cap:Nat),v=.slice ao xs.length cap∧∀ (i:Nat) (x:Tok),xs[i]?=some x→∃ b o:Nat,ao=some ⟨b,o,none⟩∧b<w.heap.size∧
  w.cell? ⟨b,o+i*5,none⟩=some (.int .u8 x.k)∧w.cell? ⟨b,o+i*5+1,none⟩=some (.string (bs x.t))∧w.cell? ⟨b,o+i*5+2,none⟩=some (.int .i64 x.c)∧w.cell? ⟨b,o+i*5+3,none⟩=some (.int .i64 x.s)∧w.cell? ⟨b,o+i*5+4,none⟩=some (.int .i64 x.p):=by
 obtain ⟨ao,cap,e,_,h⟩:=h
 refine ⟨ao,cap,e,fun i x hx=>?_⟩
 obtain ⟨b,o,h1,h2,h3⟩:=h i x hx
 exact ⟨b,o,h1,h2,h3 0 _ rfl,h3 1 _ rfl,h3 2 _ rfl,h3 3 _ rfl,h3 4 _ rfl⟩
structure Here (L:List Tok) (ao:Option Addr) (a:Nat) (w:World) (x:Tok) (g o:Nat):Prop where
 e:ao=some ⟨g,o,none⟩
 c0:w.cell? ⟨g,o+a*5,none⟩=some (.int .u8 x.k)
 c1:w.cell? ⟨g,o+a*5+1,none⟩=some (.string (bs x.t))
 c2:w.cell? ⟨g,o+a*5+2,none⟩=some (.int .i64 x.c)
 c3:w.cell? ⟨g,o+a*5+3,none⟩=some (.int .i64 x.s)
 c4:w.cell? ⟨g,o+a*5+4,none⟩=some (.int .i64 x.p)
theorem here {L:List Tok} {w:World} {ao:Option Addr} {n cap a:Nat} {x:Tok} (h:tokE.Arg w (.slice ao n cap) L) (hx:L[a]?=some x):∃ g o,Here L ao a w x g o:=by
 obtain ⟨ao',cap',e,k⟩:=argT h
 cases e
 obtain ⟨g,o,h1,_,c0,c1,c2,c3,c4⟩:=k a x hx
 exact ⟨g,o,h1,c0,c1,c2,c3,c4⟩
def SP (l:List UInt8) (w:World) (e:Ending) (w':World):Prop:=e=.returned (.string (bs l))∧Below w.heap.size w w'
section
variable {L:List Tok} {En:Int} {B b N lc:Nat} {ao:Option Addr} {tv:Value} {w:World} {s:Rd}
theorem place_is (h:St L En B b (.slice ao N lc) w tv s) (hN:L.length=N):Calls Tryz.prog 102 #[.pointer (some ⟨b,0,none⟩)] w (ZP (placeR L En s) w):=by
 have b0:=h.c0;have b1:=h.c1;have b2:=h.c2
 cases hx:L[s.a]? with
 | none=>
  have E:placeR L En s=En:=by unfold placeR;rw [hx]
  rw [E]
  have ge:N≤s.a:=by rw [←hN];exact List.getElem?_eq_none_iff.1 hx
  have d1:decide ((s.a:Int)<(N:Int))=false:=by simp;omega
  have d2:decide (s.a<N)=false:=by simp;omega
  clear h hx E ge hN
  go_enter Tryz.func102,Tryz.ntmps102
  go_upto_region 1 with fail
  go_quiet (fail)
  go_wp2_with fail
  go_ret
  exact ⟨rfl,below_drewN (Below.refl _ _) _⟩
 | some x=>
  have E:placeR L En s=x.p:=by unfold placeR;rw [hx]
  rw [E]
  have lt:s.a<N:=by rw [←hN];exact (List.getElem?_eq_some_iff.1 hx).1
  have d0:(0:Int)≤(s.a:Int):=by omega
  have d1:decide ((s.a:Int)<(N:Int))=true:=by simp;omega
  have d2:decide (s.a<N)=true:=by simp;omega
  have d3:(s.a:Int)<(N:Int):=by omega
  obtain ⟨g,o,H⟩:=here h.toks hx
  obtain rfl:=H.e
  have c4:=H.c4
  clear h hx E lt H hN
  go_enter Tryz.func102,Tryz.ntmps102
  go_upto_region 1 with fail
  go_quiet (fail)
  go_upto_region 2 with fail
  go_quiet (fail)
  go_wp2_with fail
  go_ret
  exact ⟨rfl,below_drewN (below_drewN (Below.refl _ _) _) _⟩
theorem next_is (h:St L En B b (.slice ao N lc) w tv s) (hN:L.length=N):Calls Tryz.prog 101 #[.pointer (some ⟨b,0,none⟩)] w (SP (nextR L s) w):=by
 have b0:=h.c0;have b1:=h.c1
 cases hx:L[s.a]? with
 | none=>
  have E:nextR L s=[]:=by unfold nextR;rw [hx]
  rw [E]
  have ge:N≤s.a:=by rw [←hN];exact List.getElem?_eq_none_iff.1 hx
  have d1:decide ((s.a:Int)<(N:Int))=false:=by simp;omega
  have d2:decide (s.a<N)=false:=by simp;omega
  clear h hx E ge hN
  go_enter Tryz.func101,Tryz.ntmps101
  go_upto_region 1 with fail
  go_quiet (fail)
  go_wp2_with fail
  go_ret
  exact ⟨rfl,below_drewN (Below.refl _ _) _⟩
 | some x=>
  have lt:s.a<N:=by rw [←hN];exact (List.getElem?_eq_some_iff.1 hx).1
  have d0:(0:Int)≤(s.a:Int):=by omega
  have d1:decide ((s.a:Int)<(N:Int))=true:=by simp;omega
  have d2:decide (s.a<N)=true:=by simp;omega
  have d3:(s.a:Int)<(N:Int):=by omega
  obtain ⟨g,o,H⟩:=here h.toks hx
  obtain rfl:=H.e
  have c0:=H.c0;have c1:=H.c1
  by_cases h2:x.k=2
  ·have E:nextR L s=[]:=by unfold nextR;rw [hx];exact if_pos h2
   rw [E]
   have e1:decide (x.k=2)=true:=decide_eq_true h2
   have e2:(x.k !=2)=false:=by simpa using h2
   have e3:(x.k==2)=true:=by simpa using h2
   clear h hx E lt H h2 hN
   go_enter Tryz.func101,Tryz.ntmps101
   go_upto_region 1 with fail
   go_quiet (fail)
   go_wp2_with fail
   go_ret
   exact ⟨rfl,below_drewN (Below.refl _ _) _⟩
  ·have E:nextR L s=x.t:=by unfold nextR;rw [hx];exact if_neg h2
   rw [E]
   have e1:decide (x.k=2)=false:=decide_eq_false h2
   have e2:(x.k !=2)=true:=by simpa using h2
   have e3:(x.k==2)=false:=by simpa using h2
   clear h hx E lt H h2 hN
   go_enter Tryz.func101,Tryz.ntmps101
   go_upto_region 1 with fail
   go_quiet (fail)
   go_upto_region 2 with fail
   go_quiet (fail)
   go_wp2_with fail
   go_ret
   exact ⟨rfl,below_drewN (below_drewN (Below.refl _ _) _) _⟩
end
end Go.Proofs.YteagpbkbdlmdiaaGreat.Ps
