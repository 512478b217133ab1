/-
  PLAIN LAWS of the loops of plus, minus, against (no Go in sight).
-/
import Derived.Test.YteagpbkbdlmdiaaGreatQ4
set_option linter.unusedSimpArgs false
set_option linter.unusedVariables false
namespace Go.Proofs.YteagpbkbdlmdiaaGreat.Nm
def gd (l:List Nat) (i:Nat):Nat:=l[i]?.getD 0
theorem gd_lt (l:List Nat) (i:Nat) (h:Digs l):gd l i<1000:=by
 unfold gd;cases e:l[i]? with
 | none=>simp
 | some d=>exact digs_at l i d h e
theorem gd_some (l:List Nat) (i d:Nat) (h:l[i]?=some d):gd l i=d:=by unfold gd;rw [h];rfl
theorem gd_at (l:List Nat) (i:Nat) (h:i<l.length):l[i]?=some (gd l i):=by
 have e:l[i]?=some l[i]:=List.getElem?_eq_getElem h
 rw [gd_some l i _ e];exact e
theorem gd_none (l:List Nat) (i:Nat) (h:l.length≤i):gd l i=0:=by unfold gd;rw [List.getElem?_eq_none h];rfl
theorem val_take' (l:List Nat) (i:Nat):val (l.take (i+1))=val (l.take i)+1000 ^ i*gd l i:=by
 rcases Nat.lt_or_ge i l.length with h | h
 ·have e:l[i]?=some l[i]:=List.getElem?_eq_getElem h
  rw [val_take l i _ e,gd_some l i _ e]
 ·rw [val_take_ge l i h,val_take_ge l (i+1) (by omega),gd_none l i h];simp
theorem len_snoc (l:List Nat) (d:Nat):(l++[d]).length=l.length+1:=by simp
def PlusInv (as bs:List Nat) (i c:Nat) (es:List Nat):Prop:=
 es.length=i∧Digs es∧c≤1∧val es+1000 ^ i*c=val (as.take i)+val (bs.take i)∧
  (i≤max as.length bs.length∨(i=max as.length bs.length+1∧c=0∧1000 ^ max as.length bs.length≤val as+val bs))
theorem plus_start (as bs:List Nat):PlusInv as bs 0 0 []:=⟨rfl,digs_nil,by omega,by simp [val],.inl (by omega)⟩
theorem plus_round (as bs:List Nat) (i c:Nat) (es:List Nat) (h:PlusInv as bs i c es) (ha:Digs as) (hb:Digs bs) (hgo:i<as.length∨i<bs.length∨0<c) (s:Nat) (hs:s=c+gd as i+gd bs i) :
  PlusInv as bs (i+1) (s / 1000) (es++[s % 1000]):=by
 obtain ⟨h1,h2,h3,h4,h5⟩:=h
 have xa:=gd_lt as i ha;have xb:=gd_lt bs i hb
 refine ⟨by rw [len_snoc,h1],digs_snoc _ _ h2 (by omega),by omega,?_,?_⟩
 ·rw [val_snoc,h1,pow_succ',val_take',val_take']
  have:=plus_step (val (as.take i)) (val (bs.take i)) (val es) (gd as i+gd bs i) (1000 ^ i) c s h4 (by omega)
  rw [this,Nat.mul_add];omega
 ·rcases Nat.lt_or_ge i (max as.length bs.length) with g | g
  ·left;omega
  ·right
   have hi:i=max as.length bs.length:=by
    rcases h5 with h5 | ⟨h5,h6,_⟩
    ·omega
    ·omega
   have hc:c=1:=by omega
   have ga:=gd_none as i (by omega);have gb:=gd_none bs i (by omega)
   rw [val_take_ge as i (by omega),val_take_ge bs i (by omega),hc] at h4
   refine ⟨by omega,by omega,?_⟩
   rw [←hi];omega
theorem plus_end (as bs:List Nat) (i c:Nat) (es:List Nat) (h:PlusInv as bs i c es) (h1:¬i<as.length) (h2:¬i<bs.length) (hc:¬0<c) :
  Digs es∧val es=val as+val bs∧es.length≤max as.length bs.length+1∧(Canon as→Canon bs→Canon es):=by
 obtain ⟨k1,k2,k3,k4,k5⟩:=h
 rw [val_take_ge as i (by omega),val_take_ge bs i (by omega)] at k4
 have hc0:c=0:=by omega
 subst hc0
 simp at k4
 refine ⟨k2,k4,by omega,fun ca cb=>canon_of_ge es k2 ?_⟩
 rw [k1,k4]
 rcases k5 with k5 | ⟨k5,_,k6⟩
 ·by_cases e:i=0
  ·left;exact List.eq_nil_of_length_eq_zero (by omega)
  ·right
   rcases Nat.lt_or_ge as.length bs.length with g | g
   ·have:=canon_ge bs cb (by intro q;subst q;simp at g)
    rw [show i=bs.length from by omega];omega
   ·have:=canon_ge as ca (by intro q;subst q;simp at g;subst g;simp at k5;omega)
    rw [show i=as.length from by omega];omega
 ·right;rw [k5];simpa using k6
theorem plus_len (as bs:List Nat) (i c:Nat) (es:List Nat) (h:PlusInv as bs i c es):i≤max as.length bs.length+1:=by
 obtain ⟨_,_,_,_,h | ⟨h,_⟩⟩:=h<;>omega
def MinusInv (as bs:List Nat) (i due:Nat) (es:List Nat):Prop:=
 es.length=i∧i≤as.length∧Digs es∧due≤1∧val (as.take i)+1000 ^ i*due=val es+val (bs.take i)
theorem minus_start (as bs:List Nat):MinusInv as bs 0 0 []:=⟨rfl,by omega,digs_nil,by omega,by simp [val]⟩
theorem minus_round (as bs:List Nat) (i due:Nat) (es:List Nat) (h:MinusInv as bs i due es) (hi:i<as.length) (r due':Nat) (hr:r+gd bs i+due=gd as i+1000*due') (hr1:r<1000) (hd:due'≤1) :
  MinusInv as bs (i+1) due' (es++[r]):=by
 obtain ⟨h1,h2,h3,h4,h5⟩:=h
 refine ⟨by rw [len_snoc,h1],hi,digs_snoc _ _ h3 hr1,hd,?_⟩
 rw [val_snoc,h1,pow_succ',val_take',val_take']
 have:=minus_step _ _ _ _ _ _ _ _ _ h5 hr
 omega
theorem minus_end (as bs:List Nat) (i due:Nat) (es:List Nat) (h:MinusInv as bs i due es) (h1:¬i<as.length) (hl:bs.length≤as.length) (hv:val bs≤val as) :
  Digs es∧val es=val as - val bs∧es.length=as.length:=by
 obtain ⟨k1,k2,k3,k4,k5⟩:=h
 have hi:i=as.length:=by omega
 rw [val_take_ge as i (by omega),val_take_ge bs i (by omega)] at k5
 have l:=val_lt es k3
 rw [k1] at l
 have hd:due=0:=by
  rcases Nat.eq_zero_or_pos due with e | e
  ·exact e
  ·have e1:due=1:=by omega
   subst e1;omega
 subst hd
 simp at k5
 exact ⟨k3,by omega,by omega⟩
theorem len_le_of_val (as bs:List Nat) (ha:Digs as) (hb:Canon bs) (h:val bs≤val as):bs.length≤as.length:=by
 rcases Nat.lt_or_ge as.length bs.length with g | g
 ·have:=lt_of_len as bs ha hb g;omega
 ·exact g
def ag (a b:Nat):Int:=if a<b then -1 else if b<a then 1 else 0
theorem ag_lt (a b:Nat) (h:a<b):ag a b= -1:=by unfold ag;rw [if_pos h]
theorem ag_gt (a b:Nat) (h:b<a):ag a b=1:=by unfold ag;rw [if_neg (by omega),if_pos h]
theorem ag_eq (a:Nat):ag a a=0:=by unfold ag;rw [if_neg (by omega),if_neg (by omega)]
theorem ag_len_lt (as bs:List Nat) (ha:Canon as) (hb:Canon bs) (h:as.length<bs.length):ag (val as) (val bs)= -1:=ag_lt _ _ (lt_of_len as bs ha.1 hb h)
theorem ag_len_gt (as bs:List Nat) (ha:Canon as) (hb:Canon bs) (h:bs.length<as.length):ag (val as) (val bs)=1:=ag_gt _ _ (lt_of_len bs as hb.1 ha h)
theorem ag_at_lt (as bs:List Nat) (i x y:Nat) (ha:Digs as) (hd:as.drop (i+1)=bs.drop (i+1)) (hx:as[i]?=some x) (hy:bs[i]?=some y) (h:x<y):ag (val as) (val bs)= -1:=ag_lt _ _ (lt_of_drop as bs i x y ha hd hx hy h)
theorem ag_at_gt (as bs:List Nat) (i x y:Nat) (hb:Digs bs) (hd:as.drop (i+1)=bs.drop (i+1)) (hx:as[i]?=some x) (hy:bs[i]?=some y) (h:y<x):ag (val as) (val bs)=1:=ag_gt _ _ (lt_of_drop bs as i y x hb hd.symm hy hx h)
theorem ag_same (as bs:List Nat) (hd:as.drop 0=bs.drop 0):ag (val as) (val bs)=0:=by simp at hd;rw [hd];exact ag_eq _
end Go.Proofs.YteagpbkbdlmdiaaGreat.Nm
