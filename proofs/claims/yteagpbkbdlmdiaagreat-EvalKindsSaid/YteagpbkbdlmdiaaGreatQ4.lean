/-
  PLAIN LAWS OF ROWS OF THOUSANDS (no Go in sight): the reference's whole numbers, the lowest thousand first.
-/
set_option linter.unusedSimpArgs false
set_option linter.unusedVariables false
namespace Go.Proofs.YteagpbkbdlmdiaaGreat.Nm
def val:List Nat→Nat
 | []=>0
 | d :: l=>d+1000*val l
def Digs (l:List Nat):Prop:=∀ d ∈ l,d<1000
def Canon (l:List Nat):Prop:=Digs l∧l.getLast? ≠ some 0
theorem digs_nil:Digs []:=by intro d h;simp at h
theorem canon_nil':Canon []:=⟨digs_nil,by simp⟩
theorem val_append (a b:List Nat):val (a++b)=val a+1000 ^ a.length*val b:=by
 induction a with
 | nil=>simp [val]
 | cons d a ih=>simp only [List.cons_append,val,ih,List.length_cons,Nat.pow_succ];rw [Nat.mul_add,Nat.mul_comm (1000 ^ a.length) 1000,Nat.mul_assoc];omega
theorem val_snoc (a:List Nat) (d:Nat):val (a++[d])=val a+1000 ^ a.length*d:=by rw [val_append];simp [val]
theorem val_lt (l:List Nat) (h:Digs l):val l<1000 ^ l.length:=by
 induction l with
 | nil=>simp [val]
 | cons d l ih=>
  have h1:d<1000:=h d (by simp)
  have h2:=ih (fun x hx=>h x (by simp [hx]))
  simp only [val,List.length_cons,Nat.pow_succ];omega
theorem digs_snoc (l:List Nat) (d:Nat) (h:Digs l) (hd:d<1000):Digs (l++[d]):=by
 intro x hx;simp at hx;rcases hx with hx | rfl
 ·exact h x hx
 ·exact hd
theorem digs_append (a b:List Nat) (h:Digs a) (k:Digs b):Digs (a++b):=by
 intro x hx;simp at hx;rcases hx with hx | hx
 ·exact h x hx
 ·exact k x hx
theorem digs_of_append (a b:List Nat) (h:Digs (a++b)):Digs a∧Digs b:=⟨fun x hx=>h x (by simp [hx]),fun x hx=>h x (by simp [hx])⟩
theorem digs_set (l:List Nat) (i d:Nat) (h:Digs l) (hd:d<1000):Digs (l.set i d):=by
 intro x hx;rcases List.mem_or_eq_of_mem_set hx with hx | rfl
 ·exact h x hx
 ·exact hd
theorem digs_at (l:List Nat) (i d:Nat) (h:Digs l) (hi:l[i]?=some d):d<1000:=h d (List.mem_of_getElem? hi)
theorem digs_rep (n:Nat):Digs (List.replicate n 0):=by intro x hx;simp at hx;omega
theorem val_rep (n:Nat):val (List.replicate n 0)=0:=by
 induction n with
 | zero=>rfl
 | succ n ih=>simp [List.replicate_succ,val,ih]
theorem pow_pos' (k:Nat):0<1000 ^ k:=Nat.pow_pos (by omega)
theorem pow_le (a b:Nat) (h:a≤b):1000 ^ a≤1000 ^ b:=Nat.pow_le_pow_right (by omega) h
theorem pow_succ' (k:Nat):1000 ^ (k+1)=1000*1000 ^ k:=by rw [Nat.pow_succ,Nat.mul_comm]
theorem snoc_of (l:List Nat) (h:l ≠ []):∃ a d,l=a++[d]:=⟨l.dropLast,l.getLast h,(List.dropLast_concat_getLast h).symm⟩
theorem canon_ge (l:List Nat) (h:Canon l) (hl:l ≠ []):1000 ^ (l.length - 1)≤val l:=by
 obtain ⟨a,d,rfl⟩:=snoc_of l hl
 have hd:d ≠ 0:=by intro e;exact h.2 (by simp [e])
 rw [val_snoc];simp only [List.length_append,List.length_singleton,Nat.add_sub_cancel]
 have:1000 ^ a.length*1≤1000 ^ a.length*d:=Nat.mul_le_mul_left _ (by omega)
 omega
theorem canon_of_ge (l:List Nat) (h:Digs l) (hg:l=[]∨1000 ^ (l.length - 1)≤val l):Canon l:=by
 refine ⟨h,?_⟩
 by_cases hl:l=[]
 ·subst hl;simp
 ·obtain ⟨a,d,rfl⟩:=snoc_of l hl
  rcases hg with hg | hg
  ·exact (hl hg).elim
  ·intro e;simp at e;subst e
   rw [val_snoc] at hg;simp at hg
   have:=val_lt a (digs_of_append _ _ h).1;omega
theorem canon_len (l:List Nat) (k:Nat) (h:Canon l) (hk:val l<1000 ^ k):l.length≤k:=by
 by_cases hl:l=[]
 ·subst hl;simp
 ·have a:=canon_ge l h hl
  rcases Nat.lt_or_ge k l.length with g | g
  ·have:=pow_le k (l.length - 1) (by omega);omega
  ·exact g
theorem canon_zero (l:List Nat) (h:Canon l):val l=0↔l=[]:=by
 constructor
 ·intro e
  by_cases hl:l=[]
  ·exact hl
  ·have:=canon_ge l h hl;have:=pow_pos' (l.length - 1);omega
 ·rintro rfl;rfl
theorem canon_pop (a:List Nat) (h:Digs (a++[0])):Digs a∧val a=val (a++[0]):=⟨(digs_of_append _ _ h).1,by rw [val_snoc];simp⟩
theorem take_snoc (l:List Nat) (i d:Nat) (h:l[i]?=some d):l.take (i+1)=l.take i++[d]:=by rw [List.take_add_one,h];rfl
theorem val_take (l:List Nat) (i d:Nat) (h:l[i]?=some d):val (l.take (i+1))=val (l.take i)+1000 ^ i*d:=by
 have hi:i<l.length:=(List.getElem?_eq_some_iff.1 h).1
 rw [take_snoc l i d h,val_snoc,List.length_take,Nat.min_eq_left (by omega)]
theorem val_take_ge (l:List Nat) (i:Nat) (h:l.length≤i):val (l.take i)=val l:=by rw [List.take_of_length_le h]
theorem val_take_le (l:List Nat) (i:Nat):val (l.take i)≤val l:=by
 conv=>rhs;rw [←List.take_append_drop i l,val_append]
 omega
theorem val_drop (l:List Nat) (i d:Nat) (h:l[i]?=some d):val (l.drop i)=d+1000*val (l.drop (i+1)):=by
 have hi:i<l.length:=(List.getElem?_eq_some_iff.1 h).1
 have e:l[i]=d:=(List.getElem?_eq_some_iff.1 h).2
 rw [List.drop_eq_getElem_cons hi,e];rfl
theorem val_drop_le (l:List Nat) (i:Nat):val (l.drop i)≤val l:=by
 conv=>rhs;rw [←List.take_append_drop i l,val_append]
 have:=pow_pos' (l.take i).length
 have:1*val (l.drop i)≤1000 ^ (l.take i).length*val (l.drop i):=Nat.mul_le_mul_right _ (by omega)
 omega
theorem val_drop_ge (l:List Nat) (i:Nat) (h:l.length≤i):val (l.drop i)=0:=by rw [List.drop_eq_nil_of_le h];rfl
theorem val_split (l:List Nat) (i:Nat) (h:i≤l.length):val l=val (l.take i)+1000 ^ i*val (l.drop i):=by
 conv=>lhs;rw [←List.take_append_drop i l,val_append]
 rw [List.length_take,Nat.min_eq_left h]
theorem val_set (l:List Nat) (i d e:Nat) (h:l[i]?=some e):val (l.set i d)+1000 ^ i*e=val l+1000 ^ i*d:=by
 have hi:i<l.length:=(List.getElem?_eq_some_iff.1 h).1
 have a:=val_split l i (by omega);have b:=val_split (l.set i d) i (by simp;omega)
 have c:(l.set i d).take i=l.take i:=by rw [List.take_set_of_le (Nat.le_refl _)]
 have f:(l.set i d).drop i=d :: l.drop (i+1):=by
  rw [List.drop_set];simp
  rw [List.drop_eq_getElem_cons hi];rfl
 have g:=val_drop l i e h
 rw [c,f] at b
 simp only [val] at b
 rw [g] at a
 rw [a,b,Nat.mul_add,Nat.mul_add];omega
theorem plus_step (A B o i p c s:Nat) (h:o+p*c=A+B) (hs:s=c+i):o+p*(s % 1000)+(1000*p)*(s / 1000)=A+B+p*i:=by
 subst hs
 have e:p*(c+i)=p*((c+i) % 1000)+(1000*p)*((c+i) / 1000):=by
  rw [Nat.mul_comm 1000 p,Nat.mul_assoc,←Nat.mul_add];congr 1;omega
 rw [Nat.add_assoc,←e,Nat.mul_add];omega
theorem minus_step (A B o p due x y r due':Nat) (h:A+p*due=o+B) (hr:r+y+due=x+1000*due'):(A+p*x)+(1000*p)*due'=(o+p*r)+(B+p*y):=by
 have e:p*(r+y+due)=p*(x+1000*due'):=by rw [hr]
 simp only [Nat.mul_add] at e
 rw [Nat.mul_comm 1000 p,Nat.mul_assoc];omega
theorem lt_of_drop (a b:List Nat) (i x y:Nat) (ha:Digs a) (hd:a.drop (i+1)=b.drop (i+1)) (hx:a[i]?=some x) (hy:b[i]?=some y) (h:x<y):val a<val b:=by
 have ia:i<a.length:=(List.getElem?_eq_some_iff.1 hx).1;have ib:i<b.length:=(List.getElem?_eq_some_iff.1 hy).1
 have a1:=val_split a i (by omega);have b1:=val_split b i (by omega)
 rw [val_drop a i x hx] at a1;rw [val_drop b i y hy,←hd] at b1
 have c:=val_lt (a.take i) (fun d hd=>ha d (List.mem_of_mem_take hd))
 rw [List.length_take,Nat.min_eq_left (by omega)] at c
 have e:1000 ^ i*(x+1)≤1000 ^ i*y:=Nat.mul_le_mul_left _ h
 rw [Nat.mul_add] at a1 b1 e;omega
theorem lt_of_len (a b:List Nat) (ha:Digs a) (hb:Canon b) (h:a.length<b.length):val a<val b:=by
 have c:=val_lt a ha
 have d:=canon_ge b hb (by intro e;subst e;simp at h)
 have:=pow_le a.length (b.length - 1) (by omega);omega
theorem drop_eq_step (a b:List Nat) (i x:Nat) (h:a.drop (i+1)=b.drop (i+1)) (hx:a[i]?=some x) (hy:b[i]?=some x):a.drop i=b.drop i:=by
 have ia:i<a.length:=(List.getElem?_eq_some_iff.1 hx).1;have ib:i<b.length:=(List.getElem?_eq_some_iff.1 hy).1
 rw [List.drop_eq_getElem_cons ia,List.drop_eq_getElem_cons ib,h,(List.getElem?_eq_some_iff.1 hx).2,(List.getElem?_eq_some_iff.1 hy).2]
end Go.Proofs.YteagpbkbdlmdiaaGreat.Nm
