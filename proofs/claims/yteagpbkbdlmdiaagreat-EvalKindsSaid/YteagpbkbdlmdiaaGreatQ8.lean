/-
  PLAIN LAWS of the reference's product: school multiplication by thousands, each carry carried at once.
-/
import Derived.Test.YteagpbkbdlmdiaaGreatQ6
set_option linter.unusedSimpArgs false
set_option linter.unusedVariables false
namespace Go.Proofs.YteagpbkbdlmdiaaGreat.Nm
def mulAt (xs ys:List Nat) (i k:Nat):Nat:=val (xs.take i)*val ys+1000 ^ i*gd xs i*val (ys.take k)
theorem mulAt_zero (xs ys:List Nat):mulAt xs ys 0 0=0:=by simp [mulAt,val]
theorem mulAt_k (xs ys:List Nat) (i k:Nat):mulAt xs ys i (k+1)=mulAt xs ys i k+1000 ^ (i+k)*(gd xs i*gd ys k):=by
 unfold mulAt
 rw [val_take' ys k,Nat.mul_add,Nat.pow_add,Nat.add_assoc]
 congr 1
 congr 1
 ac_rfl
theorem mulAt_i (xs ys:List Nat) (i k:Nat) (h:ys.length≤k):mulAt xs ys i k=mulAt xs ys (i+1) 0:=by
 unfold mulAt
 rw [val_take_ge ys k h,val_take' xs i,Nat.add_mul];simp [val]
theorem mulAt_end (xs ys:List Nat) (i:Nat) (h:xs.length≤i):mulAt xs ys i 0=val xs*val ys:=by
 unfold mulAt;rw [val_take_ge xs i h];simp [val]
theorem mulAt_le (xs ys:List Nat) (i k:Nat):mulAt xs ys i k≤val xs*val ys:=by
 have h:mulAt xs ys i k≤val (xs.take (i+1))*val ys:=by
  unfold mulAt
  rw [val_take' xs i,Nat.add_mul]
  exact Nat.add_le_add_left (Nat.mul_le_mul_left _ (val_take_le ys k)) _
 exact Nat.le_trans h (Nat.mul_le_mul_right _ (val_take_le xs (i+1)))
def CarInv (n T:Nat) (out:List Nat) (p c:Nat):Prop:=out.length=n∧Digs out∧val out+1000 ^ p*c=T
theorem car_lt (xs ys out:List Nat) (T p c:Nat) (h:CarInv (xs.length+ys.length+1) T out p c) (hT:T≤val xs*val ys) (dx:Digs xs) (dy:Digs ys) (hc:0<c):p<xs.length+ys.length:=by
 obtain ⟨_,_,h3⟩:=h
 have a:=val_lt xs dx;have b:=val_lt ys dy
 have m:val xs*val ys<1000 ^ xs.length*1000 ^ ys.length:=by
  rcases Nat.eq_zero_or_pos (val ys) with e | e
  ·rw [e,Nat.mul_zero];exact Nat.mul_pos (pow_pos' _) (pow_pos' _)
  ·exact Nat.lt_of_lt_of_le (Nat.mul_lt_mul_of_pos_right a e) (Nat.mul_le_mul_left _ (Nat.le_of_lt b))
 rw [←Nat.pow_add] at m
 have:1000 ^ p*1≤1000 ^ p*c:=Nat.mul_le_mul_left _ hc
 rcases Nat.lt_or_ge p (xs.length+ys.length) with g | g
 ·exact g
 ·have:=pow_le _ _ g;omega
theorem car_step (n T:Nat) (out:List Nat) (p c d:Nat) (h:CarInv n T out p c) (hd:out[p]?=some d):CarInv n T (out.set p ((c+d) % 1000)) (p+1) ((c+d) / 1000):=by
 obtain ⟨h1,h2,h3⟩:=h
 refine ⟨by simp;exact h1,digs_set _ _ _ h2 (by omega),?_⟩
 have v:=val_set out p ((c+d) % 1000) d hd
 have e:1000 ^ p*(c+d)=1000 ^ p*((c+d) % 1000)+1000 ^ (p+1)*((c+d) / 1000):=by
  rw [pow_succ',Nat.mul_comm 1000 (1000 ^ p),Nat.mul_assoc,←Nat.mul_add];congr 1;omega
 rw [Nat.mul_add] at e
 omega
theorem car_start (n:Nat) (xs ys out:List Nat) (i k x y:Nat) (h1:out.length=n) (h2:Digs out) (h3:val out=mulAt xs ys i k) (hx:gd xs i=x) (hy:gd ys k=y):CarInv n (mulAt xs ys i (k+1)) out (i+k) (x*y):=
 ⟨h1,h2,by rw [mulAt_k,h3,hx,hy]⟩
theorem mul_lt_pow (a b k j:Nat) (ha:a<1000 ^ k) (hb:b<1000 ^ j):a*b<1000 ^ (k+j):=by
 rw [Nat.pow_add]
 rcases Nat.eq_zero_or_pos b with e | e
 ·rw [e,Nat.mul_zero];exact Nat.mul_pos (pow_pos' _) (pow_pos' _)
 ·exact Nat.lt_of_lt_of_le (Nat.mul_lt_mul_of_pos_right ha e) (Nat.mul_le_mul_left _ (Nat.le_of_lt hb))
end Go.Proofs.YteagpbkbdlmdiaaGreat.Nm
