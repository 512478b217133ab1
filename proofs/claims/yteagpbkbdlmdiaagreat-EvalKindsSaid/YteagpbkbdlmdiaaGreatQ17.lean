/-
  THE WALK of corrodylaw01's WideDivides, divisors that are not 0.
-/
import Derived.Test.YteagpbkbdlmdiaaGreatQ16
set_option linter.unusedSimpArgs false
set_option linter.unusedVariables false
namespace Go.Proofs.YteagpbkbdlmdiaaGreat
open Go.RowKit
attribute [local go_sem ↓] Go.wp_at_zero Go.wp_at_succ
def tenI (n:Int):Int:=if 0≤n∧n≤19 then ((10 ^ n.toNat:Nat):Int) else 0
theorem wTen_c (n t:Int) (w:World) (h0:-9223372036854775808≤n) (h1:n≤9223372036854775807) (ht:tenI n=t) :
  Calls Tryz.prog 107 #[.int .i64 n] w fun e w'=>e=.returned (.int .u64 t)∧w'=w:=by rw [←ht];exact wTen_any n w h0 h1
theorem evenZ_abs (z:Int) (d:Nat) (hd:0<d):(evenZ z d).natAbs≤z.natAbs∧(z / (d:Int)).natAbs≤z.natAbs:=by
 have hd':(0:Int)<(d:Int):=by omega
 have e:=Int.emod_add_mul_ediv z (d:Int)
 have r0:=Int.emod_nonneg z (show (d:Int) ≠ 0 by omega)
 have r1:=Int.emod_lt_of_pos z hd'
 unfold evenZ
 generalize z % (d:Int)=r at*
 generalize z / (d:Int)=q at*
 have hc:(if (d:Int)<r+r∨(r+r=(d:Int)∧q % 2 ≠ 0) then (1:Int) else 0)=0∨((if (d:Int)<r+r∨(r+r=(d:Int)∧q % 2 ≠ 0) then (1:Int) else 0)=1∧1≤r):=by
  split
  ·rename_i h;right;exact ⟨rfl,by omega⟩
  ·left;rfl
 generalize (if (d:Int)<r+r∨(r+r=(d:Int)∧q % 2 ≠ 0) then (1:Int) else 0)=c at*
 by_cases hq:0≤q
 ·have:q≤(d:Int)*q:=by
   have:=Int.mul_le_mul_of_nonneg_right (show (1:Int)≤d by omega) hq
   omega
  omega
 ·have:((d:Int) - 1)*(-q - 1) ≥ 0:=Int.mul_nonneg (by omega) (by omega)
  have e2:((d:Int) - 1)*(-q - 1)= -((d:Int)*q) - (d:Int)+q+1:=by
   rw [Int.sub_mul,Int.mul_sub,Int.mul_neg];omega
  omega
theorem ovV_small (z:Int) (v:Value) (h:z.natAbs<340282366920938463463374607431768211456) (hv:wv z=v):ovV z=.tuple #[v,.int .i64 0]:=by
 unfold ovV;rw [if_pos h,hv]
end Go.Proofs.YteagpbkbdlmdiaaGreat
