/-
  package wide's CONTRACTS by the numbers that the values stand for; DECIMALS, plain: the canonical number of a whole one and its places; all numbers as units of the place 9; VARIABLES of type api.Dec; decimal.is; decimal.made: the canonical number of a whole one and its places; decimal's functions, walked: Put, Of, raised, both.
-/
import Derived.Test.YteagpbkbdlmdiaaGreatQ17
import Derived.Test.YteagpbkbdlmdiaaGreatQ12
import Derived.Test.YteagpbkbdlmdiaaGreatQ14
import Derived.Test.YteagpbkbdlmdiaaGreatQ13
import Derived.WalkMore
import Derived.Deep.RegionHeld3
set_option linter.unusedSimpArgs false
set_option linter.unusedVariables false
namespace Go.Proofs.YteagpbkbdlmdiaaGreat
open Go.RowKit
structure IsW (z:Int) (b:Bool) (h l:Nat):Prop where
 v:wz b h l=z
 h:h<18446744073709551616
 l:l<18446744073709551616
theorem isW_wv (z:Int) (hz:z.natAbs<340282366920938463463374607431768211456):∃ (b:Bool) (h l:Nat),Hid (wv z=.agg #[.bool b,.int .u64 (h:Int),.int .u64 (l:Int)])∧Hid (IsW z b h l):=by
 refine ⟨decide (z<0),z.natAbs / 18446744073709551616,z.natAbs % 18446744073709551616,rfl,⟨?_,by omega,by omega⟩⟩
 unfold wz
 by_cases hn:z<0
 ·rw [if_pos (by simpa using hn)];omega
 ·rw [if_neg (by simpa using hn)];omega
theorem isW_ov (z:Int) (hz:z.natAbs<340282366920938463463374607431768211456):∃ (b:Bool) (h l:Nat),Hid (ovV z=.tuple #[.agg #[.bool b,.int .u64 (h:Int),.int .u64 (l:Int)],.int .i64 0])∧Hid (IsW z b h l):=by
 obtain ⟨b,h,l,h1,h2⟩:=isW_wv z hz
 exact ⟨b,h,l,ovV_small z _ hz h1.out,h2⟩
theorem add_w {x y:Int} {n1 n2:Bool} {h1 l1 h2 l2:Nat} (v:Value) (w:World) (X:IsW x n1 h1 l1) (Y:IsW y n2 h2 l2) (hv:ovV (x+y)=v) :
  Calls Tryz.prog 155 #[.agg #[.bool n1,.int .u64 (h1:Int),.int .u64 (l1:Int)],.agg #[.bool n2,.int .u64 (h2:Int),.int .u64 (l2:Int)]] w fun e w'=>e=.returned v∧Below w.heap.size w w':=by
 rw [←hv,←X.v,←Y.v];exact wAdd_any n1 n2 h1 l1 h2 l2 w X.h X.l Y.h Y.l
theorem times_w {x:Int} {n1:Bool} {h1 l1:Nat} (d:Nat) (hd:d<18446744073709551616) (v:Value) (w:World) (X:IsW x n1 h1 l1) (hv:ovV (x*(d:Int))=v) :
  Calls Tryz.prog 126 #[.agg #[.bool n1,.int .u64 (h1:Int),.int .u64 (l1:Int)],.int .u64 (d:Int)] w fun e w'=>e=.returned v∧Below w.heap.size w w':=by
 rw [←hv,←X.v];exact wTimes_any n1 h1 l1 d w X.h X.l hd
theorem neg_w {x:Int} {n1:Bool} {h1 l1:Nat} (v:Value) (w:World) (X:IsW x n1 h1 l1) (hv:wv (-x)=v) :
  Calls Tryz.prog 123 #[.agg #[.bool n1,.int .u64 (h1:Int),.int .u64 (l1:Int)]] w fun e w'=>e=.returned v∧Below w.heap.size w w':=by
 rw [←hv,←X.v];exact wNeg_any n1 h1 l1 w X.h X.l
theorem cmp_w {x y:Int} {n1 n2:Bool} {h1 l1 h2 l2:Nat} (c:Int) (w:World) (X:IsW x n1 h1 l1) (Y:IsW y n2 h2 l2) (hc:cmpZ x y=c) :
  Calls Tryz.prog 154 #[.agg #[.bool n1,.int .u64 (h1:Int),.int .u64 (l1:Int)],.agg #[.bool n2,.int .u64 (h2:Int),.int .u64 (l2:Int)]] w fun e w'=>e=.returned (.int .i64 c)∧Below w.heap.size w w':=by
 rw [←hc,←X.v,←Y.v];exact wCmp_any n1 n2 h1 l1 h2 l2 w X.h X.l Y.h Y.l
theorem div_w {x:Int} {n1:Bool} {h1 l1:Nat} (d:Nat) (h0:0<d) (hd:d<18446744073709551616) (v:Value) (w:World) (X:IsW x n1 h1 l1) (hv:divV x d=v) :
  Calls Tryz.prog 108 #[.agg #[.bool n1,.int .u64 (h1:Int),.int .u64 (l1:Int)],.int .u64 (d:Int)] w fun e w'=>e=.returned v∧Below w.heap.size w w':=by
 rw [←hv,←X.v];exact wDiv_any n1 h1 l1 d w X.h X.l h0 hd
theorem even_w {x:Int} {n1:Bool} {h1 l1:Nat} (d:Nat) (h0:0<d) (hd:d<18446744073709551616) (v:Value) (w:World) (X:IsW x n1 h1 l1) (hv:wv (evenZ x d)=v) :
  Calls Tryz.prog 106 #[.agg #[.bool n1,.int .u64 (h1:Int),.int .u64 (l1:Int)],.int .u64 (d:Int)] w fun e w'=>e=.returned (.tuple #[v,.int .i64 0])∧Below w.heap.size w w':=by
 rw [←hv,←X.v];exact wEven_any n1 h1 l1 d w X.h X.l h0 hd
end Go.Proofs.YteagpbkbdlmdiaaGreat
namespace Go.Proofs.YteagpbkbdlmdiaaGreat
open Go.RowKit
def trim:Int→Nat→Int × Nat
 | u,0=>(u,0)
 | u,s+1=>if u % 10=0 then trim (u / 10) s else (u,s+1)
theorem trim_succ (u:Int) (s:Nat):trim u (s+1)=if u % 10=0 then trim (u / 10) s else (u,s+1):=rfl
theorem trim_up (u:Int) (s k:Nat):trim (u*10 ^ k) (s+k)=trim u s:=by
 induction k with
 | zero=>simp
 | succ k ih=>
  have e:u*10 ^ (k+1)=u*10 ^ k*10:=by rw [Int.pow_succ,Int.mul_assoc]
  rw [e,←Nat.add_assoc,trim_succ,if_pos (by omega),show u*10 ^ k*10 / 10=u*10 ^ k by omega]
  exact ih
theorem trim_le (u:Int) (s:Nat):(trim u s).2≤s:=by
 induction s generalizing u with
 | zero=>simp [trim]
 | succ s ih=>unfold trim;split;exact Nat.le_succ_of_le (ih _);exact Nat.le_refl _
theorem trim_val (u:Int) (s:Nat):(trim u s).1*10 ^ (s - (trim u s).2)=u:=by
 induction s generalizing u with
 | zero=>simp [trim]
 | succ s ih=>
  unfold trim
  split
  ·rename_i h
   have l:=trim_le (u / 10) s
   rw [show s+1 - (trim (u / 10) s).2=s - (trim (u / 10) s).2+1 by omega,Int.pow_succ,←Int.mul_assoc,ih]
   omega
  ·simp
theorem trim_canon (u:Int) (s:Nat):(trim u s).2=0∨(trim u s).1 % 10 ≠ 0:=by
 induction s generalizing u with
 | zero=>simp [trim]
 | succ s ih=>
  unfold trim
  split
  ·exact ih _
  ·rename_i h;exact .inr h
theorem trim_self (c:Int) (s:Nat) (h:s=0∨c % 10 ≠ 0):trim c s=(c,s):=by
 cases s with
 | zero=>rfl
 | succ s=>unfold trim;rw [if_neg (by omega)]
def fits (u:Int):Prop:=-9223372036854775808≤u∧u≤9223372036854775807
instance (u:Int):Decidable (fits u):=by unfold fits;exact inferInstance
def decV (u:Int) (s:Nat):Value:=
 if fits (trim u s).1 then .tuple #[.agg #[.int .i64 (trim u s).1,.int .i64 ((trim u s).2:Int)],.int .i64 0] else .tuple #[.agg #[.int .i64 0,.int .i64 0],.int .i64 11]
theorem decV_up (u:Int) (s k:Nat):decV (u*10 ^ k) (s+k)=decV u s:=by unfold decV;rw [trim_up]
theorem decV_form (u:Int) (s:Nat):∃ c p e:Int,decV u s=.tuple #[.agg #[.int .i64 c,.int .i64 p],.int .i64 e]:=by
 unfold decV;split
 ·exact ⟨_,_,_,rfl⟩
 ·exact ⟨_,_,_,rfl⟩
def un (c:Int) (s:Nat):Int:=c*10 ^ (9 - s)
theorem decV_un (c:Int) (s:Nat) (h:s≤9):decV (un c s) 9=decV c s:=by
 have:=decV_up c s (9 - s)
 rw [show s+(9 - s)=9 by omega] at this
 exact this
theorem evenZ_scale (x:Int) (Y m:Nat) (hm:0<m):evenZ (x*(m:Int)) (Y*m)=evenZ x Y:=by
 have hm':(0:Int)<(m:Int):=by omega
 unfold evenZ
 have em:x*(m:Int) % ((Y:Int)*(m:Int))=x % (Y:Int)*(m:Int):=by
  rw [Int.mul_comm x,Int.mul_comm (Y:Int),Int.mul_emod_mul_of_pos _ _ hm',Int.mul_comm]
 rw [Int.natCast_mul,Int.mul_ediv_mul_of_pos_left _ _ hm',em]
 have e:(((Y:Int)*(m:Int)<x % (Y:Int)*(m:Int)+x % (Y:Int)*(m:Int))↔((Y:Int)<x % (Y:Int)+x % (Y:Int))):=by
  rw [←Int.add_mul];exact Int.mul_lt_mul_right hm'
 have e2:((x % (Y:Int)*(m:Int)+x % (Y:Int)*(m:Int)=(Y:Int)*(m:Int))↔(x % (Y:Int)+x % (Y:Int)=(Y:Int))):=by
  rw [←Int.add_mul];exact Int.mul_eq_mul_right_iff (by omega)
 simp only [e,e2]
theorem evenZ_one (x:Int):evenZ x 1=x:=by unfold evenZ;omega
theorem evenZ_exact (x:Int) (m:Nat) (hm:0<m):evenZ (x*(m:Int)) m=x:=by
 have:=evenZ_scale x 1 m hm
 rw [Nat.one_mul,evenZ_one] at this;exact this
end Go.Proofs.YteagpbkbdlmdiaaGreat
namespace Go.Proofs.YteagpbkbdlmdiaaGreat
set_option maxRecDepth 100000
open Go.RowKit
def DAt (w:World) (b:Nat) (c s:Int):Prop:=w.heap[b]?=some (.cells #[.int .i64 c,.int .i64 s] 30 (0,0))
theorem dAt_new (w:World) (c s:Int):DAt (w.alloc (.cells #[.int .i64 c,.int .i64 s] 30)) w.heap.size c s:=heap_alloc_new w _
section
variable {w:World} {b:Nat} {c s:Int}
theorem DAt.lt (h:DAt w b c s):b<w.heap.size:=(Array.getElem?_eq_some_iff.1 h).1
theorem DAt.below {w':World} (h:DAt w b c s) (hb:Below w.heap.size w w'):DAt w' b c s:=by
 unfold DAt;rw [hb.block b h.lt];exact h
theorem DAt.c0 (h:DAt w b c s):w.cell? ⟨b,0,none⟩=some (.int .i64 c):=by rw [cell_of_row w _ _ _ _ (0,0) h];rfl
theorem DAt.c1 (h:DAt w b c s):w.cell? ⟨b,1,none⟩=some (.int .i64 s):=by rw [cell_of_row w _ _ _ _ (0,0) h];rfl
theorem DAt.f0 (h:DAt w b c s):w.frozen? ⟨b,0,none⟩=false:=frozen_of_row w _ _ _ _ h
theorem DAt.f1 (h:DAt w b c s):w.frozen? ⟨b,1,none⟩=false:=frozen_of_row w _ _ _ _ h
theorem dAt_other {b':Nat} (o:Nat) (u:Value) (h:DAt w b c s) (hb:b ≠ b'):DAt (w.setCell ⟨b',o,none⟩ u) b c s:=by
 unfold DAt;rw [Below.heap_setCell _ _ _ _ hb];exact h
end
def isB (s:Int):Bool:=decide (0≤s∧s≤9)
theorem isB_nat {s:Int} (h:isB s=true):∃ n:Nat,s=(n:Int)∧n≤9:=by
 unfold isB at h
 have:=of_decide_eq_true h
 exact ⟨s.toNat,by omega,by omega⟩
theorem is1_any (g:Nat) (c s:Int) (w:World) (h0:w.cell? ⟨g,0,none⟩=some (.int .i64 c)) (h1:w.cell? ⟨g,1,none⟩=some (.int .i64 s)) (hg:g<w.heap.size) :
  Calls Tryz.prog 51 #[.slice (some ⟨g,0,none⟩) 1 1] w fun e w'=>e=.returned (.bool (isB s))∧Below w.heap.size w w':=by
 have hz:w.heap.size ≠ g:=by omega
 by_cases g0:s<0
 ·have d1:decide (s<0)=true:=by simpa using g0
  have e:isB s=false:=by unfold isB;simp;omega
  rw [e]
  clear g0 e
  go_enter Tryz.func51,Tryz.ntmps51
  go_wp2_with fail
  refine wp_loop_rounds 1 ?_
  rw [rounds_succ]
  go_wp2_with fail
  go_ret
  exact ⟨rfl,ba _ _⟩
 ·by_cases g1:9<s
  ·have d1:decide (s<0)=false:=by simpa using g0
   have d2:decide (9<s)=true:=by simpa using g1
   have e:isB s=false:=by unfold isB;simp;omega
   rw [e]
   clear g0 g1 e
   go_enter Tryz.func51,Tryz.ntmps51
   go_wp2_with fail
   refine wp_loop_rounds 1 ?_
   rw [rounds_succ]
   go_wp2_with fail
   go_ret
   exact ⟨rfl,ba _ _⟩
  ·have d1:decide (s<0)=false:=by simpa using g0
   have d2:decide (9<s)=false:=by simpa using g1
   have e:isB s=true:=by unfold isB;simp;omega
   rw [e]
   clear g0 g1 e
   go_enter Tryz.func51,Tryz.ntmps51
   go_wp2_with fail
   refine wp_loop_rounds 2 ?_
   rw [rounds_succ]
   go_wp2_with fail
   rw [rounds_succ]
   go_wp2_with fail
   go_ret
   exact ⟨rfl,ba _ _⟩
theorem is2_any (g:Nat) (c s c' s':Int) (w:World) (h0:w.cell? ⟨g,0,none⟩=some (.int .i64 c)) (h1:w.cell? ⟨g,1,none⟩=some (.int .i64 s))
  (h2:w.cell? ⟨g,2,none⟩=some (.int .i64 c')) (h3:w.cell? ⟨g,3,none⟩=some (.int .i64 s')) (hg:g<w.heap.size) :
  Calls Tryz.prog 51 #[.slice (some ⟨g,0,none⟩) 2 2] w fun e w'=>e=.returned (.bool (isB s && isB s'))∧Below w.heap.size w w':=by
 have hz:w.heap.size ≠ g:=by omega
 by_cases g0:isB s=true
 ·obtain ⟨n,rfl,hn⟩:=isB_nat g0
  have d1:decide ((n:Int)<0)=false:=by simp
  have d2:decide (9<(n:Int))=false:=by simp;omega
  rw [g0,Bool.true_and]
  clear g0 hn
  by_cases k0:s'<0
  ·have q1:decide (s'<0)=true:=by simpa using k0
   have e:isB s'=false:=by unfold isB;simp;omega
   rw [e]
   clear k0 e
   go_enter Tryz.func51,Tryz.ntmps51
   go_wp2_with fail
   refine wp_loop_rounds 2 ?_
   rw [rounds_succ]
   go_wp2_with fail
   rw [rounds_succ]
   go_wp2_with fail
   go_ret
   exact ⟨rfl,bt (ba _ _) (ba _ _)⟩
  ·by_cases k1:9<s'
   ·have q1:decide (s'<0)=false:=by simpa using k0
    have q2:decide (9<s')=true:=by simpa using k1
    have e:isB s'=false:=by unfold isB;simp;omega
    rw [e]
    clear k0 k1 e
    go_enter Tryz.func51,Tryz.ntmps51
    go_wp2_with fail
    refine wp_loop_rounds 2 ?_
    rw [rounds_succ]
    go_wp2_with fail
    rw [rounds_succ]
    go_wp2_with fail
    go_ret
    exact ⟨rfl,bt (ba _ _) (ba _ _)⟩
   ·have q1:decide (s'<0)=false:=by simpa using k0
    have q2:decide (9<s')=false:=by simpa using k1
    have e:isB s'=true:=by unfold isB;simp;omega
    rw [e]
    clear k0 k1 e
    go_enter Tryz.func51,Tryz.ntmps51
    go_wp2_with fail
    refine wp_loop_rounds 3 ?_
    rw [rounds_succ]
    go_wp2_with fail
    rw [rounds_succ]
    go_wp2_with fail
    rw [rounds_succ]
    go_wp2_with fail
    go_ret
    exact ⟨rfl,bt (ba _ _) (ba _ _)⟩
 ·have g0:isB s=false:=by simpa using g0
  rw [g0,Bool.false_and]
  by_cases k0:s<0
  ·have q1:decide (s<0)=true:=by simpa using k0
   clear k0 g0
   go_enter Tryz.func51,Tryz.ntmps51
   go_wp2_with fail
   refine wp_loop_rounds 1 ?_
   rw [rounds_succ]
   go_wp2_with fail
   go_ret
   exact ⟨rfl,ba _ _⟩
  ·have q1:decide (s<0)=false:=by simpa using k0
   have q2:decide (9<s)=true:=by unfold isB at g0;simp at g0;simp;omega
   clear k0 g0
   go_enter Tryz.func51,Tryz.ntmps51
   go_wp2_with fail
   refine wp_loop_rounds 1 ?_
   rw [rounds_succ]
   go_wp2_with fail
   go_ret
   exact ⟨rfl,ba _ _⟩
end Go.Proofs.YteagpbkbdlmdiaaGreat
namespace Go.Proofs.YteagpbkbdlmdiaaGreat
open Go.RowKit
attribute [local go_sem ↓] Go.wp_at_zero Go.wp_at_succ
theorem decV_small (u:Int) (s:Nat) (h:s=0∨u % 10 ≠ 0):decV u s=if fits u then .tuple #[.agg #[.int .i64 u,.int .i64 (s:Int)],.int .i64 0] else .tuple #[.agg #[.int .i64 0,.int .i64 0],.int .i64 11]:=by
 unfold decV;rw [trim_self u s h]
theorem decV_step (u:Int) (s:Nat) (h:u % 10=0):decV u (s+1)=decV (u.tdiv 10) s:=by
 unfold decV;rw [trim_succ,if_pos h,show u.tdiv 10=u / 10 from Int.tdiv_eq_ediv_of_dvd (Int.dvd_of_emod_eq_zero h)]
theorem isW_lt {z:Int} {b:Bool} {h l:Nat} (X:IsW z b h l):z.natAbs<340282366920938463463374607431768211456:=by rw [←X.v];exact wz_lt b h l X.h X.l
def MadeMid (w:World) (V s1:Value) (wx:World):Prop:=
 ∃ (u:Int) (s:Nat) (n:Bool) (h l:Nat),s1=.int .i64 (s:Int)∧s≤9∧Hid (WAt wx w.heap.size n h l)∧Hid (IsW u n h l)∧Hid (decV u s=V)∧Hid (DAt wx (w.heap.size+1) 0 0)∧Hid (Below w.heap.size w wx)
theorem small_w {x:Int} {n1:Bool} {h1 l1:Nat} (v:Value) (w:World) (X:IsW x n1 h1 l1) (hv:smallV x=v) :
  Calls Tryz.prog 109 #[.agg #[.bool n1,.int .u64 (h1:Int),.int .u64 (l1:Int)]] w fun e w'=>e=.returned v∧Below w.heap.size w w':=by
 rw [←hv,←X.v];exact wSmall_any n1 h1 l1 w X.h X.l
theorem small_dec (u:Int) (s:Nat) (V:Value) (h:s=0∨u % 10 ≠ 0) (hV:decV u s=V) :
  (smallV u=.tuple #[.int .i64 u,.bool true]∧V=.tuple #[.agg #[.int .i64 u,.int .i64 (s:Int)],.int .i64 0])∨(smallV u=.tuple #[.int .i64 0,.bool false]∧V=.tuple #[.agg #[.int .i64 0,.int .i64 0],.int .i64 11]):=by
 rw [decV_small u s h] at hV
 unfold smallV
 show ((if fits u then _ else _)=_∧_)∨((if fits u then _ else _)=_∧_)
 by_cases hf:fits u
 ·rw [if_pos hf] at hV;left;exact ⟨by rw [if_pos hf],hV.symm⟩
 ·rw [if_neg hf] at hV;right;exact ⟨by rw [if_neg hf],hV.symm⟩
set_option maxRecDepth 100000 in
set_option maxHeartbeats 4000000 in
theorem made_any (z:Int) (n:Bool) (hi lo s:Nat) (V:Value) (w:World) (X:IsW z n hi lo) (hs:s≤18) (hV:(if 9<s then decV (evenZ z (10 ^ (s - 9))) 9 else decV z s)=V) :
  Calls Tryz.prog 52 #[.agg #[.bool n,.int .u64 (hi:Int),.int .u64 (lo:Int)],.int .i64 (s:Int)] w fun e w'=>e=.returned V∧Below w.heap.size w w':=by
 have HX:=Lib.hid X
 clear X
 go_enter Tryz.func52,Tryz.ntmps52
 go_upto_region 1 with fail
 refine wp_scope_straight ?_
 have X0:=Lib.hid (WAt.below (wAt_new w n hi lo) (ba _ (.cells #[.int .i64 0,.int .i64 0] 30)))
 have D0:Hid (DAt ((w.alloc (.cells #[.bool n,.int .u64 (hi:Int),.int .u64 (lo:Int)] 97)).alloc (.cells #[.int .i64 0,.int .i64 0] 30)) (w.heap.size+1) 0 0):=by
  have h:=dAt_new (w.alloc (.cells #[.bool n,.int .u64 (hi:Int),.int .u64 (lo:Int)] 97)) 0 0
  rw [World.size_alloc] at h;exact h
 have B0:Hid (Below w.heap.size w ((w.alloc (.cells #[.bool n,.int .u64 (hi:Int),.int .u64 (lo:Int)] 97)).alloc (.cells #[.int .i64 0,.int .i64 0] 30))):=bt (ba _ _) (ba _ _)
 generalize World.alloc (World.alloc w _) _=W0 at X0 D0 B0⊢
 go_upto_if 12 with fail
 go_cut [1] (fun s1 wx=>MadeMid w V s1 wx)
 case first=>
  by_cases g:9<s
  ·rw [if_pos g] at hV
   have d1:decide (9<(s:Int))=true:=by simp;omega
   have hw:IntKind.i64.wrap ((s:Int) - 9)=((s - 9:Nat):Int):=by rw [IntKind.wrap_i64];omega
   obtain ⟨j,hj⟩:∃ j,Hid (s - 9=j):=⟨_,rfl⟩
   rw [hj.out] at hw hV
   have hj9:j≤9:=by have:=hj.out;omega
   have HT:Hid (tenI (j:Int)=((10 ^ j:Nat):Int)):=by show _=_;unfold tenI;rw [if_pos (by omega)];rfl
   have hp:10 ^ j≤10 ^ 9:=Nat.pow_le_pow_right (by omega) hj9
   have hp0:0<10 ^ j:=Nat.pow_pos (by omega)
   obtain ⟨T,hT⟩:∃ T:Nat,Hid (10 ^ j=T):=⟨_,rfl⟩
   rw [hT.out] at hp hp0 hV HT
   have HP:Hid (0<T∧T<18446744073709551616):=⟨hp0,by omega⟩
   obtain ⟨eb,eh,el,he,HE⟩:=isW_wv (evenZ z T) (Nat.lt_of_le_of_lt (evenZ_abs z T hp0).1 (isW_lt HX.out))
   have HV:=Lib.hid hV
   clear hp hp0 hV hs
   have x0:=X0.out.c0;have x1:=X0.out.c1;have x2:=X0.out.c2
   go_upto_region 2 with fail
   go_region_law (first
    | (go_simp;go_at_call 107;refine (wTen_c (j:Int) _ _ (by omega) (by omega) HT.out).mono ?_;rintro e w1 ⟨rfl,rfl⟩)
    | (go_simp;go_at_call 106;refine (even_w T HP.out.1 HP.out.2 _ _ HX.out he.out).mono ?_;rintro e w2 ⟨rfl,b2⟩;have B2:=Lib.hid (show Below W0.heap.size W0 w2 from bt ((Below.refl _ _).drew) b2);have X2:=Lib.hid (WAt.below X0.out B2.out);have r0:=X2.out.c0;have r1:=X2.out.c1;have r2:=X2.out.c2;have r3:=X2.out.f0;have r4:=X2.out.f1;have r5:=X2.out.f2;clear b2))
   all_goals
    go_wp2_with fail
    go_meet
    case rel=>
     refine ⟨evenZ z T,9,eb,eh,el,rfl,by omega,wAt_set3 _ _ _ X2.out,HE,HV,?_,?_⟩
     ·exact dAt_other _ _ (dAt_other _ _ (dAt_other _ _ (DAt.below D0.out B2.out) (by omega)) (by omega)) (by omega)
     ·exact below_set3 _ _ _ (bt B0.out B2.out) (Nat.le_refl _)
  ·rw [if_neg g] at hV
   have d1:decide (9<(s:Int))=false:=by simp;omega
   have HV:=Lib.hid hV
   clear hV
   go_wp2_with fail
   go_meet
   case rel=>exact ⟨z,s,n,hi,lo,rfl,by omega,X0,HX,HV,D0,B0⟩
 case rest=>
  rename_i wm
  obtain ⟨u,t,m,h,l,rfl,ht,HXm,HU,HVm,HD,HB⟩:=hcut
  clear HX X0 D0 B0 hV hs
  go_wp2_with fail
  apply wp_label
  go_wp2_with fail
  go_loopw [1] (fun s1 wr=>MadeMid w V s1 wr) (fun s1 _=>(intOf s1).toNat)
  case atStart=>exact ⟨u,t,m,h,l,rfl,ht,HXm,HU,HVm,HD,HB⟩
  case round=>
   clear HXm HU HVm HD HB ht
   rename_i wr
   obtain ⟨wo,rfl⟩:∃ wo:World,wo=wr:=⟨_,rfl⟩
   obtain ⟨u,t,m,h,l,rfl,ht,HXm,HU,HVm,HD,HB⟩:=hrel
   cases t with
   | zero=>
    have e0:=HXm.out.c0;have e1:=HXm.out.c1;have e2:=HXm.out.c2
    rcases small_dec u 0 V (.inl rfl) HVm.out with ⟨hsm,hVe⟩ | ⟨hsm,hVe⟩
    all_goals
     go_wp2_with fail
     refine (small_w _ _ HU.out hsm).mono ?_
     rintro e w9 ⟨rfl,b9⟩
     have D9:=Lib.hid (DAt.below HD.out b9)
     have B9:=Lib.hid (bt HB.out b9)
     have r0:=D9.out.c0;have r1:=D9.out.c1;have r2:=D9.out.f0;have r3:=D9.out.f1
     clear b9 e0 e1 e2
     go_wp2_with fail
     rw [Exit.noGoto_ret]
     refine bodyPost_ret (v:=V) (by rw [hVe];simp [results,Tryz.results52,go_sem,r0,r1]) rfl ⟨rfl,(B9.out.setCell (by simp) _).setCell (by simp) _⟩
   | succ t=>
    have g1:decide (0<((t+1:Nat):Int))=true:=by simp
    have ht1:t+1<9223372036854775808:=by omega
    have hw:IntKind.i64.wrap (((t+1:Nat):Int) - 1)=(t:Int):=by rw [IntKind.wrap_i64];omega
    obtain ⟨R,hR⟩:∃ R:Nat,Hid (u.natAbs % 10=R):=⟨_,rfl⟩
    have htd:(u.tdiv ((10:Nat):Int)).natAbs≤u.natAbs:=by rw [Int.natAbs_tdiv];exact Nat.div_le_self _ _
    obtain ⟨qb,qh,ql,hq,HQ⟩:=isW_wv (u.tdiv ((10:Nat):Int)) (Nat.lt_of_le_of_lt htd (isW_lt HU.out))
    have hqd:Hid (divV u 10=.tuple #[.agg #[.bool qb,.int .u64 (qh:Int),.int .u64 (ql:Int)],.int .u64 (R:Int),.int .i64 0]):=by show _=_;unfold divV;rw [hq.out,hR.out]
    clear htd
    have e0:=HXm.out.c0;have e1:=HXm.out.c1;have e2:=HXm.out.c2
    go_wp2_with fail
    refine (div_w 10 (by omega) (by omega) _ _ HU.out hqd.out).mono ?_
    rintro e w2 ⟨rfl,b2⟩
    go_upto_region 6 with fail
    generalize hW:World.alloc w2 _=W3
    have E3:Hid (WAt W3 w2.heap.size qb qh ql):=by rw [←hW];exact wAt_new _ _ _ _
    have b3:Below wo.heap.size wo W3:=by rw [←hW];exact bt b2 (ba _ _)
    have X3:=Lib.hid (WAt.below HXm.out b3);have D3:=Lib.hid (DAt.below HD.out b3);have B3:=Lib.hid (bt HB.out b3)
    have lx:=HXm.out.lt;have l3:=b2.size
    clear hW b2 b3 e0 e1 e2
    by_cases hr:R=0
    ·subst hr
     have hu0:u % 10=0:=by have:=hR.out;omega
     have HV3:Hid (decV (u.tdiv ((10:Nat):Int)) t=V):=by show _=_;rw [←HVm.out,decV_step u t hu0];rfl
     have e0:=E3.out.c0;have e1:=E3.out.c1;have e2:=E3.out.c2;have e3:=X3.out.f0;have e4:=X3.out.f1;have e5:=X3.out.f2
     have e6:=X3.out.c0;have e7:=X3.out.c1;have e8:=X3.out.c2
     go_wp2_with fail
     go_round
     case rel=>
      refine ⟨_,t,qb,qh,ql,rfl,by omega,wAt_set3 _ _ _ X3.out,HQ,HV3,?_,below_set3 _ _ _ B3.out (Nat.le_refl _)⟩
      exact dAt_other _ _ (dAt_other _ _ (dAt_other _ _ D3.out (by omega)) (by omega)) (by omega)
     case measure=>simp [intOf]
    ·have hu0:u % 10 ≠ 0:=by have:=hR.out;omega
     have hr0:((R:Int) !=0)=true:=by simpa using hr
     clear HXm HD HB
     have HXm:=X3;have HD:=D3;have HB:=B3
     clear X3 D3 B3 E3 lx l3
     have e0:=HXm.out.c0;have e1:=HXm.out.c1;have e2:=HXm.out.c2
     rcases small_dec u (t+1) V (.inr hu0) HVm.out with ⟨hsm,hVe⟩ | ⟨hsm,hVe⟩
     all_goals
      go_wp2_with fail
      refine (small_w _ _ HU.out hsm).mono ?_
      rintro e w9 ⟨rfl,b9⟩
      have D9:=Lib.hid (DAt.below HD.out b9)
      have B9:=Lib.hid (bt HB.out b9)
      have r0:=D9.out.c0;have r1:=D9.out.c1;have r2:=D9.out.f0;have r3:=D9.out.f1
      clear b9 e0 e1 e2
      go_wp2_with fail
      rw [Exit.noGoto_ret]
      refine bodyPost_ret (v:=V) (by rw [hVe];simp [results,Tryz.results52,go_sem,r0,r1]) rfl ⟨rfl,(B9.out.setCell (by simp) _).setCell (by simp) _⟩
end Go.Proofs.YteagpbkbdlmdiaaGreat
namespace Go.Proofs.YteagpbkbdlmdiaaGreat
set_option maxRecDepth 100000
set_option maxHeartbeats 2000000
open Go.RowKit
attribute [local go_sem ↓] Go.wp_at_zero Go.wp_at_succ
def noneV (e:Int):Value:=.tuple #[.agg #[.int .i64 0,.int .i64 0],.int .i64 e]
def putV (c s:Int):Value:=if isB s=true then decV (un c s.toNat) 9 else noneV 2
theorem w_of (c:Int) (hc:fits c):∃ (b:Bool) (l:Nat),wv c=.agg #[.bool b,.int .u64 0,.int .u64 (l:Int)]∧IsW c b 0 l:=by
 have h1:-9223372036854775808≤c∧c≤9223372036854775807:=hc
 obtain ⟨b,l,h,g,v⟩:=wv_small c (by omega) (by omega)
 exact ⟨b,l,h,v,by omega,g⟩
theorem two_dec (w:World) (c s x y:Int) :
  DAt ((w.alloc (.cells #[.int .i64 c,.int .i64 s] 30)).alloc (.cells #[.int .i64 x,.int .i64 y] 30)) w.heap.size c s∧
  DAt ((w.alloc (.cells #[.int .i64 c,.int .i64 s] 30)).alloc (.cells #[.int .i64 x,.int .i64 y] 30)) (w.heap.size+1) x y∧
  Below w.heap.size w ((w.alloc (.cells #[.int .i64 c,.int .i64 s] 30)).alloc (.cells #[.int .i64 x,.int .i64 y] 30)):=by
 have:=dAt_new (w.alloc (.cells #[.int .i64 c,.int .i64 s] 30)) x y
 rw [World.size_alloc] at this
 exact ⟨DAt.below (dAt_new w c s) (ba _ _),this,bt (ba _ _) (ba _ _)⟩
theorem three_dec (w:World) (c s x y p q:Int) :
  DAt (((w.alloc (.cells #[.int .i64 c,.int .i64 s] 30)).alloc (.cells #[.int .i64 x,.int .i64 y] 30)).alloc (.cells #[.int .i64 p,.int .i64 q] 30)) w.heap.size c s∧
  DAt (((w.alloc (.cells #[.int .i64 c,.int .i64 s] 30)).alloc (.cells #[.int .i64 x,.int .i64 y] 30)).alloc (.cells #[.int .i64 p,.int .i64 q] 30)) (w.heap.size+1) x y∧
  DAt (((w.alloc (.cells #[.int .i64 c,.int .i64 s] 30)).alloc (.cells #[.int .i64 x,.int .i64 y] 30)).alloc (.cells #[.int .i64 p,.int .i64 q] 30)) (w.heap.size+1+1) p q∧
  Below w.heap.size w (((w.alloc (.cells #[.int .i64 c,.int .i64 s] 30)).alloc (.cells #[.int .i64 x,.int .i64 y] 30)).alloc (.cells #[.int .i64 p,.int .i64 q] 30)):=by
 have:=dAt_new ((w.alloc (.cells #[.int .i64 c,.int .i64 s] 30)).alloc (.cells #[.int .i64 x,.int .i64 y] 30)) p q
 rw [World.size_alloc,World.size_alloc] at this
 obtain ⟨h1,h2,h3⟩:=two_dec w c s x y
 exact ⟨DAt.below h1 (ba _ _),DAt.below h2 (ba _ _),this,bt h3 (ba _ _)⟩
theorem of_w (c:Int) (v:Value) (w:World) (hc:fits c) (hv:wv c=v) :
  Calls Tryz.prog 53 #[.int .i64 c] w fun e w'=>e=.returned v∧Below w.heap.size w w':=by
 rw [←hv];exact wOf_any c w hc.1 hc.2
theorem made_lo (z:Int) (n:Bool) (hi lo s:Nat) (V:Value) (w:World) (X:IsW z n hi lo) (hs:s≤9) (hV:decV z s=V) :
  Calls Tryz.prog 52 #[.agg #[.bool n,.int .u64 (hi:Int),.int .u64 (lo:Int)],.int .i64 (s:Int)] w fun e w'=>e=.returned V∧Below w.heap.size w w':=
 made_any z n hi lo s V w X (by omega) (by rw [if_neg (by omega)];exact hV)
theorem made_lo0 (z:Int) (n:Bool) (lo s:Nat) (V:Value) (w:World) (X:IsW z n 0 lo) (hs:s≤9) (hV:decV z s=V) :
  Calls Tryz.prog 52 #[.agg #[.bool n,.int .u64 0,.int .u64 (lo:Int)],.int .i64 (s:Int)] w fun e w'=>e=.returned V∧Below w.heap.size w w':=
 made_lo z n 0 lo s V w X hs hV
theorem dPut_any (c s:Int) (V:Value) (w:World) (hc:fits c) (hV:putV c s=V) :
  Calls Tryz.prog 33 #[.agg #[.int .i64 c,.int .i64 s]] w fun e w'=>e=.returned V∧Below w.heap.size w w':=by
 go_enter Tryz.func33,Tryz.ntmps33
 go_upto_region 1 with fail
 obtain ⟨hX,hR,hB⟩:=two_dec w c s 0 0
 have X0:=Lib.hid hX;have R0:=Lib.hid hR;have B0:=Lib.hid hB;clear hX hR hB
 generalize World.alloc (World.alloc w _) _=W0 at X0 R0 B0⊢
 have x0:=X0.out.c0
 have x1:=X0.out.c1
 go_wp2_with fail
 refine (is1_any _ c s _ (by simp) (by simp) (by simp)).mono ?_
 rintro e w1 ⟨rfl,b1⟩
 have b1:=bt (ba W0 _) b1
 have X1:=Lib.hid (DAt.below X0.out b1)
 have R1:=Lib.hid (DAt.below R0.out b1)
 have B1:=Lib.hid (bt B0.out b1)
 clear x0 x1
 clear b1
 clear X0 R0  B0
 unfold putV at hV
 cases hs:isB s with
 | false=>
  rw [hs,if_neg (by simp)] at hV;subst hV
  have r0:=R1.out.c0
  have rf0:=R1.out.f0
  have r1:=R1.out.c1
  have rf1:=R1.out.f1
  go_wp2_with fail
  refine bodyPost_ret (v:=noneV 2) (by simp [results,Tryz.results33,go_sem,noneV,r0,r1]) rfl ⟨rfl,((B1.out.setCell (by simp) _).setCell (by simp) _)⟩
 | true=>
  rw [hs,if_pos rfl] at hV
  obtain ⟨n,rfl,hn⟩:=isB_nat hs
  rw [show ((n:Nat):Int).toNat=n from rfl,decV_un c n hn] at hV
  obtain ⟨ob,ol,hov,HO⟩:=w_of c hc
  obtain ⟨vc,vs,ve,hvv⟩:=decV_form c n;rw [hV] at hvv;subst hvv
  go_upto_region 3 with fail
  have HS0:(fun w':World=>w'.cell? ⟨w.heap.size,0,none⟩=some (.int .i64 c)∧w'.cell? ⟨w.heap.size,1,none⟩=some (.int .i64 (n:Int))) w1.drew:=⟨(DAt.below X1.out ((Below.refl _ _).drew)).c0,(DAt.below X1.out ((Below.refl _ _).drew)).c1⟩
  go_region_held3 (fun w'=>w'.cell? ⟨w.heap.size,0,none⟩=some (.int .i64 c)∧w'.cell? ⟨w.heap.size,1,none⟩=some (.int .i64 (n:Int)))
   (first | with_reducible exact HS0 | with_reducible assumption | with_reducible exact ⟨((dAt_other _ _ (dAt_other _ _ (DAt.below X1.out T21.out) (by omega)) (by omega))).c0,((dAt_other _ _ (dAt_other _ _ (DAt.below X1.out T21.out) (by omega)) (by omega))).c1⟩)
   (first
    | (go_at_call 53;(with_reducible refine (of_w c _ _ hc hov).mono ?_);rintro e w20 ⟨rfl,b20⟩;have T20:Hid (Below w1.heap.size w1 w20):=bt ((Below.refl _ _).drew) b20;have HS20:w20.cell? ⟨w.heap.size,0,none⟩=some (.int .i64 c)∧w20.cell? ⟨w.heap.size,1,none⟩=some (.int .i64 (n:Int)):=⟨(DAt.below X1.out T20.out).c0,(DAt.below X1.out T20.out).c1⟩;clear b20)
    | (go_at_call 52;(with_reducible refine (made_lo0 c ob ol n _ _ HO hn hV).mono ?_);rintro e w21 ⟨rfl,b21⟩;have T21:Hid (Below w1.heap.size w1 w21):=bt T20.out b21;have HS21:w21.cell? ⟨w.heap.size,0,none⟩=some (.int .i64 c)∧w21.cell? ⟨w.heap.size,1,none⟩=some (.int .i64 (n:Int)):=⟨(DAt.below X1.out T21.out).c0,(DAt.below X1.out T21.out).c1⟩;have B9:=Lib.hid (bt B1.out T21.out);have R9:=Lib.hid (DAt.below R1.out T21.out);have r0:=R9.out.c0;have rf0:=R9.out.f0;have r1:=R9.out.c1;have rf1:=R9.out.f1;clear b21))
  all_goals
   go_wp2_with fail
   refine bodyPost_ret (v:=_) (by simp [results,Tryz.results33,go_sem,noneV,r0,r1]) rfl ⟨rfl,((B9.out.setCell (by simp) _).setCell (by simp) _)⟩
theorem raised_lt (c:Int) (j:Nat) (hc:fits c) (hj:j≤9):(c*((10 ^ j:Nat):Int)).natAbs<340282366920938463463374607431768211456:=by
 have h1:-9223372036854775808≤c∧c≤9223372036854775807:=hc
 have hp:10 ^ j≤10 ^ 9:=Nat.pow_le_pow_right (by omega) hj
 rw [Int.natAbs_mul,Int.natAbs_natCast]
 have:=Nat.mul_le_mul (show c.natAbs≤9223372036854775808 by omega) hp
 omega
def BoxW (W:World) (b:Bool) (h l:Int) (s:Value) (wx:World):Prop:=
 ∃ i:Nat,s=.pointer (some ⟨i,0,none⟩)∧WAt wx i b h l∧Below W.heap.size W wx
theorem dec_wide (w:World) (c s:Int) :
  DAt ((w.alloc (.cells #[.int .i64 c,.int .i64 s] 30)).alloc (.cells #[.bool false,.int .u64 0,.int .u64 0] 97)) w.heap.size c s∧
  WAt ((w.alloc (.cells #[.int .i64 c,.int .i64 s] 30)).alloc (.cells #[.bool false,.int .u64 0,.int .u64 0] 97)) (w.heap.size+1) false 0 0∧
  Below w.heap.size w ((w.alloc (.cells #[.int .i64 c,.int .i64 s] 30)).alloc (.cells #[.bool false,.int .u64 0,.int .u64 0] 97)):=by
 have:=wAt_new (w.alloc (.cells #[.int .i64 c,.int .i64 s] 30)) false 0 0
 rw [World.size_alloc] at this
 exact ⟨DAt.below (dAt_new w c s) (ba _ _),this,bt (ba _ _) (ba _ _)⟩
theorem times_w0 {x:Int} {n1:Bool} {l1:Nat} (d:Nat) (hd:d<18446744073709551616) (v:Value) (w:World) (X:IsW x n1 0 l1) (hv:ovV (x*(d:Int))=v) :
  Calls Tryz.prog 126 #[.agg #[.bool n1,.int .u64 0,.int .u64 (l1:Int)],.int .u64 (d:Int)] w fun e w'=>e=.returned v∧Below w.heap.size w w':=times_w d hd v w X hv
theorem ten_w (j:Nat) (t:Nat) (w:World) (hj:j≤19) (ht:10 ^ j=t):Calls Tryz.prog 107 #[.int .i64 (j:Int)] w fun e w'=>e=.returned (.int .u64 (t:Int))∧Below w.heap.size w w':=by
 refine (wTen_c (j:Int) (t:Int) w (by omega) (by omega) (by unfold tenI;rw [if_pos (by omega),←ht];rfl)).mono ?_
 rintro e w' ⟨rfl,rfl⟩;exact ⟨rfl,Below.refl _ _⟩
theorem raised_any (c:Int) (s S:Nat) (V:Value) (w:World) (hc:fits c) (hs:s≤S) (hS:S≤9) (hV:wv (c*((10 ^ (S - s):Nat):Int))=V) :
  Calls Tryz.prog 125 #[.agg #[.int .i64 c,.int .i64 (s:Int)],.int .i64 (S:Int)] w fun e w'=>e=.returned V∧Below w.heap.size w w':=by
 obtain ⟨j,hj⟩:∃ j,Hid (S - s=j):=⟨_,rfl⟩
 have hj9:j≤9:=by have:=hj.out;omega
 have hw:IntKind.i64.wrap ((S:Int) - (s:Int))=(j:Int):=by have:=hj.out;rw [IntKind.wrap_i64];omega
 rw [hj.out] at hV
 have hlt:=raised_lt c j hc hj9
 obtain ⟨T,hT⟩:∃ T:Nat,Hid (10 ^ j=T):=⟨_,rfl⟩
 have hT64:Hid (T<18446744073709551616):=by show _<_;have:=hT.out;have hp:10 ^ j≤10 ^ 9:=Nat.pow_le_pow_right (by omega) hj9;omega
 rw [hT.out] at hV hlt
 obtain ⟨ob,ol,hov,HO⟩:=w_of c hc
 obtain ⟨rb,rh,rl,hrv,HR⟩:=isW_wv (c*(T:Int)) hlt
 have hro:=Lib.hid (ovV_small _ _ hlt hrv.out)
 obtain rfl:=hV.symm.trans hrv.out
 have HJ:=Lib.hid hj9;have HOV:=Lib.hid hov;have HOO:=Lib.hid HO;have HC:=Lib.hid hc;clear hj9 hlt hc hs hS hov HO
 go_enter Tryz.func125,Tryz.ntmps125
 go_upto_region 1 with fail
 obtain ⟨hX,hR,hB⟩:=dec_wide w c (s:Int)
 have X0:=Lib.hid hX;have R0:=Lib.hid hR;have B0:=Lib.hid hB;clear hX hR hB
 generalize World.alloc (World.alloc w _) _=W0 at X0 R0 B0⊢
 go_cut [5] (fun s5 wx=>BoxW W0 rb rh rl s5 wx)
 case first=>
  have mkS:∀ w',Below W0.heap.size W0 w'→(Below W0.heap.size W0 w'∧w'.cell? ⟨w.heap.size,0,none⟩=some (.int .i64 c)∧w'.cell? ⟨w.heap.size,1,none⟩=some (.int .i64 (s:Int))):=fun w' hb=>⟨hb,(DAt.below X0.out hb).c0,(DAt.below X0.out hb).c1⟩
  have HS0:=mkS _ ((Below.refl _ _).drew)
  go_region_held3 (fun w'=>Below W0.heap.size W0 w'∧w'.cell? ⟨w.heap.size,0,none⟩=some (.int .i64 c)∧w'.cell? ⟨w.heap.size,1,none⟩=some (.int .i64 (s:Int)))
   (first | with_reducible exact HS0 | with_reducible assumption | (refine mkS _ ?_;(repeat (first | with_reducible exact And.left (by with_reducible assumption) | with_reducible exact Below.refl _ _ | refine Below.setCell ?_ (by first | omega | (simp only [World.size_alloc,hdrew];omega) | (simp<;>omega)) _ | refine Below.alloc ?_ (by first | omega | (simp only [World.size_alloc,hdrew];omega) | (simp<;>omega)) _ | refine Below.drew ?_))))
   (first
    | (go_at_call 53;(with_reducible refine (of_w c _ _ HC.out HOV.out).mono ?_);rintro e w20 ⟨rfl,b20⟩;have HS20:=mkS _ (bt (And.left (by assumption)) b20);have T20:=Lib.hid (HS20.1);(obtain ⟨hcb20,hfb20⟩:=bcell b20;have zzb20:=Below.size b20;(try simp only [World.size_alloc,hdrew] at zzb20);(try (have llb20:W0.heap.size<w20.heap.size:=by omega));(try (have lmb20:W0.heap.size+1<w20.heap.size:=by omega)));((try replace b20:=undrew b20);first | (have QA:=Lib.hid (WAt.below (Hid.out Q0) b20)) | (have QA:=WAt.below (wAt_new _ false 0 0) b20;(try simp only [World.size_alloc,hdrew] at QA);have QA:=Lib.hid QA) | skip);(try (have ln20:W0.heap.size<w20.heap.size:=by omega));clear b20)
    | (go_at_call 107;(with_reducible refine (ten_w j T _ (by have:=HJ.out;omega) hT.out).mono ?_);rintro e w21 ⟨rfl,b21⟩;have HS21:=mkS _ (bt (And.left (by assumption)) b21);have T21:=Lib.hid (HS21.1);(obtain ⟨hcb21,hfb21⟩:=bcell b21;have zzb21:=Below.size b21;(try simp only [World.size_alloc,hdrew] at zzb21);(try (have llb21:w20.heap.size<w21.heap.size:=by omega));(try (have lmb21:w20.heap.size+1<w21.heap.size:=by omega)));((try replace b21:=undrew b21);first | (have QB:=Lib.hid (WAt.below (Hid.out QA) b21)) | (have QB:=WAt.below (wAt_new _ false 0 0) b21;(try simp only [World.size_alloc,hdrew] at QB);have QB:=Lib.hid QB) | skip);(try (have ln21:W0.heap.size<w21.heap.size:=by omega));clear b21)
    | (go_at_call 126;(with_reducible refine (times_w0 T hT64.out _ _ HOO.out hro.out).mono ?_);rintro e w22 ⟨rfl,b22⟩;have HS22:=mkS _ (bt (And.left (by assumption)) b22);have T22:=Lib.hid (HS22.1);(obtain ⟨hcb22,hfb22⟩:=bcell b22;have zzb22:=Below.size b22;(try simp only [World.size_alloc,hdrew] at zzb22);(try (have llb22:w21.heap.size<w22.heap.size:=by omega));(try (have lmb22:w21.heap.size+1<w22.heap.size:=by omega)));((try replace b22:=undrew b22);first | (have QC:=Lib.hid (WAt.below (Hid.out QB) b22)) | (have QC:=WAt.below (wAt_new _ false 0 0) b22;(try simp only [World.size_alloc,hdrew] at QC);have QC:=Lib.hid QC) | skip);(try (have ln22:W0.heap.size<w22.heap.size:=by omega));clear b22))
  all_goals
   dsimp only [Exit.then]
   refine ‹∀ (a':Act) (w':World),Met _ a' w'→_› _ _ ?_
   go_meet
   case rel=>exact ⟨_,rfl,(by (first | with_reducible exact wAt_set3 _ _ _ QC.out | with_reducible exact wAt_set3 _ _ _ QB.out | with_reducible exact wAt_set3 _ _ _ QA.out | with_reducible exact wAt_new _ _ _ _ | with_reducible exact wAt_set3 _ _ _ (wAt_new _ _ _ _) | exact wAt_new _ _ _ _)),(by (repeat (first | with_reducible exact And.left (by with_reducible assumption) | with_reducible exact Below.refl _ _ | refine Below.setCell ?_ (by first | omega | (simp only [World.size_alloc,hdrew];omega) | (simp<;>omega)) _ | refine Below.alloc ?_ (by first | omega | (simp only [World.size_alloc,hdrew];omega) | (simp<;>omega)) _ | refine Below.drew ?_)))⟩
 case rest=>
  obtain ⟨i5,rfl,h5,b5⟩:=hcut
  have Z1:=Lib.hid h5;clear h5
  rename_i w1
  have X1:=Lib.hid (DAt.below X0.out b5)
  have R1:=Lib.hid (WAt.below R0.out b5)
  have B1:=Lib.hid (bt B0.out b5)
  clear b5
  clear X0 R0  B0
  have z0:=Z1.out.c0
  have z1:=Z1.out.c1
  have z2:=Z1.out.c2
  have r0:=R1.out.c0
  have rf0:=R1.out.f0
  have r1:=R1.out.c1
  have rf1:=R1.out.f1
  have r2:=R1.out.c2
  have rf2:=R1.out.f2
  go_wp2_with fail
  refine bodyPost_ret (v:=.agg #[.bool rb,.int .u64 (rh:Int),.int .u64 (rl:Int)]) (by simp [results,Tryz.results125,go_sem,noneV,r0,r1,r2]) rfl ⟨rfl,(((B1.out.setCell (by simp) _).setCell (by simp) _).setCell (by simp) _)⟩
theorem dd_ww (w:World) (c s x y:Int):∃ W:World,W=((((w.alloc (.cells #[.int .i64 c,.int .i64 s] 30)).alloc (.cells #[.int .i64 x,.int .i64 y] 30)).alloc (.cells #[.bool false,.int .u64 0,.int .u64 0] 97)).alloc (.cells #[.bool false,.int .u64 0,.int .u64 0] 97))∧
  DAt W w.heap.size c s∧DAt W (w.heap.size+1) x y∧WAt W (w.heap.size+1+1) false 0 0∧WAt W (w.heap.size+1+1+1) false 0 0∧Below w.heap.size w W:=by
 obtain ⟨h1,h2,h3⟩:=two_dec w c s x y
 have h4:=wAt_new ((w.alloc (.cells #[.int .i64 c,.int .i64 s] 30)).alloc (.cells #[.int .i64 x,.int .i64 y] 30)) false 0 0
 have h5:=wAt_new (((w.alloc (.cells #[.int .i64 c,.int .i64 s] 30)).alloc (.cells #[.int .i64 x,.int .i64 y] 30)).alloc (.cells #[.bool false,.int .u64 0,.int .u64 0] 97)) false 0 0
 simp only [World.size_alloc] at h4 h5
 exact ⟨_,rfl,DAt.below h1 (bt (ba _ _) (ba _ _)),DAt.below h2 (bt (ba _ _) (ba _ _)),WAt.below h4 (ba _ _),h5,bt h3 (bt (ba _ _) (ba _ _))⟩
theorem raised_c (c:Int) (s S:Nat) (b:Bool) (h l:Nat) (w:World) (hc:fits c) (hs:s≤S) (hS:S≤9) (hV:wv (c*((10 ^ (S - s):Nat):Int))=.agg #[.bool b,.int .u64 (h:Int),.int .u64 (l:Int)]) :
  Calls Tryz.prog 125 #[.agg #[.int .i64 c,.int .i64 (s:Int)],.int .i64 (S:Int)] w fun e w'=>e=.returned (.agg #[.bool b,.int .u64 (h:Int),.int .u64 (l:Int)])∧Below w.heap.size w w':=raised_any c s S _ w hc hs hS hV
theorem both_any (c c':Int) (s s' m:Nat) (ab bb:Bool) (ah al bh bl:Nat) (w:World) (hc:fits c) (hc':fits c') (hs:s≤9) (hs':s'≤9) (hm:max s s'=m)
  (ha:wv (c*((10 ^ (m - s):Nat):Int))=.agg #[.bool ab,.int .u64 (ah:Int),.int .u64 (al:Int)]) (hb:wv (c'*((10 ^ (m - s'):Nat):Int))=.agg #[.bool bb,.int .u64 (bh:Int),.int .u64 (bl:Int)]) :
  Calls Tryz.prog 153 #[.agg #[.int .i64 c,.int .i64 (s:Int)],.agg #[.int .i64 c',.int .i64 (s':Int)]] w fun e w'=>e=.returned (.tuple #[.agg #[.bool ab,.int .u64 (ah:Int),.int .u64 (al:Int)],.agg #[.bool bb,.int .u64 (bh:Int),.int .u64 (bl:Int)],.int .i64 (m:Int)])∧Below w.heap.size w w':=by
 have hmi:(if (s:Int)<(s':Int) then (s':Int) else (s:Int))=(m:Int):=by split<;>omega
 have hmx:max (s:Int) (s':Int)=(m:Int):=by omega
 have h1:s≤m:=by omega
 have h2:s'≤m:=by omega
 have h3:m≤9:=by omega
 have HH:Hid (fits c∧fits c'∧s≤m∧s'≤m∧m≤9):=⟨hc,hc',h1,h2,h3⟩
 have HA:=Lib.hid ha;have HB:=Lib.hid hb
 clear hc hc' hs hs' hm ha hb h1 h2 h3
 go_enter Tryz.func153,Tryz.ntmps153
 go_upto_region 1 with fail
 obtain ⟨W0,hW,hX,hY,hP,hR,hBB⟩:=dd_ww w c (s:Int) c' (s':Int)
 rw [←hW]
 obtain ⟨ir,hir⟩:∃ x,Hid (w.heap.size+1+1+1=x):=⟨_,rfl⟩
 obtain ⟨ip,hip⟩:∃ x,Hid (w.heap.size+1+1=x):=⟨_,rfl⟩
 obtain ⟨iy,hiy⟩:∃ x,Hid (w.heap.size+1=x):=⟨_,rfl⟩
 have hlt:w.heap.size<iy∧iy<ip∧ip<ir:=by have:=hir.out;have:=hip.out;have:=hiy.out;omega
 have n1:ip ≠ ir:=by omega
 have n2:ir ≠ ip:=by omega
 rw [hir.out] at hR⊢;rw [hip.out] at hP⊢;rw [hiy.out] at hY⊢
 have X0:=Lib.hid hX;have Y0:=Lib.hid hY;have P0:=Lib.hid hP;have R0:=Lib.hid hR;have B0:=Lib.hid hBB;clear hX hY hP hR hBB hW hir hip hiy
 have x0:=X0.out.c0
 have x1:=X0.out.c1
 have y0:=Y0.out.c0
 have y1:=Y0.out.c1
 go_upto_region 2 with fail
 (try rw [hmx])
 have HS0:(fun w':World=>w'.cell? ⟨w.heap.size,0,none⟩=some (.int .i64 c)∧w'.cell? ⟨w.heap.size,1,none⟩=some (.int .i64 (s:Int))∧w'.cell? ⟨iy,0,none⟩=some (.int .i64 c')∧w'.cell? ⟨iy,1,none⟩=some (.int .i64 (s':Int))) W0.drew:=⟨(DAt.below X0.out ((Below.refl _ _).drew)).c0,(DAt.below X0.out ((Below.refl _ _).drew)).c1,(DAt.below Y0.out ((Below.refl _ _).drew)).c0,(DAt.below Y0.out ((Below.refl _ _).drew)).c1⟩
 go_region_held3 (fun w'=>w'.cell? ⟨w.heap.size,0,none⟩=some (.int .i64 c)∧w'.cell? ⟨w.heap.size,1,none⟩=some (.int .i64 (s:Int))∧w'.cell? ⟨iy,0,none⟩=some (.int .i64 c')∧w'.cell? ⟨iy,1,none⟩=some (.int .i64 (s':Int)))
  (first | with_reducible exact HS0 | with_reducible assumption | with_reducible exact ⟨((dAt_other _ _ (dAt_other _ _ (dAt_other _ _ (DAt.below X0.out T21.out) (by omega)) (by omega)) (by omega))).c0,((dAt_other _ _ (dAt_other _ _ (dAt_other _ _ (DAt.below X0.out T21.out) (by omega)) (by omega)) (by omega))).c1,((dAt_other _ _ (dAt_other _ _ (dAt_other _ _ (DAt.below Y0.out T21.out) (by omega)) (by omega)) (by omega))).c0,((dAt_other _ _ (dAt_other _ _ (dAt_other _ _ (DAt.below Y0.out T21.out) (by omega)) (by omega)) (by omega))).c1⟩ | with_reducible exact ⟨((dAt_other _ _ (dAt_other _ _ (dAt_other _ _ (dAt_other _ _ (dAt_other _ _ (dAt_other _ _ (DAt.below X0.out T21.out) (by omega)) (by omega)) (by omega)) (by omega)) (by omega)) (by omega))).c0,((dAt_other _ _ (dAt_other _ _ (dAt_other _ _ (dAt_other _ _ (dAt_other _ _ (dAt_other _ _ (DAt.below X0.out T21.out) (by omega)) (by omega)) (by omega)) (by omega)) (by omega)) (by omega))).c1,((dAt_other _ _ (dAt_other _ _ (dAt_other _ _ (dAt_other _ _ (dAt_other _ _ (dAt_other _ _ (DAt.below Y0.out T21.out) (by omega)) (by omega)) (by omega)) (by omega)) (by omega)) (by omega))).c0,((dAt_other _ _ (dAt_other _ _ (dAt_other _ _ (dAt_other _ _ (dAt_other _ _ (dAt_other _ _ (DAt.below Y0.out T21.out) (by omega)) (by omega)) (by omega)) (by omega)) (by omega)) (by omega))).c1⟩)
  (first
   | (go_at_call 125;(with_reducible refine (raised_c c s m _ _ _ _ HH.out.1 HH.out.2.2.1 HH.out.2.2.2.2 HA.out).mono ?_);rintro e w20 ⟨rfl,b20⟩;have T20:Hid (Below W0.heap.size W0 w20):=bt ((Below.refl _ _).drew) b20;have HS20:w20.cell? ⟨w.heap.size,0,none⟩=some (.int .i64 c)∧w20.cell? ⟨w.heap.size,1,none⟩=some (.int .i64 (s:Int))∧w20.cell? ⟨iy,0,none⟩=some (.int .i64 c')∧w20.cell? ⟨iy,1,none⟩=some (.int .i64 (s':Int)):=⟨(DAt.below X0.out T20.out).c0,(DAt.below X0.out T20.out).c1,(DAt.below Y0.out T20.out).c0,(DAt.below Y0.out T20.out).c1⟩;clear b20)
   | (go_at_call 125;(with_reducible refine (raised_c c' s' m _ _ _ _ HH.out.2.1 HH.out.2.2.2.1 HH.out.2.2.2.2 HB.out).mono ?_);rintro e w21 ⟨rfl,b21⟩;have T21:Hid (Below W0.heap.size W0 w21):=bt T20.out b21;have HS21:w21.cell? ⟨w.heap.size,0,none⟩=some (.int .i64 c)∧w21.cell? ⟨w.heap.size,1,none⟩=some (.int .i64 (s:Int))∧w21.cell? ⟨iy,0,none⟩=some (.int .i64 c')∧w21.cell? ⟨iy,1,none⟩=some (.int .i64 (s':Int)):=⟨(DAt.below X0.out T21.out).c0,(DAt.below X0.out T21.out).c1,(DAt.below Y0.out T21.out).c0,(DAt.below Y0.out T21.out).c1⟩;have B9:=Lib.hid (bt B0.out T21.out);have P9:=Lib.hid (WAt.below P0.out T21.out);have p0:=P9.out.c0;have pf0:=P9.out.f0;have p1:=P9.out.c1;have pf1:=P9.out.f1;have p2:=P9.out.c2;have pf2:=P9.out.f2;have R9:=Lib.hid (WAt.below R0.out T21.out);have r0:=R9.out.c0;have rf0:=R9.out.f0;have r1:=R9.out.c1;have rf1:=R9.out.f1;have r2:=R9.out.c2;have rf2:=R9.out.f2;clear b21))
 all_goals
  go_wp2_with fail
  refine bodyPost_ret (v:=.tuple #[.agg #[.bool ab,.int .u64 (ah:Int),.int .u64 (al:Int)],.agg #[.bool bb,.int .u64 (bh:Int),.int .u64 (bl:Int)],.int .i64 (m:Int)]) (by simp [results,Tryz.results153,go_sem,p0,p1,p2,r0,r1,r2,n1,n2]) rfl ⟨rfl,below_set3 _ _ _ (below_set3 _ _ _ B9.out (by omega)) (by omega)⟩
end Go.Proofs.YteagpbkbdlmdiaaGreat
