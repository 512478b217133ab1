/-
  eval: functions that hold functions, walked.
-/
import Derived.Test.YteagpbkbdlmdiaaGreatQ24
import Derived.Test.YteagpbkbdlmdiaaGreatQ1
import Derived.Deep.RegionHeld3
set_option linter.unusedSimpArgs false
set_option linter.unusedVariables false
namespace Go.Proofs.YteagpbkbdlmdiaaGreat.Ev
set_option maxRecDepth 100000
open Go Go.RowKit Dt Tx Va
attribute [local go_sem ↓] Go.wp_at_zero Go.wp_at_succ
def Bx (w:World) (b:Nat) (t:TypeId) (v:Value):Prop:=w.heap[b]?=some (.cells #[v] t (0,0))
section
variable {w:World} {b:Nat} {t:TypeId} {v:Value}
theorem Bx.lt (h:Bx w b t v):b<w.heap.size:=(Array.getElem?_eq_some_iff.1 h).1
theorem Bx.c0 (h:Bx w b t v):w.cell? ⟨b,0,none⟩=some v:=by rw [cell_of_row w _ _ _ _ (0,0) h];rfl
theorem Bx.f (h:Bx w b t v) (i:Nat):w.frozen? ⟨b,i,none⟩=false:=frozen_of_row w _ _ _ _ h
theorem Bx.below {w':World} (h:Bx w b t v) (k:Below w.heap.size w w'):Bx w' b t v:=(k.block b h.lt).trans h
end
def K3 (w:World) (g:Nat) (a b d:V):Prop:=w.heap[g]?=some (.cells #[.int .u8 a.k,.int .i64 a.c,.int .i64 a.s,.int .i64 a.e,.int .u8 b.k,.int .i64 b.c,.int .i64 b.s,.int .i64 b.e,.int .u8 d.k,.int .i64 d.c,.int .i64 d.s,.int .i64 d.e] 54 (0,0))
section
variable {w:World} {g:Nat} {a b d:V}
theorem K3.lt (h:K3 w g a b d):g<w.heap.size:=(Array.getElem?_eq_some_iff.1 h).1
theorem results_cellD {fn:Func} {p u:Tmp} (h:fn.results=#[.cell p 30,.tmp u]) (tmps:Array Value) (w:World) (g:Nat) (c s:Int) (hp:tmps.getD p undef=.pointer (some ⟨g,0,none⟩)) (hg:Two w g c s) :
  (results fn tmps).run Tryz.prog w=.ok (.tuple #[.agg #[.int .i64 c,.int .i64 s],tmps.getD u undef]) w:=
 results_cell2 h tmps w g _ _ (0,0) _ hp hg Tryz.underlying30 rfl (by kernel_rfl)
theorem below_set2 {B g:Nat} {a w:World} (h:Below B a w) (hg:B≤g) (x0 x1:Value):Below B a ((w.setCell ⟨g,0,none⟩ x0).setCell ⟨g,1,none⟩ x1):=
 Below.setCell (Below.setCell h (p:=⟨g,0,none⟩) hg _) (p:=⟨g,1,none⟩) hg _
theorem K3.c0 (h:K3 w g a b d):w.cell? ⟨g,0,none⟩=some (.int .u8 a.k):=by rw [cell_of_row w _ _ _ _ (0,0) h];rfl
theorem K3.c1 (h:K3 w g a b d):w.cell? ⟨g,1,none⟩=some (.int .i64 a.c):=by rw [cell_of_row w _ _ _ _ (0,0) h];rfl
theorem K3.c2 (h:K3 w g a b d):w.cell? ⟨g,2,none⟩=some (.int .i64 a.s):=by rw [cell_of_row w _ _ _ _ (0,0) h];rfl
theorem K3.c3 (h:K3 w g a b d):w.cell? ⟨g,3,none⟩=some (.int .i64 a.e):=by rw [cell_of_row w _ _ _ _ (0,0) h];rfl
theorem K3.c4 (h:K3 w g a b d):w.cell? ⟨g,4,none⟩=some (.int .u8 b.k):=by rw [cell_of_row w _ _ _ _ (0,0) h];rfl
theorem K3.c5 (h:K3 w g a b d):w.cell? ⟨g,5,none⟩=some (.int .i64 b.c):=by rw [cell_of_row w _ _ _ _ (0,0) h];rfl
theorem K3.c6 (h:K3 w g a b d):w.cell? ⟨g,6,none⟩=some (.int .i64 b.s):=by rw [cell_of_row w _ _ _ _ (0,0) h];rfl
theorem K3.c7 (h:K3 w g a b d):w.cell? ⟨g,7,none⟩=some (.int .i64 b.e):=by rw [cell_of_row w _ _ _ _ (0,0) h];rfl
theorem K3.c8 (h:K3 w g a b d):w.cell? ⟨g,8,none⟩=some (.int .u8 d.k):=by rw [cell_of_row w _ _ _ _ (0,0) h];rfl
theorem K3.c9 (h:K3 w g a b d):w.cell? ⟨g,9,none⟩=some (.int .i64 d.c):=by rw [cell_of_row w _ _ _ _ (0,0) h];rfl
theorem K3.c10 (h:K3 w g a b d):w.cell? ⟨g,10,none⟩=some (.int .i64 d.s):=by rw [cell_of_row w _ _ _ _ (0,0) h];rfl
theorem K3.c11 (h:K3 w g a b d):w.cell? ⟨g,11,none⟩=some (.int .i64 d.e):=by rw [cell_of_row w _ _ _ _ (0,0) h];rfl
theorem K3.below {w':World} (h:K3 w g a b d) (k:Below w.heap.size w w'):K3 w' g a b d:=(k.block g h.lt).trans h
theorem K3.other4 {r:Nat} (h:K3 w g a b d) (ne:¬g=r) (x0 x1 x2 x3:Value):K3 ((((w.setCell ⟨r,0,none⟩ x0).setCell ⟨r,1,none⟩ x1).setCell ⟨r,2,none⟩ x2).setCell ⟨r,3,none⟩ x3) g a b d:=by
 show _=_
 rw [heap_setCell_other _ ⟨r,3,none⟩ g _ ne,heap_setCell_other _ ⟨r,2,none⟩ g _ ne,heap_setCell_other _ ⟨r,1,none⟩ g _ ne,heap_setCell_other _ ⟨r,0,none⟩ g _ ne];exact h
end
theorem two11_add {w:World} (a b:V) (t:Int × Int × Int) (bf:Nat) (hf:Bx w bf 104 (.func (.func 71) #[] #[])) (H:∀ w',Below w.heap.size w w'→Calls Tryz.prog 71 #[.agg #[.int .i64 a.c,.int .i64 a.s],.agg #[.int .i64 b.c,.int .i64 b.s]] w' (TP t w')) :
  Calls Tryz.prog 120 #[.agg #[.int .i64 a.c,.int .i64 a.s],.agg #[.int .i64 b.c,.int .i64 b.s],.pointer (some ⟨bf,0,none⟩)] w (VP (toldV t) w):=by
 obtain ⟨p,q,f⟩:=t
 try dsimp only [av,an,ao]
 go_enter Tryz.func120,Tryz.ntmps120
 go_upto_region 1 with fail
 obtain ⟨W0,iX,iY,iR,hW,hX,hY,hR,X0,Y0,R0,B0,LX,LY,LR,LI,LS⟩:=mkDDZ w a.c a.s b.c b.s
 rw [hW.out];try rw [hR.out];try rw [hY.out];try rw [hX.out]
 clear hW hX hY hR
 have F0:=Lib.hid (hf.below B0.out)
 have H0:=H W0 B0.out
 have Fc0:=F0.out.c0
 clear H hf
 have Xc0:=X0.out.c0;have Xc1:=X0.out.c1
 have Yc0:=Y0.out.c0;have Yc1:=Y0.out.c1
 go_wp2_with (first | (go_at_call 71;(with_reducible refine (H0).mono ?_);rintro e1 w1 ⟨rfl,q1⟩;have B1:=hB B0 q1;have R1:=hF R0 q1;clear H0;clear q1 B0 R0) | (go_at_call 32;(with_reducible refine (told_vp (w:=_) p q f).mono ?_);rintro e2 w2 ⟨rfl,q2⟩;have B2:=hB B1 q2;have R2:=hF R1 q2;clear q2 B1 R1;obtain ⟨Rc0,Rc1,Rc2,Rc3,Rf0,Rf1,Rf2,Rf3⟩:=R2.out.cf))
 exact ret4 5 rfl R2 B2 LR rfl rfl rfl
theorem two11_sub {w:World} (a b:V) (t:Int × Int × Int) (bf:Nat) (hf:Bx w bf 104 (.func (.func 72) #[] #[])) (H:∀ w',Below w.heap.size w w'→Calls Tryz.prog 72 #[.agg #[.int .i64 a.c,.int .i64 a.s],.agg #[.int .i64 b.c,.int .i64 b.s]] w' (TP t w')) :
  Calls Tryz.prog 120 #[.agg #[.int .i64 a.c,.int .i64 a.s],.agg #[.int .i64 b.c,.int .i64 b.s],.pointer (some ⟨bf,0,none⟩)] w (VP (toldV t) w):=by
 obtain ⟨p,q,f⟩:=t
 try dsimp only [av,an,ao]
 go_enter Tryz.func120,Tryz.ntmps120
 go_upto_region 1 with fail
 obtain ⟨W0,iX,iY,iR,hW,hX,hY,hR,X0,Y0,R0,B0,LX,LY,LR,LI,LS⟩:=mkDDZ w a.c a.s b.c b.s
 rw [hW.out];try rw [hR.out];try rw [hY.out];try rw [hX.out]
 clear hW hX hY hR
 have F0:=Lib.hid (hf.below B0.out)
 have H0:=H W0 B0.out
 have Fc0:=F0.out.c0
 clear H hf
 have Xc0:=X0.out.c0;have Xc1:=X0.out.c1
 have Yc0:=Y0.out.c0;have Yc1:=Y0.out.c1
 go_wp2_with (first | (go_at_call 72;(with_reducible refine (H0).mono ?_);rintro e1 w1 ⟨rfl,q1⟩;have B1:=hB B0 q1;have R1:=hF R0 q1;clear H0;clear q1 B0 R0) | (go_at_call 32;(with_reducible refine (told_vp (w:=_) p q f).mono ?_);rintro e2 w2 ⟨rfl,q2⟩;have B2:=hB B1 q2;have R2:=hF R1 q2;clear q2 B1 R1;obtain ⟨Rc0,Rc1,Rc2,Rc3,Rf0,Rf1,Rf2,Rf3⟩:=R2.out.cf))
 exact ret4 5 rfl R2 B2 LR rfl rfl rfl
theorem two11_mul {w:World} (a b:V) (t:Int × Int × Int) (bf:Nat) (hf:Bx w bf 104 (.func (.func 73) #[] #[])) (H:∀ w',Below w.heap.size w w'→Calls Tryz.prog 73 #[.agg #[.int .i64 a.c,.int .i64 a.s],.agg #[.int .i64 b.c,.int .i64 b.s]] w' (TP t w')) :
  Calls Tryz.prog 120 #[.agg #[.int .i64 a.c,.int .i64 a.s],.agg #[.int .i64 b.c,.int .i64 b.s],.pointer (some ⟨bf,0,none⟩)] w (VP (toldV t) w):=by
 obtain ⟨p,q,f⟩:=t
 try dsimp only [av,an,ao]
 go_enter Tryz.func120,Tryz.ntmps120
 go_upto_region 1 with fail
 obtain ⟨W0,iX,iY,iR,hW,hX,hY,hR,X0,Y0,R0,B0,LX,LY,LR,LI,LS⟩:=mkDDZ w a.c a.s b.c b.s
 rw [hW.out];try rw [hR.out];try rw [hY.out];try rw [hX.out]
 clear hW hX hY hR
 have F0:=Lib.hid (hf.below B0.out)
 have H0:=H W0 B0.out
 have Fc0:=F0.out.c0
 clear H hf
 have Xc0:=X0.out.c0;have Xc1:=X0.out.c1
 have Yc0:=Y0.out.c0;have Yc1:=Y0.out.c1
 go_wp2_with (first | (go_at_call 73;(with_reducible refine (H0).mono ?_);rintro e1 w1 ⟨rfl,q1⟩;have B1:=hB B0 q1;have R1:=hF R0 q1;clear H0;clear q1 B0 R0) | (go_at_call 32;(with_reducible refine (told_vp (w:=_) p q f).mono ?_);rintro e2 w2 ⟨rfl,q2⟩;have B2:=hB B1 q2;have R2:=hF R1 q2;clear q2 B1 R1;obtain ⟨Rc0,Rc1,Rc2,Rc3,Rf0,Rf1,Rf2,Rf3⟩:=R2.out.cf))
 exact ret4 5 rfl R2 B2 LR rfl rfl rfl
theorem two11_div {w:World} (a b:V) (t:Int × Int × Int) (bf:Nat) (hf:Bx w bf 104 (.func (.func 74) #[] #[])) (H:∀ w',Below w.heap.size w w'→Calls Tryz.prog 74 #[.agg #[.int .i64 a.c,.int .i64 a.s],.agg #[.int .i64 b.c,.int .i64 b.s]] w' (TP t w')) :
  Calls Tryz.prog 120 #[.agg #[.int .i64 a.c,.int .i64 a.s],.agg #[.int .i64 b.c,.int .i64 b.s],.pointer (some ⟨bf,0,none⟩)] w (VP (toldV t) w):=by
 obtain ⟨p,q,f⟩:=t
 try dsimp only [av,an,ao]
 go_enter Tryz.func120,Tryz.ntmps120
 go_upto_region 1 with fail
 obtain ⟨W0,iX,iY,iR,hW,hX,hY,hR,X0,Y0,R0,B0,LX,LY,LR,LI,LS⟩:=mkDDZ w a.c a.s b.c b.s
 rw [hW.out];try rw [hR.out];try rw [hY.out];try rw [hX.out]
 clear hW hX hY hR
 have F0:=Lib.hid (hf.below B0.out)
 have H0:=H W0 B0.out
 have Fc0:=F0.out.c0
 clear H hf
 have Xc0:=X0.out.c0;have Xc1:=X0.out.c1
 have Yc0:=Y0.out.c0;have Yc1:=Y0.out.c1
 go_wp2_with (first | (go_at_call 74;(with_reducible refine (H0).mono ?_);rintro e1 w1 ⟨rfl,q1⟩;have B1:=hB B0 q1;have R1:=hF R0 q1;clear H0;clear q1 B0 R0) | (go_at_call 32;(with_reducible refine (told_vp (w:=_) p q f).mono ?_);rintro e2 w2 ⟨rfl,q2⟩;have B2:=hB B1 q2;have R2:=hF R1 q2;clear q2 B1 R1;obtain ⟨Rc0,Rc1,Rc2,Rc3,Rf0,Rf1,Rf2,Rf3⟩:=R2.out.cf))
 exact ret4 5 rfl R2 B2 LR rfl rfl rfl
theorem two11_les {w:World} (a b:V) (t:Int × Int × Int) (bf bc:Nat) (hf:Bx w bf 104 (.func (.func 127) #[] #[.pointer (some ⟨bc,0,none⟩)])) (H:∀ w',Below w.heap.size w w'→Calls Tryz.prog 127 #[.agg #[.int .i64 a.c,.int .i64 a.s],.agg #[.int .i64 b.c,.int .i64 b.s],.pointer (some ⟨bc,0,none⟩)] w' (TP t w')) :
  Calls Tryz.prog 120 #[.agg #[.int .i64 a.c,.int .i64 a.s],.agg #[.int .i64 b.c,.int .i64 b.s],.pointer (some ⟨bf,0,none⟩)] w (VP (toldV t) w):=by
 obtain ⟨p,q,f⟩:=t
 try dsimp only [av,an,ao]
 go_enter Tryz.func120,Tryz.ntmps120
 go_upto_region 1 with fail
 obtain ⟨W0,iX,iY,iR,hW,hX,hY,hR,X0,Y0,R0,B0,LX,LY,LR,LI,LS⟩:=mkDDZ w a.c a.s b.c b.s
 rw [hW.out];try rw [hR.out];try rw [hY.out];try rw [hX.out]
 clear hW hX hY hR
 have F0:=Lib.hid (hf.below B0.out)
 have H0:=H W0 B0.out
 have Fc0:=F0.out.c0
 clear H hf
 have Xc0:=X0.out.c0;have Xc1:=X0.out.c1
 have Yc0:=Y0.out.c0;have Yc1:=Y0.out.c1
 go_wp2_with (first | (go_at_call 127;(with_reducible refine (H0).mono ?_);rintro e1 w1 ⟨rfl,q1⟩;have B1:=hB B0 q1;have R1:=hF R0 q1;clear H0;clear q1 B0 R0) | (go_at_call 32;(with_reducible refine (told_vp (w:=_) p q f).mono ?_);rintro e2 w2 ⟨rfl,q2⟩;have B2:=hB B1 q2;have R2:=hF R1 q2;clear q2 B1 R1;obtain ⟨Rc0,Rc1,Rc2,Rc3,Rf0,Rf1,Rf2,Rf3⟩:=R2.out.cf))
 exact ret4 5 rfl R2 B2 LR rfl rfl rfl
theorem two11_one {w:World} (a b:V) (t:Int × Int × Int) (bf bc:Nat) (hf:Bx w bf 104 (.func (.func 128) #[] #[.pointer (some ⟨bc,0,none⟩)])) (H:∀ w',Below w.heap.size w w'→Calls Tryz.prog 128 #[.agg #[.int .i64 a.c,.int .i64 a.s],.agg #[.int .i64 b.c,.int .i64 b.s],.pointer (some ⟨bc,0,none⟩)] w' (TP t w')) :
  Calls Tryz.prog 120 #[.agg #[.int .i64 a.c,.int .i64 a.s],.agg #[.int .i64 b.c,.int .i64 b.s],.pointer (some ⟨bf,0,none⟩)] w (VP (toldV t) w):=by
 obtain ⟨p,q,f⟩:=t
 try dsimp only [av,an,ao]
 go_enter Tryz.func120,Tryz.ntmps120
 go_upto_region 1 with fail
 obtain ⟨W0,iX,iY,iR,hW,hX,hY,hR,X0,Y0,R0,B0,LX,LY,LR,LI,LS⟩:=mkDDZ w a.c a.s b.c b.s
 rw [hW.out];try rw [hR.out];try rw [hY.out];try rw [hX.out]
 clear hW hX hY hR
 have F0:=Lib.hid (hf.below B0.out)
 have H0:=H W0 B0.out
 have Fc0:=F0.out.c0
 clear H hf
 have Xc0:=X0.out.c0;have Xc1:=X0.out.c1
 have Yc0:=Y0.out.c0;have Yc1:=Y0.out.c1
 go_wp2_with (first | (go_at_call 128;(with_reducible refine (H0).mono ?_);rintro e1 w1 ⟨rfl,q1⟩;have B1:=hB B0 q1;have R1:=hF R0 q1;clear H0;clear q1 B0 R0) | (go_at_call 32;(with_reducible refine (told_vp (w:=_) p q f).mono ?_);rintro e2 w2 ⟨rfl,q2⟩;have B2:=hB B1 q2;have R2:=hF R1 q2;clear q2 B1 R1;obtain ⟨Rc0,Rc1,Rc2,Rc3,Rf0,Rf1,Rf2,Rf3⟩:=R2.out.cf))
 exact ret4 5 rfl R2 B2 LR rfl rfl rfl
theorem is6 {w:World} (z:Int):Calls Tryz.prog 66 #[.int .i64 z] w fun e w'=>e=.returned (.bool (decide (z<0)))∧Below w.heap.size w w':=by
 go_enter Tryz.func66,Tryz.ntmps66
 go_wp2_with fail
 go_ret
 exact ⟨rfl,Below.refl _ _⟩
theorem order11_6 {w:World} (a b:V) (z:Int) (bf:Nat) (hf:Bx w bf 102 (.func (.func 66) #[] #[])) (H:∀ w,Calls Tryz.prog 118 #[.agg #[.int .i64 a.c,.int .i64 a.s],.agg #[.int .i64 b.c,.int .i64 b.s]] w fun e w'=>e=.returned (.tuple #[.int .i64 z,.int .i64 0])∧Below w.heap.size w w') :
  Calls Tryz.prog 117 #[.agg #[.int .i64 a.c,.int .i64 a.s],.agg #[.int .i64 b.c,.int .i64 b.s],.pointer (some ⟨bf,0,none⟩)] w (VP (truthV (decide (z<0))) w):=by
 try dsimp only [av,an,ao]
 go_enter Tryz.func117,Tryz.ntmps117
 go_upto_region 1 with fail
 obtain ⟨W0,iX,iY,iR,hW,hX,hY,hR,X0,Y0,R0,B0,LX,LY,LR,LI,LS⟩:=mkDDZ w a.c a.s b.c b.s
 rw [hW.out];try rw [hR.out];try rw [hY.out];try rw [hX.out]
 clear hW hX hY hR
 have F0:=Lib.hid (hf.below B0.out)
 clear hf
 have Xc0:=X0.out.c0;have Xc1:=X0.out.c1
 have Yc0:=Y0.out.c0;have Yc1:=Y0.out.c1
 go_wp2_with (first | (go_at_call 118;(with_reducible refine (H _).mono ?_);rintro e1 w1 ⟨rfl,q1⟩;have B1:=hB B0 q1;have R1:=hF R0 q1;have F1:=Lib.hid (F0.out.below q1);clear H;have Fc0:=F1.out.c0;clear q1 B0 R0 F0) | (go_at_call 66;(with_reducible refine (is6 (w:=_) z).mono ?_);rintro e2 w2 ⟨rfl,q2⟩;have B2:=hB B1 q2;have R2:=hF R1 q2;clear q2 B1 R1) | (go_at_call 34;(with_reducible refine (truth_vp (w:=_) _).mono ?_);rintro e3 w3 ⟨rfl,q3⟩;have B3:=hB B2 q3;have R3:=hF R2 q3;clear q3 B2 R2;obtain ⟨Rc0,Rc1,Rc2,Rc3,Rf0,Rf1,Rf2,Rf3⟩:=R3.out.cf))
 exact ret4 5 rfl R3 B3 LR rfl rfl rfl
theorem is7 {w:World} (z:Int):Calls Tryz.prog 67 #[.int .i64 z] w fun e w'=>e=.returned (.bool (decide (z≤0)))∧Below w.heap.size w w':=by
 go_enter Tryz.func67,Tryz.ntmps67
 go_wp2_with fail
 go_ret
 exact ⟨rfl,Below.refl _ _⟩
theorem order11_7 {w:World} (a b:V) (z:Int) (bf:Nat) (hf:Bx w bf 102 (.func (.func 67) #[] #[])) (H:∀ w,Calls Tryz.prog 118 #[.agg #[.int .i64 a.c,.int .i64 a.s],.agg #[.int .i64 b.c,.int .i64 b.s]] w fun e w'=>e=.returned (.tuple #[.int .i64 z,.int .i64 0])∧Below w.heap.size w w') :
  Calls Tryz.prog 117 #[.agg #[.int .i64 a.c,.int .i64 a.s],.agg #[.int .i64 b.c,.int .i64 b.s],.pointer (some ⟨bf,0,none⟩)] w (VP (truthV (decide (z≤0))) w):=by
 try dsimp only [av,an,ao]
 go_enter Tryz.func117,Tryz.ntmps117
 go_upto_region 1 with fail
 obtain ⟨W0,iX,iY,iR,hW,hX,hY,hR,X0,Y0,R0,B0,LX,LY,LR,LI,LS⟩:=mkDDZ w a.c a.s b.c b.s
 rw [hW.out];try rw [hR.out];try rw [hY.out];try rw [hX.out]
 clear hW hX hY hR
 have F0:=Lib.hid (hf.below B0.out)
 clear hf
 have Xc0:=X0.out.c0;have Xc1:=X0.out.c1
 have Yc0:=Y0.out.c0;have Yc1:=Y0.out.c1
 go_wp2_with (first | (go_at_call 118;(with_reducible refine (H _).mono ?_);rintro e1 w1 ⟨rfl,q1⟩;have B1:=hB B0 q1;have R1:=hF R0 q1;have F1:=Lib.hid (F0.out.below q1);clear H;have Fc0:=F1.out.c0;clear q1 B0 R0 F0) | (go_at_call 67;(with_reducible refine (is7 (w:=_) z).mono ?_);rintro e2 w2 ⟨rfl,q2⟩;have B2:=hB B1 q2;have R2:=hF R1 q2;clear q2 B1 R1) | (go_at_call 34;(with_reducible refine (truth_vp (w:=_) _).mono ?_);rintro e3 w3 ⟨rfl,q3⟩;have B3:=hB B2 q3;have R3:=hF R2 q3;clear q3 B2 R2;obtain ⟨Rc0,Rc1,Rc2,Rc3,Rf0,Rf1,Rf2,Rf3⟩:=R3.out.cf))
 exact ret4 5 rfl R3 B3 LR rfl rfl rfl
theorem is8 {w:World} (z:Int):Calls Tryz.prog 68 #[.int .i64 z] w fun e w'=>e=.returned (.bool (decide (z>0)))∧Below w.heap.size w w':=by
 go_enter Tryz.func68,Tryz.ntmps68
 go_wp2_with fail
 go_ret
 exact ⟨rfl,Below.refl _ _⟩
theorem order11_8 {w:World} (a b:V) (z:Int) (bf:Nat) (hf:Bx w bf 102 (.func (.func 68) #[] #[])) (H:∀ w,Calls Tryz.prog 118 #[.agg #[.int .i64 a.c,.int .i64 a.s],.agg #[.int .i64 b.c,.int .i64 b.s]] w fun e w'=>e=.returned (.tuple #[.int .i64 z,.int .i64 0])∧Below w.heap.size w w') :
  Calls Tryz.prog 117 #[.agg #[.int .i64 a.c,.int .i64 a.s],.agg #[.int .i64 b.c,.int .i64 b.s],.pointer (some ⟨bf,0,none⟩)] w (VP (truthV (decide (z>0))) w):=by
 try dsimp only [av,an,ao]
 go_enter Tryz.func117,Tryz.ntmps117
 go_upto_region 1 with fail
 obtain ⟨W0,iX,iY,iR,hW,hX,hY,hR,X0,Y0,R0,B0,LX,LY,LR,LI,LS⟩:=mkDDZ w a.c a.s b.c b.s
 rw [hW.out];try rw [hR.out];try rw [hY.out];try rw [hX.out]
 clear hW hX hY hR
 have F0:=Lib.hid (hf.below B0.out)
 clear hf
 have Xc0:=X0.out.c0;have Xc1:=X0.out.c1
 have Yc0:=Y0.out.c0;have Yc1:=Y0.out.c1
 go_wp2_with (first | (go_at_call 118;(with_reducible refine (H _).mono ?_);rintro e1 w1 ⟨rfl,q1⟩;have B1:=hB B0 q1;have R1:=hF R0 q1;have F1:=Lib.hid (F0.out.below q1);clear H;have Fc0:=F1.out.c0;clear q1 B0 R0 F0) | (go_at_call 68;(with_reducible refine (is8 (w:=_) z).mono ?_);rintro e2 w2 ⟨rfl,q2⟩;have B2:=hB B1 q2;have R2:=hF R1 q2;clear q2 B1 R1) | (go_at_call 34;(with_reducible refine (truth_vp (w:=_) _).mono ?_);rintro e3 w3 ⟨rfl,q3⟩;have B3:=hB B2 q3;have R3:=hF R2 q3;clear q3 B2 R2;obtain ⟨Rc0,Rc1,Rc2,Rc3,Rf0,Rf1,Rf2,Rf3⟩:=R3.out.cf))
 exact ret4 5 rfl R3 B3 LR rfl rfl rfl
theorem is9 {w:World} (z:Int):Calls Tryz.prog 69 #[.int .i64 z] w fun e w'=>e=.returned (.bool (decide (z ≥ 0)))∧Below w.heap.size w w':=by
 go_enter Tryz.func69,Tryz.ntmps69
 go_wp2_with fail
 go_ret
 exact ⟨rfl,Below.refl _ _⟩
theorem order11_9 {w:World} (a b:V) (z:Int) (bf:Nat) (hf:Bx w bf 102 (.func (.func 69) #[] #[])) (H:∀ w,Calls Tryz.prog 118 #[.agg #[.int .i64 a.c,.int .i64 a.s],.agg #[.int .i64 b.c,.int .i64 b.s]] w fun e w'=>e=.returned (.tuple #[.int .i64 z,.int .i64 0])∧Below w.heap.size w w') :
  Calls Tryz.prog 117 #[.agg #[.int .i64 a.c,.int .i64 a.s],.agg #[.int .i64 b.c,.int .i64 b.s],.pointer (some ⟨bf,0,none⟩)] w (VP (truthV (decide (z ≥ 0))) w):=by
 try dsimp only [av,an,ao]
 go_enter Tryz.func117,Tryz.ntmps117
 go_upto_region 1 with fail
 obtain ⟨W0,iX,iY,iR,hW,hX,hY,hR,X0,Y0,R0,B0,LX,LY,LR,LI,LS⟩:=mkDDZ w a.c a.s b.c b.s
 rw [hW.out];try rw [hR.out];try rw [hY.out];try rw [hX.out]
 clear hW hX hY hR
 have F0:=Lib.hid (hf.below B0.out)
 clear hf
 have Xc0:=X0.out.c0;have Xc1:=X0.out.c1
 have Yc0:=Y0.out.c0;have Yc1:=Y0.out.c1
 go_wp2_with (first | (go_at_call 118;(with_reducible refine (H _).mono ?_);rintro e1 w1 ⟨rfl,q1⟩;have B1:=hB B0 q1;have R1:=hF R0 q1;have F1:=Lib.hid (F0.out.below q1);clear H;have Fc0:=F1.out.c0;clear q1 B0 R0 F0) | (go_at_call 69;(with_reducible refine (is9 (w:=_) z).mono ?_);rintro e2 w2 ⟨rfl,q2⟩;have B2:=hB B1 q2;have R2:=hF R1 q2;clear q2 B1 R1) | (go_at_call 34;(with_reducible refine (truth_vp (w:=_) _).mono ?_);rintro e3 w3 ⟨rfl,q3⟩;have B3:=hB B2 q3;have R3:=hF R2 q3;clear q3 B2 R2;obtain ⟨Rc0,Rc1,Rc2,Rc3,Rf0,Rf1,Rf2,Rf3⟩:=R3.out.cf))
 exact ret4 5 rfl R3 B3 LR rfl rfl rfl
theorem one1_neg {w:World} (a b:V) (t:Int × Int × Int) (bf:Nat) (hf:Bx w bf 69 (.func (.func 77) #[] #[])) (H:∀ w',Below w.heap.size w w'→Calls Tryz.prog 77 #[.agg #[.int .i64 a.c,.int .i64 a.s]] w' (TP t w')) :
  Calls Tryz.prog 128 #[.agg #[.int .i64 a.c,.int .i64 a.s],.agg #[.int .i64 b.c,.int .i64 b.s],.pointer (some ⟨bf,0,none⟩)] w (TP t w):=by
 obtain ⟨p,q,f⟩:=t
 try dsimp only [av,an,ao]
 go_enter Tryz.func128,Tryz.ntmps128
 go_upto_region 1 with fail
 obtain ⟨W0,iX,iY,iR,hW,hX,hY,hR,X0,Y0,R0,B0,LX,LY,LR,LI,LS⟩:=mkDDE w a.c a.s b.c b.s
 rw [hW.out];try rw [hR.out];try rw [hY.out];try rw [hX.out]
 clear hW hX hY hR
 have F0:=Lib.hid (hf.below B0.out)
 have H0:=H W0 B0.out
 have Fc0:=F0.out.c0
 clear H hf
 have Xc0:=X0.out.c0;have Xc1:=X0.out.c1
 have Yc0:=Y0.out.c0;have Yc1:=Y0.out.c1
 go_wp2_with (go_at_call 77;(with_reducible refine (H0).mono ?_);rintro e1 w1 ⟨rfl,q1⟩;have B1:=hB B0 q1;have R1:=hD R0 q1;clear H0;clear q1 B0 R0;have Rc0:=R1.out.c0;have Rc1:=R1.out.c1;have Rf0:=R1.out.f 0;have Rf1:=R1.out.f 1)
 refine bodyPost_ret (v:=.tuple #[.agg #[.int .i64 _,.int .i64 _],.int .i64 _]) (results_cellD (fn:=Tryz.f128) (p:=5) (u:=6) rfl _ _ iR _ _ rfl (R1.out.set _ _)) rfl ?_
 exact ⟨rfl,below_set2 B1.out LR.out _ _⟩
theorem one1_abs {w:World} (a b:V) (t:Int × Int × Int) (bf:Nat) (hf:Bx w bf 69 (.func (.func 78) #[] #[])) (H:∀ w',Below w.heap.size w w'→Calls Tryz.prog 78 #[.agg #[.int .i64 a.c,.int .i64 a.s]] w' (TP t w')) :
  Calls Tryz.prog 128 #[.agg #[.int .i64 a.c,.int .i64 a.s],.agg #[.int .i64 b.c,.int .i64 b.s],.pointer (some ⟨bf,0,none⟩)] w (TP t w):=by
 obtain ⟨p,q,f⟩:=t
 try dsimp only [av,an,ao]
 go_enter Tryz.func128,Tryz.ntmps128
 go_upto_region 1 with fail
 obtain ⟨W0,iX,iY,iR,hW,hX,hY,hR,X0,Y0,R0,B0,LX,LY,LR,LI,LS⟩:=mkDDE w a.c a.s b.c b.s
 rw [hW.out];try rw [hR.out];try rw [hY.out];try rw [hX.out]
 clear hW hX hY hR
 have F0:=Lib.hid (hf.below B0.out)
 have H0:=H W0 B0.out
 have Fc0:=F0.out.c0
 clear H hf
 have Xc0:=X0.out.c0;have Xc1:=X0.out.c1
 have Yc0:=Y0.out.c0;have Yc1:=Y0.out.c1
 go_wp2_with (go_at_call 78;(with_reducible refine (H0).mono ?_);rintro e1 w1 ⟨rfl,q1⟩;have B1:=hB B0 q1;have R1:=hD R0 q1;clear H0;clear q1 B0 R0;have Rc0:=R1.out.c0;have Rc1:=R1.out.c1;have Rf0:=R1.out.f 0;have Rf1:=R1.out.f 1)
 refine bodyPost_ret (v:=.tuple #[.agg #[.int .i64 _,.int .i64 _],.int .i64 _]) (results_cellD (fn:=Tryz.f128) (p:=5) (u:=6) rfl _ _ iR _ _ rfl (R1.out.set _ _)) rfl ?_
 exact ⟨rfl,below_set2 B1.out LR.out _ _⟩
theorem one1_rnd {w:World} (a b:V) (t:Int × Int × Int) (bf bc:Nat) (hf:Bx w bf 69 (.func (.func 79) #[] #[.pointer (some ⟨bc,0,none⟩)])) (H:∀ w',Below w.heap.size w w'→Calls Tryz.prog 79 #[.agg #[.int .i64 a.c,.int .i64 a.s],.pointer (some ⟨bc,0,none⟩)] w' (TP t w')) :
  Calls Tryz.prog 128 #[.agg #[.int .i64 a.c,.int .i64 a.s],.agg #[.int .i64 b.c,.int .i64 b.s],.pointer (some ⟨bf,0,none⟩)] w (TP t w):=by
 obtain ⟨p,q,f⟩:=t
 try dsimp only [av,an,ao]
 go_enter Tryz.func128,Tryz.ntmps128
 go_upto_region 1 with fail
 obtain ⟨W0,iX,iY,iR,hW,hX,hY,hR,X0,Y0,R0,B0,LX,LY,LR,LI,LS⟩:=mkDDE w a.c a.s b.c b.s
 rw [hW.out];try rw [hR.out];try rw [hY.out];try rw [hX.out]
 clear hW hX hY hR
 have F0:=Lib.hid (hf.below B0.out)
 have H0:=H W0 B0.out
 have Fc0:=F0.out.c0
 clear H hf
 have Xc0:=X0.out.c0;have Xc1:=X0.out.c1
 have Yc0:=Y0.out.c0;have Yc1:=Y0.out.c1
 go_wp2_with (go_at_call 79;(with_reducible refine (H0).mono ?_);rintro e1 w1 ⟨rfl,q1⟩;have B1:=hB B0 q1;have R1:=hD R0 q1;clear H0;clear q1 B0 R0;have Rc0:=R1.out.c0;have Rc1:=R1.out.c1;have Rf0:=R1.out.f 0;have Rf1:=R1.out.f 1)
 refine bodyPost_ret (v:=.tuple #[.agg #[.int .i64 _,.int .i64 _],.int .i64 _]) (results_cellD (fn:=Tryz.f128) (p:=5) (u:=6) rfl _ _ iR _ _ rfl (R1.out.set _ _)) rfl ?_
 exact ⟨rfl,below_set2 B1.out LR.out _ _⟩
theorem ops10 {w:World} (a:V) (k:Int) (t:Int × Int × Int) (bk:Nat) (hk:Bx w bk 3 (.int .i64 k)) (H:∀ w,Calls Tryz.prog 80 #[.agg #[.int .i64 a.c,.int .i64 a.s],.int .i64 k] w (TP t w)) :
  Calls Tryz.prog 79 #[.agg #[.int .i64 a.c,.int .i64 a.s],.pointer (some ⟨bk,0,none⟩)] w (TP t w):=by
 obtain ⟨p,q,f⟩:=t
 try dsimp only [av,an,ao]
 go_enter Tryz.func79,Tryz.ntmps79
 go_upto_region 1 with fail
 obtain ⟨W0,iX,iR,hW,hX,hR,X0,R0,B0,LX,LR,LI,LS⟩:=mkDE w a.c a.s
 rw [hW.out];try rw [hR.out];try rw [hX.out]
 clear hW hX hR
 have F0:=Lib.hid (hk.below B0.out)
 have Fc0:=F0.out.c0
 clear hk
 have Xc0:=X0.out.c0;have Xc1:=X0.out.c1
 go_wp2_with (go_at_call 80;(with_reducible refine (H _).mono ?_);rintro e1 w1 ⟨rfl,q1⟩;have B1:=hB B0 q1;have R1:=hD R0 q1;clear H;clear q1 B0 R0;have Rc0:=R1.out.c0;have Rc1:=R1.out.c1;have Rf0:=R1.out.f 0;have Rf1:=R1.out.f 1)
 refine bodyPost_ret (v:=.tuple #[.agg #[.int .i64 _,.int .i64 _],.int .i64 _]) (results_cellD (fn:=Tryz.f79) (p:=3) (u:=4) rfl _ _ iR _ _ rfl (R1.out.set _ _)) rfl ?_
 exact ⟨rfl,below_set2 B1.out LR.out _ _⟩
theorem les_min_yes {w:World} (a b:V) (z:Int) (bk:Nat) (hk:Bx w bk 3 (.int .i64 (-1))) (hz:z=(-1)) (H:∀ w,Calls Tryz.prog 118 #[.agg #[.int .i64 a.c,.int .i64 a.s],.agg #[.int .i64 b.c,.int .i64 b.s]] w fun e w'=>e=.returned (.tuple #[.int .i64 z,.int .i64 0])∧Below w.heap.size w w') :
  Calls Tryz.prog 127 #[.agg #[.int .i64 a.c,.int .i64 a.s],.agg #[.int .i64 b.c,.int .i64 b.s],.pointer (some ⟨bk,0,none⟩)] w (TP (a.c,a.s,0) w):=by
 have hz1:decide (z=(-1))=true:=decide_eq_true hz
 have hz2:(z==(-1))=true:=by simpa using hz
 have hz3:(z !=(-1))=false:=by simpa using hz
 clear hz
 try dsimp only [av,an,ao]
 go_enter Tryz.func127,Tryz.ntmps127
 go_upto_region 1 with fail
 obtain ⟨W0,iX,iY,iR,hW,hX,hY,hR,X0,Y0,R0,B0,LX,LY,LR,LI,LS⟩:=mkDDE w a.c a.s b.c b.s
 rw [hW.out];try rw [hR.out];try rw [hY.out];try rw [hX.out]
 clear hW hX hY hR
 have F0:=Lib.hid (hk.below B0.out)
 clear hk
 have Xc0:=X0.out.c0;have Xc1:=X0.out.c1
 have Yc0:=Y0.out.c0;have Yc1:=Y0.out.c1
 go_wp2_with (go_at_call 118;(with_reducible refine (H _).mono ?_);rintro e1 w1 ⟨rfl,q1⟩;have B1:=hB B0 q1;have X1:=hD X0 q1;have Y1:=hD Y0 q1;have R1:=hD R0 q1;have F1:=Lib.hid (F0.out.below q1);clear H;have Fc0:=F1.out.c0;clear q1 B0 X0 Y0 R0 F0;have Xc0:=X1.out.c0;have Xc1:=X1.out.c1;have Yc0:=Y1.out.c0;have Yc1:=Y1.out.c1;have Rc0:=R1.out.c0;have Rc1:=R1.out.c1;have Rf0:=R1.out.f 0;have Rf1:=R1.out.f 1)
 refine bodyPost_ret (v:=.tuple #[.agg #[.int .i64 _,.int .i64 _],.int .i64 _]) (results_cellD (fn:=Tryz.f127) (p:=5) (u:=6) rfl _ _ iR _ _ rfl (R1.out.set _ _)) rfl ?_
 exact ⟨rfl,below_set2 B1.out LR.out _ _⟩
theorem les_min_no {w:World} (a b:V) (z:Int) (bk:Nat) (hk:Bx w bk 3 (.int .i64 (-1))) (hz:¬z=(-1)) (H:∀ w,Calls Tryz.prog 118 #[.agg #[.int .i64 a.c,.int .i64 a.s],.agg #[.int .i64 b.c,.int .i64 b.s]] w fun e w'=>e=.returned (.tuple #[.int .i64 z,.int .i64 0])∧Below w.heap.size w w') :
  Calls Tryz.prog 127 #[.agg #[.int .i64 a.c,.int .i64 a.s],.agg #[.int .i64 b.c,.int .i64 b.s],.pointer (some ⟨bk,0,none⟩)] w (TP (b.c,b.s,0) w):=by
 have hz1:decide (z=(-1))=false:=decide_eq_false hz
 have hz2:(z==(-1))=false:=by simpa using hz
 have hz3:(z !=(-1))=true:=by simpa using hz
 clear hz
 try dsimp only [av,an,ao]
 go_enter Tryz.func127,Tryz.ntmps127
 go_upto_region 1 with fail
 obtain ⟨W0,iX,iY,iR,hW,hX,hY,hR,X0,Y0,R0,B0,LX,LY,LR,LI,LS⟩:=mkDDE w a.c a.s b.c b.s
 rw [hW.out];try rw [hR.out];try rw [hY.out];try rw [hX.out]
 clear hW hX hY hR
 have F0:=Lib.hid (hk.below B0.out)
 clear hk
 have Xc0:=X0.out.c0;have Xc1:=X0.out.c1
 have Yc0:=Y0.out.c0;have Yc1:=Y0.out.c1
 go_wp2_with (go_at_call 118;(with_reducible refine (H _).mono ?_);rintro e1 w1 ⟨rfl,q1⟩;have B1:=hB B0 q1;have X1:=hD X0 q1;have Y1:=hD Y0 q1;have R1:=hD R0 q1;have F1:=Lib.hid (F0.out.below q1);clear H;have Fc0:=F1.out.c0;clear q1 B0 X0 Y0 R0 F0;have Xc0:=X1.out.c0;have Xc1:=X1.out.c1;have Yc0:=Y1.out.c0;have Yc1:=Y1.out.c1;have Rc0:=R1.out.c0;have Rc1:=R1.out.c1;have Rf0:=R1.out.f 0;have Rf1:=R1.out.f 1)
 refine bodyPost_ret (v:=.tuple #[.agg #[.int .i64 _,.int .i64 _],.int .i64 _]) (results_cellD (fn:=Tryz.f127) (p:=5) (u:=6) rfl _ _ iR _ _ rfl (R1.out.set _ _)) rfl ?_
 exact ⟨rfl,below_set2 B1.out LR.out _ _⟩
theorem les_max_yes {w:World} (a b:V) (z:Int) (bk:Nat) (hk:Bx w bk 3 (.int .i64 1)) (hz:z=1) (H:∀ w,Calls Tryz.prog 118 #[.agg #[.int .i64 a.c,.int .i64 a.s],.agg #[.int .i64 b.c,.int .i64 b.s]] w fun e w'=>e=.returned (.tuple #[.int .i64 z,.int .i64 0])∧Below w.heap.size w w') :
  Calls Tryz.prog 127 #[.agg #[.int .i64 a.c,.int .i64 a.s],.agg #[.int .i64 b.c,.int .i64 b.s],.pointer (some ⟨bk,0,none⟩)] w (TP (a.c,a.s,0) w):=by
 have hz1:decide (z=1)=true:=decide_eq_true hz
 have hz2:(z==1)=true:=by simpa using hz
 have hz3:(z !=1)=false:=by simpa using hz
 clear hz
 try dsimp only [av,an,ao]
 go_enter Tryz.func127,Tryz.ntmps127
 go_upto_region 1 with fail
 obtain ⟨W0,iX,iY,iR,hW,hX,hY,hR,X0,Y0,R0,B0,LX,LY,LR,LI,LS⟩:=mkDDE w a.c a.s b.c b.s
 rw [hW.out];try rw [hR.out];try rw [hY.out];try rw [hX.out]
 clear hW hX hY hR
 have F0:=Lib.hid (hk.below B0.out)
 clear hk
 have Xc0:=X0.out.c0;have Xc1:=X0.out.c1
 have Yc0:=Y0.out.c0;have Yc1:=Y0.out.c1
 go_wp2_with (go_at_call 118;(with_reducible refine (H _).mono ?_);rintro e1 w1 ⟨rfl,q1⟩;have B1:=hB B0 q1;have X1:=hD X0 q1;have Y1:=hD Y0 q1;have R1:=hD R0 q1;have F1:=Lib.hid (F0.out.below q1);clear H;have Fc0:=F1.out.c0;clear q1 B0 X0 Y0 R0 F0;have Xc0:=X1.out.c0;have Xc1:=X1.out.c1;have Yc0:=Y1.out.c0;have Yc1:=Y1.out.c1;have Rc0:=R1.out.c0;have Rc1:=R1.out.c1;have Rf0:=R1.out.f 0;have Rf1:=R1.out.f 1)
 refine bodyPost_ret (v:=.tuple #[.agg #[.int .i64 _,.int .i64 _],.int .i64 _]) (results_cellD (fn:=Tryz.f127) (p:=5) (u:=6) rfl _ _ iR _ _ rfl (R1.out.set _ _)) rfl ?_
 exact ⟨rfl,below_set2 B1.out LR.out _ _⟩
theorem les_max_no {w:World} (a b:V) (z:Int) (bk:Nat) (hk:Bx w bk 3 (.int .i64 1)) (hz:¬z=1) (H:∀ w,Calls Tryz.prog 118 #[.agg #[.int .i64 a.c,.int .i64 a.s],.agg #[.int .i64 b.c,.int .i64 b.s]] w fun e w'=>e=.returned (.tuple #[.int .i64 z,.int .i64 0])∧Below w.heap.size w w') :
  Calls Tryz.prog 127 #[.agg #[.int .i64 a.c,.int .i64 a.s],.agg #[.int .i64 b.c,.int .i64 b.s],.pointer (some ⟨bk,0,none⟩)] w (TP (b.c,b.s,0) w):=by
 have hz1:decide (z=1)=false:=decide_eq_false hz
 have hz2:(z==1)=false:=by simpa using hz
 have hz3:(z !=1)=true:=by simpa using hz
 clear hz
 try dsimp only [av,an,ao]
 go_enter Tryz.func127,Tryz.ntmps127
 go_upto_region 1 with fail
 obtain ⟨W0,iX,iY,iR,hW,hX,hY,hR,X0,Y0,R0,B0,LX,LY,LR,LI,LS⟩:=mkDDE w a.c a.s b.c b.s
 rw [hW.out];try rw [hR.out];try rw [hY.out];try rw [hX.out]
 clear hW hX hY hR
 have F0:=Lib.hid (hk.below B0.out)
 clear hk
 have Xc0:=X0.out.c0;have Xc1:=X0.out.c1
 have Yc0:=Y0.out.c0;have Yc1:=Y0.out.c1
 go_wp2_with (go_at_call 118;(with_reducible refine (H _).mono ?_);rintro e1 w1 ⟨rfl,q1⟩;have B1:=hB B0 q1;have X1:=hD X0 q1;have Y1:=hD Y0 q1;have R1:=hD R0 q1;have F1:=Lib.hid (F0.out.below q1);clear H;have Fc0:=F1.out.c0;clear q1 B0 X0 Y0 R0 F0;have Xc0:=X1.out.c0;have Xc1:=X1.out.c1;have Yc0:=Y1.out.c0;have Yc1:=Y1.out.c1;have Rc0:=R1.out.c0;have Rc1:=R1.out.c1;have Rf0:=R1.out.f 0;have Rf1:=R1.out.f 1)
 refine bodyPost_ret (v:=.tuple #[.agg #[.int .i64 _,.int .i64 _],.int .i64 _]) (results_cellD (fn:=Tryz.f127) (p:=5) (u:=6) rfl _ _ iR _ _ rfl (R1.out.set _ _)) rfl ?_
 exact ⟨rfl,below_set2 B1.out LR.out _ _⟩
theorem tr_or {w:World} (v r:V) (bf:Nat) (H:isT v=true→∀ w',Below w.heap.size w w'→Calls Tryz.prog 56 #[.bool (v.k==2),.pointer (some ⟨bf,0,none⟩)] w' (VP r w')) :
  Calls Tryz.prog 55 #[av v,.func (.func 56) #[] #[.pointer (some ⟨bf,0,none⟩)]] w (VP (if isT v=true then r else wrongV v) w):=by
 have IT:=fun w=>ist_is (w:=w) v
 cases g:isT v
 ·rw [if_neg (by decide)]
  rw [g] at IT
  clear g H
  try dsimp only [av,an,ao]
  go_enter Tryz.func55,Tryz.ntmps55
  go_upto_region 1 with fail
  obtain ⟨W0,iX,iR,hW,hX,hR,X0,R0,B0,LX,LR,LI,LS⟩:=mkVZ w v
  rw [hW.out];try rw [hR.out];try rw [hX.out]
  clear hW hX hR
  obtain ⟨Xc0,Xc1,Xc2,Xc3⟩:=X0.out.cs
  go_wp2_with (first | (go_at_call 112;(with_reducible refine (IT _).mono ?_);rintro e1 w1 ⟨rfl,q1⟩;have B1:=hB B0 q1;have X1:=hF X0 q1;have R1:=hF R0 q1;clear IT;clear q1 B0 X0 R0;obtain ⟨Xc0,Xc1,Xc2,Xc3⟩:=X1.out.cs) | (go_at_call 113;(with_reducible refine (wrong_vp (w:=_) v).mono ?_);rintro e2 w2 ⟨rfl,q2⟩;have B2:=hB B1 q2;have R2:=hF R1 q2;clear q2 B1 R1;obtain ⟨Rc0,Rc1,Rc2,Rc3,Rf0,Rf1,Rf2,Rf3⟩:=R2.out.cf))
  exact ret4 4 rfl R2 B2 LR rfl rfl rfl
 ·rw [if_pos rfl]
  rw [g] at IT
  replace H:=H g
  clear g
  try dsimp only [av,an,ao]
  go_enter Tryz.func55,Tryz.ntmps55
  go_upto_region 1 with fail
  obtain ⟨W0,iX,iR,hW,hX,hR,X0,R0,B0,LX,LR,LI,LS⟩:=mkVZ w v
  rw [hW.out];try rw [hR.out];try rw [hX.out]
  clear hW hX hR
  obtain ⟨Xc0,Xc1,Xc2,Xc3⟩:=X0.out.cs
  replace H:=fun w2 h=>H w2 (bt B0.out h)
  go_wp2_with (first | (go_at_call 112;(with_reducible refine (IT _).mono ?_);rintro e1 w1 ⟨rfl,q1⟩;have B1:=hB B0 q1;have X1:=hF X0 q1;have R1:=hF R0 q1;have H1:=H w1 q1;clear IT H;clear q1 B0 X0 R0;obtain ⟨Xc0,Xc1,Xc2,Xc3⟩:=X1.out.cs) | (go_at_call 56;(with_reducible refine (H1).mono ?_);rintro e2 w2 ⟨rfl,q2⟩;have B2:=hB B1 q2;have R2:=hF R1 q2;clear H1;clear q2 B1 R1;obtain ⟨Rc0,Rc1,Rc2,Rc3,Rf0,Rf1,Rf2,Rf3⟩:=R2.out.cf))
  exact ret4 4 rfl R2 B2 LR rfl rfl rfl
theorem tr_and {w:World} (v r:V) (bf:Nat) (H:isT v=true→∀ w',Below w.heap.size w w'→Calls Tryz.prog 59 #[.bool (v.k==2),.pointer (some ⟨bf,0,none⟩)] w' (VP r w')) :
  Calls Tryz.prog 55 #[av v,.func (.func 59) #[] #[.pointer (some ⟨bf,0,none⟩)]] w (VP (if isT v=true then r else wrongV v) w):=by
 have IT:=fun w=>ist_is (w:=w) v
 cases g:isT v
 ·rw [if_neg (by decide)]
  rw [g] at IT
  clear g H
  try dsimp only [av,an,ao]
  go_enter Tryz.func55,Tryz.ntmps55
  go_upto_region 1 with fail
  obtain ⟨W0,iX,iR,hW,hX,hR,X0,R0,B0,LX,LR,LI,LS⟩:=mkVZ w v
  rw [hW.out];try rw [hR.out];try rw [hX.out]
  clear hW hX hR
  obtain ⟨Xc0,Xc1,Xc2,Xc3⟩:=X0.out.cs
  go_wp2_with (first | (go_at_call 112;(with_reducible refine (IT _).mono ?_);rintro e1 w1 ⟨rfl,q1⟩;have B1:=hB B0 q1;have X1:=hF X0 q1;have R1:=hF R0 q1;clear IT;clear q1 B0 X0 R0;obtain ⟨Xc0,Xc1,Xc2,Xc3⟩:=X1.out.cs) | (go_at_call 113;(with_reducible refine (wrong_vp (w:=_) v).mono ?_);rintro e2 w2 ⟨rfl,q2⟩;have B2:=hB B1 q2;have R2:=hF R1 q2;clear q2 B1 R1;obtain ⟨Rc0,Rc1,Rc2,Rc3,Rf0,Rf1,Rf2,Rf3⟩:=R2.out.cf))
  exact ret4 4 rfl R2 B2 LR rfl rfl rfl
 ·rw [if_pos rfl]
  rw [g] at IT
  replace H:=H g
  clear g
  try dsimp only [av,an,ao]
  go_enter Tryz.func55,Tryz.ntmps55
  go_upto_region 1 with fail
  obtain ⟨W0,iX,iR,hW,hX,hR,X0,R0,B0,LX,LR,LI,LS⟩:=mkVZ w v
  rw [hW.out];try rw [hR.out];try rw [hX.out]
  clear hW hX hR
  obtain ⟨Xc0,Xc1,Xc2,Xc3⟩:=X0.out.cs
  replace H:=fun w2 h=>H w2 (bt B0.out h)
  go_wp2_with (first | (go_at_call 112;(with_reducible refine (IT _).mono ?_);rintro e1 w1 ⟨rfl,q1⟩;have B1:=hB B0 q1;have X1:=hF X0 q1;have R1:=hF R0 q1;have H1:=H w1 q1;clear IT H;clear q1 B0 X0 R0;obtain ⟨Xc0,Xc1,Xc2,Xc3⟩:=X1.out.cs) | (go_at_call 59;(with_reducible refine (H1).mono ?_);rintro e2 w2 ⟨rfl,q2⟩;have B2:=hB B1 q2;have R2:=hF R1 q2;clear H1;clear q2 B1 R1;obtain ⟨Rc0,Rc1,Rc2,Rc3,Rf0,Rf1,Rf2,Rf3⟩:=R2.out.cf))
  exact ret4 4 rfl R2 B2 LR rfl rfl rfl
theorem tr_if {w:World} (v r:V) (bf:Nat) (H:isT v=true→∀ w',Below w.heap.size w w'→Calls Tryz.prog 82 #[.bool (v.k==2),.pointer (some ⟨bf,0,none⟩)] w' (VP r w')) :
  Calls Tryz.prog 55 #[av v,.func (.func 82) #[] #[.pointer (some ⟨bf,0,none⟩)]] w (VP (if isT v=true then r else wrongV v) w):=by
 have IT:=fun w=>ist_is (w:=w) v
 cases g:isT v
 ·rw [if_neg (by decide)]
  rw [g] at IT
  clear g H
  try dsimp only [av,an,ao]
  go_enter Tryz.func55,Tryz.ntmps55
  go_upto_region 1 with fail
  obtain ⟨W0,iX,iR,hW,hX,hR,X0,R0,B0,LX,LR,LI,LS⟩:=mkVZ w v
  rw [hW.out];try rw [hR.out];try rw [hX.out]
  clear hW hX hR
  obtain ⟨Xc0,Xc1,Xc2,Xc3⟩:=X0.out.cs
  go_wp2_with (first | (go_at_call 112;(with_reducible refine (IT _).mono ?_);rintro e1 w1 ⟨rfl,q1⟩;have B1:=hB B0 q1;have X1:=hF X0 q1;have R1:=hF R0 q1;clear IT;clear q1 B0 X0 R0;obtain ⟨Xc0,Xc1,Xc2,Xc3⟩:=X1.out.cs) | (go_at_call 113;(with_reducible refine (wrong_vp (w:=_) v).mono ?_);rintro e2 w2 ⟨rfl,q2⟩;have B2:=hB B1 q2;have R2:=hF R1 q2;clear q2 B1 R1;obtain ⟨Rc0,Rc1,Rc2,Rc3,Rf0,Rf1,Rf2,Rf3⟩:=R2.out.cf))
  exact ret4 4 rfl R2 B2 LR rfl rfl rfl
 ·rw [if_pos rfl]
  rw [g] at IT
  replace H:=H g
  clear g
  try dsimp only [av,an,ao]
  go_enter Tryz.func55,Tryz.ntmps55
  go_upto_region 1 with fail
  obtain ⟨W0,iX,iR,hW,hX,hR,X0,R0,B0,LX,LR,LI,LS⟩:=mkVZ w v
  rw [hW.out];try rw [hR.out];try rw [hX.out]
  clear hW hX hR
  obtain ⟨Xc0,Xc1,Xc2,Xc3⟩:=X0.out.cs
  replace H:=fun w2 h=>H w2 (bt B0.out h)
  go_wp2_with (first | (go_at_call 112;(with_reducible refine (IT _).mono ?_);rintro e1 w1 ⟨rfl,q1⟩;have B1:=hB B0 q1;have X1:=hF X0 q1;have R1:=hF R0 q1;have H1:=H w1 q1;clear IT H;clear q1 B0 X0 R0;obtain ⟨Xc0,Xc1,Xc2,Xc3⟩:=X1.out.cs) | (go_at_call 82;(with_reducible refine (H1).mono ?_);rintro e2 w2 ⟨rfl,q2⟩;have B2:=hB B1 q2;have R2:=hF R1 q2;clear H1;clear q2 B1 R1;obtain ⟨Rc0,Rc1,Rc2,Rc3,Rf0,Rf1,Rf2,Rf3⟩:=R2.out.cf))
  exact ret4 4 rfl R2 B2 LR rfl rfl rfl
theorem tr_ask {w:World} (v r:V) (bf:Nat) (H:isT v=true→∀ w',Below w.heap.size w w'→Calls Tryz.prog 114 #[.bool (v.k==2),.pointer (some ⟨bf,0,none⟩)] w' (VP r w')) :
  Calls Tryz.prog 55 #[av v,.func (.func 114) #[] #[.pointer (some ⟨bf,0,none⟩)]] w (VP (if isT v=true then r else wrongV v) w):=by
 have IT:=fun w=>ist_is (w:=w) v
 cases g:isT v
 ·rw [if_neg (by decide)]
  rw [g] at IT
  clear g H
  try dsimp only [av,an,ao]
  go_enter Tryz.func55,Tryz.ntmps55
  go_upto_region 1 with fail
  obtain ⟨W0,iX,iR,hW,hX,hR,X0,R0,B0,LX,LR,LI,LS⟩:=mkVZ w v
  rw [hW.out];try rw [hR.out];try rw [hX.out]
  clear hW hX hR
  obtain ⟨Xc0,Xc1,Xc2,Xc3⟩:=X0.out.cs
  go_wp2_with (first | (go_at_call 112;(with_reducible refine (IT _).mono ?_);rintro e1 w1 ⟨rfl,q1⟩;have B1:=hB B0 q1;have X1:=hF X0 q1;have R1:=hF R0 q1;clear IT;clear q1 B0 X0 R0;obtain ⟨Xc0,Xc1,Xc2,Xc3⟩:=X1.out.cs) | (go_at_call 113;(with_reducible refine (wrong_vp (w:=_) v).mono ?_);rintro e2 w2 ⟨rfl,q2⟩;have B2:=hB B1 q2;have R2:=hF R1 q2;clear q2 B1 R1;obtain ⟨Rc0,Rc1,Rc2,Rc3,Rf0,Rf1,Rf2,Rf3⟩:=R2.out.cf))
  exact ret4 4 rfl R2 B2 LR rfl rfl rfl
 ·rw [if_pos rfl]
  rw [g] at IT
  replace H:=H g
  clear g
  try dsimp only [av,an,ao]
  go_enter Tryz.func55,Tryz.ntmps55
  go_upto_region 1 with fail
  obtain ⟨W0,iX,iR,hW,hX,hR,X0,R0,B0,LX,LR,LI,LS⟩:=mkVZ w v
  rw [hW.out];try rw [hR.out];try rw [hX.out]
  clear hW hX hR
  obtain ⟨Xc0,Xc1,Xc2,Xc3⟩:=X0.out.cs
  replace H:=fun w2 h=>H w2 (bt B0.out h)
  go_wp2_with (first | (go_at_call 112;(with_reducible refine (IT _).mono ?_);rintro e1 w1 ⟨rfl,q1⟩;have B1:=hB B0 q1;have X1:=hF X0 q1;have R1:=hF R0 q1;have H1:=H w1 q1;clear IT H;clear q1 B0 X0 R0;obtain ⟨Xc0,Xc1,Xc2,Xc3⟩:=X1.out.cs) | (go_at_call 114;(with_reducible refine (H1).mono ?_);rintro e2 w2 ⟨rfl,q2⟩;have B2:=hB B1 q2;have R2:=hF R1 q2;clear H1;clear q2 B1 R1;obtain ⟨Rc0,Rc1,Rc2,Rc3,Rf0,Rf1,Rf2,Rf3⟩:=R2.out.cf))
  exact ret4 4 rfl R2 B2 LR rfl rfl rfl
end Go.Proofs.YteagpbkbdlmdiaaGreat.Ev
