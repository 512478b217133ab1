/-
  eval: what stands in its map, walked.
-/
import Derived.Test.YteagpbkbdlmdiaaGreatQ42
set_option linter.unusedSimpArgs false
set_option linter.unusedVariables false
namespace Go.Proofs.YteagpbkbdlmdiaaGreat.Ev
set_option maxRecDepth 100000
set_option maxHeartbeats 1000000
open Go Go.RowKit Dt Tx Va
attribute [local go_sem ↓] Go.wp_at_zero Go.wp_at_succ
def RB (w:World) (b:Nat) (v:Value):Prop:=Bx w b 24 v
theorem RB.lt {w:World} {b:Nat} {v:Value} (h:RB w b v):b<w.heap.size:=Bx.lt h
theorem RB.c0 {w:World} {b:Nat} {v:Value} (h:RB w b v):w.cell? ⟨b,0,none⟩=some v:=Bx.c0 h
theorem RB.below {w w':World} {b:Nat} {v:Value} (h:RB w b v) (k:Below w.heap.size w w'):RB w' b v:=Bx.below h k
theorem two1_add {w:World} (g:Nat) (a b d:V) (t:Int × Int × Int) (bf:Nat) (hk:K3 w g a b d) (hf:Bx w bf 104 (.func (.func 71) #[] #[])) (H:a.k=1→b.k=1→∀ w',Below w.heap.size w w'→Calls Tryz.prog 71 #[.agg #[.int .i64 a.c,.int .i64 a.s],.agg #[.int .i64 b.c,.int .i64 b.s]] w' (TP t w')) :
  Calls Tryz.prog 119 #[.slice (some ⟨g,0,none⟩) 2 3,.pointer (some ⟨bf,0,none⟩)] w (VP (if a.k ≠ 1 then wrongV a else if b.k ≠ 1 then wrongV b else toldV t) w):=by
 obtain ⟨res,hres⟩:∃ r,Hid ((if a.k ≠ 1 then wrongV a else if b.k ≠ 1 then wrongV b else toldV t)=r):=⟨_,Lib.hid rfl⟩
 rw [hres.out]
 try dsimp only [av,an,ao]
 go_enter Tryz.func119,Tryz.ntmps119
 go_upto_region 1 with fail
 obtain ⟨W0,iR,hW,hR,R0,B0,LR,LI,LS⟩:=mkZ w
 rw [hW.out];try rw [hR.out]
 clear hW hR
 have C:=num_two2 (w:=W0) g a b d (toldV t) bf (hk.below B0.out) (fun g1 h1 w1 h2=>two11_add a b t bf ((hf.below B0.out).below h2) (fun w3 h3=>H g1 h1 w3 (bt B0.out (bt h2 h3))))
 rw [hres.out] at C
 clear H hf hk hres
 go_wp2_with (go_at_call 116;(with_reducible refine (C).mono ?_);rintro e1 w1 ⟨rfl,q1⟩;have B1:=hB B0 q1;have R1:=hF R0 q1;clear C;clear q1 B0 R0;obtain ⟨Rc0,Rc1,Rc2,Rc3,Rf0,Rf1,Rf2,Rf3⟩:=R1.out.cf)
 exact ret4 3 rfl R1 B1 LR rfl rfl rfl
theorem two1_sub {w:World} (g:Nat) (a b d:V) (t:Int × Int × Int) (bf:Nat) (hk:K3 w g a b d) (hf:Bx w bf 104 (.func (.func 72) #[] #[])) (H:a.k=1→b.k=1→∀ w',Below w.heap.size w w'→Calls Tryz.prog 72 #[.agg #[.int .i64 a.c,.int .i64 a.s],.agg #[.int .i64 b.c,.int .i64 b.s]] w' (TP t w')) :
  Calls Tryz.prog 119 #[.slice (some ⟨g,0,none⟩) 2 3,.pointer (some ⟨bf,0,none⟩)] w (VP (if a.k ≠ 1 then wrongV a else if b.k ≠ 1 then wrongV b else toldV t) w):=by
 obtain ⟨res,hres⟩:∃ r,Hid ((if a.k ≠ 1 then wrongV a else if b.k ≠ 1 then wrongV b else toldV t)=r):=⟨_,Lib.hid rfl⟩
 rw [hres.out]
 try dsimp only [av,an,ao]
 go_enter Tryz.func119,Tryz.ntmps119
 go_upto_region 1 with fail
 obtain ⟨W0,iR,hW,hR,R0,B0,LR,LI,LS⟩:=mkZ w
 rw [hW.out];try rw [hR.out]
 clear hW hR
 have C:=num_two2 (w:=W0) g a b d (toldV t) bf (hk.below B0.out) (fun g1 h1 w1 h2=>two11_sub a b t bf ((hf.below B0.out).below h2) (fun w3 h3=>H g1 h1 w3 (bt B0.out (bt h2 h3))))
 rw [hres.out] at C
 clear H hf hk hres
 go_wp2_with (go_at_call 116;(with_reducible refine (C).mono ?_);rintro e1 w1 ⟨rfl,q1⟩;have B1:=hB B0 q1;have R1:=hF R0 q1;clear C;clear q1 B0 R0;obtain ⟨Rc0,Rc1,Rc2,Rc3,Rf0,Rf1,Rf2,Rf3⟩:=R1.out.cf)
 exact ret4 3 rfl R1 B1 LR rfl rfl rfl
theorem two1_mul {w:World} (g:Nat) (a b d:V) (t:Int × Int × Int) (bf:Nat) (hk:K3 w g a b d) (hf:Bx w bf 104 (.func (.func 73) #[] #[])) (H:a.k=1→b.k=1→∀ w',Below w.heap.size w w'→Calls Tryz.prog 73 #[.agg #[.int .i64 a.c,.int .i64 a.s],.agg #[.int .i64 b.c,.int .i64 b.s]] w' (TP t w')) :
  Calls Tryz.prog 119 #[.slice (some ⟨g,0,none⟩) 2 3,.pointer (some ⟨bf,0,none⟩)] w (VP (if a.k ≠ 1 then wrongV a else if b.k ≠ 1 then wrongV b else toldV t) w):=by
 obtain ⟨res,hres⟩:∃ r,Hid ((if a.k ≠ 1 then wrongV a else if b.k ≠ 1 then wrongV b else toldV t)=r):=⟨_,Lib.hid rfl⟩
 rw [hres.out]
 try dsimp only [av,an,ao]
 go_enter Tryz.func119,Tryz.ntmps119
 go_upto_region 1 with fail
 obtain ⟨W0,iR,hW,hR,R0,B0,LR,LI,LS⟩:=mkZ w
 rw [hW.out];try rw [hR.out]
 clear hW hR
 have C:=num_two2 (w:=W0) g a b d (toldV t) bf (hk.below B0.out) (fun g1 h1 w1 h2=>two11_mul a b t bf ((hf.below B0.out).below h2) (fun w3 h3=>H g1 h1 w3 (bt B0.out (bt h2 h3))))
 rw [hres.out] at C
 clear H hf hk hres
 go_wp2_with (go_at_call 116;(with_reducible refine (C).mono ?_);rintro e1 w1 ⟨rfl,q1⟩;have B1:=hB B0 q1;have R1:=hF R0 q1;clear C;clear q1 B0 R0;obtain ⟨Rc0,Rc1,Rc2,Rc3,Rf0,Rf1,Rf2,Rf3⟩:=R1.out.cf)
 exact ret4 3 rfl R1 B1 LR rfl rfl rfl
theorem two1_div {w:World} (g:Nat) (a b d:V) (t:Int × Int × Int) (bf:Nat) (hk:K3 w g a b d) (hf:Bx w bf 104 (.func (.func 74) #[] #[])) (H:a.k=1→b.k=1→∀ w',Below w.heap.size w w'→Calls Tryz.prog 74 #[.agg #[.int .i64 a.c,.int .i64 a.s],.agg #[.int .i64 b.c,.int .i64 b.s]] w' (TP t w')) :
  Calls Tryz.prog 119 #[.slice (some ⟨g,0,none⟩) 2 3,.pointer (some ⟨bf,0,none⟩)] w (VP (if a.k ≠ 1 then wrongV a else if b.k ≠ 1 then wrongV b else toldV t) w):=by
 obtain ⟨res,hres⟩:∃ r,Hid ((if a.k ≠ 1 then wrongV a else if b.k ≠ 1 then wrongV b else toldV t)=r):=⟨_,Lib.hid rfl⟩
 rw [hres.out]
 try dsimp only [av,an,ao]
 go_enter Tryz.func119,Tryz.ntmps119
 go_upto_region 1 with fail
 obtain ⟨W0,iR,hW,hR,R0,B0,LR,LI,LS⟩:=mkZ w
 rw [hW.out];try rw [hR.out]
 clear hW hR
 have C:=num_two2 (w:=W0) g a b d (toldV t) bf (hk.below B0.out) (fun g1 h1 w1 h2=>two11_div a b t bf ((hf.below B0.out).below h2) (fun w3 h3=>H g1 h1 w3 (bt B0.out (bt h2 h3))))
 rw [hres.out] at C
 clear H hf hk hres
 go_wp2_with (go_at_call 116;(with_reducible refine (C).mono ?_);rintro e1 w1 ⟨rfl,q1⟩;have B1:=hB B0 q1;have R1:=hF R0 q1;clear C;clear q1 B0 R0;obtain ⟨Rc0,Rc1,Rc2,Rc3,Rf0,Rf1,Rf2,Rf3⟩:=R1.out.cf)
 exact ret4 3 rfl R1 B1 LR rfl rfl rfl
theorem two1_les {w:World} (g:Nat) (a b d:V) (t:Int × Int × Int) (bf bc:Nat) (hk:K3 w g a b d) (hf:Bx w bf 104 (.func (.func 127) #[] #[.pointer (some ⟨bc,0,none⟩)])) (H:a.k=1→b.k=1→∀ w',Below w.heap.size w w'→Calls Tryz.prog 127 #[.agg #[.int .i64 a.c,.int .i64 a.s],.agg #[.int .i64 b.c,.int .i64 b.s],.pointer (some ⟨bc,0,none⟩)] w' (TP t w')) :
  Calls Tryz.prog 119 #[.slice (some ⟨g,0,none⟩) 2 3,.pointer (some ⟨bf,0,none⟩)] w (VP (if a.k ≠ 1 then wrongV a else if b.k ≠ 1 then wrongV b else toldV t) w):=by
 obtain ⟨res,hres⟩:∃ r,Hid ((if a.k ≠ 1 then wrongV a else if b.k ≠ 1 then wrongV b else toldV t)=r):=⟨_,Lib.hid rfl⟩
 rw [hres.out]
 try dsimp only [av,an,ao]
 go_enter Tryz.func119,Tryz.ntmps119
 go_upto_region 1 with fail
 obtain ⟨W0,iR,hW,hR,R0,B0,LR,LI,LS⟩:=mkZ w
 rw [hW.out];try rw [hR.out]
 clear hW hR
 have C:=num_two2 (w:=W0) g a b d (toldV t) bf (hk.below B0.out) (fun g1 h1 w1 h2=>two11_les a b t bf bc ((hf.below B0.out).below h2) (fun w3 h3=>H g1 h1 w3 (bt B0.out (bt h2 h3))))
 rw [hres.out] at C
 clear H hf hk hres
 go_wp2_with (go_at_call 116;(with_reducible refine (C).mono ?_);rintro e1 w1 ⟨rfl,q1⟩;have B1:=hB B0 q1;have R1:=hF R0 q1;clear C;clear q1 B0 R0;obtain ⟨Rc0,Rc1,Rc2,Rc3,Rf0,Rf1,Rf2,Rf3⟩:=R1.out.cf)
 exact ret4 3 rfl R1 B1 LR rfl rfl rfl
theorem two1_one {w:World} (g:Nat) (a b d:V) (t:Int × Int × Int) (bf bc:Nat) (hk:K3 w g a b d) (hf:Bx w bf 104 (.func (.func 128) #[] #[.pointer (some ⟨bc,0,none⟩)])) (H:a.k=1→∀ w',Below w.heap.size w w'→Calls Tryz.prog 128 #[.agg #[.int .i64 a.c,.int .i64 a.s],.agg #[.int .i64 a.c,.int .i64 a.s],.pointer (some ⟨bc,0,none⟩)] w' (TP t w')) :
  Calls Tryz.prog 119 #[.slice (some ⟨g,0,none⟩) 1 3,.pointer (some ⟨bf,0,none⟩)] w (VP (if a.k ≠ 1 then wrongV a else toldV t) w):=by
 obtain ⟨res,hres⟩:∃ r,Hid ((if a.k ≠ 1 then wrongV a else toldV t)=r):=⟨_,Lib.hid rfl⟩
 rw [hres.out]
 try dsimp only [av,an,ao]
 go_enter Tryz.func119,Tryz.ntmps119
 go_upto_region 1 with fail
 obtain ⟨W0,iR,hW,hR,R0,B0,LR,LI,LS⟩:=mkZ w
 rw [hW.out];try rw [hR.out]
 clear hW hR
 have C:=num_two1 (w:=W0) g a b d (toldV t) bf (hk.below B0.out) (fun g1 w1 h2=>two11_one a a t bf bc ((hf.below B0.out).below h2) (fun w3 h3=>H g1 w3 (bt B0.out (bt h2 h3))))
 rw [hres.out] at C
 clear H hf hk hres
 go_wp2_with (go_at_call 116;(with_reducible refine (C).mono ?_);rintro e1 w1 ⟨rfl,q1⟩;have B1:=hB B0 q1;have R1:=hF R0 q1;clear C;clear q1 B0 R0;obtain ⟨Rc0,Rc1,Rc2,Rc3,Rf0,Rf1,Rf2,Rf3⟩:=R1.out.cf)
 exact ret4 3 rfl R1 B1 LR rfl rfl rfl
theorem order1_6 {w:World} (g:Nat) (a b d:V) (z:Int) (bf:Nat) (hk:K3 w g a b d) (hf:Bx w bf 102 (.func (.func 66) #[] #[])) (H:a.k=1→b.k=1→∀ w,Calls Tryz.prog 118 #[.agg #[.int .i64 a.c,.int .i64 a.s],.agg #[.int .i64 b.c,.int .i64 b.s]] w fun e w'=>e=.returned (.tuple #[.int .i64 z,.int .i64 0])∧Below w.heap.size w w') :
  Calls Tryz.prog 115 #[.slice (some ⟨g,0,none⟩) 2 3,.pointer (some ⟨bf,0,none⟩)] w (VP (if a.k ≠ 1 then wrongV a else if b.k ≠ 1 then wrongV b else truthV (decide (z<0))) w):=by
 obtain ⟨res,hres⟩:∃ r,Hid ((if a.k ≠ 1 then wrongV a else if b.k ≠ 1 then wrongV b else truthV (decide (z<0)))=r):=⟨_,Lib.hid rfl⟩
 rw [hres.out]
 try dsimp only [av,an,ao]
 go_enter Tryz.func115,Tryz.ntmps115
 go_upto_region 1 with fail
 obtain ⟨W0,iR,hW,hR,R0,B0,LR,LI,LS⟩:=mkZ w
 rw [hW.out];try rw [hR.out]
 clear hW hR
 have C:=num_ord2 (w:=W0) g a b d (truthV (decide (z<0))) bf (hk.below B0.out) (fun g1 h1 w1 h2=>order11_6 a b z bf ((hf.below B0.out).below h2) (H g1 h1))
 rw [hres.out] at C
 clear H hf hk hres
 go_wp2_with (go_at_call 116;(with_reducible refine (C).mono ?_);rintro e1 w1 ⟨rfl,q1⟩;have B1:=hB B0 q1;have R1:=hF R0 q1;clear C;clear q1 B0 R0;obtain ⟨Rc0,Rc1,Rc2,Rc3,Rf0,Rf1,Rf2,Rf3⟩:=R1.out.cf)
 exact ret4 3 rfl R1 B1 LR rfl rfl rfl
theorem order1_7 {w:World} (g:Nat) (a b d:V) (z:Int) (bf:Nat) (hk:K3 w g a b d) (hf:Bx w bf 102 (.func (.func 67) #[] #[])) (H:a.k=1→b.k=1→∀ w,Calls Tryz.prog 118 #[.agg #[.int .i64 a.c,.int .i64 a.s],.agg #[.int .i64 b.c,.int .i64 b.s]] w fun e w'=>e=.returned (.tuple #[.int .i64 z,.int .i64 0])∧Below w.heap.size w w') :
  Calls Tryz.prog 115 #[.slice (some ⟨g,0,none⟩) 2 3,.pointer (some ⟨bf,0,none⟩)] w (VP (if a.k ≠ 1 then wrongV a else if b.k ≠ 1 then wrongV b else truthV (decide (z≤0))) w):=by
 obtain ⟨res,hres⟩:∃ r,Hid ((if a.k ≠ 1 then wrongV a else if b.k ≠ 1 then wrongV b else truthV (decide (z≤0)))=r):=⟨_,Lib.hid rfl⟩
 rw [hres.out]
 try dsimp only [av,an,ao]
 go_enter Tryz.func115,Tryz.ntmps115
 go_upto_region 1 with fail
 obtain ⟨W0,iR,hW,hR,R0,B0,LR,LI,LS⟩:=mkZ w
 rw [hW.out];try rw [hR.out]
 clear hW hR
 have C:=num_ord2 (w:=W0) g a b d (truthV (decide (z≤0))) bf (hk.below B0.out) (fun g1 h1 w1 h2=>order11_7 a b z bf ((hf.below B0.out).below h2) (H g1 h1))
 rw [hres.out] at C
 clear H hf hk hres
 go_wp2_with (go_at_call 116;(with_reducible refine (C).mono ?_);rintro e1 w1 ⟨rfl,q1⟩;have B1:=hB B0 q1;have R1:=hF R0 q1;clear C;clear q1 B0 R0;obtain ⟨Rc0,Rc1,Rc2,Rc3,Rf0,Rf1,Rf2,Rf3⟩:=R1.out.cf)
 exact ret4 3 rfl R1 B1 LR rfl rfl rfl
theorem order1_8 {w:World} (g:Nat) (a b d:V) (z:Int) (bf:Nat) (hk:K3 w g a b d) (hf:Bx w bf 102 (.func (.func 68) #[] #[])) (H:a.k=1→b.k=1→∀ w,Calls Tryz.prog 118 #[.agg #[.int .i64 a.c,.int .i64 a.s],.agg #[.int .i64 b.c,.int .i64 b.s]] w fun e w'=>e=.returned (.tuple #[.int .i64 z,.int .i64 0])∧Below w.heap.size w w') :
  Calls Tryz.prog 115 #[.slice (some ⟨g,0,none⟩) 2 3,.pointer (some ⟨bf,0,none⟩)] w (VP (if a.k ≠ 1 then wrongV a else if b.k ≠ 1 then wrongV b else truthV (decide (z>0))) w):=by
 obtain ⟨res,hres⟩:∃ r,Hid ((if a.k ≠ 1 then wrongV a else if b.k ≠ 1 then wrongV b else truthV (decide (z>0)))=r):=⟨_,Lib.hid rfl⟩
 rw [hres.out]
 try dsimp only [av,an,ao]
 go_enter Tryz.func115,Tryz.ntmps115
 go_upto_region 1 with fail
 obtain ⟨W0,iR,hW,hR,R0,B0,LR,LI,LS⟩:=mkZ w
 rw [hW.out];try rw [hR.out]
 clear hW hR
 have C:=num_ord2 (w:=W0) g a b d (truthV (decide (z>0))) bf (hk.below B0.out) (fun g1 h1 w1 h2=>order11_8 a b z bf ((hf.below B0.out).below h2) (H g1 h1))
 rw [hres.out] at C
 clear H hf hk hres
 go_wp2_with (go_at_call 116;(with_reducible refine (C).mono ?_);rintro e1 w1 ⟨rfl,q1⟩;have B1:=hB B0 q1;have R1:=hF R0 q1;clear C;clear q1 B0 R0;obtain ⟨Rc0,Rc1,Rc2,Rc3,Rf0,Rf1,Rf2,Rf3⟩:=R1.out.cf)
 exact ret4 3 rfl R1 B1 LR rfl rfl rfl
theorem order1_9 {w:World} (g:Nat) (a b d:V) (z:Int) (bf:Nat) (hk:K3 w g a b d) (hf:Bx w bf 102 (.func (.func 69) #[] #[])) (H:a.k=1→b.k=1→∀ w,Calls Tryz.prog 118 #[.agg #[.int .i64 a.c,.int .i64 a.s],.agg #[.int .i64 b.c,.int .i64 b.s]] w fun e w'=>e=.returned (.tuple #[.int .i64 z,.int .i64 0])∧Below w.heap.size w w') :
  Calls Tryz.prog 115 #[.slice (some ⟨g,0,none⟩) 2 3,.pointer (some ⟨bf,0,none⟩)] w (VP (if a.k ≠ 1 then wrongV a else if b.k ≠ 1 then wrongV b else truthV (decide (z ≥ 0))) w):=by
 obtain ⟨res,hres⟩:∃ r,Hid ((if a.k ≠ 1 then wrongV a else if b.k ≠ 1 then wrongV b else truthV (decide (z ≥ 0)))=r):=⟨_,Lib.hid rfl⟩
 rw [hres.out]
 try dsimp only [av,an,ao]
 go_enter Tryz.func115,Tryz.ntmps115
 go_upto_region 1 with fail
 obtain ⟨W0,iR,hW,hR,R0,B0,LR,LI,LS⟩:=mkZ w
 rw [hW.out];try rw [hR.out]
 clear hW hR
 have C:=num_ord2 (w:=W0) g a b d (truthV (decide (z ≥ 0))) bf (hk.below B0.out) (fun g1 h1 w1 h2=>order11_9 a b z bf ((hf.below B0.out).below h2) (H g1 h1))
 rw [hres.out] at C
 clear H hf hk hres
 go_wp2_with (go_at_call 116;(with_reducible refine (C).mono ?_);rintro e1 w1 ⟨rfl,q1⟩;have B1:=hB B0 q1;have R1:=hF R0 q1;clear C;clear q1 B0 R0;obtain ⟨Rc0,Rc1,Rc2,Rc3,Rf0,Rf1,Rf2,Rf3⟩:=R1.out.cf)
 exact ret4 3 rfl R1 B1 LR rfl rfl rfl
theorem ask1 {w:World} (v:V) (b:Bool) (bf:Nat) (hf:Four w bf v):Calls Tryz.prog 114 #[.bool b,.pointer (some ⟨bf,0,none⟩)] w (VP v w):=by
 try dsimp only [av,an,ao]
 go_enter Tryz.func114,Tryz.ntmps114
 go_upto_region 1 with fail
 obtain ⟨W0,iR,hW,hR,R0,B0,LR,LI,LS⟩:=mkZ w
 rw [hW.out];try rw [hR.out]
 clear hW hR
 have X0:=Lib.hid (hf.below B0.out)
 clear hf
 have Xc0:=X0.out.c0;have Xc1:=X0.out.c1;have Xc2:=X0.out.c2;have Xc3:=X0.out.c3
 obtain ⟨Rc0,Rc1,Rc2,Rc3,Rf0,Rf1,Rf2,Rf3⟩:=R0.out.cf
 go_wp2_with fail
 exact ret4 3 rfl R0 B0 LR rfl rfl rfl
theorem asked_vp {w:World} (v:V):Calls Tryz.prog 57 #[av v] w (VP (if isT v=true then v else wrongV v) w):=by
 obtain ⟨res,hres⟩:∃ r,Hid ((if isT v=true then v else wrongV v)=r):=⟨_,Lib.hid rfl⟩
 rw [hres.out]
 try dsimp only [av,an,ao]
 go_enter Tryz.func57,Tryz.ntmps57
 go_upto_region 1 with fail
 obtain ⟨W0,iX,iR,hW,hX,hR,X0,R0,B0,LX,LR,LI,LS⟩:=mkVZ w v
 rw [hW.out];try rw [hR.out];try rw [hX.out]
 clear hW hX hR
 have C:=tr_ask (w:=W0) v v iX (fun _ w1 h=>ask1 v _ iX (X0.out.below h))
 rw [hres.out] at C
 clear hres
 obtain ⟨Xc0,Xc1,Xc2,Xc3⟩:=X0.out.cs
 go_wp2_with (go_at_call 55;(with_reducible refine (C).mono ?_);rintro e1 w1 ⟨rfl,q1⟩;have B1:=hB B0 q1;have R1:=hF R0 q1;clear C;clear q1 B0 R0;obtain ⟨Rc0,Rc1,Rc2,Rc3,Rf0,Rf1,Rf2,Rf3⟩:=R1.out.cf)
 exact ret4 2 rfl R1 B1 LR rfl rfl rfl
theorem or1 {w:World} (g bl:Nat) (a b d:V) (hk:K3 w g a b d) (hl:RB w bl (.slice (some ⟨g,0,none⟩) 2 3)):Calls Tryz.prog 56 #[.bool (a.k==2),.pointer (some ⟨bl,0,none⟩)] w (VP (if a.k=2 then a else (if isT b=true then b else wrongV b)) w):=by
 by_cases h:a.k=2
 ·rw [if_pos h]
  have h1:decide (a.k=2)=true:=decide_eq_true h
  have h2:(a.k==2)=true:=by simpa using h
  have h3:(a.k !=2)=false:=by simpa using h
  clear h
  try dsimp only [av,an,ao]
  go_enter Tryz.func56,Tryz.ntmps56
  go_upto_region 1 with fail
  obtain ⟨W0,iR,hW,hR,R0,B0,LR,LI,LS⟩:=mkZ w
  rw [hW.out];try rw [hR.out]
  clear hW hR
  have L0:=Lib.hid (hl.below B0.out)
  have Lc0:=L0.out.c0
  have K0:=Lib.hid (hk.below B0.out)
  clear hk hl
  have kc0:=K0.out.c0;have kc1:=K0.out.c1;have kc2:=K0.out.c2;have kc3:=K0.out.c3
  obtain ⟨Rc0,Rc1,Rc2,Rc3,Rf0,Rf1,Rf2,Rf3⟩:=R0.out.cf
  go_wp2_with fail
  exact ret4 3 rfl R0 B0 LR rfl rfl rfl
 ·rw [if_neg h]
  have h1:decide (a.k=2)=false:=decide_eq_false h
  have h2:(a.k==2)=false:=by simpa using h
  have h3:(a.k !=2)=true:=by simpa using h
  clear h
  obtain ⟨res,hres⟩:∃ r,Hid ((if isT b=true then b else wrongV b)=r):=⟨_,Lib.hid rfl⟩
  rw [hres.out]
  try dsimp only [av,an,ao]
  go_enter Tryz.func56,Tryz.ntmps56
  go_upto_region 1 with fail
  obtain ⟨W0,iR,hW,hR,R0,B0,LR,LI,LS⟩:=mkZ w
  rw [hW.out];try rw [hR.out]
  clear hW hR
  have L0:=Lib.hid (hl.below B0.out)
  have Lc0:=L0.out.c0
  have K0:=Lib.hid (hk.below B0.out)
  clear hk hl
  have kc4:=K0.out.c4;have kc5:=K0.out.c5;have kc6:=K0.out.c6;have kc7:=K0.out.c7
  have C:=asked_vp (w:=W0) b
  rw [hres.out] at C
  clear hres
  go_wp2_with (go_at_call 57;(with_reducible refine (C).mono ?_);rintro e1 w1 ⟨rfl,q1⟩;have B1:=hB B0 q1;have R1:=hF R0 q1;clear C;clear q1 B0 R0;obtain ⟨Rc0,Rc1,Rc2,Rc3,Rf0,Rf1,Rf2,Rf3⟩:=R1.out.cf)
  exact ret4 3 rfl R1 B1 LR rfl rfl rfl
theorem or0 {w:World} (g:Nat) (a b d:V) (hk:K3 w g a b d):Calls Tryz.prog 54 #[.slice (some ⟨g,0,none⟩) 2 3] w (VP (logicV 5 a b d) w):=by
 have E:logicV 5 a b d=if isT a=true then (if a.k=2 then a else (if isT b=true then b else wrongV b)) else wrongV a:=by
  unfold logicV
  cases isT a<;>cases isT b<;>by_cases h:a.k=2<;>simp [h]
 rw [E]
 clear E
 obtain ⟨res,hres⟩:∃ r,Hid ((if isT a=true then (if a.k=2 then a else (if isT b=true then b else wrongV b)) else wrongV a)=r):=⟨_,Lib.hid rfl⟩
 rw [hres.out]
 try dsimp only [av,an,ao]
 go_enter Tryz.func54,Tryz.ntmps54
 go_upto_region 1 with fail
 obtain ⟨W0,iL,iR,hW,hL,hR,L0,R0,B0,LL,LR,LI,LS⟩:=mk2 w (.cells #[.slice (some ⟨g,0,none⟩) 2 3] 24) (.cells #[.int .u8 0,.int .i64 0,.int .i64 0,.int .i64 0] 33)
 rw [hW.out]
 try rw [hR.out]
 try rw [hL.out]
 clear hW hL hR
 replace L0:Hid (RB W0 iL (.slice (some ⟨g,0,none⟩) 2 3)):=L0
 replace R0:Hid (Four W0 iR noV):=R0
 have K0:=Lib.hid (hk.below B0.out)
 clear hk
 have kc0:=K0.out.c0;have kc1:=K0.out.c1;have kc2:=K0.out.c2;have kc3:=K0.out.c3
 have C:=tr_or (w:=W0) a (if a.k=2 then a else (if isT b=true then b else wrongV b)) iL (fun _ w1 h=>or1 g iL a b d (K0.out.below h) (L0.out.below h))
 rw [hres.out] at C
 clear hres
 have Lc0:=L0.out.c0
 go_wp2_with (go_at_call 55;(with_reducible refine (C).mono ?_);rintro e1 w1 ⟨rfl,q1⟩;have B1:=hB B0 q1;have R1:=hF R0 q1;clear C;clear q1 B0 R0;obtain ⟨Rc0,Rc1,Rc2,Rc3,Rf0,Rf1,Rf2,Rf3⟩:=R1.out.cf)
 exact ret4 2 rfl R1 B1 LR rfl rfl rfl
theorem and1 {w:World} (g bl:Nat) (a b d:V) (hk:K3 w g a b d) (hl:RB w bl (.slice (some ⟨g,0,none⟩) 2 3)):Calls Tryz.prog 59 #[.bool (a.k==2),.pointer (some ⟨bl,0,none⟩)] w (VP (if a.k=2 then (if isT b=true then b else wrongV b) else a) w):=by
 by_cases h:a.k=2
 ·rw [if_pos h]
  have h1:decide (a.k=2)=true:=decide_eq_true h
  have h2:(a.k==2)=true:=by simpa using h
  have h3:(a.k !=2)=false:=by simpa using h
  clear h
  obtain ⟨res,hres⟩:∃ r,Hid ((if isT b=true then b else wrongV b)=r):=⟨_,Lib.hid rfl⟩
  rw [hres.out]
  try dsimp only [av,an,ao]
  go_enter Tryz.func59,Tryz.ntmps59
  go_upto_region 1 with fail
  obtain ⟨W0,iR,hW,hR,R0,B0,LR,LI,LS⟩:=mkZ w
  rw [hW.out];try rw [hR.out]
  clear hW hR
  have L0:=Lib.hid (hl.below B0.out)
  have Lc0:=L0.out.c0
  have K0:=Lib.hid (hk.below B0.out)
  clear hk hl
  have kc4:=K0.out.c4;have kc5:=K0.out.c5;have kc6:=K0.out.c6;have kc7:=K0.out.c7
  have C:=asked_vp (w:=W0) b
  rw [hres.out] at C
  clear hres
  go_wp2_with (go_at_call 57;(with_reducible refine (C).mono ?_);rintro e1 w1 ⟨rfl,q1⟩;have B1:=hB B0 q1;have R1:=hF R0 q1;clear C;clear q1 B0 R0;obtain ⟨Rc0,Rc1,Rc2,Rc3,Rf0,Rf1,Rf2,Rf3⟩:=R1.out.cf)
  exact ret4 3 rfl R1 B1 LR rfl rfl rfl
 ·rw [if_neg h]
  have h1:decide (a.k=2)=false:=decide_eq_false h
  have h2:(a.k==2)=false:=by simpa using h
  have h3:(a.k !=2)=true:=by simpa using h
  clear h
  try dsimp only [av,an,ao]
  go_enter Tryz.func59,Tryz.ntmps59
  go_upto_region 1 with fail
  obtain ⟨W0,iR,hW,hR,R0,B0,LR,LI,LS⟩:=mkZ w
  rw [hW.out];try rw [hR.out]
  clear hW hR
  have L0:=Lib.hid (hl.below B0.out)
  have Lc0:=L0.out.c0
  have K0:=Lib.hid (hk.below B0.out)
  clear hk hl
  have kc0:=K0.out.c0;have kc1:=K0.out.c1;have kc2:=K0.out.c2;have kc3:=K0.out.c3
  obtain ⟨Rc0,Rc1,Rc2,Rc3,Rf0,Rf1,Rf2,Rf3⟩:=R0.out.cf
  go_wp2_with fail
  exact ret4 3 rfl R0 B0 LR rfl rfl rfl
theorem and0 {w:World} (g:Nat) (a b d:V) (hk:K3 w g a b d):Calls Tryz.prog 58 #[.slice (some ⟨g,0,none⟩) 2 3] w (VP (logicV 6 a b d) w):=by
 have E:logicV 6 a b d=if isT a=true then (if a.k=2 then (if isT b=true then b else wrongV b) else a) else wrongV a:=by
  unfold logicV
  cases isT a<;>cases isT b<;>by_cases h:a.k=2<;>simp [h]
 rw [E]
 clear E
 obtain ⟨res,hres⟩:∃ r,Hid ((if isT a=true then (if a.k=2 then (if isT b=true then b else wrongV b) else a) else wrongV a)=r):=⟨_,Lib.hid rfl⟩
 rw [hres.out]
 try dsimp only [av,an,ao]
 go_enter Tryz.func58,Tryz.ntmps58
 go_upto_region 1 with fail
 obtain ⟨W0,iL,iR,hW,hL,hR,L0,R0,B0,LL,LR,LI,LS⟩:=mk2 w (.cells #[.slice (some ⟨g,0,none⟩) 2 3] 24) (.cells #[.int .u8 0,.int .i64 0,.int .i64 0,.int .i64 0] 33)
 rw [hW.out]
 try rw [hR.out]
 try rw [hL.out]
 clear hW hL hR
 replace L0:Hid (RB W0 iL (.slice (some ⟨g,0,none⟩) 2 3)):=L0
 replace R0:Hid (Four W0 iR noV):=R0
 have K0:=Lib.hid (hk.below B0.out)
 clear hk
 have kc0:=K0.out.c0;have kc1:=K0.out.c1;have kc2:=K0.out.c2;have kc3:=K0.out.c3
 have C:=tr_and (w:=W0) a (if a.k=2 then (if isT b=true then b else wrongV b) else a) iL (fun _ w1 h=>and1 g iL a b d (K0.out.below h) (L0.out.below h))
 rw [hres.out] at C
 clear hres
 have Lc0:=L0.out.c0
 go_wp2_with (go_at_call 55;(with_reducible refine (C).mono ?_);rintro e1 w1 ⟨rfl,q1⟩;have B1:=hB B0 q1;have R1:=hF R0 q1;clear C;clear q1 B0 R0;obtain ⟨Rc0,Rc1,Rc2,Rc3,Rf0,Rf1,Rf2,Rf3⟩:=R1.out.cf)
 exact ret4 2 rfl R1 B1 LR rfl rfl rfl
theorem if1 {w:World} (g bl:Nat) (a b d:V) (hk:K3 w g a b d) (hl:RB w bl (.slice (some ⟨g,0,none⟩) 3 3)):Calls Tryz.prog 82 #[.bool (a.k==2),.pointer (some ⟨bl,0,none⟩)] w (VP (if a.k=2 then b else d) w):=by
 by_cases h:a.k=2
 ·rw [if_pos h]
  have h1:decide (a.k=2)=true:=decide_eq_true h
  have h2:(a.k==2)=true:=by simpa using h
  have h3:(a.k !=2)=false:=by simpa using h
  clear h
  try dsimp only [av,an,ao]
  go_enter Tryz.func82,Tryz.ntmps82
  go_upto_region 1 with fail
  obtain ⟨W0,iR,hW,hR,R0,B0,LR,LI,LS⟩:=mkZ w
  rw [hW.out];try rw [hR.out]
  clear hW hR
  have L0:=Lib.hid (hl.below B0.out)
  have Lc0:=L0.out.c0
  have K0:=Lib.hid (hk.below B0.out)
  clear hk hl
  have kc4:=K0.out.c4;have kc5:=K0.out.c5;have kc6:=K0.out.c6;have kc7:=K0.out.c7
  obtain ⟨Rc0,Rc1,Rc2,Rc3,Rf0,Rf1,Rf2,Rf3⟩:=R0.out.cf
  go_wp2_with fail
  exact ret4 3 rfl R0 B0 LR rfl rfl rfl
 ·rw [if_neg h]
  have h1:decide (a.k=2)=false:=decide_eq_false h
  have h2:(a.k==2)=false:=by simpa using h
  have h3:(a.k !=2)=true:=by simpa using h
  clear h
  try dsimp only [av,an,ao]
  go_enter Tryz.func82,Tryz.ntmps82
  go_upto_region 1 with fail
  obtain ⟨W0,iR,hW,hR,R0,B0,LR,LI,LS⟩:=mkZ w
  rw [hW.out];try rw [hR.out]
  clear hW hR
  have L0:=Lib.hid (hl.below B0.out)
  have Lc0:=L0.out.c0
  have K0:=Lib.hid (hk.below B0.out)
  clear hk hl
  have kc8:=K0.out.c8;have kc9:=K0.out.c9;have kc10:=K0.out.c10;have kc11:=K0.out.c11
  obtain ⟨Rc0,Rc1,Rc2,Rc3,Rf0,Rf1,Rf2,Rf3⟩:=R0.out.cf
  go_wp2_with fail
  exact ret4 3 rfl R0 B0 LR rfl rfl rfl
theorem if0 {w:World} (g:Nat) (a b d:V) (hk:K3 w g a b d):Calls Tryz.prog 81 #[.slice (some ⟨g,0,none⟩) 3 3] w (VP (logicV 19 a b d) w):=by
 have E:logicV 19 a b d=if isT a=true then (if a.k=2 then b else d) else wrongV a:=by
  unfold logicV
  cases isT a<;>cases isT b<;>by_cases h:a.k=2<;>simp [h]
 rw [E]
 clear E
 obtain ⟨res,hres⟩:∃ r,Hid ((if isT a=true then (if a.k=2 then b else d) else wrongV a)=r):=⟨_,Lib.hid rfl⟩
 rw [hres.out]
 try dsimp only [av,an,ao]
 go_enter Tryz.func81,Tryz.ntmps81
 go_upto_region 1 with fail
 obtain ⟨W0,iL,iR,hW,hL,hR,L0,R0,B0,LL,LR,LI,LS⟩:=mk2 w (.cells #[.slice (some ⟨g,0,none⟩) 3 3] 24) (.cells #[.int .u8 0,.int .i64 0,.int .i64 0,.int .i64 0] 33)
 rw [hW.out]
 try rw [hR.out]
 try rw [hL.out]
 clear hW hL hR
 replace L0:Hid (RB W0 iL (.slice (some ⟨g,0,none⟩) 3 3)):=L0
 replace R0:Hid (Four W0 iR noV):=R0
 have K0:=Lib.hid (hk.below B0.out)
 clear hk
 have kc0:=K0.out.c0;have kc1:=K0.out.c1;have kc2:=K0.out.c2;have kc3:=K0.out.c3
 have C:=tr_if (w:=W0) a (if a.k=2 then b else d) iL (fun _ w1 h=>if1 g iL a b d (K0.out.below h) (L0.out.below h))
 rw [hres.out] at C
 clear hres
 have Lc0:=L0.out.c0
 go_wp2_with (go_at_call 55;(with_reducible refine (C).mono ?_);rintro e1 w1 ⟨rfl,q1⟩;have B1:=hB B0 q1;have R1:=hF R0 q1;clear C;clear q1 B0 R0;obtain ⟨Rc0,Rc1,Rc2,Rc3,Rf0,Rf1,Rf2,Rf3⟩:=R1.out.cf)
 exact ret4 2 rfl R1 B1 LR rfl rfl rfl
theorem not1 {w:World} (b:Bool):Calls Tryz.prog 61 #[.bool b] w (VP (truthV (!b)) w):=by
 try dsimp only [av,an,ao]
 go_enter Tryz.func61,Tryz.ntmps61
 go_upto_region 1 with fail
 obtain ⟨W0,iR,hW,hR,R0,B0,LR,LI,LS⟩:=mkZ w
 rw [hW.out];try rw [hR.out]
 clear hW hR
 go_wp2_with (go_at_call 34;(with_reducible refine (truth_vp (w:=_) _).mono ?_);rintro e1 w1 ⟨rfl,q1⟩;have B1:=hB B0 q1;have R1:=hF R0 q1;clear q1 B0 R0;obtain ⟨Rc0,Rc1,Rc2,Rc3,Rf0,Rf1,Rf2,Rf3⟩:=R1.out.cf)
 exact ret4 2 rfl R1 B1 LR rfl rfl rfl
theorem tr_not0 {w:World} (v r:V) (H:isT v=true→∀ w',Below w.heap.size w w'→Calls Tryz.prog 61 #[.bool (v.k==2)] w' (VP r w')) :
  Calls Tryz.prog 55 #[av v,.func (.func 61) #[] #[]] w (VP (if isT v=true then r else wrongV v) w):=by
 have IT:=fun w=>ist_is (w:=w) v
 cases g:isT v
 ·rw [if_neg (by decide)]
  rw [g] at IT
  clear g H
  try dsimp only [av,an,ao]
  go_enter Tryz.func55,Tryz.ntmps55
  go_upto_region 1 with fail
  obtain ⟨W0,iX,iR,hW,hX,hR,X0,R0,B0,LX,LR,LI,LS⟩:=mkVZ w v
  rw [hW.out];try rw [hR.out];try rw [hX.out]
  clear hW hX hR
  obtain ⟨Xc0,Xc1,Xc2,Xc3⟩:=X0.out.cs
  go_wp2_with (first | (go_at_call 112;(with_reducible refine (IT _).mono ?_);rintro e1 w1 ⟨rfl,q1⟩;have B1:=hB B0 q1;have X1:=hF X0 q1;have R1:=hF R0 q1;clear IT;clear q1 B0 X0 R0;obtain ⟨Xc0,Xc1,Xc2,Xc3⟩:=X1.out.cs) | (go_at_call 113;(with_reducible refine (wrong_vp (w:=_) v).mono ?_);rintro e2 w2 ⟨rfl,q2⟩;have B2:=hB B1 q2;have R2:=hF R1 q2;clear q2 B1 R1;obtain ⟨Rc0,Rc1,Rc2,Rc3,Rf0,Rf1,Rf2,Rf3⟩:=R2.out.cf))
  exact ret4 4 rfl R2 B2 LR rfl rfl rfl
 ·rw [if_pos rfl]
  rw [g] at IT
  replace H:=H g
  clear g
  try dsimp only [av,an,ao]
  go_enter Tryz.func55,Tryz.ntmps55
  go_upto_region 1 with fail
  obtain ⟨W0,iX,iR,hW,hX,hR,X0,R0,B0,LX,LR,LI,LS⟩:=mkVZ w v
  rw [hW.out];try rw [hR.out];try rw [hX.out]
  clear hW hX hR
  obtain ⟨Xc0,Xc1,Xc2,Xc3⟩:=X0.out.cs
  replace H:=fun w2 h=>H w2 (bt B0.out h)
  go_wp2_with (first | (go_at_call 112;(with_reducible refine (IT _).mono ?_);rintro e1 w1 ⟨rfl,q1⟩;have B1:=hB B0 q1;have X1:=hF X0 q1;have R1:=hF R0 q1;have H1:=H w1 q1;clear IT H;clear q1 B0 X0 R0;obtain ⟨Xc0,Xc1,Xc2,Xc3⟩:=X1.out.cs) | (go_at_call 61;(with_reducible refine (H1).mono ?_);rintro e2 w2 ⟨rfl,q2⟩;have B2:=hB B1 q2;have R2:=hF R1 q2;clear H1;clear q2 B1 R1;obtain ⟨Rc0,Rc1,Rc2,Rc3,Rf0,Rf1,Rf2,Rf3⟩:=R2.out.cf))
  exact ret4 4 rfl R2 B2 LR rfl rfl rfl
theorem isT_not {v:V} (h:isT v=true):(!(v.k==2))=decide (v.k=3):=by
 unfold isT at h
 have:=of_decide_eq_true h
 by_cases h2:v.k=2
 ·have h3:¬v.k=3:=by omega
  simp [h2]
 ·have h3:v.k=3:=by omega
  simp [h3]
theorem not0 {w:World} (g:Nat) (a b d:V) (hk:K3 w g a b d):Calls Tryz.prog 60 #[.slice (some ⟨g,0,none⟩) 1 3] w (VP (logicV 7 a b d) w):=by
 have E:logicV 7 a b d=if isT a=true then truthV (decide (a.k=3)) else wrongV a:=by
  unfold logicV
  cases isT a<;>simp
 rw [E]
 clear E
 obtain ⟨res,hres⟩:∃ r,Hid ((if isT a=true then truthV (decide (a.k=3)) else wrongV a)=r):=⟨_,Lib.hid rfl⟩
 rw [hres.out]
 try dsimp only [av,an,ao]
 go_enter Tryz.func60,Tryz.ntmps60
 go_upto_region 1 with fail
 obtain ⟨W0,iR,hW,hR,R0,B0,LR,LI,LS⟩:=mkZ w
 rw [hW.out];try rw [hR.out]
 clear hW hR
 have K0:=Lib.hid (hk.below B0.out)
 clear hk
 have kc0:=K0.out.c0;have kc1:=K0.out.c1;have kc2:=K0.out.c2;have kc3:=K0.out.c3
 have C:=tr_not0 (w:=W0) a (truthV (decide (a.k=3))) (fun h w1 _=>by rw [←isT_not h];exact not1 _)
 rw [hres.out] at C
 clear hres
 go_wp2_with (go_at_call 55;(with_reducible refine (C).mono ?_);rintro e1 w1 ⟨rfl,q1⟩;have B1:=hB B0 q1;have R1:=hF R0 q1;clear C;clear q1 B0 R0;obtain ⟨Rc0,Rc1,Rc2,Rc3,Rf0,Rf1,Rf2,Rf3⟩:=R1.out.cf)
 exact ret4 2 rfl R1 B1 LR rfl rfl rfl
theorem eq8 {w:World} (g:Nat) (a b d:V) (ha:V.fine a) (hb:V.fine b) (hk:K3 w g a b d):Calls Tryz.prog 62 #[.slice (some ⟨g,0,none⟩) 2 3] w (VP (sameV 8 a b) w):=by
 have OPC:=fun w=>alike_8 (w:=w) ha hb
 generalize sameV 8 a b=res at OPC⊢
 clear ha hb
 try dsimp only [av,an,ao]
 go_enter Tryz.func62,Tryz.ntmps62
 go_upto_region 1 with fail
 obtain ⟨W0,iR,hW,hR,R0,B0,LR,LI,LS⟩:=mkZ w
 rw [hW.out];try rw [hR.out]
 clear hW hR
 have Kd:=Lib.hid ((hk.below B0.out).below (drb W0))
 have HNE:Hid (¬g=iR):=Lib.hid (by have:=hk.lt;have:=LR.out;omega)
 clear hk
 have HS0:(fun w':World=>w'.cell? ⟨g,0,none⟩=some (.int .u8 a.k)∧w'.cell? ⟨g,1,none⟩=some (.int .i64 a.c)∧w'.cell? ⟨g,2,none⟩=some (.int .i64 a.s)∧w'.cell? ⟨g,3,none⟩=some (.int .i64 a.e)∧w'.cell? ⟨g,4,none⟩=some (.int .u8 b.k)∧w'.cell? ⟨g,5,none⟩=some (.int .i64 b.c)∧w'.cell? ⟨g,6,none⟩=some (.int .i64 b.s)∧w'.cell? ⟨g,7,none⟩=some (.int .i64 b.e)) W0.drew:=⟨(Kd.out).c0,(Kd.out).c1,(Kd.out).c2,(Kd.out).c3,(Kd.out).c4,(Kd.out).c5,(Kd.out).c6,(Kd.out).c7⟩
 go_region_held3 (fun w'=>w'.cell? ⟨g,0,none⟩=some (.int .u8 a.k)∧w'.cell? ⟨g,1,none⟩=some (.int .i64 a.c)∧w'.cell? ⟨g,2,none⟩=some (.int .i64 a.s)∧w'.cell? ⟨g,3,none⟩=some (.int .i64 a.e)∧w'.cell? ⟨g,4,none⟩=some (.int .u8 b.k)∧w'.cell? ⟨g,5,none⟩=some (.int .i64 b.c)∧w'.cell? ⟨g,6,none⟩=some (.int .i64 b.s)∧w'.cell? ⟨g,7,none⟩=some (.int .i64 b.e))
  (first | with_reducible exact HS0 | with_reducible assumption | with_reducible exact HS8 _ _ _ _)
  (first | (go_at_call 63;(with_reducible refine (OPC _).mono ?_);rintro e8 w8 ⟨rfl,q8⟩;have K8:=Lib.hid (Kd.out.below q8);have B8:=Lib.hid (bt (B0.out.drew) q8);have R8:=Lib.hid (R0.out.below (bt (drb W0) q8));have HS7:w8.cell? ⟨g,0,none⟩=some (.int .u8 a.k)∧w8.cell? ⟨g,1,none⟩=some (.int .i64 a.c)∧w8.cell? ⟨g,2,none⟩=some (.int .i64 a.s)∧w8.cell? ⟨g,3,none⟩=some (.int .i64 a.e)∧w8.cell? ⟨g,4,none⟩=some (.int .u8 b.k)∧w8.cell? ⟨g,5,none⟩=some (.int .i64 b.c)∧w8.cell? ⟨g,6,none⟩=some (.int .i64 b.s)∧w8.cell? ⟨g,7,none⟩=some (.int .i64 b.e):=⟨(K8.out).c0,(K8.out).c1,(K8.out).c2,(K8.out).c3,(K8.out).c4,(K8.out).c5,(K8.out).c6,(K8.out).c7⟩;have HS8:∀ x0 x1 x2 x3,(fun w':World=>w'.cell? ⟨g,0,none⟩=some (.int .u8 a.k)∧w'.cell? ⟨g,1,none⟩=some (.int .i64 a.c)∧w'.cell? ⟨g,2,none⟩=some (.int .i64 a.s)∧w'.cell? ⟨g,3,none⟩=some (.int .i64 a.e)∧w'.cell? ⟨g,4,none⟩=some (.int .u8 b.k)∧w'.cell? ⟨g,5,none⟩=some (.int .i64 b.c)∧w'.cell? ⟨g,6,none⟩=some (.int .i64 b.s)∧w'.cell? ⟨g,7,none⟩=some (.int .i64 b.e)) ((((w8.setCell ⟨iR,0,none⟩ x0).setCell ⟨iR,1,none⟩ x1).setCell ⟨iR,2,none⟩ x2).setCell ⟨iR,3,none⟩ x3):=fun x0 x1 x2 x3=>⟨(K8.out.other4 HNE.out x0 x1 x2 x3).c0,(K8.out.other4 HNE.out x0 x1 x2 x3).c1,(K8.out.other4 HNE.out x0 x1 x2 x3).c2,(K8.out.other4 HNE.out x0 x1 x2 x3).c3,(K8.out.other4 HNE.out x0 x1 x2 x3).c4,(K8.out.other4 HNE.out x0 x1 x2 x3).c5,(K8.out.other4 HNE.out x0 x1 x2 x3).c6,(K8.out.other4 HNE.out x0 x1 x2 x3).c7⟩;have Rc0:=R8.out.c0;have Rf0:=R8.out.f 0;have Rc1:=R8.out.c1;have Rf1:=R8.out.f 1;have Rc2:=R8.out.c2;have Rf2:=R8.out.f 2;have Rc3:=R8.out.c3;have Rf3:=R8.out.f 3;clear q8 OPC K8))
 go_wp2_with fail
 exact ret4 2 rfl R8 B8 LR rfl rfl rfl
theorem eq9 {w:World} (g:Nat) (a b d:V) (ha:V.fine a) (hb:V.fine b) (hk:K3 w g a b d):Calls Tryz.prog 64 #[.slice (some ⟨g,0,none⟩) 2 3] w (VP (sameV 9 a b) w):=by
 have OPC:=fun w=>alike_9 (w:=w) ha hb
 generalize sameV 9 a b=res at OPC⊢
 clear ha hb
 try dsimp only [av,an,ao]
 go_enter Tryz.func64,Tryz.ntmps64
 go_upto_region 1 with fail
 obtain ⟨W0,iR,hW,hR,R0,B0,LR,LI,LS⟩:=mkZ w
 rw [hW.out];try rw [hR.out]
 clear hW hR
 have Kd:=Lib.hid ((hk.below B0.out).below (drb W0))
 have HNE:Hid (¬g=iR):=Lib.hid (by have:=hk.lt;have:=LR.out;omega)
 clear hk
 have HS0:(fun w':World=>w'.cell? ⟨g,0,none⟩=some (.int .u8 a.k)∧w'.cell? ⟨g,1,none⟩=some (.int .i64 a.c)∧w'.cell? ⟨g,2,none⟩=some (.int .i64 a.s)∧w'.cell? ⟨g,3,none⟩=some (.int .i64 a.e)∧w'.cell? ⟨g,4,none⟩=some (.int .u8 b.k)∧w'.cell? ⟨g,5,none⟩=some (.int .i64 b.c)∧w'.cell? ⟨g,6,none⟩=some (.int .i64 b.s)∧w'.cell? ⟨g,7,none⟩=some (.int .i64 b.e)) W0.drew:=⟨(Kd.out).c0,(Kd.out).c1,(Kd.out).c2,(Kd.out).c3,(Kd.out).c4,(Kd.out).c5,(Kd.out).c6,(Kd.out).c7⟩
 go_region_held3 (fun w'=>w'.cell? ⟨g,0,none⟩=some (.int .u8 a.k)∧w'.cell? ⟨g,1,none⟩=some (.int .i64 a.c)∧w'.cell? ⟨g,2,none⟩=some (.int .i64 a.s)∧w'.cell? ⟨g,3,none⟩=some (.int .i64 a.e)∧w'.cell? ⟨g,4,none⟩=some (.int .u8 b.k)∧w'.cell? ⟨g,5,none⟩=some (.int .i64 b.c)∧w'.cell? ⟨g,6,none⟩=some (.int .i64 b.s)∧w'.cell? ⟨g,7,none⟩=some (.int .i64 b.e))
  (first | with_reducible exact HS0 | with_reducible assumption | with_reducible exact HS8 _ _ _ _)
  (first | (go_at_call 63;(with_reducible refine (OPC _).mono ?_);rintro e8 w8 ⟨rfl,q8⟩;have K8:=Lib.hid (Kd.out.below q8);have B8:=Lib.hid (bt (B0.out.drew) q8);have R8:=Lib.hid (R0.out.below (bt (drb W0) q8));have HS7:w8.cell? ⟨g,0,none⟩=some (.int .u8 a.k)∧w8.cell? ⟨g,1,none⟩=some (.int .i64 a.c)∧w8.cell? ⟨g,2,none⟩=some (.int .i64 a.s)∧w8.cell? ⟨g,3,none⟩=some (.int .i64 a.e)∧w8.cell? ⟨g,4,none⟩=some (.int .u8 b.k)∧w8.cell? ⟨g,5,none⟩=some (.int .i64 b.c)∧w8.cell? ⟨g,6,none⟩=some (.int .i64 b.s)∧w8.cell? ⟨g,7,none⟩=some (.int .i64 b.e):=⟨(K8.out).c0,(K8.out).c1,(K8.out).c2,(K8.out).c3,(K8.out).c4,(K8.out).c5,(K8.out).c6,(K8.out).c7⟩;have HS8:∀ x0 x1 x2 x3,(fun w':World=>w'.cell? ⟨g,0,none⟩=some (.int .u8 a.k)∧w'.cell? ⟨g,1,none⟩=some (.int .i64 a.c)∧w'.cell? ⟨g,2,none⟩=some (.int .i64 a.s)∧w'.cell? ⟨g,3,none⟩=some (.int .i64 a.e)∧w'.cell? ⟨g,4,none⟩=some (.int .u8 b.k)∧w'.cell? ⟨g,5,none⟩=some (.int .i64 b.c)∧w'.cell? ⟨g,6,none⟩=some (.int .i64 b.s)∧w'.cell? ⟨g,7,none⟩=some (.int .i64 b.e)) ((((w8.setCell ⟨iR,0,none⟩ x0).setCell ⟨iR,1,none⟩ x1).setCell ⟨iR,2,none⟩ x2).setCell ⟨iR,3,none⟩ x3):=fun x0 x1 x2 x3=>⟨(K8.out.other4 HNE.out x0 x1 x2 x3).c0,(K8.out.other4 HNE.out x0 x1 x2 x3).c1,(K8.out.other4 HNE.out x0 x1 x2 x3).c2,(K8.out.other4 HNE.out x0 x1 x2 x3).c3,(K8.out.other4 HNE.out x0 x1 x2 x3).c4,(K8.out.other4 HNE.out x0 x1 x2 x3).c5,(K8.out.other4 HNE.out x0 x1 x2 x3).c6,(K8.out.other4 HNE.out x0 x1 x2 x3).c7⟩;have Rc0:=R8.out.c0;have Rf0:=R8.out.f 0;have Rc1:=R8.out.c1;have Rf1:=R8.out.f 1;have Rc2:=R8.out.c2;have Rf2:=R8.out.f 2;have Rc3:=R8.out.c3;have Rf3:=R8.out.f 3;clear q8 OPC K8))
 go_wp2_with fail
 exact ret4 2 rfl R8 B8 LR rfl rfl rfl
def FP (F:FuncId) (t:TypeId) (f:Value) (w:World) (e:Ending) (w':World):Prop:=∃ b:Nat,e=.returned (.func (.func F) #[] #[.pointer (some ⟨b,0,none⟩)])∧Bx w' b t f∧Below w.heap.size w w'
theorem mk_order6 {w:World}:Calls Tryz.prog 65 #[.func (.func 66) #[] #[]] w (FP 115 102 (.func (.func 66) #[] #[]) w):=by
 go_enter Tryz.func65,Tryz.ntmps65
 go_wp2_with fail
 go_ret
 exact ⟨_,rfl,heap_alloc_new w _,ba _ _⟩
theorem mk_order7 {w:World}:Calls Tryz.prog 65 #[.func (.func 67) #[] #[]] w (FP 115 102 (.func (.func 67) #[] #[]) w):=by
 go_enter Tryz.func65,Tryz.ntmps65
 go_wp2_with fail
 go_ret
 exact ⟨_,rfl,heap_alloc_new w _,ba _ _⟩
theorem mk_order8 {w:World}:Calls Tryz.prog 65 #[.func (.func 68) #[] #[]] w (FP 115 102 (.func (.func 68) #[] #[]) w):=by
 go_enter Tryz.func65,Tryz.ntmps65
 go_wp2_with fail
 go_ret
 exact ⟨_,rfl,heap_alloc_new w _,ba _ _⟩
theorem mk_order9 {w:World}:Calls Tryz.prog 65 #[.func (.func 69) #[] #[]] w (FP 115 102 (.func (.func 69) #[] #[]) w):=by
 go_enter Tryz.func65,Tryz.ntmps65
 go_wp2_with fail
 go_ret
 exact ⟨_,rfl,heap_alloc_new w _,ba _ _⟩
theorem mk_two_add {w:World}:Calls Tryz.prog 70 #[.func (.func 71) #[] #[]] w (FP 119 104 (.func (.func 71) #[] #[]) w):=by
 go_enter Tryz.func70,Tryz.ntmps70
 go_wp2_with fail
 go_ret
 exact ⟨_,rfl,heap_alloc_new w _,ba _ _⟩
theorem mk_two_sub {w:World}:Calls Tryz.prog 70 #[.func (.func 72) #[] #[]] w (FP 119 104 (.func (.func 72) #[] #[]) w):=by
 go_enter Tryz.func70,Tryz.ntmps70
 go_wp2_with fail
 go_ret
 exact ⟨_,rfl,heap_alloc_new w _,ba _ _⟩
theorem mk_two_mul {w:World}:Calls Tryz.prog 70 #[.func (.func 73) #[] #[]] w (FP 119 104 (.func (.func 73) #[] #[]) w):=by
 go_enter Tryz.func70,Tryz.ntmps70
 go_wp2_with fail
 go_ret
 exact ⟨_,rfl,heap_alloc_new w _,ba _ _⟩
theorem mk_two_div {w:World}:Calls Tryz.prog 70 #[.func (.func 74) #[] #[]] w (FP 119 104 (.func (.func 74) #[] #[]) w):=by
 go_enter Tryz.func70,Tryz.ntmps70
 go_wp2_with fail
 go_ret
 exact ⟨_,rfl,heap_alloc_new w _,ba _ _⟩
theorem mk_two_les {w:World} (bc:Nat):Calls Tryz.prog 70 #[.func (.func 127) #[] #[.pointer (some ⟨bc,0,none⟩)]] w (FP 119 104 (.func (.func 127) #[] #[.pointer (some ⟨bc,0,none⟩)]) w):=by
 go_enter Tryz.func70,Tryz.ntmps70
 go_wp2_with fail
 go_ret
 exact ⟨_,rfl,heap_alloc_new w _,ba _ _⟩
theorem mk_two_one {w:World} (bc:Nat):Calls Tryz.prog 70 #[.func (.func 128) #[] #[.pointer (some ⟨bc,0,none⟩)]] w (FP 119 104 (.func (.func 128) #[] #[.pointer (some ⟨bc,0,none⟩)]) w):=by
 go_enter Tryz.func70,Tryz.ntmps70
 go_wp2_with fail
 go_ret
 exact ⟨_,rfl,heap_alloc_new w _,ba _ _⟩
theorem mk_les_min {w:World}:Calls Tryz.prog 75 #[.int .i64 (-1)] w (FP 127 3 (.int .i64 (-1)) w):=by
 go_enter Tryz.func75,Tryz.ntmps75
 go_wp2_with fail
 go_ret
 exact ⟨_,rfl,heap_alloc_new w _,ba _ _⟩
theorem mk_les_max {w:World}:Calls Tryz.prog 75 #[.int .i64 1] w (FP 127 3 (.int .i64 1) w):=by
 go_enter Tryz.func75,Tryz.ntmps75
 go_wp2_with fail
 go_ret
 exact ⟨_,rfl,heap_alloc_new w _,ba _ _⟩
theorem mk_one_neg {w:World}:Calls Tryz.prog 76 #[.func (.func 77) #[] #[]] w fun e w'=>∃ b c:Nat,e=.returned (.func (.func 119) #[] #[.pointer (some ⟨b,0,none⟩)])∧Bx w' b 104 (.func (.func 128) #[] #[.pointer (some ⟨c,0,none⟩)])∧Bx w' c 69 (.func (.func 77) #[] #[])∧Below w.heap.size w w':=by
 go_enter Tryz.func76,Tryz.ntmps76
 go_upto_region 1 with fail
 obtain ⟨W0,iX,hW,hX,X0,B0,LX,LI,LS⟩:=mk1 w (.cells #[.func (.func 77) #[] #[]] 69)
 rw [hW.out]
 try rw [hX.out]
 clear hW hX
 go_wp2_with (go_at_call 70;(with_reducible refine (mk_two_one (w:=_) iX).mono ?_);rintro e1 w1 ⟨b,rfl,h1,h2⟩;have Y1:=Lib.hid h1;have X1:Hid (Bx w1 iX 69 (.func (.func 77) #[] #[])):=Lib.hid (Bx.below X0.out h2);have B1:=Lib.hid (bt B0.out h2);clear h1 h2)
 go_ret
 exact ⟨b,iX,rfl,Y1.out,X1.out,B1.out⟩
theorem mk_one_abs {w:World}:Calls Tryz.prog 76 #[.func (.func 78) #[] #[]] w fun e w'=>∃ b c:Nat,e=.returned (.func (.func 119) #[] #[.pointer (some ⟨b,0,none⟩)])∧Bx w' b 104 (.func (.func 128) #[] #[.pointer (some ⟨c,0,none⟩)])∧Bx w' c 69 (.func (.func 78) #[] #[])∧Below w.heap.size w w':=by
 go_enter Tryz.func76,Tryz.ntmps76
 go_upto_region 1 with fail
 obtain ⟨W0,iX,hW,hX,X0,B0,LX,LI,LS⟩:=mk1 w (.cells #[.func (.func 78) #[] #[]] 69)
 rw [hW.out]
 try rw [hX.out]
 clear hW hX
 go_wp2_with (go_at_call 70;(with_reducible refine (mk_two_one (w:=_) iX).mono ?_);rintro e1 w1 ⟨b,rfl,h1,h2⟩;have Y1:=Lib.hid h1;have X1:Hid (Bx w1 iX 69 (.func (.func 78) #[] #[])):=Lib.hid (Bx.below X0.out h2);have B1:=Lib.hid (bt B0.out h2);clear h1 h2)
 go_ret
 exact ⟨b,iX,rfl,Y1.out,X1.out,B1.out⟩
theorem mk_one_rnd {w:World} (bc:Nat):Calls Tryz.prog 76 #[.func (.func 79) #[] #[.pointer (some ⟨bc,0,none⟩)]] w fun e w'=>∃ b c:Nat,e=.returned (.func (.func 119) #[] #[.pointer (some ⟨b,0,none⟩)])∧Bx w' b 104 (.func (.func 128) #[] #[.pointer (some ⟨c,0,none⟩)])∧Bx w' c 69 (.func (.func 79) #[] #[.pointer (some ⟨bc,0,none⟩)])∧Below w.heap.size w w':=by
 go_enter Tryz.func76,Tryz.ntmps76
 go_upto_region 1 with fail
 obtain ⟨W0,iX,hW,hX,X0,B0,LX,LI,LS⟩:=mk1 w (.cells #[.func (.func 79) #[] #[.pointer (some ⟨bc,0,none⟩)]] 69)
 rw [hW.out]
 try rw [hX.out]
 clear hW hX
 go_wp2_with (go_at_call 70;(with_reducible refine (mk_two_one (w:=_) iX).mono ?_);rintro e1 w1 ⟨b,rfl,h1,h2⟩;have Y1:=Lib.hid h1;have X1:Hid (Bx w1 iX 69 (.func (.func 79) #[] #[.pointer (some ⟨bc,0,none⟩)])):=Lib.hid (Bx.below X0.out h2);have B1:=Lib.hid (bt B0.out h2);clear h1 h2)
 go_ret
 exact ⟨b,iX,rfl,Y1.out,X1.out,B1.out⟩
end Go.Proofs.YteagpbkbdlmdiaaGreat.Ev
