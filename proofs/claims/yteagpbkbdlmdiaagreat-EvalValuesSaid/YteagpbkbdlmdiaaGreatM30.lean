/-
  The document's eval: same, single, pair, walked.
-/
import Derived.Test.YteagpbkbdlmdiaaGreatM28
import Derived.Test.YteagpbkbdlmdiaaGreatM29
/- The document's eval: same, single, pair, walked. -/
namespace Go.Proofs.YteagpbkbdlmdiaaGreat.Ev
set_option maxRecDepth 100000
open Go Go.RowKit Dt Tx Va
set_option linter.unusedSimpArgs false
set_option linter.unusedVariables false
attribute [local go_sem ↓] Go.wp_at_zero Go.wp_at_succ
def Nine (w:World) (b:Nat) (n:Nd):Prop:=w.heap[b]?=some (.cells #[.int .u8 n.op,.int .i64 n.c,.int .i64 n.s,.string (bs n.n),.int .i64 n.k,.int .i64 n.x,.int .i64 n.y,.int .i64 n.z,.int .i64 n.p] 39 (0,0))
theorem Nine.lt {w:World} {b:Nat} {n:Nd} (h:Nine w b n):b<w.heap.size:=(Array.getElem?_eq_some_iff.1 h).1
theorem Nine.c0 {w:World} {b:Nat} {n:Nd} (h:Nine w b n):w.cell? ⟨b,0,none⟩=some (.int .u8 n.op):=by rw [cell_of_row w _ _ _ _ (0,0) h];rfl
theorem Nine.c1 {w:World} {b:Nat} {n:Nd} (h:Nine w b n):w.cell? ⟨b,1,none⟩=some (.int .i64 n.c):=by rw [cell_of_row w _ _ _ _ (0,0) h];rfl
theorem Nine.c2 {w:World} {b:Nat} {n:Nd} (h:Nine w b n):w.cell? ⟨b,2,none⟩=some (.int .i64 n.s):=by rw [cell_of_row w _ _ _ _ (0,0) h];rfl
theorem Nine.c3 {w:World} {b:Nat} {n:Nd} (h:Nine w b n):w.cell? ⟨b,3,none⟩=some (.string (bs n.n)):=by rw [cell_of_row w _ _ _ _ (0,0) h];rfl
theorem Nine.c4 {w:World} {b:Nat} {n:Nd} (h:Nine w b n):w.cell? ⟨b,4,none⟩=some (.int .i64 n.k):=by rw [cell_of_row w _ _ _ _ (0,0) h];rfl
theorem Nine.c5 {w:World} {b:Nat} {n:Nd} (h:Nine w b n):w.cell? ⟨b,5,none⟩=some (.int .i64 n.x):=by rw [cell_of_row w _ _ _ _ (0,0) h];rfl
theorem Nine.c6 {w:World} {b:Nat} {n:Nd} (h:Nine w b n):w.cell? ⟨b,6,none⟩=some (.int .i64 n.y):=by rw [cell_of_row w _ _ _ _ (0,0) h];rfl
theorem Nine.c7 {w:World} {b:Nat} {n:Nd} (h:Nine w b n):w.cell? ⟨b,7,none⟩=some (.int .i64 n.z):=by rw [cell_of_row w _ _ _ _ (0,0) h];rfl
theorem Nine.c8 {w:World} {b:Nat} {n:Nd} (h:Nine w b n):w.cell? ⟨b,8,none⟩=some (.int .i64 n.p):=by rw [cell_of_row w _ _ _ _ (0,0) h];rfl
theorem Nine.f {w:World} {b:Nat} {n:Nd} (h:Nine w b n) (i:Nat):w.frozen? ⟨b,i,none⟩=false:=frozen_of_row w _ _ _ _ h
theorem Nine.below {w:World} {b:Nat} {n:Nd} {w':World} (h:Nine w b n) (k:Below w.heap.size w w'):Nine w' b n:=(k.block b h.lt).trans h
def OpdB (w:World) (b:Nat) (q:Opd):Prop:=w.heap[b]?=some (.cells #[.int .u8 q.op,.string (bs q.n),.int .i64 q.k] 43 (0,0))
theorem OpdB.lt {w:World} {b:Nat} {q:Opd} (h:OpdB w b q):b<w.heap.size:=(Array.getElem?_eq_some_iff.1 h).1
theorem OpdB.c0 {w:World} {b:Nat} {q:Opd} (h:OpdB w b q):w.cell? ⟨b,0,none⟩=some (.int .u8 q.op):=by rw [cell_of_row w _ _ _ _ (0,0) h];rfl
theorem OpdB.c1 {w:World} {b:Nat} {q:Opd} (h:OpdB w b q):w.cell? ⟨b,1,none⟩=some (.string (bs q.n)):=by rw [cell_of_row w _ _ _ _ (0,0) h];rfl
theorem OpdB.c2 {w:World} {b:Nat} {q:Opd} (h:OpdB w b q):w.cell? ⟨b,2,none⟩=some (.int .i64 q.k):=by rw [cell_of_row w _ _ _ _ (0,0) h];rfl
theorem OpdB.f {w:World} {b:Nat} {q:Opd} (h:OpdB w b q) (i:Nat):w.frozen? ⟨b,i,none⟩=false:=frozen_of_row w _ _ _ _ h
theorem OpdB.below {w:World} {b:Nat} {q:Opd} {w':World} (h:OpdB w b q) (k:Below w.heap.size w w'):OpdB w' b q:=(k.block b h.lt).trans h
def noO:Opd:=⟨0,[],0⟩
theorem hN {w a:World} {i:Nat} {n:Nd} (h:Hid (Nine w i n)) (q:Below w.heap.size w a):Hid (Nine a i n):=Lib.hid (h.out.below q)
theorem hO {w a:World} {i:Nat} {n:Opd} (h:Hid (OpdB w i n)) (q:Below w.heap.size w a):Hid (OpdB a i n):=Lib.hid (h.out.below q)
theorem Nine.cs {w:World} {i:Nat} {n:Nd} (h:Nine w i n):w.cell? ⟨i,0,none⟩=some (.int .u8 n.op)∧w.cell? ⟨i,1,none⟩=some (.int .i64 n.c)∧w.cell? ⟨i,2,none⟩=some (.int .i64 n.s)∧w.cell? ⟨i,3,none⟩=some (.string (bs n.n))∧w.cell? ⟨i,4,none⟩=some (.int .i64 n.k)∧w.cell? ⟨i,5,none⟩=some (.int .i64 n.x)∧w.cell? ⟨i,6,none⟩=some (.int .i64 n.y)∧w.cell? ⟨i,7,none⟩=some (.int .i64 n.z)∧w.cell? ⟨i,8,none⟩=some (.int .i64 n.p):=⟨h.c0,h.c1,h.c2,h.c3,h.c4,h.c5,h.c6,h.c7,h.c8⟩
theorem mkNVVVVZ (w:World) (x0:Nd) (x1:V) (x2:V) (x3:V) (x4:V):∃ (W:World) (i0 i1 i2 i3 i4 i5:Nat),Hid ((((((w.alloc (no x0)).alloc (fo x1)).alloc (fo x2)).alloc (fo x3)).alloc (fo x4)).alloc ((.cells #[.int .u8 0,.int .i64 0,.int .i64 0,.int .i64 0] 33))=W)∧Hid (w.heap.size=i0)∧Hid (w.heap.size+1=i1)∧Hid (w.heap.size+1+1=i2)∧Hid (w.heap.size+1+1+1=i3)∧Hid (w.heap.size+1+1+1+1=i4)∧Hid (w.heap.size+1+1+1+1+1=i5)∧Hid (Nine W i0 x0)∧Hid (Four W i1 x1)∧Hid (Four W i2 x2)∧Hid (Four W i3 x3)∧Hid (Four W i4 x4)∧Hid (Four W i5 noV)∧Hid (Below w.heap.size w W)∧Hid (w.heap.size≤i0)∧Hid (w.heap.size≤i1)∧Hid (w.heap.size≤i2)∧Hid (w.heap.size≤i3)∧Hid (w.heap.size≤i4)∧Hid (w.heap.size≤i5)∧Hid (True∧i0<i1∧i1<i2∧i2<i3∧i3<i4∧i4<i5)∧Hid (W.heap.size=w.heap.size+1+1+1+1+1+1):=mk6 w _ _ _ _ _ _
theorem mkNVZ (w:World) (x0:Nd) (x1:V):∃ (W:World) (i0 i1 i2:Nat),Hid (((w.alloc (no x0)).alloc (fo x1)).alloc ((.cells #[.int .u8 0,.int .i64 0,.int .i64 0,.int .i64 0] 33))=W)∧Hid (w.heap.size=i0)∧Hid (w.heap.size+1=i1)∧Hid (w.heap.size+1+1=i2)∧Hid (Nine W i0 x0)∧Hid (Four W i1 x1)∧Hid (Four W i2 noV)∧Hid (Below w.heap.size w W)∧Hid (w.heap.size≤i0)∧Hid (w.heap.size≤i1)∧Hid (w.heap.size≤i2)∧Hid (True∧i0<i1∧i1<i2)∧Hid (W.heap.size=w.heap.size+1+1+1):=mk3 w _ _ _
theorem mkNQ (w:World) (x0:Nd):∃ (W:World) (i0 i1:Nat),Hid ((w.alloc (no x0)).alloc ((.cells #[.int .u8 0,.string ⟨#[]⟩,.int .i64 0] 43))=W)∧Hid (w.heap.size=i0)∧Hid (w.heap.size+1=i1)∧Hid (Nine W i0 x0)∧Hid (OpdB W i1 noO)∧Hid (Below w.heap.size w W)∧Hid (w.heap.size≤i0)∧Hid (w.heap.size≤i1)∧Hid (True∧i0<i1)∧Hid (W.heap.size=w.heap.size+1+1):=mk2 w _ _
def TP (t:Int × Int × Int) (w:World) (e:Ending) (w':World):Prop:=e=.returned (.tuple #[.agg #[.int .i64 t.1,.int .i64 t.2.1],.int .i64 t.2.2])∧Below w.heap.size w w'
theorem rsub_t {w:World} (c c':Int) (n n':Nat) (hc:fits c) (hc':fits c') (hn:n≤9) (hn':n'≤9):Calls Tryz.prog 85 #[.agg #[.int .i64 c,.int .i64 (n:Int)],.agg #[.int .i64 c',.int .i64 (n':Int)]] w (TP (decT (un c n - un c' n') 9) w):=rSub_any c c' n n' _ w hc hc' hn hn' (decT_val _ _)
theorem rsub0_t {w:World} (c':Int) (n':Nat) (hc':fits c') (hn':n'≤9):Calls Tryz.prog 85 #[.agg #[.int .i64 0,.int .i64 0],.agg #[.int .i64 c',.int .i64 (n':Int)]] w (TP (decT (0 - un c' n') 9) w):=rSub_any 0 c' 0 n' _ w (by decide) hc' (by decide) hn' (decT_val _ _)
theorem radd_t {w:World} (c c':Int) (n n':Nat) (hc:fits c) (hc':fits c') (hn:n≤9) (hn':n'≤9):Calls Tryz.prog 86 #[.agg #[.int .i64 c,.int .i64 (n:Int)],.agg #[.int .i64 c',.int .i64 (n':Int)]] w (TP (decT (un c n+un c' n') 9) w):=rAdd_any c c' n n' _ w hc hc' hn hn' (decT_val _ _)
theorem rmul_t {w:World} (c c':Int) (n n':Nat) (hc:fits c) (hc':fits c') (hn:n≤9) (hn':n'≤9):Calls Tryz.prog 87 #[.agg #[.int .i64 c,.int .i64 (n:Int)],.agg #[.int .i64 c',.int .i64 (n':Int)]] w (TP (decT (evenZ (un c n*un c' n') (10 ^ 9)) 9) w):=rMul_any c c' n n' _ w hc hc' hn hn' (decT_val _ _)
theorem rdiv_t {w:World} (c c':Int) (n n':Nat) (hc:fits c) (hc':fits c') (hn:n≤9) (hn':n'≤9) (h0:c' ≠ 0):Calls Tryz.prog 88 #[.agg #[.int .i64 c,.int .i64 (n:Int)],.agg #[.int .i64 c',.int .i64 (n':Int)]] w (TP (decT (evenZ ((if c'<0 then -(un c n) else un c n)*((10 ^ 9:Nat):Int)) (un c' n').natAbs) 9) w):=rDiv_any c c' n n' _ w hc hc' hn hn' h0 (decT_val _ _)
theorem rround_t {w:World} (c:Int) (n t:Nat) (hc:fits c) (hn:n≤9) (ht:t≤9):Calls Tryz.prog 83 #[.agg #[.int .i64 c,.int .i64 (n:Int)],.int .i64 (t:Int)] w (TP (decT (evenZ (un c n) (10 ^ (9 - t))) t) w):=rRound_any c n t _ w hc hn ht (decT_val _ _)
theorem rput_t {w:World} (c:Int) (n:Nat) (hc:fits c) (hn:n≤9):Calls Tryz.prog 38 #[.agg #[.int .i64 c,.int .i64 (n:Int)]] w (TP (decT c n) w):=rPut_any c n _ w hc hn (decT_val _ _)
theorem rcmp_t {w:World} (c c':Int) (n n':Nat) (hc:fits c) (hc':fits c') (hn:n≤9) (hn':n'≤9):Calls Tryz.prog 84 #[.agg #[.int .i64 c,.int .i64 (n:Int)],.agg #[.int .i64 c',.int .i64 (n':Int)]] w fun e w'=>e=.returned (.int .i64 (cmpZ (un c n) (un c' n')))∧Below w.heap.size w w':=rCmp_any c c' n n' _ w hc hc' hn hn' rfl
theorem decT_err (u:Int) (s:Nat):(decT u s).2.2=0∨(decT u s).2.2=2∨(decT u s).2.2=11∨(decT u s).2.2=12:=by unfold decT;split;exact .inl rfl;exact .inr (.inr (.inl rfl))
theorem rpair_10 {w:World} (ca cb:Int) (na nb:Nat) (ha:fits ca) (hb:fits cb) (la:na≤9) (lb:nb≤9):Calls Tryz.prog 43 #[.int .u8 10,.agg #[.int .u8 1,.int .i64 ca,.int .i64 (na:Int),.int .i64 0],.agg #[.int .u8 1,.int .i64 cb,.int .i64 (nb:Int),.int .i64 0]] w (VP (pairN 10 ⟨1,ca,(na:Int),0⟩ ⟨1,cb,(nb:Int),0⟩) w):=by
 have CM:=fun w=>rcmp_t (w:=w) ca cb na nb ha hb la lb
 have E:pairN 10 ⟨1,ca,(na:Int),0⟩ ⟨1,cb,(nb:Int),0⟩=truthV (decide (cmpZ (un ca na) (un cb nb)<0)):=rfl
 rw [E]
 obtain ⟨z,hz⟩:∃ z,Hid (cmpZ (un ca na) (un cb nb)=z):=⟨_,Lib.hid rfl⟩
 rw [hz.out]
 simp only [hz.out] at CM
 clear E hz
 try dsimp only [av,an,ao]
 go_enter Tryz.func43,Tryz.ntmps43
 go_upto_region 1 with fail
 obtain ⟨W0,iX,iY,iR,hW,hX,hY,hR,X0,Y0,R0,B0,LX,LY,LR,LI,LS⟩:=mkVVZ w ⟨1,ca,(na:Int),0⟩ ⟨1,cb,(nb:Int),0⟩
 rw [hW.out];try rw [hR.out];try rw [hY.out];try rw [hX.out]
 clear hW hX hY hR
 obtain ⟨Xc0,Xc1,Xc2,Xc3⟩:=X0.out.cs
 obtain ⟨Yc0,Yc1,Yc2,Yc3⟩:=Y0.out.cs
 go_wp2_with (first | (go_at_call 84;(with_reducible refine (CM _).mono ?_);rintro e1 w1 ⟨rfl,q1⟩;have B1:=hB B0 q1;have X1:=hF X0 q1;have Y1:=hF Y0 q1;have R1:=hF R0 q1;clear CM;clear q1 B0 X0 Y0 R0) | (go_at_call 16;(with_reducible refine (rtruth_vp (w:=_) _).mono ?_);rintro e2 w2 ⟨rfl,q2⟩;have B2:=hB B1 q2;have R2:=hF R1 q2;clear q2 B1 R1;obtain ⟨Rc0,Rc1,Rc2,Rc3,Rf0,Rf1,Rf2,Rf3⟩:=R2.out.cf))
 exact ret4 6 rfl R2 B2 LR rfl rfl rfl
theorem rpair_11 {w:World} (ca cb:Int) (na nb:Nat) (ha:fits ca) (hb:fits cb) (la:na≤9) (lb:nb≤9):Calls Tryz.prog 43 #[.int .u8 11,.agg #[.int .u8 1,.int .i64 ca,.int .i64 (na:Int),.int .i64 0],.agg #[.int .u8 1,.int .i64 cb,.int .i64 (nb:Int),.int .i64 0]] w (VP (pairN 11 ⟨1,ca,(na:Int),0⟩ ⟨1,cb,(nb:Int),0⟩) w):=by
 have CM:=fun w=>rcmp_t (w:=w) ca cb na nb ha hb la lb
 have E:pairN 11 ⟨1,ca,(na:Int),0⟩ ⟨1,cb,(nb:Int),0⟩=truthV (decide (cmpZ (un ca na) (un cb nb)≤0)):=rfl
 rw [E]
 obtain ⟨z,hz⟩:∃ z,Hid (cmpZ (un ca na) (un cb nb)=z):=⟨_,Lib.hid rfl⟩
 rw [hz.out]
 simp only [hz.out] at CM
 clear E hz
 try dsimp only [av,an,ao]
 go_enter Tryz.func43,Tryz.ntmps43
 go_upto_region 1 with fail
 obtain ⟨W0,iX,iY,iR,hW,hX,hY,hR,X0,Y0,R0,B0,LX,LY,LR,LI,LS⟩:=mkVVZ w ⟨1,ca,(na:Int),0⟩ ⟨1,cb,(nb:Int),0⟩
 rw [hW.out];try rw [hR.out];try rw [hY.out];try rw [hX.out]
 clear hW hX hY hR
 obtain ⟨Xc0,Xc1,Xc2,Xc3⟩:=X0.out.cs
 obtain ⟨Yc0,Yc1,Yc2,Yc3⟩:=Y0.out.cs
 go_wp2_with (first | (go_at_call 84;(with_reducible refine (CM _).mono ?_);rintro e1 w1 ⟨rfl,q1⟩;have B1:=hB B0 q1;have X1:=hF X0 q1;have Y1:=hF Y0 q1;have R1:=hF R0 q1;clear CM;clear q1 B0 X0 Y0 R0) | (go_at_call 16;(with_reducible refine (rtruth_vp (w:=_) _).mono ?_);rintro e2 w2 ⟨rfl,q2⟩;have B2:=hB B1 q2;have R2:=hF R1 q2;clear q2 B1 R1;obtain ⟨Rc0,Rc1,Rc2,Rc3,Rf0,Rf1,Rf2,Rf3⟩:=R2.out.cf))
 exact ret4 6 rfl R2 B2 LR rfl rfl rfl
theorem rpair_12 {w:World} (ca cb:Int) (na nb:Nat) (ha:fits ca) (hb:fits cb) (la:na≤9) (lb:nb≤9):Calls Tryz.prog 43 #[.int .u8 12,.agg #[.int .u8 1,.int .i64 ca,.int .i64 (na:Int),.int .i64 0],.agg #[.int .u8 1,.int .i64 cb,.int .i64 (nb:Int),.int .i64 0]] w (VP (pairN 12 ⟨1,ca,(na:Int),0⟩ ⟨1,cb,(nb:Int),0⟩) w):=by
 have CM:=fun w=>rcmp_t (w:=w) ca cb na nb ha hb la lb
 have E:pairN 12 ⟨1,ca,(na:Int),0⟩ ⟨1,cb,(nb:Int),0⟩=truthV (decide (cmpZ (un ca na) (un cb nb)>0)):=rfl
 rw [E]
 obtain ⟨z,hz⟩:∃ z,Hid (cmpZ (un ca na) (un cb nb)=z):=⟨_,Lib.hid rfl⟩
 rw [hz.out]
 simp only [hz.out] at CM
 clear E hz
 try dsimp only [av,an,ao]
 go_enter Tryz.func43,Tryz.ntmps43
 go_upto_region 1 with fail
 obtain ⟨W0,iX,iY,iR,hW,hX,hY,hR,X0,Y0,R0,B0,LX,LY,LR,LI,LS⟩:=mkVVZ w ⟨1,ca,(na:Int),0⟩ ⟨1,cb,(nb:Int),0⟩
 rw [hW.out];try rw [hR.out];try rw [hY.out];try rw [hX.out]
 clear hW hX hY hR
 obtain ⟨Xc0,Xc1,Xc2,Xc3⟩:=X0.out.cs
 obtain ⟨Yc0,Yc1,Yc2,Yc3⟩:=Y0.out.cs
 go_wp2_with (first | (go_at_call 84;(with_reducible refine (CM _).mono ?_);rintro e1 w1 ⟨rfl,q1⟩;have B1:=hB B0 q1;have X1:=hF X0 q1;have Y1:=hF Y0 q1;have R1:=hF R0 q1;clear CM;clear q1 B0 X0 Y0 R0) | (go_at_call 16;(with_reducible refine (rtruth_vp (w:=_) _).mono ?_);rintro e2 w2 ⟨rfl,q2⟩;have B2:=hB B1 q2;have R2:=hF R1 q2;clear q2 B1 R1;obtain ⟨Rc0,Rc1,Rc2,Rc3,Rf0,Rf1,Rf2,Rf3⟩:=R2.out.cf))
 exact ret4 6 rfl R2 B2 LR rfl rfl rfl
theorem rpair_13 {w:World} (ca cb:Int) (na nb:Nat) (ha:fits ca) (hb:fits cb) (la:na≤9) (lb:nb≤9):Calls Tryz.prog 43 #[.int .u8 13,.agg #[.int .u8 1,.int .i64 ca,.int .i64 (na:Int),.int .i64 0],.agg #[.int .u8 1,.int .i64 cb,.int .i64 (nb:Int),.int .i64 0]] w (VP (pairN 13 ⟨1,ca,(na:Int),0⟩ ⟨1,cb,(nb:Int),0⟩) w):=by
 have CM:=fun w=>rcmp_t (w:=w) ca cb na nb ha hb la lb
 have E:pairN 13 ⟨1,ca,(na:Int),0⟩ ⟨1,cb,(nb:Int),0⟩=truthV (decide (cmpZ (un ca na) (un cb nb) ≥ 0)):=rfl
 rw [E]
 obtain ⟨z,hz⟩:∃ z,Hid (cmpZ (un ca na) (un cb nb)=z):=⟨_,Lib.hid rfl⟩
 rw [hz.out]
 simp only [hz.out] at CM
 clear E hz
 try dsimp only [av,an,ao]
 go_enter Tryz.func43,Tryz.ntmps43
 go_upto_region 1 with fail
 obtain ⟨W0,iX,iY,iR,hW,hX,hY,hR,X0,Y0,R0,B0,LX,LY,LR,LI,LS⟩:=mkVVZ w ⟨1,ca,(na:Int),0⟩ ⟨1,cb,(nb:Int),0⟩
 rw [hW.out];try rw [hR.out];try rw [hY.out];try rw [hX.out]
 clear hW hX hY hR
 obtain ⟨Xc0,Xc1,Xc2,Xc3⟩:=X0.out.cs
 obtain ⟨Yc0,Yc1,Yc2,Yc3⟩:=Y0.out.cs
 go_wp2_with (first | (go_at_call 84;(with_reducible refine (CM _).mono ?_);rintro e1 w1 ⟨rfl,q1⟩;have B1:=hB B0 q1;have X1:=hF X0 q1;have Y1:=hF Y0 q1;have R1:=hF R0 q1;clear CM;clear q1 B0 X0 Y0 R0) | (go_at_call 16;(with_reducible refine (rtruth_vp (w:=_) _).mono ?_);rintro e2 w2 ⟨rfl,q2⟩;have B2:=hB B1 q2;have R2:=hF R1 q2;clear q2 B1 R1;obtain ⟨Rc0,Rc1,Rc2,Rc3,Rf0,Rf1,Rf2,Rf3⟩:=R2.out.cf))
 exact ret4 6 rfl R2 B2 LR rfl rfl rfl
theorem rpair_14 {w:World} (ca cb:Int) (na nb:Nat) (ha:fits ca) (hb:fits cb) (la:na≤9) (lb:nb≤9):Calls Tryz.prog 43 #[.int .u8 14,.agg #[.int .u8 1,.int .i64 ca,.int .i64 (na:Int),.int .i64 0],.agg #[.int .u8 1,.int .i64 cb,.int .i64 (nb:Int),.int .i64 0]] w (VP (pairN 14 ⟨1,ca,(na:Int),0⟩ ⟨1,cb,(nb:Int),0⟩) w):=by
 have CM:=fun w=>rcmp_t (w:=w) ca cb na nb ha hb la lb
 obtain ⟨z,hz⟩:∃ z,Hid (cmpZ (un ca na) (un cb nb)=z):=⟨_,Lib.hid rfl⟩
 simp only [hz.out] at CM
 clear hz
 have E:pairN 14 ⟨1,ca,(na:Int),0⟩ ⟨1,cb,(nb:Int),0⟩=toldV (decT (un ca na+un cb nb) 9):=rfl
 rw [E]
 have OPC:=fun w=>radd_t (w:=w) ca cb na nb ha hb la lb
 have ER:=decT_err (un ca na+un cb nb) 9
 obtain ⟨⟨p,q,f⟩,ht⟩:∃ t,Hid (decT (un ca na+un cb nb) 9=t):=⟨_,Lib.hid rfl⟩
 rw [ht.out] at ER⊢
 simp only [ht.out] at OPC
 clear E ht
 have ER:=Lib.hid ER
 try dsimp only [av,an,ao]
 go_enter Tryz.func43,Tryz.ntmps43
 go_upto_region 1 with fail
 obtain ⟨W0,iX,iY,iR,hW,hX,hY,hR,X0,Y0,R0,B0,LX,LY,LR,LI,LS⟩:=mkVVZ w ⟨1,ca,(na:Int),0⟩ ⟨1,cb,(nb:Int),0⟩
 rw [hW.out];try rw [hR.out];try rw [hY.out];try rw [hX.out]
 clear hW hX hY hR
 obtain ⟨Xc0,Xc1,Xc2,Xc3⟩:=X0.out.cs
 obtain ⟨Yc0,Yc1,Yc2,Yc3⟩:=Y0.out.cs
 go_wp2_with (first | (go_at_call 84;(with_reducible refine (CM _).mono ?_);rintro e1 w1 ⟨rfl,q1⟩;have B1:=hB B0 q1;have X1:=hF X0 q1;have Y1:=hF Y0 q1;have R1:=hF R0 q1;clear CM;clear q1 B0 X0 Y0 R0;obtain ⟨Xc0,Xc1,Xc2,Xc3⟩:=X1.out.cs;obtain ⟨Yc0,Yc1,Yc2,Yc3⟩:=Y1.out.cs) | (go_at_call 86;(with_reducible refine (OPC _).mono ?_);rintro e2 w2 ⟨rfl,q2⟩;have B2:=hB B1 q2;have R2:=hF R1 q2;clear OPC;clear q2 B1 R1) | (go_at_call 37;(with_reducible refine (rdec_vp (w:=_) p q f ER.out).mono ?_);rintro e3 w3 ⟨rfl,q3⟩;have B3:=hB B2 q3;have R3:=hF R2 q3;clear q3 B2 R2;obtain ⟨Rc0,Rc1,Rc2,Rc3,Rf0,Rf1,Rf2,Rf3⟩:=R3.out.cf))
 exact ret4 6 rfl R3 B3 LR rfl rfl rfl
theorem rpair_15 {w:World} (ca cb:Int) (na nb:Nat) (ha:fits ca) (hb:fits cb) (la:na≤9) (lb:nb≤9):Calls Tryz.prog 43 #[.int .u8 15,.agg #[.int .u8 1,.int .i64 ca,.int .i64 (na:Int),.int .i64 0],.agg #[.int .u8 1,.int .i64 cb,.int .i64 (nb:Int),.int .i64 0]] w (VP (pairN 15 ⟨1,ca,(na:Int),0⟩ ⟨1,cb,(nb:Int),0⟩) w):=by
 have CM:=fun w=>rcmp_t (w:=w) ca cb na nb ha hb la lb
 obtain ⟨z,hz⟩:∃ z,Hid (cmpZ (un ca na) (un cb nb)=z):=⟨_,Lib.hid rfl⟩
 simp only [hz.out] at CM
 clear hz
 have E:pairN 15 ⟨1,ca,(na:Int),0⟩ ⟨1,cb,(nb:Int),0⟩=toldV (decT (un ca na - un cb nb) 9):=rfl
 rw [E]
 have OPC:=fun w=>rsub_t (w:=w) ca cb na nb ha hb la lb
 have ER:=decT_err (un ca na - un cb nb) 9
 obtain ⟨⟨p,q,f⟩,ht⟩:∃ t,Hid (decT (un ca na - un cb nb) 9=t):=⟨_,Lib.hid rfl⟩
 rw [ht.out] at ER⊢
 simp only [ht.out] at OPC
 clear E ht
 have ER:=Lib.hid ER
 try dsimp only [av,an,ao]
 go_enter Tryz.func43,Tryz.ntmps43
 go_upto_region 1 with fail
 obtain ⟨W0,iX,iY,iR,hW,hX,hY,hR,X0,Y0,R0,B0,LX,LY,LR,LI,LS⟩:=mkVVZ w ⟨1,ca,(na:Int),0⟩ ⟨1,cb,(nb:Int),0⟩
 rw [hW.out];try rw [hR.out];try rw [hY.out];try rw [hX.out]
 clear hW hX hY hR
 obtain ⟨Xc0,Xc1,Xc2,Xc3⟩:=X0.out.cs
 obtain ⟨Yc0,Yc1,Yc2,Yc3⟩:=Y0.out.cs
 go_wp2_with (first | (go_at_call 84;(with_reducible refine (CM _).mono ?_);rintro e1 w1 ⟨rfl,q1⟩;have B1:=hB B0 q1;have X1:=hF X0 q1;have Y1:=hF Y0 q1;have R1:=hF R0 q1;clear CM;clear q1 B0 X0 Y0 R0;obtain ⟨Xc0,Xc1,Xc2,Xc3⟩:=X1.out.cs;obtain ⟨Yc0,Yc1,Yc2,Yc3⟩:=Y1.out.cs) | (go_at_call 85;(with_reducible refine (OPC _).mono ?_);rintro e2 w2 ⟨rfl,q2⟩;have B2:=hB B1 q2;have R2:=hF R1 q2;clear OPC;clear q2 B1 R1) | (go_at_call 37;(with_reducible refine (rdec_vp (w:=_) p q f ER.out).mono ?_);rintro e3 w3 ⟨rfl,q3⟩;have B3:=hB B2 q3;have R3:=hF R2 q3;clear q3 B2 R2;obtain ⟨Rc0,Rc1,Rc2,Rc3,Rf0,Rf1,Rf2,Rf3⟩:=R3.out.cf))
 exact ret4 6 rfl R3 B3 LR rfl rfl rfl
theorem rpair_16 {w:World} (ca cb:Int) (na nb:Nat) (ha:fits ca) (hb:fits cb) (la:na≤9) (lb:nb≤9):Calls Tryz.prog 43 #[.int .u8 16,.agg #[.int .u8 1,.int .i64 ca,.int .i64 (na:Int),.int .i64 0],.agg #[.int .u8 1,.int .i64 cb,.int .i64 (nb:Int),.int .i64 0]] w (VP (pairN 16 ⟨1,ca,(na:Int),0⟩ ⟨1,cb,(nb:Int),0⟩) w):=by
 have CM:=fun w=>rcmp_t (w:=w) ca cb na nb ha hb la lb
 obtain ⟨z,hz⟩:∃ z,Hid (cmpZ (un ca na) (un cb nb)=z):=⟨_,Lib.hid rfl⟩
 simp only [hz.out] at CM
 clear hz
 have E:pairN 16 ⟨1,ca,(na:Int),0⟩ ⟨1,cb,(nb:Int),0⟩=toldV (decT (evenZ (un ca na*un cb nb) (10 ^ 9)) 9):=rfl
 rw [E]
 have OPC:=fun w=>rmul_t (w:=w) ca cb na nb ha hb la lb
 have ER:=decT_err (evenZ (un ca na*un cb nb) (10 ^ 9)) 9
 obtain ⟨⟨p,q,f⟩,ht⟩:∃ t,Hid (decT (evenZ (un ca na*un cb nb) (10 ^ 9)) 9=t):=⟨_,Lib.hid rfl⟩
 rw [ht.out] at ER⊢
 simp only [ht.out] at OPC
 clear E ht
 have ER:=Lib.hid ER
 try dsimp only [av,an,ao]
 go_enter Tryz.func43,Tryz.ntmps43
 go_upto_region 1 with fail
 obtain ⟨W0,iX,iY,iR,hW,hX,hY,hR,X0,Y0,R0,B0,LX,LY,LR,LI,LS⟩:=mkVVZ w ⟨1,ca,(na:Int),0⟩ ⟨1,cb,(nb:Int),0⟩
 rw [hW.out];try rw [hR.out];try rw [hY.out];try rw [hX.out]
 clear hW hX hY hR
 obtain ⟨Xc0,Xc1,Xc2,Xc3⟩:=X0.out.cs
 obtain ⟨Yc0,Yc1,Yc2,Yc3⟩:=Y0.out.cs
 go_wp2_with (first | (go_at_call 84;(with_reducible refine (CM _).mono ?_);rintro e1 w1 ⟨rfl,q1⟩;have B1:=hB B0 q1;have X1:=hF X0 q1;have Y1:=hF Y0 q1;have R1:=hF R0 q1;clear CM;clear q1 B0 X0 Y0 R0;obtain ⟨Xc0,Xc1,Xc2,Xc3⟩:=X1.out.cs;obtain ⟨Yc0,Yc1,Yc2,Yc3⟩:=Y1.out.cs) | (go_at_call 87;(with_reducible refine (OPC _).mono ?_);rintro e2 w2 ⟨rfl,q2⟩;have B2:=hB B1 q2;have R2:=hF R1 q2;clear OPC;clear q2 B1 R1) | (go_at_call 37;(with_reducible refine (rdec_vp (w:=_) p q f ER.out).mono ?_);rintro e3 w3 ⟨rfl,q3⟩;have B3:=hB B2 q3;have R3:=hF R2 q3;clear q3 B2 R2;obtain ⟨Rc0,Rc1,Rc2,Rc3,Rf0,Rf1,Rf2,Rf3⟩:=R3.out.cf))
 exact ret4 6 rfl R3 B3 LR rfl rfl rfl
theorem rpair_17 {w:World} (ca cb:Int) (na nb:Nat) (ha:fits ca) (hb:fits cb) (la:na≤9) (lb:nb≤9):Calls Tryz.prog 43 #[.int .u8 17,.agg #[.int .u8 1,.int .i64 ca,.int .i64 (na:Int),.int .i64 0],.agg #[.int .u8 1,.int .i64 cb,.int .i64 (nb:Int),.int .i64 0]] w (VP (pairN 17 ⟨1,ca,(na:Int),0⟩ ⟨1,cb,(nb:Int),0⟩) w):=by
 have CM:=fun w=>rcmp_t (w:=w) ca cb na nb ha hb la lb
 obtain ⟨z,hz⟩:∃ z,Hid (cmpZ (un ca na) (un cb nb)=z):=⟨_,Lib.hid rfl⟩
 simp only [hz.out] at CM
 clear hz
 by_cases h0:cb=0
 ·subst h0
  have E:pairN 17 ⟨1,ca,(na:Int),0⟩ ⟨1,0,(nb:Int),0⟩=badE 12:=rfl
  rw [E]
  clear E
  try dsimp only [av,an,ao]
  go_enter Tryz.func43,Tryz.ntmps43
  go_upto_region 1 with fail
  obtain ⟨W0,iX,iY,iR,hW,hX,hY,hR,X0,Y0,R0,B0,LX,LY,LR,LI,LS⟩:=mkVVZ w ⟨1,ca,(na:Int),0⟩ ⟨1,0,(nb:Int),0⟩
  rw [hW.out];try rw [hR.out];try rw [hY.out];try rw [hX.out]
  clear hW hX hY hR
  obtain ⟨Xc0,Xc1,Xc2,Xc3⟩:=X0.out.cs
  obtain ⟨Yc0,Yc1,Yc2,Yc3⟩:=Y0.out.cs
  go_wp2_with (first | (go_at_call 84;(with_reducible refine (CM _).mono ?_);rintro e1 w1 ⟨rfl,q1⟩;have B1:=hB B0 q1;have X1:=hF X0 q1;have Y1:=hF Y0 q1;have R1:=hF R0 q1;clear CM;clear q1 B0 X0 Y0 R0;obtain ⟨Xc0,Xc1,Xc2,Xc3⟩:=X1.out.cs;obtain ⟨Yc0,Yc1,Yc2,Yc3⟩:=Y1.out.cs) | (go_at_call 15;(with_reducible refine (rbad_vp (w:=_) 12).mono ?_);rintro e2 w2 ⟨rfl,q2⟩;have B2:=hB B1 q2;have R2:=hF R1 q2;clear q2 B1 R1;obtain ⟨Rc0,Rc1,Rc2,Rc3,Rf0,Rf1,Rf2,Rf3⟩:=R2.out.cf))
  exact ret4 6 rfl R2 B2 LR rfl rfl rfl
 ·have g1:decide (cb=0)=false:=decide_eq_false h0
  have g2:(cb==0)=false:=by simpa using h0
  have E:pairN 17 ⟨1,ca,(na:Int),0⟩ ⟨1,cb,(nb:Int),0⟩=toldV (decT (evenZ ((if cb<0 then -(un ca na) else un ca na)*((10 ^ 9:Nat):Int)) (un cb nb).natAbs) 9):=by show toldV (divT _ _)=_;unfold divT;rw [if_neg h0];rfl
  rw [E]
  have OPC:=fun w=>rdiv_t (w:=w) ca cb na nb ha hb la lb h0
  have ER:=decT_err (evenZ ((if cb<0 then -(un ca na) else un ca na)*((10 ^ 9:Nat):Int)) (un cb nb).natAbs) 9
  obtain ⟨⟨p,q,f⟩,ht⟩:∃ t,Hid (decT (evenZ ((if cb<0 then -(un ca na) else un ca na)*((10 ^ 9:Nat):Int)) (un cb nb).natAbs) 9=t):=⟨_,Lib.hid rfl⟩
  rw [ht.out] at ER⊢
  simp only [ht.out] at OPC
  clear E h0 ht
  have ER:=Lib.hid ER
  try dsimp only [av,an,ao]
  go_enter Tryz.func43,Tryz.ntmps43
  go_upto_region 1 with fail
  obtain ⟨W0,iX,iY,iR,hW,hX,hY,hR,X0,Y0,R0,B0,LX,LY,LR,LI,LS⟩:=mkVVZ w ⟨1,ca,(na:Int),0⟩ ⟨1,cb,(nb:Int),0⟩
  rw [hW.out];try rw [hR.out];try rw [hY.out];try rw [hX.out]
  clear hW hX hY hR
  obtain ⟨Xc0,Xc1,Xc2,Xc3⟩:=X0.out.cs
  obtain ⟨Yc0,Yc1,Yc2,Yc3⟩:=Y0.out.cs
  go_wp2_with (first | (go_at_call 84;(with_reducible refine (CM _).mono ?_);rintro e1 w1 ⟨rfl,q1⟩;have B1:=hB B0 q1;have X1:=hF X0 q1;have Y1:=hF Y0 q1;have R1:=hF R0 q1;clear CM;clear q1 B0 X0 Y0 R0;obtain ⟨Xc0,Xc1,Xc2,Xc3⟩:=X1.out.cs;obtain ⟨Yc0,Yc1,Yc2,Yc3⟩:=Y1.out.cs) | (go_at_call 88;(with_reducible refine (OPC _).mono ?_);rintro e2 w2 ⟨rfl,q2⟩;have B2:=hB B1 q2;have R2:=hF R1 q2;clear OPC;clear q2 B1 R1) | (go_at_call 37;(with_reducible refine (rdec_vp (w:=_) p q f ER.out).mono ?_);rintro e3 w3 ⟨rfl,q3⟩;have B3:=hB B2 q3;have R3:=hF R2 q3;clear q3 B2 R2;obtain ⟨Rc0,Rc1,Rc2,Rc3,Rf0,Rf1,Rf2,Rf3⟩:=R3.out.cf))
  exact ret4 6 rfl R3 B3 LR rfl rfl rfl
theorem rpair_20 {w:World} (ca cb:Int) (na nb:Nat) (ha:fits ca) (hb:fits cb) (la:na≤9) (lb:nb≤9):Calls Tryz.prog 43 #[.int .u8 20,.agg #[.int .u8 1,.int .i64 ca,.int .i64 (na:Int),.int .i64 0],.agg #[.int .u8 1,.int .i64 cb,.int .i64 (nb:Int),.int .i64 0]] w (VP (pairN 20 ⟨1,ca,(na:Int),0⟩ ⟨1,cb,(nb:Int),0⟩) w):=by
 have CM:=fun w=>rcmp_t (w:=w) ca cb na nb ha hb la lb
 obtain ⟨z,hz⟩:∃ z,Hid (cmpZ (un ca na) (un cb nb)=z):=⟨_,Lib.hid rfl⟩
 have E:pairN 20 ⟨1,ca,(na:Int),0⟩ ⟨1,cb,(nb:Int),0⟩=if z<0 then ⟨1,ca,(na:Int),0⟩ else ⟨1,cb,(nb:Int),0⟩:=by show (if cmpZ (un ca na) (un cb nb)<0 then _ else _)=_;rw [hz.out]
 rw [E]
 simp only [hz.out] at CM
 clear E hz
 by_cases hzz:z<0
 ·rw [if_pos hzz]
  have g1:decide (z<0)=true:=decide_eq_true hzz
  clear hzz
  try dsimp only [av,an,ao]
  go_enter Tryz.func43,Tryz.ntmps43
  go_upto_region 1 with fail
  obtain ⟨W0,iX,iY,iR,hW,hX,hY,hR,X0,Y0,R0,B0,LX,LY,LR,LI,LS⟩:=mkVVZ w ⟨1,ca,(na:Int),0⟩ ⟨1,cb,(nb:Int),0⟩
  rw [hW.out];try rw [hR.out];try rw [hY.out];try rw [hX.out]
  clear hW hX hY hR
  obtain ⟨Xc0,Xc1,Xc2,Xc3⟩:=X0.out.cs
  obtain ⟨Yc0,Yc1,Yc2,Yc3⟩:=Y0.out.cs
  go_wp2_with (first | (go_at_call 84;(with_reducible refine (CM _).mono ?_);rintro e1 w1 ⟨rfl,q1⟩;have B1:=hB B0 q1;have X1:=hF X0 q1;have Y1:=hF Y0 q1;have R1:=hF R0 q1;clear CM;clear q1 B0 X0 Y0 R0;obtain ⟨Xc0,Xc1,Xc2,Xc3⟩:=X1.out.cs;obtain ⟨Yc0,Yc1,Yc2,Yc3⟩:=Y1.out.cs;obtain ⟨Rc0,Rc1,Rc2,Rc3,Rf0,Rf1,Rf2,Rf3⟩:=R1.out.cf))
  exact ret4 6 rfl R1 B1 LR rfl rfl rfl
 ·rw [if_neg hzz]
  have g1:decide (z<0)=false:=decide_eq_false hzz
  clear hzz
  try dsimp only [av,an,ao]
  go_enter Tryz.func43,Tryz.ntmps43
  go_upto_region 1 with fail
  obtain ⟨W0,iX,iY,iR,hW,hX,hY,hR,X0,Y0,R0,B0,LX,LY,LR,LI,LS⟩:=mkVVZ w ⟨1,ca,(na:Int),0⟩ ⟨1,cb,(nb:Int),0⟩
  rw [hW.out];try rw [hR.out];try rw [hY.out];try rw [hX.out]
  clear hW hX hY hR
  obtain ⟨Xc0,Xc1,Xc2,Xc3⟩:=X0.out.cs
  obtain ⟨Yc0,Yc1,Yc2,Yc3⟩:=Y0.out.cs
  go_wp2_with (first | (go_at_call 84;(with_reducible refine (CM _).mono ?_);rintro e1 w1 ⟨rfl,q1⟩;have B1:=hB B0 q1;have X1:=hF X0 q1;have Y1:=hF Y0 q1;have R1:=hF R0 q1;clear CM;clear q1 B0 X0 Y0 R0;obtain ⟨Xc0,Xc1,Xc2,Xc3⟩:=X1.out.cs;obtain ⟨Yc0,Yc1,Yc2,Yc3⟩:=Y1.out.cs;obtain ⟨Rc0,Rc1,Rc2,Rc3,Rf0,Rf1,Rf2,Rf3⟩:=R1.out.cf))
  exact ret4 6 rfl R1 B1 LR rfl rfl rfl
theorem rpair_21 {w:World} (ca cb:Int) (na nb:Nat) (ha:fits ca) (hb:fits cb) (la:na≤9) (lb:nb≤9):Calls Tryz.prog 43 #[.int .u8 21,.agg #[.int .u8 1,.int .i64 ca,.int .i64 (na:Int),.int .i64 0],.agg #[.int .u8 1,.int .i64 cb,.int .i64 (nb:Int),.int .i64 0]] w (VP (pairN 21 ⟨1,ca,(na:Int),0⟩ ⟨1,cb,(nb:Int),0⟩) w):=by
 have CM:=fun w=>rcmp_t (w:=w) ca cb na nb ha hb la lb
 obtain ⟨z,hz⟩:∃ z,Hid (cmpZ (un ca na) (un cb nb)=z):=⟨_,Lib.hid rfl⟩
 have E:pairN 21 ⟨1,ca,(na:Int),0⟩ ⟨1,cb,(nb:Int),0⟩=if z>0 then ⟨1,ca,(na:Int),0⟩ else ⟨1,cb,(nb:Int),0⟩:=by show (if cmpZ (un ca na) (un cb nb)>0 then _ else _)=_;rw [hz.out]
 rw [E]
 simp only [hz.out] at CM
 clear E hz
 by_cases hzz:z>0
 ·rw [if_pos hzz]
  have g1:decide (z>0)=true:=decide_eq_true hzz
  have g2:decide (0<z)=true:=decide_eq_true hzz
  clear hzz
  try dsimp only [av,an,ao]
  go_enter Tryz.func43,Tryz.ntmps43
  go_upto_region 1 with fail
  obtain ⟨W0,iX,iY,iR,hW,hX,hY,hR,X0,Y0,R0,B0,LX,LY,LR,LI,LS⟩:=mkVVZ w ⟨1,ca,(na:Int),0⟩ ⟨1,cb,(nb:Int),0⟩
  rw [hW.out];try rw [hR.out];try rw [hY.out];try rw [hX.out]
  clear hW hX hY hR
  obtain ⟨Xc0,Xc1,Xc2,Xc3⟩:=X0.out.cs
  obtain ⟨Yc0,Yc1,Yc2,Yc3⟩:=Y0.out.cs
  go_wp2_with (first | (go_at_call 84;(with_reducible refine (CM _).mono ?_);rintro e1 w1 ⟨rfl,q1⟩;have B1:=hB B0 q1;have X1:=hF X0 q1;have Y1:=hF Y0 q1;have R1:=hF R0 q1;clear CM;clear q1 B0 X0 Y0 R0;obtain ⟨Xc0,Xc1,Xc2,Xc3⟩:=X1.out.cs;obtain ⟨Yc0,Yc1,Yc2,Yc3⟩:=Y1.out.cs;obtain ⟨Rc0,Rc1,Rc2,Rc3,Rf0,Rf1,Rf2,Rf3⟩:=R1.out.cf))
  exact ret4 6 rfl R1 B1 LR rfl rfl rfl
 ·rw [if_neg hzz]
  have g1:decide (z>0)=false:=decide_eq_false hzz
  have g2:decide (0<z)=false:=decide_eq_false hzz
  clear hzz
  try dsimp only [av,an,ao]
  go_enter Tryz.func43,Tryz.ntmps43
  go_upto_region 1 with fail
  obtain ⟨W0,iX,iY,iR,hW,hX,hY,hR,X0,Y0,R0,B0,LX,LY,LR,LI,LS⟩:=mkVVZ w ⟨1,ca,(na:Int),0⟩ ⟨1,cb,(nb:Int),0⟩
  rw [hW.out];try rw [hR.out];try rw [hY.out];try rw [hX.out]
  clear hW hX hY hR
  obtain ⟨Xc0,Xc1,Xc2,Xc3⟩:=X0.out.cs
  obtain ⟨Yc0,Yc1,Yc2,Yc3⟩:=Y0.out.cs
  go_wp2_with (first | (go_at_call 84;(with_reducible refine (CM _).mono ?_);rintro e1 w1 ⟨rfl,q1⟩;have B1:=hB B0 q1;have X1:=hF X0 q1;have Y1:=hF Y0 q1;have R1:=hF R0 q1;clear CM;clear q1 B0 X0 Y0 R0;obtain ⟨Xc0,Xc1,Xc2,Xc3⟩:=X1.out.cs;obtain ⟨Yc0,Yc1,Yc2,Yc3⟩:=Y1.out.cs;obtain ⟨Rc0,Rc1,Rc2,Rc3,Rf0,Rf1,Rf2,Rf3⟩:=R1.out.cf))
  exact ret4 6 rfl R1 B1 LR rfl rfl rfl
theorem rpair_vp {w:World} (op:Int) (hop:op=10∨op=11∨op=12∨op=13∨op=14∨op=15∨op=16∨op=17∨op=20∨op=21) {a b:V} (ha:V.fine a) (hb:V.fine b):Calls Tryz.prog 43 #[.int .u8 op,av a,av b] w (VP (pairV op a b) w):=by
 by_cases h1:a.k=1
 ·by_cases h2:b.k=1
  ·have E:pairV op a b=pairN op a b:=by unfold pairV;rw [if_neg (by simpa using h1),if_neg (by simpa using h2)]
   rw [E]
   obtain ⟨na,ea,la,fa,_⟩:=num_parts ha h1
   obtain ⟨nb,eb,lb,fb,_⟩:=num_parts hb h2
   rw [ea,eb]
   rcases hop with rfl | rfl | rfl | rfl | rfl | rfl | rfl | rfl | rfl | rfl
   ·exact rpair_10 _ _ na nb fa fb la lb
   ·exact rpair_11 _ _ na nb fa fb la lb
   ·exact rpair_12 _ _ na nb fa fb la lb
   ·exact rpair_13 _ _ na nb fa fb la lb
   ·exact rpair_14 _ _ na nb fa fb la lb
   ·exact rpair_15 _ _ na nb fa fb la lb
   ·exact rpair_16 _ _ na nb fa fb la lb
   ·exact rpair_17 _ _ na nb fa fb la lb
   ·exact rpair_20 _ _ na nb fa fb la lb
   ·exact rpair_21 _ _ na nb fa fb la lb
  ·have E:pairV op a b=wrongV b:=by unfold pairV;rw [if_neg (by simpa using h1),if_pos h2]
   rw [E]
   have d1:decide (a.k=1)=true:=decide_eq_true h1
   have d2:(a.k !=1)=false:=by simpa using h1
   have d3:decide (b.k=1)=false:=decide_eq_false h2
   have d4:(b.k !=1)=true:=by simpa using h2
   clear E h1 h2 ha hb hop
   try dsimp only [av,an,ao]
   go_enter Tryz.func43,Tryz.ntmps43
   go_upto_region 1 with fail
   obtain ⟨W0,iX,iY,iR,hW,hX,hY,hR,X0,Y0,R0,B0,LX,LY,LR,LI,LS⟩:=mkVVZ w a b
   rw [hW.out];try rw [hR.out];try rw [hY.out];try rw [hX.out]
   clear hW hX hY hR
   obtain ⟨Xc0,Xc1,Xc2,Xc3⟩:=X0.out.cs
   obtain ⟨Yc0,Yc1,Yc2,Yc3⟩:=Y0.out.cs
   go_wp2_with (go_at_call 40;(with_reducible refine (rwrong_vp (w:=_) b).mono ?_);rintro e1 w1 ⟨rfl,q1⟩;have B1:=hB B0 q1;have R1:=hF R0 q1;clear q1 B0 R0;obtain ⟨Rc0,Rc1,Rc2,Rc3,Rf0,Rf1,Rf2,Rf3⟩:=R1.out.cf)
   exact ret4 6 rfl R1 B1 LR rfl rfl rfl
 ·have E:pairV op a b=wrongV a:=by unfold pairV;rw [if_pos h1]
  rw [E]
  have d1:decide (a.k=1)=false:=decide_eq_false h1
  have d2:(a.k !=1)=true:=by simpa using h1
  clear E h1 ha hb hop
  try dsimp only [av,an,ao]
  go_enter Tryz.func43,Tryz.ntmps43
  go_upto_region 1 with fail
  obtain ⟨W0,iX,iY,iR,hW,hX,hY,hR,X0,Y0,R0,B0,LX,LY,LR,LI,LS⟩:=mkVVZ w a b
  rw [hW.out];try rw [hR.out];try rw [hY.out];try rw [hX.out]
  clear hW hX hY hR
  obtain ⟨Xc0,Xc1,Xc2,Xc3⟩:=X0.out.cs
  go_wp2_with (go_at_call 40;(with_reducible refine (rwrong_vp (w:=_) a).mono ?_);rintro e1 w1 ⟨rfl,q1⟩;have B1:=hB B0 q1;have R1:=hF R0 q1;clear q1 B0 R0;obtain ⟨Rc0,Rc1,Rc2,Rc3,Rf0,Rf1,Rf2,Rf3⟩:=R1.out.cf)
  exact ret4 6 rfl R1 B1 LR rfl rfl rfl
end Go.Proofs.YteagpbkbdlmdiaaGreat.Ev
