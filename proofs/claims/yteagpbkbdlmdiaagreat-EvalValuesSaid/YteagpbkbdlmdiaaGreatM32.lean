/-
  eval and its document: Operands, Same, walked; The document's parser: a reader in memory; place, next, walked; The document's parser: stop, must, deeper, infix, window, walked.
-/
import Derived.Test.YteagpbkbdlmdiaaGreatM31
import Derived.Test.YteagpbkbdlmdiaaGreatM28
import Derived.BigQuiet
/- eval and its document: Operands, Same, walked. -/
namespace Go.Proofs.YteagpbkbdlmdiaaGreat.Ev
set_option maxRecDepth 100000
set_option maxHeartbeats 4000000
open Go Go.RowKit Dt Tx Va
set_option linter.unusedSimpArgs false
set_option linter.unusedVariables false
attribute [local go_sem ↓] Go.wp_at_zero Go.wp_at_succ
theorem argN {w:World} {v:Value} {xs:List Nd} (h:ndE.Arg w v xs):∃ (ao:Option Addr) (cap:Nat),v=.slice ao xs.length cap∧∀ (i:Nat) (n:Nd),xs[i]?=some n→∃ b o:Nat,ao=some ⟨b,o,none⟩∧b<w.heap.size∧
  w.cell? ⟨b,o+i*9,none⟩=some (.int .u8 n.op)∧w.cell? ⟨b,o+i*9+1,none⟩=some (.int .i64 n.c)∧w.cell? ⟨b,o+i*9+2,none⟩=some (.int .i64 n.s)∧w.cell? ⟨b,o+i*9+3,none⟩=some (.string (bs n.n))∧w.cell? ⟨b,o+i*9+4,none⟩=some (.int .i64 n.k)∧w.cell? ⟨b,o+i*9+5,none⟩=some (.int .i64 n.x)∧w.cell? ⟨b,o+i*9+6,none⟩=some (.int .i64 n.y)∧w.cell? ⟨b,o+i*9+7,none⟩=some (.int .i64 n.z)∧w.cell? ⟨b,o+i*9+8,none⟩=some (.int .i64 n.p):=by
 obtain ⟨ao,cap,e,_,h⟩:=h
 refine ⟨ao,cap,e,fun i x hx=>?_⟩
 obtain ⟨b,o,h1,h2,h3⟩:=h i x hx
 exact ⟨b,o,h1,h2,h3 0 _ rfl,h3 1 _ rfl,h3 2 _ rfl,h3 3 _ rfl,h3 4 _ rfl,h3 5 _ rfl,h3 6 _ rfl,h3 7 _ rfl,h3 8 _ rfl⟩
def OsP (l:List Opd) (w:World) (e:Ending) (w':World):Prop:=∃ v,e=.returned v∧opE.Arg w' v l∧Below w.heap.size w w'
theorem opds_step {t:List Nd} {k:Nat} {n:Nd} (h:t[k]?=some n):opdsF [] (t.take (k+1))=addO (opdsF [] (t.take k)) n:=by
 rw [List.take_add_one,h];exact opdsF_snoc _ _ _
theorem addO_none {l:List Opd} {n:Nd} (h:opdOf n=none):addO l n=l:=by unfold addO;rw [h]
theorem addO_in {l:List Opd} {n:Nd} {q:Opd} (h:opdOf n=some q) (hq:q ∈ l):addO l n=l:=by unfold addO;rw [h];exact if_pos hq
theorem addO_new {l:List Opd} {n:Nd} {q:Opd} (h:opdOf n=some q) (hq:¬q ∈ l):addO l n=l++[q]:=by unfold addO;rw [h];exact if_neg hq
theorem operands_is {w:World} {v:Value} {t:List Nd} (ha:ndE.Arg w v t) (hl:t.length≤300):Calls Tryz.prog 7 #[v] w (OsP (opds t) w):=by
 obtain ⟨aa,ca,rfl,h1⟩:=argN ha
 have HA:=Lib.hid h1;have HL:=Lib.hid hl
 obtain ⟨N,hN⟩:∃ N,Hid (t.length=N):=⟨_,Lib.hid rfl⟩
 rw [hN.out]
 clear ha h1 hl
 go_enter Tryz.func7,Tryz.ntmps7
 go_wp2_with fail
 go_loopw [2,9] (fun u i wr=>∃ (k:Nat) (acc:List Opd),i=.int .i64 (k:Int)∧k≤N∧Hid (acc=opdsF [] (t.take k))∧Hid (acc.length≤k)∧Hid (opE.Row wr w.heap.size u acc)∧Hid (Below w.heap.size w wr)) (fun _ i _=>N - (intOf i).toNat)
 case atStart=>exact ⟨0,[],rfl,by omega,by show _=_;simp [opdsF],Nat.le_refl _,Elem.Row.nil _ _,Below.refl _ _⟩
 case round=>
  obtain ⟨wo,rfl⟩:∃ wo:World,wo=wr:=⟨_,rfl⟩
  obtain ⟨k,acc,rfl,hk,HE,HAC,RR,B⟩:=hrel
  by_cases hkl:k<N
  ·obtain ⟨n,hn⟩:∃ n,t[k]?=some n:=⟨_,List.getElem?_eq_getElem (by rw [hN.out];exact hkl)⟩
   obtain ⟨ba',oa,rfl,l1,c0,c1,c2,c3,c4,c5,c6,c7,c8⟩:=HA.out k n hn
   have i0:(0:Int)≤(k:Int):=by omega
   have i1:(k:Int)<(N:Int):=by omega
   have i2:decide ((k:Int)<(N:Int))=true:=by simp;omega
   have i3:decide (k<N)=true:=by simpa using hkl
   have kc:=fun {o:Nat} {u:Value} (h:w.cell? ⟨ba',o,none⟩=some u)=>(B.out.cell (p:=⟨ba',o,none⟩) l1).trans h
   replace c0:=kc c0;replace c1:=kc c1;replace c2:=kc c2;replace c3:=kc c3;replace c4:=kc c4;replace c5:=kc c5;replace c6:=kc c6;replace c7:=kc c7;replace c8:=kc c8
   have kw:IntKind.i64.wrap ((k:Int)+1)=(k:Int)+1:=wrap1 k (by have:=HL.out;have:=hN.out;omega)
   have HS:=Lib.hid (opds_step hn)
   rw [←HE.out] at HS
   have HK:=Lib.hid hkl
   have OC:=fun w=>opd_is (w:=w) n
   obtain ⟨av,cv,rfl,_,_⟩:=RR.out.form
   clear kc hkl hk hn
   go_upto_region 4 with fail
   obtain ⟨W1,iN,hW,hX,N1,BN,LN,_,_⟩:=mk1 wo (.cells #[.int .u8 n.op,.int .i64 n.c,.int .i64 n.s,.string (bs n.n),.int .i64 n.k,.int .i64 n.x,.int .i64 n.y,.int .i64 n.z,.int .i64 n.p] 39)
   rw [hW.out]
   try rw [hX.out]
   clear hW hX c0 c1 c2 c3 c4 c5 c6 c7 c8
   replace N1:Hid (Nine W1 iN n):=N1
   have R1:=Lib.hid (Elem.Row.below RR.out BN.out);have B1:=Lib.hid (bt B.out BN.out)
   clear BN RR B
   have c0:=N1.out.c0;have c1:=N1.out.c1;have c2:=N1.out.c2;have c3:=N1.out.c3;have c4:=N1.out.c4;have c5:=N1.out.c5;have c6:=N1.out.c6;have c7:=N1.out.c7;have c8:=N1.out.c8
   cases ho:opdOf n with
   | none=>
    rw [ho] at OC
    have HS2:=Lib.hid (HS.out.trans (addO_none ho))
    clear ho HS
    go_upto_region 5 with (go_at_call 17;(with_reducible refine (OC _).mono ?_);rintro e2 w2 ⟨rfl,q2⟩;have R2:=Lib.hid (Elem.Row.below R1.out q2);have B2:=Lib.hid (bt B1.out q2);clear q2 OC R1 B1)
    obtain ⟨W3,iO,hW,hX,O3,BO,LO,_,_⟩:=mk1 w2 (.cells #[.int .u8 noO.op,.string (bs noO.n),.int .i64 noO.k] 43)
    rw [hW.out]
    try rw [hX.out]
    clear hW hX
    replace O3:Hid (OpdB W3 iO noO):=O3
    have R3:=Lib.hid (Elem.Row.below R2.out BO.out);have B3:=Lib.hid (bt B2.out BO.out)
    clear BO R2 B2
    clear c0 c1 c2 c3 c4 c5 c6 c7 c8
    go_wp2_with fail
    refine ⟨⟨k+1,acc,rfl,HK.out,HS2.out.symm,Nat.le_succ_of_le HAC.out,R3,B3⟩,?_⟩
    show N - ((k:Int)+1).toNat<N - (k:Int).toNat;have:=HK.out;omega
   | some q=>
    rw [ho] at OC
    have HO:=Lib.hid ho
    clear ho
    go_upto_region 5 with (go_at_call 17;(with_reducible refine (OC _).mono ?_);rintro e2 w2 ⟨rfl,q2⟩;have R2:=Lib.hid (Elem.Row.below R1.out q2);have B2:=Lib.hid (bt B1.out q2);clear q2 OC R1 B1)
    obtain ⟨W3,iO,hW,hX,O3,BO,LO,_,_⟩:=mk1 w2 (.cells #[.int .u8 q.op,.string (bs q.n),.int .i64 q.k] 43)
    rw [hW.out]
    try rw [hX.out]
    clear hW hX
    replace O3:Hid (OpdB W3 iO q):=O3
    have R3:=Lib.hid (Elem.Row.below R2.out BO.out);have B3:=Lib.hid (bt B2.out BO.out)
    clear BO R2 B2
    clear c0 c1 c2 c3 c4 c5 c6 c7 c8
    have d0:=O3.out.c0;have d1:=O3.out.c1;have d2:=O3.out.c2
    have CC:=contains_is q R3.out.arg (by have:=HAC.out;have:=HL.out;have:=HK.out;have:=hN.out;omega)
    by_cases hq:q ∈ acc
    ·have HS2:=Lib.hid (HS.out.trans (addO_in HO.out hq))
     rw [decide_eq_true hq] at CC
     clear hq HS HO
     go_wp2_with (go_at_call 18;(with_reducible refine CC.mono ?_);rintro e4 w4 ⟨rfl,q4⟩;have R4:=Lib.hid (Elem.Row.below R3.out q4);have B4:=Lib.hid (bt B3.out q4);clear q4 CC R3 B3)
     refine ⟨⟨k+1,acc,rfl,HK.out,HS2.out.symm,Nat.le_succ_of_le HAC.out,R4,B4⟩,?_⟩
     show N - ((k:Int)+1).toNat<N - (k:Int).toNat;have:=HK.out;omega
    ·have HS2:=Lib.hid (HS.out.trans (addO_new HO.out hq))
     rw [decide_eq_false hq] at CC
     clear hq HS HO
     go_upto_region 6 with (go_at_call 18;(with_reducible refine CC.mono ?_);rintro e4 w4 ⟨rfl,q4⟩;have R4:=Lib.hid (Elem.Row.below R3.out q4);have B4:=Lib.hid (bt B3.out q4);have O4:=Lib.hid (O3.out.below q4);clear q4 CC R3 B3)
     clear d0 d1 d2
     have d0:=O4.out.c0;have d1:=O4.out.c1;have d2:=O4.out.c2
     have SRC:Hid (opE.Arg (w4.alloc (.cells #[.int .u8 q.op,.string (bs q.n),.int .i64 q.k] 43)) (.slice (some ⟨w4.heap.size,0,none⟩) 1 1) [q]):=Lib.hid (Elem.arg_one (E:=opE) (w:=w4) q 43)
     have RA:=Lib.hid (Elem.Row.below R4.out (ba w4 (.cells #[.int .u8 q.op,.string (bs q.n),.int .i64 q.k] 43)))
     have BA:=Lib.hid (bt B4.out (ba w4 (.cells #[.int .u8 q.op,.string (bs q.n),.int .i64 q.k] 43)))
     have HFL:Hid (acc.length+1≤1000001):=Lib.hid (by have:=HAC.out;have:=HK.out;have:=HL.out;have:=hN.out;omega)
     have HB:=Lib.hid BA.out.size
     go_wp2_with (at_builtin;go_loud (refine Elem.app (E:=opE) rfl _ _ rfl w.heap.size (.slice av acc.length cv) acc (.slice (some ⟨w4.heap.size,0,none⟩) 1 1) [q] rfl rfl RA.out SRC.out HFL.out (by decide) HB.out ?_;intro v6 w6 r6 q6 _;have R6:=Lib.hid r6;have B6:=Lib.hid (BA.out.grown q6 BA.out.size (fun z hz=>(RA.out.lt z hz).1));clear r6 q6))
     refine ⟨⟨k+1,acc++[q],rfl,HK.out,HS2.out.symm,?_,R6,B6⟩,?_⟩
     ·show (acc++[q]).length≤k+1
      rw [List.length_append];have:=HAC.out;show acc.length+1≤_;omega
     ·show N - ((k:Int)+1).toNat<N - (k:Int).toNat;have:=HK.out;omega
  ·have hkN:k=N:=by omega
   subst hkN
   have i2:decide ((k:Int)<(k:Int))=false:=by simp
   have HE2:=Lib.hid (HE.out.trans (by rw [List.take_of_length_le (by rw [hN.out];exact Nat.le_refl _)];rfl:_=opds t))
   clear hk hkl HE
   obtain ⟨av,cv,rfl,_,_⟩:=RR.out.form
   go_wp2_with fail
   go_ret
   refine ⟨_,rfl,?_,B.out⟩
   rw [←HE2.out]
   exact RR.out.arg
theorem roperands_is {w:World} {v:Value} {t:List Nd} (ha:ndE.Arg w v t) (hl:t.length≤300):Calls Tryz.prog 8 #[v] w (OsP (opds t) w):=by
 obtain ⟨aa,ca,rfl,h1⟩:=argN ha
 have HA:=Lib.hid h1;have HL:=Lib.hid hl
 obtain ⟨N,hN⟩:∃ N,Hid (t.length=N):=⟨_,Lib.hid rfl⟩
 rw [hN.out]
 clear ha h1 hl
 go_enter Tryz.func8,Tryz.ntmps8
 go_wp2_with fail
 go_loopw [3,4] (fun u i wr=>∃ (k:Nat) (acc:List Opd),i=.int .i64 (k:Int)∧k≤N∧Hid (acc=opdsF [] (t.take k))∧Hid (acc.length≤k)∧Hid (opE.Row wr w.heap.size u acc)∧Hid (Below w.heap.size w wr)) (fun _ i _=>N - (intOf i).toNat)
 case atStart=>exact ⟨0,[],rfl,by omega,by show _=_;simp [opdsF],Nat.le_refl _,Elem.Row.nil _ _,Below.refl _ _⟩
 case round=>
  obtain ⟨wo,rfl⟩:∃ wo:World,wo=wr:=⟨_,rfl⟩
  obtain ⟨k,acc,rfl,hk,HE,HAC,RR,B⟩:=hrel
  by_cases hkl:k<N
  ·obtain ⟨n,hn⟩:∃ n,t[k]?=some n:=⟨_,List.getElem?_eq_getElem (by rw [hN.out];exact hkl)⟩
   obtain ⟨ba',oa,rfl,l1,c0,c1,c2,c3,c4,c5,c6,c7,c8⟩:=HA.out k n hn
   have i0:(0:Int)≤(k:Int):=by omega
   have i1:(k:Int)<(N:Int):=by omega
   have i2:decide ((k:Int)<(N:Int))=true:=by simp;omega
   have i3:decide (k<N)=true:=by simpa using hkl
   have kc:=fun {o:Nat} {u:Value} (h:w.cell? ⟨ba',o,none⟩=some u)=>(B.out.cell (p:=⟨ba',o,none⟩) l1).trans h
   replace c0:=kc c0;replace c1:=kc c1;replace c2:=kc c2;replace c3:=kc c3;replace c4:=kc c4;replace c5:=kc c5;replace c6:=kc c6;replace c7:=kc c7;replace c8:=kc c8
   have kw:IntKind.i64.wrap ((k:Int)+1)=(k:Int)+1:=wrap1 k (by have:=HL.out;have:=hN.out;omega)
   have HS:=Lib.hid (opds_step hn)
   rw [←HE.out] at HS
   have HK:=Lib.hid hkl
   have OC:=fun w=>ropd_is (w:=w) n
   obtain ⟨av,cv,rfl,_,_⟩:=RR.out.form
   clear kc hkl hk hn
   have R1:=RR;have B1:=B
   clear RR B
   cases ho:opdOf n with
   | none=>
    rw [ho] at OC
    have HS2:=Lib.hid (HS.out.trans (addO_none ho))
    clear ho HS
    go_upto_region 6 with (go_at_call 19;(with_reducible refine (OC _).mono ?_);rintro e2 w2 ⟨rfl,q2⟩;have R2:=Lib.hid (Elem.Row.below R1.out q2);have B2:=Lib.hid (bt B1.out q2);clear q2 OC R1 B1)
    obtain ⟨W3,iO,hW,hX,O3,BO,LO,_,_⟩:=mk1 w2 (.cells #[.int .u8 noO.op,.string (bs noO.n),.int .i64 noO.k] 43)
    rw [hW.out]
    try rw [hX.out]
    clear hW hX
    replace O3:Hid (OpdB W3 iO noO):=O3
    have R3:=Lib.hid (Elem.Row.below R2.out BO.out);have B3:=Lib.hid (bt B2.out BO.out)
    clear BO R2 B2
    clear c0 c1 c2 c3 c4 c5 c6 c7 c8
    go_wp2_with fail
    refine ⟨⟨k+1,acc,rfl,HK.out,HS2.out.symm,Nat.le_succ_of_le HAC.out,R3,B3⟩,?_⟩
    show N - ((k:Int)+1).toNat<N - (k:Int).toNat;have:=HK.out;omega
   | some q=>
    rw [ho] at OC
    have HO:=Lib.hid ho
    clear ho
    go_upto_region 6 with (go_at_call 19;(with_reducible refine (OC _).mono ?_);rintro e2 w2 ⟨rfl,q2⟩;have R2:=Lib.hid (Elem.Row.below R1.out q2);have B2:=Lib.hid (bt B1.out q2);clear q2 OC R1 B1)
    obtain ⟨W3,iO,hW,hX,O3,BO,LO,_,_⟩:=mk1 w2 (.cells #[.int .u8 q.op,.string (bs q.n),.int .i64 q.k] 43)
    rw [hW.out]
    try rw [hX.out]
    clear hW hX
    replace O3:Hid (OpdB W3 iO q):=O3
    have R3:=Lib.hid (Elem.Row.below R2.out BO.out);have B3:=Lib.hid (bt B2.out BO.out)
    clear BO R2 B2
    clear c0 c1 c2 c3 c4 c5 c6 c7 c8
    have d0:=O3.out.c0;have d1:=O3.out.c1;have d2:=O3.out.c2
    have CC:=place_is q R3.out.arg (by have:=HAC.out;have:=HL.out;have:=HK.out;have:=hN.out;omega)
    have PN:=placeP_neg (xs:=acc) (q:=q)
    generalize placeP acc q=z at CC PN
    by_cases hq:q ∈ acc
    ·have HS2:=Lib.hid (HS.out.trans (addO_in HO.out hq))
     rw [decide_eq_true hq] at PN
     have PN:decide (z<0)=false:=PN
     clear hq HS HO
     go_wp2_with (go_at_call 20;(with_reducible refine CC.mono ?_);rintro e4 w4 ⟨rfl,q4⟩;have R4:=Lib.hid (Elem.Row.below R3.out q4);have B4:=Lib.hid (bt B3.out q4);clear q4 CC R3 B3)
     refine ⟨⟨k+1,acc,rfl,HK.out,HS2.out.symm,Nat.le_succ_of_le HAC.out,R4,B4⟩,?_⟩
     show N - ((k:Int)+1).toNat<N - (k:Int).toNat;have:=HK.out;omega
    ·have HS2:=Lib.hid (HS.out.trans (addO_new HO.out hq))
     rw [decide_eq_false hq] at PN
     have PN:decide (z<0)=true:=PN
     clear hq HS HO
     go_upto_region 7 with (go_at_call 20;(with_reducible refine CC.mono ?_);rintro e4 w4 ⟨rfl,q4⟩;have R4:=Lib.hid (Elem.Row.below R3.out q4);have B4:=Lib.hid (bt B3.out q4);have O4:=Lib.hid (O3.out.below q4);clear q4 CC R3 B3)
     clear d0 d1 d2
     have d0:=O4.out.c0;have d1:=O4.out.c1;have d2:=O4.out.c2
     have SRC:Hid (opE.Arg (w4.alloc (.cells #[.int .u8 q.op,.string (bs q.n),.int .i64 q.k] 43)) (.slice (some ⟨w4.heap.size,0,none⟩) 1 1) [q]):=Lib.hid (Elem.arg_one (E:=opE) (w:=w4) q 43)
     have RA:=Lib.hid (Elem.Row.below R4.out (ba w4 (.cells #[.int .u8 q.op,.string (bs q.n),.int .i64 q.k] 43)))
     have BA:=Lib.hid (bt B4.out (ba w4 (.cells #[.int .u8 q.op,.string (bs q.n),.int .i64 q.k] 43)))
     have HFL:Hid (acc.length+1≤1000001):=Lib.hid (by have:=HAC.out;have:=HK.out;have:=HL.out;have:=hN.out;omega)
     have HB:=Lib.hid BA.out.size
     go_wp2_with (at_builtin;go_loud (refine Elem.app (E:=opE) rfl _ _ rfl w.heap.size (.slice av acc.length cv) acc (.slice (some ⟨w4.heap.size,0,none⟩) 1 1) [q] rfl rfl RA.out SRC.out HFL.out (by decide) HB.out ?_;intro v6 w6 r6 q6 _;have R6:=Lib.hid r6;have B6:=Lib.hid (BA.out.grown q6 BA.out.size (fun z hz=>(RA.out.lt z hz).1));clear r6 q6))
     refine ⟨⟨k+1,acc++[q],rfl,HK.out,HS2.out.symm,?_,R6,B6⟩,?_⟩
     ·show (acc++[q]).length≤k+1
      rw [List.length_append];have:=HAC.out;show acc.length+1≤_;omega
     ·show N - ((k:Int)+1).toNat<N - (k:Int).toNat;have:=HK.out;omega
  ·have hkN:k=N:=by omega
   subst hkN
   have i2:decide ((k:Int)<(k:Int))=false:=by simp
   have HE2:=Lib.hid (HE.out.trans (by rw [List.take_of_length_le (by rw [hN.out];exact Nat.le_refl _)];rfl:_=opds t))
   clear hk hkl HE
   obtain ⟨av,cv,rfl,_,_⟩:=RR.out.form
   go_wp2_with fail
   go_ret
   refine ⟨_,rfl,?_,B.out⟩
   rw [←HE2.out]
   exact RR.out.arg
theorem osame_is {w:World} {va vb:Value} {xs:List Opd} (ha:opE.Arg w va xs) (hb:opE.Arg w vb xs) (hl:xs.length≤1000000) :
  Calls Tryz.prog 6 #[va,vb] w fun e w'=>e=.returned (.bool true)∧Below w.heap.size w w':=by
 obtain ⟨aa,ca,rfl,h1⟩:=argO ha
 obtain ⟨ab,cb,rfl,h2⟩:=argO hb
 have HA:=Lib.hid h1;have HB:=Lib.hid h2;have HL:=Lib.hid hl
 obtain ⟨N,hN⟩:∃ N,Hid (xs.length=N):=⟨_,Lib.hid rfl⟩
 rw [hN.out]
 clear ha hb h1 h2 hl
 go_enter Tryz.func6,Tryz.ntmps6
 go_wp2_with fail
 go_loopw [5] (fun i wr=>∃ (k:Nat),i=.int .i64 (k:Int)∧k≤N∧Hid (Below w.heap.size w wr)) (fun i _=>N - (intOf i).toNat)
 case atStart=>exact ⟨0,rfl,by omega,Below.refl _ _⟩
 case round=>
  obtain ⟨wo,rfl⟩:∃ wo:World,wo=wr:=⟨_,rfl⟩
  obtain ⟨k,rfl,hk,B⟩:=hrel
  by_cases hkl:k<N
  ·obtain ⟨x,hx⟩:∃ x,xs[k]?=some x:=⟨_,List.getElem?_eq_getElem (by rw [hN.out];exact hkl)⟩
   obtain ⟨ba',oa,rfl,l1,c0,c1,c2⟩:=HA.out k x hx
   obtain ⟨bb,ob,rfl,l2,d0,d1,d2⟩:=HB.out k x hx
   have i0:(0:Int)≤(k:Int):=by omega
   have i1:(k:Int)<(N:Int):=by omega
   have i2:decide ((k:Int)<(N:Int))=true:=by simp;omega
   have c0':=(B.out.cell (p:=⟨ba',_,none⟩) l1).trans c0;have c1':=(B.out.cell (p:=⟨ba',_,none⟩) l1).trans c1;have c2':=(B.out.cell (p:=⟨ba',_,none⟩) l1).trans c2
   have d0':=(B.out.cell (p:=⟨bb,_,none⟩) l2).trans d0;have d1':=(B.out.cell (p:=⟨bb,_,none⟩) l2).trans d1;have d2':=(B.out.cell (p:=⟨bb,_,none⟩) l2).trans d2
   have HK:=Lib.hid hkl
   have kw:IntKind.i64.wrap ((k:Int)+1)=(k:Int)+1:=wrap1 k (by have:=HL.out;have:=hN.out;omega)
   have ss:=self_toList (bs x.n)
   obtain ⟨S,hS⟩:∃ S,Hid (bs x.n=S):=⟨_,Lib.hid rfl⟩
   rw [hS.out] at c1' d1' ss
   obtain ⟨x0,x1,x2⟩:=x
   clear hx hkl hk c0 c1 d0 d1 c2 d2 hS
   dsimp only at c0' c1' c2' d0' d1' d2'
   go_upto_region 6 with fail
   go_quiet (fail)
   go_wp2_with fail
   go_roundw
   case rel=>exact ⟨k+1,rfl,by have:=HK.out;omega,below_drewN B.out _⟩
   case measure=>show N - ((k:Int)+1).toNat<N - ((k:Int)).toNat;have:=HK.out;omega
  ·have hke:k=N:=by omega
   subst hke
   have i2:decide ((k:Int)<(k:Int))=false:=by simp
   clear hkl hk
   go_wp2_with fail
   go_ret
   exact ⟨rfl,B.out⟩
end Go.Proofs.YteagpbkbdlmdiaaGreat.Ev
/- The document's parser: a reader in memory; place, next, walked. -/
namespace Go.Proofs.YteagpbkbdlmdiaaGreat.Ps
set_option maxRecDepth 100000
open Go Go.RowKit Dt Tx Va Ev Lx
set_option linter.unusedSimpArgs false
set_option linter.unusedVariables false
attribute [local go_sem ↓] Go.wp_at_zero Go.wp_at_succ
structure KX (b:Nat) (tv:Value) (w w':World):Prop where
 low:Below 0 w w'
 size:w.heap.size≤w'.heap.size
 block:∀ i,i<w.heap.size→i ≠ b→some i ≠ tv.ownBlock→w'.heap[i]?=w.heap[i]?
def Fr (tv:Value) (w:World) (tv':Value):Prop:=tv'.ownBlock=tv.ownBlock∨∃ g,tv'.ownBlock=some g∧w.heap.size≤g
theorem Fr.refl (tv:Value) (w:World):Fr tv w tv:=.inl rfl
section
variable {b:Nat} {tv tv1 tv2:Value} {w w1 w2:World}
theorem KX.of_below (h:Below w.heap.size w w1):KX b tv w w1:=⟨h.mono (Nat.zero_le _),h.size,fun i hi _ _=>h.block i hi⟩
theorem KX.refl:KX b tv w w:=KX.of_below (Below.refl _ _)
theorem KX.trans (h:KX b tv w w1) (k:KX b tv1 w1 w2) (f:Fr tv w tv1):KX b tv w w2:=by
 refine ⟨h.low.trans k.low,Nat.le_trans h.size k.size,fun i hi hb ht=>?_⟩
 refine (k.block i (Nat.lt_of_lt_of_le hi h.size) hb ?_).trans (h.block i hi hb ht)
 rcases f with e | ⟨g,e,hg⟩
 ·rw [e];exact ht
 ·rw [e];intro e2;have:=Option.some.inj e2;omega
theorem Fr.trans (f:Fr tv w tv1) (k:Fr tv1 w1 tv2) (h:w.heap.size≤w1.heap.size):Fr tv w tv2:=by
 rcases k with e | ⟨g,e,hg⟩
 ·rcases f with e2 | ⟨g,e2,hg⟩
  ·exact .inl (e.trans e2)
  ·exact .inr ⟨g,e.trans e2,hg⟩
 ·exact .inr ⟨g,e,Nat.le_trans h hg⟩
theorem KX.set (h:KX b tv w w1) (o:Nat) (v:Value):KX b tv w (w1.setCell ⟨b,o,none⟩ v):=by
 refine ⟨h.low.setCell (Nat.zero_le _) _,by have:=h.size;simpa using this,fun i hi hb ht=>?_⟩
 rw [heap_setCell_other _ ⟨b,o,none⟩ i _ hb];exact h.block i hi hb ht
theorem KX.below {B:Nat} (h:KX b tv w w1) (hB:B≤b) (ht:∀ g,tv.ownBlock=some g→B≤g) (hs:B≤w.heap.size):Below B w w1:=by
 refine ⟨h.low.os,h.low.tape,h.low.output,h.size,fun i hi=>h.block i (by omega) (by omega) fun e=>?_⟩
 have:=ht i e.symm;omega
end
structure St (L:List Tok) (En:Int) (B b:Nat) (lv:Value) (w:World) (tv:Value) (s:Rd):Prop where
 box:w.heap[b]?=some (.cells #[lv,.int .i64 (s.a:Int),.int .i64 En,.int .i64 s.d,tv,.int .i64 s.e,.int .i64 s.b] 90 (0,0))
 toks:tokE.Arg w lv L
 row:ndE.Row w B tv s.t
 bB:B≤b
 tb:∀ g,Elem.argBlock lv g→0<L.length→g<B
section
variable {L:List Tok} {En:Int} {B b:Nat} {lv tv:Value} {w:World} {s:Rd}
theorem St.lt (h:St L En B b lv w tv s):b<w.heap.size:=(Array.getElem?_eq_some_iff.1 h.box).1
theorem St.c0 (h:St L En B b lv w tv s):w.cell? ⟨b,0,none⟩=some lv:=by rw [cell_of_row w _ _ _ _ (0,0) h.box];rfl
theorem St.c1 (h:St L En B b lv w tv s):w.cell? ⟨b,1,none⟩=some (.int .i64 (s.a:Int)):=by rw [cell_of_row w _ _ _ _ (0,0) h.box];rfl
theorem St.c2 (h:St L En B b lv w tv s):w.cell? ⟨b,2,none⟩=some (.int .i64 En):=by rw [cell_of_row w _ _ _ _ (0,0) h.box];rfl
theorem St.c3 (h:St L En B b lv w tv s):w.cell? ⟨b,3,none⟩=some (.int .i64 s.d):=by rw [cell_of_row w _ _ _ _ (0,0) h.box];rfl
theorem St.c4 (h:St L En B b lv w tv s):w.cell? ⟨b,4,none⟩=some tv:=by rw [cell_of_row w _ _ _ _ (0,0) h.box];rfl
theorem St.c5 (h:St L En B b lv w tv s):w.cell? ⟨b,5,none⟩=some (.int .i64 s.e):=by rw [cell_of_row w _ _ _ _ (0,0) h.box];rfl
theorem St.c6 (h:St L En B b lv w tv s):w.cell? ⟨b,6,none⟩=some (.int .i64 s.b):=by rw [cell_of_row w _ _ _ _ (0,0) h.box];rfl
theorem St.f (h:St L En B b lv w tv s) (i:Nat):w.frozen? ⟨b,i,none⟩=false:=frozen_of_row w _ _ _ _ h.box
theorem St.below {w':World} (h:St L En B b lv w tv s) (k:Below w.heap.size w w'):St L En B b lv w' tv s:=⟨(k.block b h.lt).trans h.box,h.toks.below k,h.row.below k,h.bB,h.tb⟩
theorem St.tne (h:St L En B b lv w tv s):∀ g,tv.ownBlock=some g→g ≠ b:=fun g hg e=>by
 subst e
 exact h.row.ne h.box (by decide) hg.symm
theorem St.setC (h:St L En B b lv w tv s) (o:Nat) (v:Value) {s':Rd} (et:s'.t=s.t) (hb:(#[lv,(.int .i64 (s.a:Int):Value),.int .i64 En,.int .i64 s.d,tv,.int .i64 s.e,.int .i64 s.b].setIfInBounds o v)=#[lv,.int .i64 (s'.a:Int),.int .i64 En,.int .i64 s'.d,tv,.int .i64 s'.e,.int .i64 s'.b]) :
  St L En B b lv (w.setCell ⟨b,o,none⟩ v) tv s':=by
 refine ⟨?_,h.toks.block (by simp) (fun g hg hl hlt=>?_),?_,h.bB,h.tb⟩
 ·rw [heap_setCell_same w b o _ _ _ h.box,hb]
 ·have:=h.tb g hg hl;have:=h.bB
  exact heap_setCell_other _ ⟨b,o,none⟩ g _ (show ¬g=b by omega)
 ·rw [et]
  exact h.row.block fun g hg=>heap_setCell_other _ ⟨b,o,none⟩ g _ (h.tne g hg)
theorem St.setA (h:St L En B b lv w tv s) (x:Nat):St L En B b lv (w.setCell ⟨b,1,none⟩ (.int .i64 (x:Int))) tv {s with a:=x}:=h.setC 1 _ rfl rfl
theorem St.setD (h:St L En B b lv w tv s) (x:Int):St L En B b lv (w.setCell ⟨b,3,none⟩ (.int .i64 x)) tv {s with d:=x}:=h.setC 3 _ rfl rfl
theorem St.setE (h:St L En B b lv w tv s) (x:Int):St L En B b lv (w.setCell ⟨b,5,none⟩ (.int .i64 x)) tv {s with e:=x}:=h.setC 5 _ rfl rfl
theorem St.setB (h:St L En B b lv w tv s) (x:Int):St L En B b lv (w.setCell ⟨b,6,none⟩ (.int .i64 x)) tv {s with b:=x}:=h.setC 6 _ rfl rfl
theorem St.keep {w':World} {tv':Value} (h:St L En B b lv w tv s) (hk:∀ i,i<w.heap.size→some i ≠ tv.ownBlock→w'.heap[i]?=w.heap[i]?) (hz:w.heap.size≤w'.heap.size) (hr:ndE.Row w' B tv s.t):St L En B b lv w' tv s:=by
 refine ⟨(hk b h.lt fun e=>h.tne b e.symm rfl).trans h.box,h.toks.block hz (fun g hg hl hlt=>hk g hlt fun e=>?_),hr,h.bB,h.tb⟩
 have:=h.tb g hg hl
 have:=(h.row.lt g e.symm).1
 omega
end
theorem argT {w:World} {v:Value} {xs:List Tok} (h:tokE.Arg w v xs):∃ (ao:Option Addr) (cap:Nat),v=.slice ao xs.length cap∧∀ (i:Nat) (x:Tok),xs[i]?=some x→∃ b o:Nat,ao=some ⟨b,o,none⟩∧b<w.heap.size∧
  w.cell? ⟨b,o+i*5,none⟩=some (.int .u8 x.k)∧w.cell? ⟨b,o+i*5+1,none⟩=some (.string (bs x.t))∧w.cell? ⟨b,o+i*5+2,none⟩=some (.int .i64 x.c)∧w.cell? ⟨b,o+i*5+3,none⟩=some (.int .i64 x.s)∧w.cell? ⟨b,o+i*5+4,none⟩=some (.int .i64 x.p):=by
 obtain ⟨ao,cap,e,_,h⟩:=h
 refine ⟨ao,cap,e,fun i x hx=>?_⟩
 obtain ⟨b,o,h1,h2,h3⟩:=h i x hx
 exact ⟨b,o,h1,h2,h3 0 _ rfl,h3 1 _ rfl,h3 2 _ rfl,h3 3 _ rfl,h3 4 _ rfl⟩
structure Here (L:List Tok) (ao:Option Addr) (a:Nat) (w:World) (x:Tok) (g o:Nat):Prop where
 e:ao=some ⟨g,o,none⟩
 c0:w.cell? ⟨g,o+a*5,none⟩=some (.int .u8 x.k)
 c1:w.cell? ⟨g,o+a*5+1,none⟩=some (.string (bs x.t))
 c2:w.cell? ⟨g,o+a*5+2,none⟩=some (.int .i64 x.c)
 c3:w.cell? ⟨g,o+a*5+3,none⟩=some (.int .i64 x.s)
 c4:w.cell? ⟨g,o+a*5+4,none⟩=some (.int .i64 x.p)
theorem here {L:List Tok} {w:World} {ao:Option Addr} {n cap a:Nat} {x:Tok} (h:tokE.Arg w (.slice ao n cap) L) (hx:L[a]?=some x):∃ g o,Here L ao a w x g o:=by
 obtain ⟨ao',cap',e,k⟩:=argT h
 cases e
 obtain ⟨g,o,h1,_,c0,c1,c2,c3,c4⟩:=k a x hx
 exact ⟨g,o,h1,c0,c1,c2,c3,c4⟩
def SP (l:List UInt8) (w:World) (e:Ending) (w':World):Prop:=e=.returned (.string (bs l))∧Below w.heap.size w w'
section
variable {L:List Tok} {En:Int} {B b N lc:Nat} {ao:Option Addr} {tv:Value} {w:World} {s:Rd}
theorem place_is (h:St L En B b (.slice ao N lc) w tv s) (hN:L.length=N):Calls Tryz.prog 102 #[.pointer (some ⟨b,0,none⟩)] w (ZP (placeR L En s) w):=by
 have b0:=h.c0;have b1:=h.c1;have b2:=h.c2
 cases hx:L[s.a]? with
 | none=>
  have E:placeR L En s=En:=by unfold placeR;rw [hx]
  rw [E]
  have ge:N≤s.a:=by rw [←hN];exact List.getElem?_eq_none_iff.1 hx
  have d1:decide ((s.a:Int)<(N:Int))=false:=by simp;omega
  have d2:decide (s.a<N)=false:=by simp;omega
  clear h hx E ge hN
  go_enter Tryz.func102,Tryz.ntmps102
  go_upto_region 1 with fail
  go_quiet (fail)
  go_wp2_with fail
  go_ret
  exact ⟨rfl,below_drewN (Below.refl _ _) _⟩
 | some x=>
  have E:placeR L En s=x.p:=by unfold placeR;rw [hx]
  rw [E]
  have lt:s.a<N:=by rw [←hN];exact (List.getElem?_eq_some_iff.1 hx).1
  have d0:(0:Int)≤(s.a:Int):=by omega
  have d1:decide ((s.a:Int)<(N:Int))=true:=by simp;omega
  have d2:decide (s.a<N)=true:=by simp;omega
  have d3:(s.a:Int)<(N:Int):=by omega
  obtain ⟨g,o,H⟩:=here h.toks hx
  obtain rfl:=H.e
  have c4:=H.c4
  clear h hx E lt H hN
  go_enter Tryz.func102,Tryz.ntmps102
  go_upto_region 1 with fail
  go_quiet (fail)
  go_upto_region 2 with fail
  go_quiet (fail)
  go_wp2_with fail
  go_ret
  exact ⟨rfl,below_drewN (below_drewN (Below.refl _ _) _) _⟩
theorem next_is (h:St L En B b (.slice ao N lc) w tv s) (hN:L.length=N):Calls Tryz.prog 101 #[.pointer (some ⟨b,0,none⟩)] w (SP (nextR L s) w):=by
 have b0:=h.c0;have b1:=h.c1
 cases hx:L[s.a]? with
 | none=>
  have E:nextR L s=[]:=by unfold nextR;rw [hx]
  rw [E]
  have ge:N≤s.a:=by rw [←hN];exact List.getElem?_eq_none_iff.1 hx
  have d1:decide ((s.a:Int)<(N:Int))=false:=by simp;omega
  have d2:decide (s.a<N)=false:=by simp;omega
  clear h hx E ge hN
  go_enter Tryz.func101,Tryz.ntmps101
  go_upto_region 1 with fail
  go_quiet (fail)
  go_wp2_with fail
  go_ret
  exact ⟨rfl,below_drewN (Below.refl _ _) _⟩
 | some x=>
  have lt:s.a<N:=by rw [←hN];exact (List.getElem?_eq_some_iff.1 hx).1
  have d0:(0:Int)≤(s.a:Int):=by omega
  have d1:decide ((s.a:Int)<(N:Int))=true:=by simp;omega
  have d2:decide (s.a<N)=true:=by simp;omega
  have d3:(s.a:Int)<(N:Int):=by omega
  obtain ⟨g,o,H⟩:=here h.toks hx
  obtain rfl:=H.e
  have c0:=H.c0;have c1:=H.c1
  by_cases h2:x.k=2
  ·have E:nextR L s=[]:=by unfold nextR;rw [hx];exact if_pos h2
   rw [E]
   have e1:decide (x.k=2)=true:=decide_eq_true h2
   have e2:(x.k !=2)=false:=by simpa using h2
   have e3:(x.k==2)=true:=by simpa using h2
   clear h hx E lt H h2 hN
   go_enter Tryz.func101,Tryz.ntmps101
   go_upto_region 1 with fail
   go_quiet (fail)
   go_wp2_with fail
   go_ret
   exact ⟨rfl,below_drewN (Below.refl _ _) _⟩
  ·have E:nextR L s=x.t:=by unfold nextR;rw [hx];exact if_neg h2
   rw [E]
   have e1:decide (x.k=2)=false:=decide_eq_false h2
   have e2:(x.k !=2)=true:=by simpa using h2
   have e3:(x.k==2)=false:=by simpa using h2
   clear h hx E lt H h2 hN
   go_enter Tryz.func101,Tryz.ntmps101
   go_upto_region 1 with fail
   go_quiet (fail)
   go_upto_region 2 with fail
   go_quiet (fail)
   go_wp2_with fail
   go_ret
   exact ⟨rfl,below_drewN (below_drewN (Below.refl _ _) _) _⟩
end
end Go.Proofs.YteagpbkbdlmdiaaGreat.Ps
/- The document's parser: stop, must, deeper, infix, window, walked. -/
namespace Go.Proofs.YteagpbkbdlmdiaaGreat.Ps
set_option maxRecDepth 100000
open Go Go.RowKit Dt Tx Va Ev Lx
set_option linter.unusedSimpArgs false
set_option linter.unusedVariables false
attribute [local go_sem ↓] Go.wp_at_zero Go.wp_at_succ
def RP (L:List Tok) (En:Int) (B b:Nat) (lv:Value) (s':Rd) (w:World) (tv:Value) (w':World):Prop:=∃ tv',St L En B b lv w' tv' s'∧KX b tv w w'∧Fr tv w tv'
def RV (L:List Tok) (En:Int) (B b:Nat) (lv:Value) (s':Rd) (w:World) (tv:Value) (e:Ending) (w':World):Prop:=(∃ u,e=.returned u)∧RP L En B b lv s' w tv w'
section
variable {L:List Tok} {En:Int} {B b N lc:Nat} {ao:Option Addr} {tv:Value} {w:World} {s:Rd}
theorem RP.refl (h:St L En B b (.slice ao N lc) w tv s):RP L En B b (.slice ao N lc) s w tv w:=⟨tv,h,KX.refl,Fr.refl _ _⟩
theorem RP.of_below {w':World} (h:St L En B b (.slice ao N lc) w tv s) (k:Below w.heap.size w w'):RP L En B b (.slice ao N lc) s w tv w':=⟨tv,h.below k,KX.of_below k,Fr.refl _ _⟩
theorem RP.then {s1 s2:Rd} {w1 w2:World} {tv1:Value} (k1:KX b tv w w1) (f1:Fr tv w tv1) (h:RP L En B b (.slice ao N lc) s2 w1 tv1 w2):RP L En B b (.slice ao N lc) s2 w tv w2:=by
 obtain ⟨tv2,h2,k2,f2⟩:=h
 exact ⟨tv2,h2,k1.trans k2 f1,f1.trans f2 k1.size⟩
theorem stop_is (h:St L En B b (.slice ao N lc) w tv s) (hN:L.length=N) (e:Int):Calls Tryz.prog 50 #[.pointer (some ⟨b,0,none⟩),.int .i64 e] w (RV L En B b (.slice ao N lc) (stopR L En e s) w tv):=by
 by_cases h0:s.e=0
 ·have E:stopR L En e s={s with e:=e,b:=placeR L En s}:=if_pos h0
  rw [E]
  have d1:decide (s.e=0)=true:=decide_eq_true h0
  have d2:(s.e==0)=true:=by simpa using h0
  have b5:=h.c5;have f5:=h.f 5
  have S1:=Lib.hid (h.setE e)
  have K1:=Lib.hid (KX.set (KX.refl (b:=b) (tv:=tv) (w:=w)) 5 (.int .i64 e))
  have P:=place_is S1.out hN
  have PE:placeR L En {s with e:=e}=placeR L En s:=rfl
  rw [PE] at P
  clear PE
  obtain ⟨w1,hw1⟩:∃ W,Hid (w.setCell ⟨b,5,none⟩ (.int .i64 e)=W):=⟨_,Lib.hid rfl⟩
  rw [hw1.out] at S1 K1 P
  clear h h0 E hN
  go_enter Tryz.func50,Tryz.ntmps50
  go_upto_region 2 with fail
  rw [hw1.out]
  clear hw1 b5 f5
  go_wp2_with (go_at_call 102;(with_reducible refine P.mono ?_);rintro e2 w2 ⟨rfl,q2⟩;have S2:=Lib.hid (S1.out.below q2);have K2:=Lib.hid (K1.out.trans (KX.of_below (b:=b) q2) (Fr.refl _ _));have b6:=S2.out.c6;have f6:=S2.out.f 6;clear q2 P S1 K1)
  go_end0
  exact ⟨⟨_,rfl⟩,tv,S2.out.setB _,K2.out.set _ _,Fr.refl _ _⟩
 ·have E:stopR L En e s=s:=if_neg h0
  rw [E]
  have d1:decide (s.e=0)=false:=decide_eq_false h0
  have d2:(s.e==0)=false:=by simpa using h0
  have b5:=h.c5
  have HR:=Lib.hid (RP.refl h)
  clear h h0 E hN
  go_enter Tryz.func50,Tryz.ntmps50
  go_wp2_with fail
  go_end0
  exact ⟨⟨_,rfl⟩,HR.out⟩
theorem must_is (h:St L En B b (.slice ao N lc) w tv s) (hN:L.length=N) (hl:N≤1000) (ha:s.a≤N) (l:List UInt8) (S:ByteArray) (hS:bs l=S):Calls Tryz.prog 143 #[.pointer (some ⟨b,0,none⟩),.string S] w (RV L En B b (.slice ao N lc) (mustR L En l s) w tv):=by
 subst hS
 by_cases h0:s.e=0
 ·have d1:decide (s.e=0)=true:=decide_eq_true h0
  have d2:(s.e !=0)=false:=by simpa using h0
  have b5:=h.c5
  have NX:=next_is h hN
  by_cases hw:nextR L s=l
  ·have E:mustR L En l s=upR s:=by unfold mustR;rw [if_pos h0,if_pos hw]
   rw [E]
   rw [hw] at NX
   have ss:=self_toList (bs l)
   have ss2:((bs l).toList !=(bs l).toList)=false:=by simp
   obtain ⟨S,hS⟩:∃ S,Hid (bs l=S):=⟨_,Lib.hid rfl⟩
   unfold SP at NX
   rw [hS.out] at NX ss ss2⊢
   have kw:IntKind.i64.wrap ((s.a:Int)+1)=(s.a:Int)+1:=Ev.wrap1 s.a (by omega)
   have HS:=Lib.hid h
   clear h h0 hw E hN hS
   go_enter Tryz.func143,Tryz.ntmps143
   go_wp2_with (go_at_call 101;(with_reducible refine NX.mono ?_);rintro e1 w1 ⟨rfl,q1⟩;have S1:=Lib.hid (HS.out.below q1);have K1:=Lib.hid (KX.of_below (b:=b) (tv:=tv) q1);have b1:=S1.out.c1;have f1:=S1.out.f 1;clear q1 NX)
   go_end0
   exact ⟨⟨_,rfl⟩,tv,S1.out.setA (s.a+1),K1.out.set _ _,Fr.refl _ _⟩
  ·have E:mustR L En l s=stopR L En 4 s:=by unfold mustR;rw [if_pos h0,if_neg hw]
   rw [E]
   have ss:((bs (nextR L s)).toList==(bs l).toList)=false:=by rw [bs_toList,bs_toList];simpa using hw
   have ss2:((bs (nextR L s)).toList !=(bs l).toList)=true:=by rw [bs_toList,bs_toList];simpa using hw
   obtain ⟨S,hS⟩:∃ S,Hid (bs l=S):=⟨_,Lib.hid rfl⟩
   obtain ⟨U,hU⟩:∃ S,Hid (bs (nextR L s)=S):=⟨_,Lib.hid rfl⟩
   unfold SP at NX
   rw [hS.out] at ss ss2⊢
   rw [hU.out] at NX ss ss2
   have HS:=Lib.hid h;have HN:=Lib.hid hN
   clear h h0 hw E hN hS hU
   go_enter Tryz.func143,Tryz.ntmps143
   go_wp2_with (first | (go_at_call 101;(with_reducible refine NX.mono ?_);rintro e1 w1 ⟨rfl,q1⟩;have K1:=Lib.hid (KX.of_below (b:=b) (tv:=tv) q1);have SC:=stop_is (HS.out.below q1) HN.out 4;clear q1 NX) | (go_at_call 50;(with_reducible refine SC.mono ?_);rintro e2 w2 ⟨⟨u2,rfl⟩,r2⟩;have R2:=Lib.hid (RP.then (s1:=s) K1.out (Fr.refl _ _) r2);clear r2 SC))
   go_end0
   exact ⟨⟨_,rfl⟩,R2.out⟩
 ·have E:mustR L En l s=s:=if_neg h0
  rw [E]
  have d1:decide (s.e=0)=false:=decide_eq_false h0
  have d2:(s.e !=0)=true:=by simpa using h0
  have b5:=h.c5
  have HR:=Lib.hid (RP.refl h)
  clear h h0 E hN
  go_enter Tryz.func143,Tryz.ntmps143
  go_wp2_with fail
  go_end0
  exact ⟨⟨_,rfl⟩,HR.out⟩
theorem wrapI {x:Int} (h:-1000000≤x) (h2:x≤1000000):IntKind.i64.wrap x=x:=by rw [IntWalk.i64_left];exact IntWalk.wrap64_in _ (by omega)
theorem deeper_is (h:St L En B b (.slice ao N lc) w tv s) (hN:L.length=N) (hd:-100000≤s.d) (hd2:s.d≤100000):Calls Tryz.prog 103 #[.pointer (some ⟨b,0,none⟩)] w (RV L En B b (.slice ao N lc) (deeperR L En s) w tv):=by
 have kw:IntKind.i64.wrap (s.d+1)=s.d+1:=wrapI (by omega) (by omega)
 have b3:=h.c3
 by_cases h0:16≤s.d
 ·have E:deeperR L En s={stopR L En 10 s with d:=s.d+1}:=by unfold deeperR fullR;rw [if_pos h0]
  rw [E]
  have d1:decide (16≤s.d)=true:=decide_eq_true h0
  have d2:decide (s.d ≥ 16)=true:=decide_eq_true h0
  have SC:=stop_is h hN 10
  have HD:=(stop_a (L:=L) (En:=En) (s:=s) 10).2.2
  have HK:=Lib.hid hN
  clear h h0 E hN hd hd2
  go_enter Tryz.func103,Tryz.ntmps103
  go_wp2_with (go_at_call 50;(with_reducible refine SC.mono ?_);rintro e2 w2 ⟨⟨u2,rfl⟩,tv2,s2,k2,fr2⟩;have S2:=Lib.hid s2;have K2:=Lib.hid k2;have F2:=Lib.hid fr2;have c3:=s2.c3;have f3:=s2.f 3;rw [HD] at c3;clear s2 k2 fr2 SC b3)
  go_end0
  exact ⟨⟨_,rfl⟩,tv2,S2.out.setD _,K2.out.set _ _,F2.out⟩
 ·have E:deeperR L En s={s with d:=s.d+1}:=by unfold deeperR fullR;rw [if_neg h0]
  rw [E]
  have d1:decide (16≤s.d)=false:=decide_eq_false h0
  have d2:decide (s.d ≥ 16)=false:=decide_eq_false h0
  have f3:=h.f 3
  have HS:=Lib.hid h
  clear h h0 E hN hd hd2
  go_enter Tryz.func103,Tryz.ntmps103
  go_wp2_with fail
  go_end0
  exact ⟨⟨_,rfl⟩,tv,HS.out.setD _,KX.refl.set _ _,Fr.refl _ _⟩
end
def U8P (z:Int) (w:World) (e:Ending) (w':World):Prop:=e=.returned (.int .u8 z)∧Below w.heap.size w w'
theorem window_is {w:World} (l:List UInt8):Calls Tryz.prog 145 #[.string (bs l)] w (U8P (windowR l) w):=by
 obtain ⟨S,hS⟩:∃ S,Hid (bs l=S):=⟨_,Lib.hid rfl⟩
 rw [hS.out]
 by_cases g0:l=[108,97,103]
 ·skip
  have E:windowR l=26:=by unfold windowR;rw [if_pos g0]
  rw [E]
  have s0:(S.toList==[108,97,103])=true:=by rw [←hS.out,bs_toList];simpa using g0
  have t0:(S.toList !=[108,97,103])=false:=by rw [←hS.out,bs_toList];simpa using g0
  clear E hS g0
  go_enter Tryz.func145,Tryz.ntmps145
  go_wp2_with fail
  go_ret
  exact ⟨rfl,Below.refl _ _⟩
 ·skip
  by_cases g1:l=[108,101,97,115,116]
  ·skip
   have E:windowR l=27:=by unfold windowR;rw [if_neg g0,if_pos g1]
   rw [E]
   have s0:(S.toList==[108,97,103])=false:=by rw [←hS.out,bs_toList];simpa using g0
   have t0:(S.toList !=[108,97,103])=true:=by rw [←hS.out,bs_toList];simpa using g0
   have s1:(S.toList==[108,101,97,115,116])=true:=by rw [←hS.out,bs_toList];simpa using g1
   have t1:(S.toList !=[108,101,97,115,116])=false:=by rw [←hS.out,bs_toList];simpa using g1
   clear E hS g0 g1
   go_enter Tryz.func145,Tryz.ntmps145
   go_wp2_with fail
   go_ret
   exact ⟨rfl,Below.refl _ _⟩
  ·skip
   by_cases g2:l=[109,111,115,116]
   ·skip
    have E:windowR l=28:=by unfold windowR;rw [if_neg g0,if_neg g1,if_pos g2]
    rw [E]
    have s0:(S.toList==[108,97,103])=false:=by rw [←hS.out,bs_toList];simpa using g0
    have t0:(S.toList !=[108,97,103])=true:=by rw [←hS.out,bs_toList];simpa using g0
    have s1:(S.toList==[108,101,97,115,116])=false:=by rw [←hS.out,bs_toList];simpa using g1
    have t1:(S.toList !=[108,101,97,115,116])=true:=by rw [←hS.out,bs_toList];simpa using g1
    have s2:(S.toList==[109,111,115,116])=true:=by rw [←hS.out,bs_toList];simpa using g2
    have t2:(S.toList !=[109,111,115,116])=false:=by rw [←hS.out,bs_toList];simpa using g2
    clear E hS g0 g1 g2
    go_enter Tryz.func145,Tryz.ntmps145
    go_wp2_with fail
    go_ret
    exact ⟨rfl,Below.refl _ _⟩
   ·skip
    by_cases g3:l=[97,110,121]
    ·skip
     have E:windowR l=29:=by unfold windowR;rw [if_neg g0,if_neg g1,if_neg g2,if_pos g3]
     rw [E]
     have s0:(S.toList==[108,97,103])=false:=by rw [←hS.out,bs_toList];simpa using g0
     have t0:(S.toList !=[108,97,103])=true:=by rw [←hS.out,bs_toList];simpa using g0
     have s1:(S.toList==[108,101,97,115,116])=false:=by rw [←hS.out,bs_toList];simpa using g1
     have t1:(S.toList !=[108,101,97,115,116])=true:=by rw [←hS.out,bs_toList];simpa using g1
     have s2:(S.toList==[109,111,115,116])=false:=by rw [←hS.out,bs_toList];simpa using g2
     have t2:(S.toList !=[109,111,115,116])=true:=by rw [←hS.out,bs_toList];simpa using g2
     have s3:(S.toList==[97,110,121])=true:=by rw [←hS.out,bs_toList];simpa using g3
     have t3:(S.toList !=[97,110,121])=false:=by rw [←hS.out,bs_toList];simpa using g3
     clear E hS g0 g1 g2 g3
     go_enter Tryz.func145,Tryz.ntmps145
     go_wp2_with fail
     go_ret
     exact ⟨rfl,Below.refl _ _⟩
    ·skip
     by_cases g4:l=[101,118,101,114,121]
     ·skip
      have E:windowR l=30:=by unfold windowR;rw [if_neg g0,if_neg g1,if_neg g2,if_neg g3,if_pos g4]
      rw [E]
      have s0:(S.toList==[108,97,103])=false:=by rw [←hS.out,bs_toList];simpa using g0
      have t0:(S.toList !=[108,97,103])=true:=by rw [←hS.out,bs_toList];simpa using g0
      have s1:(S.toList==[108,101,97,115,116])=false:=by rw [←hS.out,bs_toList];simpa using g1
      have t1:(S.toList !=[108,101,97,115,116])=true:=by rw [←hS.out,bs_toList];simpa using g1
      have s2:(S.toList==[109,111,115,116])=false:=by rw [←hS.out,bs_toList];simpa using g2
      have t2:(S.toList !=[109,111,115,116])=true:=by rw [←hS.out,bs_toList];simpa using g2
      have s3:(S.toList==[97,110,121])=false:=by rw [←hS.out,bs_toList];simpa using g3
      have t3:(S.toList !=[97,110,121])=true:=by rw [←hS.out,bs_toList];simpa using g3
      have s4:(S.toList==[101,118,101,114,121])=true:=by rw [←hS.out,bs_toList];simpa using g4
      have t4:(S.toList !=[101,118,101,114,121])=false:=by rw [←hS.out,bs_toList];simpa using g4
      clear E hS g0 g1 g2 g3 g4
      go_enter Tryz.func145,Tryz.ntmps145
      go_wp2_with fail
      go_ret
      exact ⟨rfl,Below.refl _ _⟩
     ·skip
      have E:windowR l=0:=by unfold windowR;rw [if_neg g0,if_neg g1,if_neg g2,if_neg g3,if_neg g4]
      rw [E]
      have s0:(S.toList==[108,97,103])=false:=by rw [←hS.out,bs_toList];simpa using g0
      have t0:(S.toList !=[108,97,103])=true:=by rw [←hS.out,bs_toList];simpa using g0
      have s1:(S.toList==[108,101,97,115,116])=false:=by rw [←hS.out,bs_toList];simpa using g1
      have t1:(S.toList !=[108,101,97,115,116])=true:=by rw [←hS.out,bs_toList];simpa using g1
      have s2:(S.toList==[109,111,115,116])=false:=by rw [←hS.out,bs_toList];simpa using g2
      have t2:(S.toList !=[109,111,115,116])=true:=by rw [←hS.out,bs_toList];simpa using g2
      have s3:(S.toList==[97,110,121])=false:=by rw [←hS.out,bs_toList];simpa using g3
      have t3:(S.toList !=[97,110,121])=true:=by rw [←hS.out,bs_toList];simpa using g3
      have s4:(S.toList==[101,118,101,114,121])=false:=by rw [←hS.out,bs_toList];simpa using g4
      have t4:(S.toList !=[101,118,101,114,121])=true:=by rw [←hS.out,bs_toList];simpa using g4
      clear E hS g0 g1 g2 g3 g4
      go_enter Tryz.func145,Tryz.ntmps145
      go_wp2_with fail
      go_ret
      exact ⟨rfl,Below.refl _ _⟩
theorem infix_0 {w:World} (l:List UInt8):Calls Tryz.prog 105 #[.int .i64 0,.string (bs l)] w (U8P (infixR 0 l) w):=by
 obtain ⟨S,hS⟩:∃ S,Hid (bs l=S):=⟨_,Lib.hid rfl⟩
 rw [hS.out]
 by_cases g0:l=[111,114]
 ·skip
  have E:infixR 0 l=5:=by show (if l=[111,114] then (5:Int) else 0)=_;rw [if_pos g0]
  rw [E]
  have s0:(S.toList==[111,114])=true:=by rw [←hS.out,bs_toList];simpa using g0
  have t0:(S.toList !=[111,114])=false:=by rw [←hS.out,bs_toList];simpa using g0
  clear E hS g0
  go_enter Tryz.func105,Tryz.ntmps105
  go_wp2_with fail
  go_ret
  exact ⟨rfl,Below.refl _ _⟩
 ·skip
  have E:infixR 0 l=0:=by show (if l=[111,114] then (5:Int) else 0)=_;rw [if_neg g0]
  rw [E]
  have s0:(S.toList==[111,114])=false:=by rw [←hS.out,bs_toList];simpa using g0
  have t0:(S.toList !=[111,114])=true:=by rw [←hS.out,bs_toList];simpa using g0
  clear E hS g0
  go_enter Tryz.func105,Tryz.ntmps105
  go_wp2_with fail
  go_ret
  exact ⟨rfl,Below.refl _ _⟩
theorem infix_1 {w:World} (l:List UInt8):Calls Tryz.prog 105 #[.int .i64 1,.string (bs l)] w (U8P (infixR 1 l) w):=by
 obtain ⟨S,hS⟩:∃ S,Hid (bs l=S):=⟨_,Lib.hid rfl⟩
 rw [hS.out]
 by_cases g0:l=[97,110,100]
 ·skip
  have E:infixR 1 l=6:=by show (if l=[97,110,100] then (6:Int) else 0)=_;rw [if_pos g0]
  rw [E]
  have s0:(S.toList==[97,110,100])=true:=by rw [←hS.out,bs_toList];simpa using g0
  have t0:(S.toList !=[97,110,100])=false:=by rw [←hS.out,bs_toList];simpa using g0
  clear E hS g0
  go_enter Tryz.func105,Tryz.ntmps105
  go_wp2_with fail
  go_ret
  exact ⟨rfl,Below.refl _ _⟩
 ·skip
  have E:infixR 1 l=0:=by show (if l=[97,110,100] then (6:Int) else 0)=_;rw [if_neg g0]
  rw [E]
  have s0:(S.toList==[97,110,100])=false:=by rw [←hS.out,bs_toList];simpa using g0
  have t0:(S.toList !=[97,110,100])=true:=by rw [←hS.out,bs_toList];simpa using g0
  clear E hS g0
  go_enter Tryz.func105,Tryz.ntmps105
  go_wp2_with fail
  go_ret
  exact ⟨rfl,Below.refl _ _⟩
theorem infix_2 {w:World} (l:List UInt8):Calls Tryz.prog 105 #[.int .i64 2,.string (bs l)] w (U8P (infixR 2 l) w):=by
 obtain ⟨S,hS⟩:∃ S,Hid (bs l=S):=⟨_,Lib.hid rfl⟩
 rw [hS.out]
 have E:infixR 2 l=0:=by rfl
 rw [E]
 clear E hS
 go_enter Tryz.func105,Tryz.ntmps105
 go_wp2_with fail
 go_ret
 exact ⟨rfl,Below.refl _ _⟩
theorem infix_3 {w:World} (l:List UInt8):Calls Tryz.prog 105 #[.int .i64 3,.string (bs l)] w (U8P (infixR 3 l) w):=by
 obtain ⟨S,hS⟩:∃ S,Hid (bs l=S):=⟨_,Lib.hid rfl⟩
 rw [hS.out]
 by_cases g0:l=[61]
 ·skip
  have E:infixR 3 l=8:=by show (if l=[61] then (8:Int) else if l=[60,62] then (9:Int) else if l=[60] then (10:Int) else if l=[60,61] then (11:Int) else if l=[62] then (12:Int) else if l=[62,61] then (13:Int) else 0)=_;rw [if_pos g0]
  rw [E]
  have s0:(S.toList==[61])=true:=by rw [←hS.out,bs_toList];simpa using g0
  have t0:(S.toList !=[61])=false:=by rw [←hS.out,bs_toList];simpa using g0
  clear E hS g0
  go_enter Tryz.func105,Tryz.ntmps105
  go_wp2_with fail
  go_ret
  exact ⟨rfl,Below.refl _ _⟩
 ·skip
  by_cases g1:l=[60,62]
  ·skip
   have E:infixR 3 l=9:=by show (if l=[61] then (8:Int) else if l=[60,62] then (9:Int) else if l=[60] then (10:Int) else if l=[60,61] then (11:Int) else if l=[62] then (12:Int) else if l=[62,61] then (13:Int) else 0)=_;rw [if_neg g0,if_pos g1]
   rw [E]
   have s0:(S.toList==[61])=false:=by rw [←hS.out,bs_toList];simpa using g0
   have t0:(S.toList !=[61])=true:=by rw [←hS.out,bs_toList];simpa using g0
   have s1:(S.toList==[60,62])=true:=by rw [←hS.out,bs_toList];simpa using g1
   have t1:(S.toList !=[60,62])=false:=by rw [←hS.out,bs_toList];simpa using g1
   clear E hS g0 g1
   go_enter Tryz.func105,Tryz.ntmps105
   go_wp2_with fail
   go_ret
   exact ⟨rfl,Below.refl _ _⟩
  ·skip
   by_cases g2:l=[60]
   ·skip
    have E:infixR 3 l=10:=by show (if l=[61] then (8:Int) else if l=[60,62] then (9:Int) else if l=[60] then (10:Int) else if l=[60,61] then (11:Int) else if l=[62] then (12:Int) else if l=[62,61] then (13:Int) else 0)=_;rw [if_neg g0,if_neg g1,if_pos g2]
    rw [E]
    have s0:(S.toList==[61])=false:=by rw [←hS.out,bs_toList];simpa using g0
    have t0:(S.toList !=[61])=true:=by rw [←hS.out,bs_toList];simpa using g0
    have s1:(S.toList==[60,62])=false:=by rw [←hS.out,bs_toList];simpa using g1
    have t1:(S.toList !=[60,62])=true:=by rw [←hS.out,bs_toList];simpa using g1
    have s2:(S.toList==[60])=true:=by rw [←hS.out,bs_toList];simpa using g2
    have t2:(S.toList !=[60])=false:=by rw [←hS.out,bs_toList];simpa using g2
    clear E hS g0 g1 g2
    go_enter Tryz.func105,Tryz.ntmps105
    go_wp2_with fail
    go_ret
    exact ⟨rfl,Below.refl _ _⟩
   ·skip
    by_cases g3:l=[60,61]
    ·skip
     have E:infixR 3 l=11:=by show (if l=[61] then (8:Int) else if l=[60,62] then (9:Int) else if l=[60] then (10:Int) else if l=[60,61] then (11:Int) else if l=[62] then (12:Int) else if l=[62,61] then (13:Int) else 0)=_;rw [if_neg g0,if_neg g1,if_neg g2,if_pos g3]
     rw [E]
     have s0:(S.toList==[61])=false:=by rw [←hS.out,bs_toList];simpa using g0
     have t0:(S.toList !=[61])=true:=by rw [←hS.out,bs_toList];simpa using g0
     have s1:(S.toList==[60,62])=false:=by rw [←hS.out,bs_toList];simpa using g1
     have t1:(S.toList !=[60,62])=true:=by rw [←hS.out,bs_toList];simpa using g1
     have s2:(S.toList==[60])=false:=by rw [←hS.out,bs_toList];simpa using g2
     have t2:(S.toList !=[60])=true:=by rw [←hS.out,bs_toList];simpa using g2
     have s3:(S.toList==[60,61])=true:=by rw [←hS.out,bs_toList];simpa using g3
     have t3:(S.toList !=[60,61])=false:=by rw [←hS.out,bs_toList];simpa using g3
     clear E hS g0 g1 g2 g3
     go_enter Tryz.func105,Tryz.ntmps105
     go_wp2_with fail
     go_ret
     exact ⟨rfl,Below.refl _ _⟩
    ·skip
     by_cases g4:l=[62]
     ·skip
      have E:infixR 3 l=12:=by show (if l=[61] then (8:Int) else if l=[60,62] then (9:Int) else if l=[60] then (10:Int) else if l=[60,61] then (11:Int) else if l=[62] then (12:Int) else if l=[62,61] then (13:Int) else 0)=_;rw [if_neg g0,if_neg g1,if_neg g2,if_neg g3,if_pos g4]
      rw [E]
      have s0:(S.toList==[61])=false:=by rw [←hS.out,bs_toList];simpa using g0
      have t0:(S.toList !=[61])=true:=by rw [←hS.out,bs_toList];simpa using g0
      have s1:(S.toList==[60,62])=false:=by rw [←hS.out,bs_toList];simpa using g1
      have t1:(S.toList !=[60,62])=true:=by rw [←hS.out,bs_toList];simpa using g1
      have s2:(S.toList==[60])=false:=by rw [←hS.out,bs_toList];simpa using g2
      have t2:(S.toList !=[60])=true:=by rw [←hS.out,bs_toList];simpa using g2
      have s3:(S.toList==[60,61])=false:=by rw [←hS.out,bs_toList];simpa using g3
      have t3:(S.toList !=[60,61])=true:=by rw [←hS.out,bs_toList];simpa using g3
      have s4:(S.toList==[62])=true:=by rw [←hS.out,bs_toList];simpa using g4
      have t4:(S.toList !=[62])=false:=by rw [←hS.out,bs_toList];simpa using g4
      clear E hS g0 g1 g2 g3 g4
      go_enter Tryz.func105,Tryz.ntmps105
      go_wp2_with fail
      go_ret
      exact ⟨rfl,Below.refl _ _⟩
     ·skip
      by_cases g5:l=[62,61]
      ·skip
       have E:infixR 3 l=13:=by show (if l=[61] then (8:Int) else if l=[60,62] then (9:Int) else if l=[60] then (10:Int) else if l=[60,61] then (11:Int) else if l=[62] then (12:Int) else if l=[62,61] then (13:Int) else 0)=_;rw [if_neg g0,if_neg g1,if_neg g2,if_neg g3,if_neg g4,if_pos g5]
       rw [E]
       have s0:(S.toList==[61])=false:=by rw [←hS.out,bs_toList];simpa using g0
       have t0:(S.toList !=[61])=true:=by rw [←hS.out,bs_toList];simpa using g0
       have s1:(S.toList==[60,62])=false:=by rw [←hS.out,bs_toList];simpa using g1
       have t1:(S.toList !=[60,62])=true:=by rw [←hS.out,bs_toList];simpa using g1
       have s2:(S.toList==[60])=false:=by rw [←hS.out,bs_toList];simpa using g2
       have t2:(S.toList !=[60])=true:=by rw [←hS.out,bs_toList];simpa using g2
       have s3:(S.toList==[60,61])=false:=by rw [←hS.out,bs_toList];simpa using g3
       have t3:(S.toList !=[60,61])=true:=by rw [←hS.out,bs_toList];simpa using g3
       have s4:(S.toList==[62])=false:=by rw [←hS.out,bs_toList];simpa using g4
       have t4:(S.toList !=[62])=true:=by rw [←hS.out,bs_toList];simpa using g4
       have s5:(S.toList==[62,61])=true:=by rw [←hS.out,bs_toList];simpa using g5
       have t5:(S.toList !=[62,61])=false:=by rw [←hS.out,bs_toList];simpa using g5
       clear E hS g0 g1 g2 g3 g4 g5
       go_enter Tryz.func105,Tryz.ntmps105
       go_wp2_with fail
       go_ret
       exact ⟨rfl,Below.refl _ _⟩
      ·skip
       have E:infixR 3 l=0:=by show (if l=[61] then (8:Int) else if l=[60,62] then (9:Int) else if l=[60] then (10:Int) else if l=[60,61] then (11:Int) else if l=[62] then (12:Int) else if l=[62,61] then (13:Int) else 0)=_;rw [if_neg g0,if_neg g1,if_neg g2,if_neg g3,if_neg g4,if_neg g5]
       rw [E]
       have s0:(S.toList==[61])=false:=by rw [←hS.out,bs_toList];simpa using g0
       have t0:(S.toList !=[61])=true:=by rw [←hS.out,bs_toList];simpa using g0
       have s1:(S.toList==[60,62])=false:=by rw [←hS.out,bs_toList];simpa using g1
       have t1:(S.toList !=[60,62])=true:=by rw [←hS.out,bs_toList];simpa using g1
       have s2:(S.toList==[60])=false:=by rw [←hS.out,bs_toList];simpa using g2
       have t2:(S.toList !=[60])=true:=by rw [←hS.out,bs_toList];simpa using g2
       have s3:(S.toList==[60,61])=false:=by rw [←hS.out,bs_toList];simpa using g3
       have t3:(S.toList !=[60,61])=true:=by rw [←hS.out,bs_toList];simpa using g3
       have s4:(S.toList==[62])=false:=by rw [←hS.out,bs_toList];simpa using g4
       have t4:(S.toList !=[62])=true:=by rw [←hS.out,bs_toList];simpa using g4
       have s5:(S.toList==[62,61])=false:=by rw [←hS.out,bs_toList];simpa using g5
       have t5:(S.toList !=[62,61])=true:=by rw [←hS.out,bs_toList];simpa using g5
       clear E hS g0 g1 g2 g3 g4 g5
       go_enter Tryz.func105,Tryz.ntmps105
       go_wp2_with fail
       go_ret
       exact ⟨rfl,Below.refl _ _⟩
theorem infix_4 {w:World} (l:List UInt8):Calls Tryz.prog 105 #[.int .i64 4,.string (bs l)] w (U8P (infixR 4 l) w):=by
 obtain ⟨S,hS⟩:∃ S,Hid (bs l=S):=⟨_,Lib.hid rfl⟩
 rw [hS.out]
 by_cases g0:l=[43]
 ·skip
  have E:infixR 4 l=14:=by show (if l=[43] then (14:Int) else if l=[45] then (15:Int) else 0)=_;rw [if_pos g0]
  rw [E]
  have s0:(S.toList==[43])=true:=by rw [←hS.out,bs_toList];simpa using g0
  have t0:(S.toList !=[43])=false:=by rw [←hS.out,bs_toList];simpa using g0
  clear E hS g0
  go_enter Tryz.func105,Tryz.ntmps105
  go_wp2_with fail
  go_ret
  exact ⟨rfl,Below.refl _ _⟩
 ·skip
  by_cases g1:l=[45]
  ·skip
   have E:infixR 4 l=15:=by show (if l=[43] then (14:Int) else if l=[45] then (15:Int) else 0)=_;rw [if_neg g0,if_pos g1]
   rw [E]
   have s0:(S.toList==[43])=false:=by rw [←hS.out,bs_toList];simpa using g0
   have t0:(S.toList !=[43])=true:=by rw [←hS.out,bs_toList];simpa using g0
   have s1:(S.toList==[45])=true:=by rw [←hS.out,bs_toList];simpa using g1
   have t1:(S.toList !=[45])=false:=by rw [←hS.out,bs_toList];simpa using g1
   clear E hS g0 g1
   go_enter Tryz.func105,Tryz.ntmps105
   go_wp2_with fail
   go_ret
   exact ⟨rfl,Below.refl _ _⟩
  ·skip
   have E:infixR 4 l=0:=by show (if l=[43] then (14:Int) else if l=[45] then (15:Int) else 0)=_;rw [if_neg g0,if_neg g1]
   rw [E]
   have s0:(S.toList==[43])=false:=by rw [←hS.out,bs_toList];simpa using g0
   have t0:(S.toList !=[43])=true:=by rw [←hS.out,bs_toList];simpa using g0
   have s1:(S.toList==[45])=false:=by rw [←hS.out,bs_toList];simpa using g1
   have t1:(S.toList !=[45])=true:=by rw [←hS.out,bs_toList];simpa using g1
   clear E hS g0 g1
   go_enter Tryz.func105,Tryz.ntmps105
   go_wp2_with fail
   go_ret
   exact ⟨rfl,Below.refl _ _⟩
theorem infix_5 {w:World} (l:List UInt8):Calls Tryz.prog 105 #[.int .i64 5,.string (bs l)] w (U8P (infixR 5 l) w):=by
 obtain ⟨S,hS⟩:∃ S,Hid (bs l=S):=⟨_,Lib.hid rfl⟩
 rw [hS.out]
 by_cases g0:l=[42]
 ·skip
  have E:infixR 5 l=16:=by show (if l=[42] then (16:Int) else if l=[47] then (17:Int) else 0)=_;rw [if_pos g0]
  rw [E]
  have s0:(S.toList==[42])=true:=by rw [←hS.out,bs_toList];simpa using g0
  have t0:(S.toList !=[42])=false:=by rw [←hS.out,bs_toList];simpa using g0
  clear E hS g0
  go_enter Tryz.func105,Tryz.ntmps105
  go_wp2_with fail
  go_ret
  exact ⟨rfl,Below.refl _ _⟩
 ·skip
  by_cases g1:l=[47]
  ·skip
   have E:infixR 5 l=17:=by show (if l=[42] then (16:Int) else if l=[47] then (17:Int) else 0)=_;rw [if_neg g0,if_pos g1]
   rw [E]
   have s0:(S.toList==[42])=false:=by rw [←hS.out,bs_toList];simpa using g0
   have t0:(S.toList !=[42])=true:=by rw [←hS.out,bs_toList];simpa using g0
   have s1:(S.toList==[47])=true:=by rw [←hS.out,bs_toList];simpa using g1
   have t1:(S.toList !=[47])=false:=by rw [←hS.out,bs_toList];simpa using g1
   clear E hS g0 g1
   go_enter Tryz.func105,Tryz.ntmps105
   go_wp2_with fail
   go_ret
   exact ⟨rfl,Below.refl _ _⟩
  ·skip
   have E:infixR 5 l=0:=by show (if l=[42] then (16:Int) else if l=[47] then (17:Int) else 0)=_;rw [if_neg g0,if_neg g1]
   rw [E]
   have s0:(S.toList==[42])=false:=by rw [←hS.out,bs_toList];simpa using g0
   have t0:(S.toList !=[42])=true:=by rw [←hS.out,bs_toList];simpa using g0
   have s1:(S.toList==[47])=false:=by rw [←hS.out,bs_toList];simpa using g1
   have t1:(S.toList !=[47])=true:=by rw [←hS.out,bs_toList];simpa using g1
   clear E hS g0 g1
   go_enter Tryz.func105,Tryz.ntmps105
   go_wp2_with fail
   go_ret
   exact ⟨rfl,Below.refl _ _⟩
theorem infix_6 {w:World} (l:List UInt8):Calls Tryz.prog 105 #[.int .i64 6,.string (bs l)] w (U8P (infixR 6 l) w):=by
 obtain ⟨S,hS⟩:∃ S,Hid (bs l=S):=⟨_,Lib.hid rfl⟩
 rw [hS.out]
 have E:infixR 6 l=0:=by rfl
 rw [E]
 clear E hS
 go_enter Tryz.func105,Tryz.ntmps105
 go_wp2_with fail
 go_ret
 exact ⟨rfl,Below.refl _ _⟩
theorem infix_is {w:World} (n:Nat) (hn:n≤6) (l:List UInt8):Calls Tryz.prog 105 #[.int .i64 (n:Int),.string (bs l)] w (U8P (infixR n l) w):=by
 match n,hn with
 | 0,_=>exact infix_0 l
 | 1,_=>exact infix_1 l
 | 2,_=>exact infix_2 l
 | 3,_=>exact infix_3 l
 | 4,_=>exact infix_4 l
 | 5,_=>exact infix_5 l
 | 6,_=>exact infix_6 l
end Go.Proofs.YteagpbkbdlmdiaaGreat.Ps
