/-
  The document's words: where a sign ends, walked.
-/
import Derived.Test.YteagpbkbdlmdiaaGreatQ30
set_option linter.unusedSimpArgs false
set_option linter.unusedVariables false
namespace Go.Proofs.YteagpbkbdlmdiaaGreat.Lx
open Go Go.RowKit Dt Tx
attribute [local go_sem ↓] Go.wp_at_zero Go.wp_at_succ
theorem one_facts (x:UInt8):(oneS x=true∧(x=61∨x=60∨x=62∨x=43∨x=45∨x=42∨x=47∨x=40∨x=41∨x=44))∨(oneS x=false∧¬x=61∧¬x=60∧¬x=62∧¬x=43∧¬x=45∧¬x=42∧¬x=47∧¬x=40∧¬x=41∧¬x=44):=by
 unfold oneS
 by_cases h:[61,60,62,43,45,42,47,40,41,44].contains x=true
 ·left
  refine ⟨h,?_⟩
  simpa using h
 ·right
  have h':[61,60,62,43,45,42,47,40,41,44].contains x=false:=by simpa using h
  refine ⟨h',?_⟩
  simpa using h'
theorem beq_no {x:UInt8} {n:Nat} (hn:n<256) (h:¬x=n.toUInt8):((x.toNat:Int)==(n:Int))=false:=by
 have:¬x.toNat=n:=fun e=>h (UInt8.toNat.inj (by rw [e];simp;omega))
 simp;omega
set_option maxRecDepth 100000 in
set_option maxHeartbeats 2000000 in
theorem end_sg {w:World} (l:List UInt8) (hl:l.length≤1000) (a:Nat) (x:UInt8) (hx:l[a]?=some x) (h:isLo x=false) (h2:isDg x=false):Calls Tryz.prog 96 #[.string (bs l),.int .i64 (a:Int)] w (EndPost (a+sgnL (l.drop a)) w):=by
 have hz:(bs l).size=l.length:=bs_size l
 have hlt:=(List.getElem?_eq_some_iff.1 hx).1
 have kc:=at_byte l a x hx
 have SM:=fun w=>small_is x w
 have DG:=fun w=>rdigit_is x w
 have i0:(0:Int)≤(a:Int):=by omega
 obtain ⟨N,hN⟩:∃ N,Hid (l.length=N):=⟨_,rfl⟩
 rw [hN.out] at hz hl hlt
 obtain ⟨S,hS⟩:∃ S,Hid (bs l=S):=⟨_,rfl⟩
 rw [hS.out] at hz kc⊢
 have HL:=Lib.hid hl
 have kw2:IntKind.i64.wrap ((a:Int)+2)=(a:Int)+2:=by rw [IntWalk.i64_left,IntWalk.wrap64_in _ (by omega)]
 have kw1:IntKind.i64.wrap ((a:Int)+1)=(a:Int)+1:=wrap1 a (by omega)
 rw [h] at SM
 rw [h2] at DG
 have hx0:(l.drop a)[0]?=some x:=by rw [List.getElem?_drop];simpa using hx
 have EE:sgnL (l.drop a)=if twoS (l.drop a)=true then 2 else if oneS x=true then 1 else 0:=by unfold sgnL;rw [hx0];rfl
 have ET:twoS (l.drop a)=((l.drop a).take 2==[60,61] || (l.drop a).take 2==[62,61] || (l.drop a).take 2==[60,62]):=rfl
 have SL:(k:a+2≤N)→∀ w,(Instr.slice 9 (.string (bs l)) (some (.int .i64 (a:Int))) (some (.int .i64 ((a:Int)+2))) none).run Tryz.prog w=.ok (.string (bs ((l.drop a).take 2))) w:=fun k=>by
  have:=slice_both l a (a+2) (by omega) (by rw [hN.out];exact k)
  rw [show a+2 - a=2 by omega] at this
  exact this
 rw [hS.out] at SL
 obtain ⟨z,hzz⟩:∃ y,Hid (x.toNat=y):=⟨_,rfl⟩
 rw [hzz.out] at SM DG kc
 by_cases p1:a+1<N
 ·have j1:decide ((a:Int)+1<(N:Int))=true:=by simp;omega
  have sl:=SL (by omega)
  obtain ⟨b0,hb0⟩:∃ b,Hid (((l.drop a).take 2==[60,61])=b):=⟨_,rfl⟩
  obtain ⟨b1,hb1⟩:∃ b,Hid (((l.drop a).take 2==[62,61])=b):=⟨_,rfl⟩
  obtain ⟨b2,hb2⟩:∃ b,Hid (((l.drop a).take 2==[60,62])=b):=⟨_,rfl⟩
  have t0:((bs ((l.drop a).take 2)).toList==[60,61])=b0:=by rw [bs_toList];exact hb0.out
  have t1:((bs ((l.drop a).take 2)).toList==[62,61])=b1:=by rw [bs_toList];exact hb1.out
  have t2:((bs ((l.drop a).take 2)).toList==[60,62])=b2:=by rw [bs_toList];exact hb2.out
  rw [hb0.out,hb1.out,hb2.out] at ET
  obtain ⟨U,hU⟩:∃ u,Hid (bs ((l.drop a).take 2)=u):=⟨_,rfl⟩
  rw [hU.out] at t0 t1 t2 sl
  rw [ET] at EE
  clear hb0 hb1 hb2 hU p1
  cases b0
  ·cases b1
   ·cases b2
    ·have EE:sgnL (l.drop a)=if oneS x=true then 1 else 0:=EE
     rcases one_facts x with ⟨o1,o2⟩ | ⟨o1,n0,n1,n2,n3,n4,n5,n6,n7,n8,n9⟩
     ·have E:=Lib.hid (show a+sgnL (l.drop a)=a+1 by rw [EE,o1];rfl)
      clear EE o1 hx h h2 hl hlt ET SL hx0
      rcases o2 with q0 | q0 | q0 | q0 | q0 | q0 | q0 | q0 | q0 | q0
      ·skip
       have m0:((z:Int)==61)=true:=by rw [←hzz.out,q0];rfl
       have r0:decide ((z:Int)=61)=true:=by rw [←hzz.out,q0];rfl
       clear hzz q0
       go_enter Tryz.func96,Tryz.ntmps96
       go_wp2_with (first | (go_at_call 97;(with_reducible refine (SM _).mono ?_);rintro e1 w1 ⟨rfl,hq⟩;obtain rfl:=hq.symm;clear SM) | (go_at_call 98;(with_reducible refine (DG _).mono ?_);rintro e2 w2 ⟨rfl,hq⟩;obtain rfl:=hq.symm;clear DG))
       go_ret
       exact ⟨by rw [E.out];rfl,rfl⟩
      ·skip
       have m0:((z:Int)==61)=false:=by rw [←hzz.out,q0];rfl
       have r0:decide ((z:Int)=61)=false:=by rw [←hzz.out,q0];rfl
       have m1:((z:Int)==60)=true:=by rw [←hzz.out,q0];rfl
       have r1:decide ((z:Int)=60)=true:=by rw [←hzz.out,q0];rfl
       clear hzz q0
       go_enter Tryz.func96,Tryz.ntmps96
       go_wp2_with (first | (go_at_call 97;(with_reducible refine (SM _).mono ?_);rintro e1 w1 ⟨rfl,hq⟩;obtain rfl:=hq.symm;clear SM) | (go_at_call 98;(with_reducible refine (DG _).mono ?_);rintro e2 w2 ⟨rfl,hq⟩;obtain rfl:=hq.symm;clear DG))
       go_ret
       exact ⟨by rw [E.out];rfl,rfl⟩
      ·skip
       have m0:((z:Int)==61)=false:=by rw [←hzz.out,q0];rfl
       have r0:decide ((z:Int)=61)=false:=by rw [←hzz.out,q0];rfl
       have m1:((z:Int)==60)=false:=by rw [←hzz.out,q0];rfl
       have r1:decide ((z:Int)=60)=false:=by rw [←hzz.out,q0];rfl
       have m2:((z:Int)==62)=true:=by rw [←hzz.out,q0];rfl
       have r2:decide ((z:Int)=62)=true:=by rw [←hzz.out,q0];rfl
       clear hzz q0
       go_enter Tryz.func96,Tryz.ntmps96
       go_wp2_with (first | (go_at_call 97;(with_reducible refine (SM _).mono ?_);rintro e1 w1 ⟨rfl,hq⟩;obtain rfl:=hq.symm;clear SM) | (go_at_call 98;(with_reducible refine (DG _).mono ?_);rintro e2 w2 ⟨rfl,hq⟩;obtain rfl:=hq.symm;clear DG))
       go_ret
       exact ⟨by rw [E.out];rfl,rfl⟩
      ·skip
       have m0:((z:Int)==61)=false:=by rw [←hzz.out,q0];rfl
       have r0:decide ((z:Int)=61)=false:=by rw [←hzz.out,q0];rfl
       have m1:((z:Int)==60)=false:=by rw [←hzz.out,q0];rfl
       have r1:decide ((z:Int)=60)=false:=by rw [←hzz.out,q0];rfl
       have m2:((z:Int)==62)=false:=by rw [←hzz.out,q0];rfl
       have r2:decide ((z:Int)=62)=false:=by rw [←hzz.out,q0];rfl
       have m3:((z:Int)==43)=true:=by rw [←hzz.out,q0];rfl
       have r3:decide ((z:Int)=43)=true:=by rw [←hzz.out,q0];rfl
       clear hzz q0
       go_enter Tryz.func96,Tryz.ntmps96
       go_wp2_with (first | (go_at_call 97;(with_reducible refine (SM _).mono ?_);rintro e1 w1 ⟨rfl,hq⟩;obtain rfl:=hq.symm;clear SM) | (go_at_call 98;(with_reducible refine (DG _).mono ?_);rintro e2 w2 ⟨rfl,hq⟩;obtain rfl:=hq.symm;clear DG))
       go_ret
       exact ⟨by rw [E.out];rfl,rfl⟩
      ·skip
       have m0:((z:Int)==61)=false:=by rw [←hzz.out,q0];rfl
       have r0:decide ((z:Int)=61)=false:=by rw [←hzz.out,q0];rfl
       have m1:((z:Int)==60)=false:=by rw [←hzz.out,q0];rfl
       have r1:decide ((z:Int)=60)=false:=by rw [←hzz.out,q0];rfl
       have m2:((z:Int)==62)=false:=by rw [←hzz.out,q0];rfl
       have r2:decide ((z:Int)=62)=false:=by rw [←hzz.out,q0];rfl
       have m3:((z:Int)==43)=false:=by rw [←hzz.out,q0];rfl
       have r3:decide ((z:Int)=43)=false:=by rw [←hzz.out,q0];rfl
       have m4:((z:Int)==45)=true:=by rw [←hzz.out,q0];rfl
       have r4:decide ((z:Int)=45)=true:=by rw [←hzz.out,q0];rfl
       clear hzz q0
       go_enter Tryz.func96,Tryz.ntmps96
       go_wp2_with (first | (go_at_call 97;(with_reducible refine (SM _).mono ?_);rintro e1 w1 ⟨rfl,hq⟩;obtain rfl:=hq.symm;clear SM) | (go_at_call 98;(with_reducible refine (DG _).mono ?_);rintro e2 w2 ⟨rfl,hq⟩;obtain rfl:=hq.symm;clear DG))
       go_ret
       exact ⟨by rw [E.out];rfl,rfl⟩
      ·skip
       have m0:((z:Int)==61)=false:=by rw [←hzz.out,q0];rfl
       have r0:decide ((z:Int)=61)=false:=by rw [←hzz.out,q0];rfl
       have m1:((z:Int)==60)=false:=by rw [←hzz.out,q0];rfl
       have r1:decide ((z:Int)=60)=false:=by rw [←hzz.out,q0];rfl
       have m2:((z:Int)==62)=false:=by rw [←hzz.out,q0];rfl
       have r2:decide ((z:Int)=62)=false:=by rw [←hzz.out,q0];rfl
       have m3:((z:Int)==43)=false:=by rw [←hzz.out,q0];rfl
       have r3:decide ((z:Int)=43)=false:=by rw [←hzz.out,q0];rfl
       have m4:((z:Int)==45)=false:=by rw [←hzz.out,q0];rfl
       have r4:decide ((z:Int)=45)=false:=by rw [←hzz.out,q0];rfl
       have m5:((z:Int)==42)=true:=by rw [←hzz.out,q0];rfl
       have r5:decide ((z:Int)=42)=true:=by rw [←hzz.out,q0];rfl
       clear hzz q0
       go_enter Tryz.func96,Tryz.ntmps96
       go_wp2_with (first | (go_at_call 97;(with_reducible refine (SM _).mono ?_);rintro e1 w1 ⟨rfl,hq⟩;obtain rfl:=hq.symm;clear SM) | (go_at_call 98;(with_reducible refine (DG _).mono ?_);rintro e2 w2 ⟨rfl,hq⟩;obtain rfl:=hq.symm;clear DG))
       go_ret
       exact ⟨by rw [E.out];rfl,rfl⟩
      ·skip
       have m0:((z:Int)==61)=false:=by rw [←hzz.out,q0];rfl
       have r0:decide ((z:Int)=61)=false:=by rw [←hzz.out,q0];rfl
       have m1:((z:Int)==60)=false:=by rw [←hzz.out,q0];rfl
       have r1:decide ((z:Int)=60)=false:=by rw [←hzz.out,q0];rfl
       have m2:((z:Int)==62)=false:=by rw [←hzz.out,q0];rfl
       have r2:decide ((z:Int)=62)=false:=by rw [←hzz.out,q0];rfl
       have m3:((z:Int)==43)=false:=by rw [←hzz.out,q0];rfl
       have r3:decide ((z:Int)=43)=false:=by rw [←hzz.out,q0];rfl
       have m4:((z:Int)==45)=false:=by rw [←hzz.out,q0];rfl
       have r4:decide ((z:Int)=45)=false:=by rw [←hzz.out,q0];rfl
       have m5:((z:Int)==42)=false:=by rw [←hzz.out,q0];rfl
       have r5:decide ((z:Int)=42)=false:=by rw [←hzz.out,q0];rfl
       have m6:((z:Int)==47)=true:=by rw [←hzz.out,q0];rfl
       have r6:decide ((z:Int)=47)=true:=by rw [←hzz.out,q0];rfl
       clear hzz q0
       go_enter Tryz.func96,Tryz.ntmps96
       go_wp2_with (first | (go_at_call 97;(with_reducible refine (SM _).mono ?_);rintro e1 w1 ⟨rfl,hq⟩;obtain rfl:=hq.symm;clear SM) | (go_at_call 98;(with_reducible refine (DG _).mono ?_);rintro e2 w2 ⟨rfl,hq⟩;obtain rfl:=hq.symm;clear DG))
       go_ret
       exact ⟨by rw [E.out];rfl,rfl⟩
      ·skip
       have m0:((z:Int)==61)=false:=by rw [←hzz.out,q0];rfl
       have r0:decide ((z:Int)=61)=false:=by rw [←hzz.out,q0];rfl
       have m1:((z:Int)==60)=false:=by rw [←hzz.out,q0];rfl
       have r1:decide ((z:Int)=60)=false:=by rw [←hzz.out,q0];rfl
       have m2:((z:Int)==62)=false:=by rw [←hzz.out,q0];rfl
       have r2:decide ((z:Int)=62)=false:=by rw [←hzz.out,q0];rfl
       have m3:((z:Int)==43)=false:=by rw [←hzz.out,q0];rfl
       have r3:decide ((z:Int)=43)=false:=by rw [←hzz.out,q0];rfl
       have m4:((z:Int)==45)=false:=by rw [←hzz.out,q0];rfl
       have r4:decide ((z:Int)=45)=false:=by rw [←hzz.out,q0];rfl
       have m5:((z:Int)==42)=false:=by rw [←hzz.out,q0];rfl
       have r5:decide ((z:Int)=42)=false:=by rw [←hzz.out,q0];rfl
       have m6:((z:Int)==47)=false:=by rw [←hzz.out,q0];rfl
       have r6:decide ((z:Int)=47)=false:=by rw [←hzz.out,q0];rfl
       have m7:((z:Int)==40)=true:=by rw [←hzz.out,q0];rfl
       have r7:decide ((z:Int)=40)=true:=by rw [←hzz.out,q0];rfl
       clear hzz q0
       go_enter Tryz.func96,Tryz.ntmps96
       go_wp2_with (first | (go_at_call 97;(with_reducible refine (SM _).mono ?_);rintro e1 w1 ⟨rfl,hq⟩;obtain rfl:=hq.symm;clear SM) | (go_at_call 98;(with_reducible refine (DG _).mono ?_);rintro e2 w2 ⟨rfl,hq⟩;obtain rfl:=hq.symm;clear DG))
       go_ret
       exact ⟨by rw [E.out];rfl,rfl⟩
      ·skip
       have m0:((z:Int)==61)=false:=by rw [←hzz.out,q0];rfl
       have r0:decide ((z:Int)=61)=false:=by rw [←hzz.out,q0];rfl
       have m1:((z:Int)==60)=false:=by rw [←hzz.out,q0];rfl
       have r1:decide ((z:Int)=60)=false:=by rw [←hzz.out,q0];rfl
       have m2:((z:Int)==62)=false:=by rw [←hzz.out,q0];rfl
       have r2:decide ((z:Int)=62)=false:=by rw [←hzz.out,q0];rfl
       have m3:((z:Int)==43)=false:=by rw [←hzz.out,q0];rfl
       have r3:decide ((z:Int)=43)=false:=by rw [←hzz.out,q0];rfl
       have m4:((z:Int)==45)=false:=by rw [←hzz.out,q0];rfl
       have r4:decide ((z:Int)=45)=false:=by rw [←hzz.out,q0];rfl
       have m5:((z:Int)==42)=false:=by rw [←hzz.out,q0];rfl
       have r5:decide ((z:Int)=42)=false:=by rw [←hzz.out,q0];rfl
       have m6:((z:Int)==47)=false:=by rw [←hzz.out,q0];rfl
       have r6:decide ((z:Int)=47)=false:=by rw [←hzz.out,q0];rfl
       have m7:((z:Int)==40)=false:=by rw [←hzz.out,q0];rfl
       have r7:decide ((z:Int)=40)=false:=by rw [←hzz.out,q0];rfl
       have m8:((z:Int)==41)=true:=by rw [←hzz.out,q0];rfl
       have r8:decide ((z:Int)=41)=true:=by rw [←hzz.out,q0];rfl
       clear hzz q0
       go_enter Tryz.func96,Tryz.ntmps96
       go_wp2_with (first | (go_at_call 97;(with_reducible refine (SM _).mono ?_);rintro e1 w1 ⟨rfl,hq⟩;obtain rfl:=hq.symm;clear SM) | (go_at_call 98;(with_reducible refine (DG _).mono ?_);rintro e2 w2 ⟨rfl,hq⟩;obtain rfl:=hq.symm;clear DG))
       go_ret
       exact ⟨by rw [E.out];rfl,rfl⟩
      ·skip
       have m0:((z:Int)==61)=false:=by rw [←hzz.out,q0];rfl
       have r0:decide ((z:Int)=61)=false:=by rw [←hzz.out,q0];rfl
       have m1:((z:Int)==60)=false:=by rw [←hzz.out,q0];rfl
       have r1:decide ((z:Int)=60)=false:=by rw [←hzz.out,q0];rfl
       have m2:((z:Int)==62)=false:=by rw [←hzz.out,q0];rfl
       have r2:decide ((z:Int)=62)=false:=by rw [←hzz.out,q0];rfl
       have m3:((z:Int)==43)=false:=by rw [←hzz.out,q0];rfl
       have r3:decide ((z:Int)=43)=false:=by rw [←hzz.out,q0];rfl
       have m4:((z:Int)==45)=false:=by rw [←hzz.out,q0];rfl
       have r4:decide ((z:Int)=45)=false:=by rw [←hzz.out,q0];rfl
       have m5:((z:Int)==42)=false:=by rw [←hzz.out,q0];rfl
       have r5:decide ((z:Int)=42)=false:=by rw [←hzz.out,q0];rfl
       have m6:((z:Int)==47)=false:=by rw [←hzz.out,q0];rfl
       have r6:decide ((z:Int)=47)=false:=by rw [←hzz.out,q0];rfl
       have m7:((z:Int)==40)=false:=by rw [←hzz.out,q0];rfl
       have r7:decide ((z:Int)=40)=false:=by rw [←hzz.out,q0];rfl
       have m8:((z:Int)==41)=false:=by rw [←hzz.out,q0];rfl
       have r8:decide ((z:Int)=41)=false:=by rw [←hzz.out,q0];rfl
       have m9:((z:Int)==44)=true:=by rw [←hzz.out,q0];rfl
       have r9:decide ((z:Int)=44)=true:=by rw [←hzz.out,q0];rfl
       clear hzz q0
       go_enter Tryz.func96,Tryz.ntmps96
       go_wp2_with (first | (go_at_call 97;(with_reducible refine (SM _).mono ?_);rintro e1 w1 ⟨rfl,hq⟩;obtain rfl:=hq.symm;clear SM) | (go_at_call 98;(with_reducible refine (DG _).mono ?_);rintro e2 w2 ⟨rfl,hq⟩;obtain rfl:=hq.symm;clear DG))
       go_ret
       exact ⟨by rw [E.out];rfl,rfl⟩
     ·have E:=Lib.hid (show a+sgnL (l.drop a)=a by rw [EE,o1];rfl)
      have m0:((z:Int)==61)=false:=by rw [←hzz.out];exact beq_no (x:=x) (n:=61) (by decide) n0
      have m1:((z:Int)==60)=false:=by rw [←hzz.out];exact beq_no (x:=x) (n:=60) (by decide) n1
      have m2:((z:Int)==62)=false:=by rw [←hzz.out];exact beq_no (x:=x) (n:=62) (by decide) n2
      have m3:((z:Int)==43)=false:=by rw [←hzz.out];exact beq_no (x:=x) (n:=43) (by decide) n3
      have m4:((z:Int)==45)=false:=by rw [←hzz.out];exact beq_no (x:=x) (n:=45) (by decide) n4
      have m5:((z:Int)==42)=false:=by rw [←hzz.out];exact beq_no (x:=x) (n:=42) (by decide) n5
      have m6:((z:Int)==47)=false:=by rw [←hzz.out];exact beq_no (x:=x) (n:=47) (by decide) n6
      have m7:((z:Int)==40)=false:=by rw [←hzz.out];exact beq_no (x:=x) (n:=40) (by decide) n7
      have m8:((z:Int)==41)=false:=by rw [←hzz.out];exact beq_no (x:=x) (n:=41) (by decide) n8
      have m9:((z:Int)==44)=false:=by rw [←hzz.out];exact beq_no (x:=x) (n:=44) (by decide) n9
      have r0:decide ((z:Int)=61)=false:=by have:=m0;simpa using this
      have r1:decide ((z:Int)=60)=false:=by have:=m1;simpa using this
      have r2:decide ((z:Int)=62)=false:=by have:=m2;simpa using this
      have r3:decide ((z:Int)=43)=false:=by have:=m3;simpa using this
      have r4:decide ((z:Int)=45)=false:=by have:=m4;simpa using this
      have r5:decide ((z:Int)=42)=false:=by have:=m5;simpa using this
      have r6:decide ((z:Int)=47)=false:=by have:=m6;simpa using this
      have r7:decide ((z:Int)=40)=false:=by have:=m7;simpa using this
      have r8:decide ((z:Int)=41)=false:=by have:=m8;simpa using this
      have r9:decide ((z:Int)=44)=false:=by have:=m9;simpa using this
      clear EE o1 hx h h2 hl hlt ET SL hx0 hzz n0 n1 n2 n3 n4 n5 n6 n7 n8 n9
      go_enter Tryz.func96,Tryz.ntmps96
      go_wp2_with (first | (go_at_call 97;(with_reducible refine (SM _).mono ?_);rintro e1 w1 ⟨rfl,hq⟩;obtain rfl:=hq.symm;clear SM) | (go_at_call 98;(with_reducible refine (DG _).mono ?_);rintro e2 w2 ⟨rfl,hq⟩;obtain rfl:=hq.symm;clear DG))
      go_ret
      exact ⟨by rw [E.out];rfl,rfl⟩
    ·have E:=Lib.hid (show a+sgnL (l.drop a)=a+2 by rw [EE];rfl)
     clear EE hx h h2 hl hlt ET SL hx0 hzz
     go_enter Tryz.func96,Tryz.ntmps96
     go_wp2_with (first | (go_at_call 97;(with_reducible refine (SM _).mono ?_);rintro e1 w1 ⟨rfl,hq⟩;obtain rfl:=hq.symm;clear SM) | (go_at_call 98;(with_reducible refine (DG _).mono ?_);rintro e2 w2 ⟨rfl,hq⟩;obtain rfl:=hq.symm;clear DG))
     go_ret
     exact ⟨by rw [E.out];rfl,rfl⟩
   ·have E:=Lib.hid (show a+sgnL (l.drop a)=a+2 by rw [EE];rfl)
    clear EE hx h h2 hl hlt ET SL hx0 hzz
    go_enter Tryz.func96,Tryz.ntmps96
    go_wp2_with (first | (go_at_call 97;(with_reducible refine (SM _).mono ?_);rintro e1 w1 ⟨rfl,hq⟩;obtain rfl:=hq.symm;clear SM) | (go_at_call 98;(with_reducible refine (DG _).mono ?_);rintro e2 w2 ⟨rfl,hq⟩;obtain rfl:=hq.symm;clear DG))
    go_ret
    exact ⟨by rw [E.out];rfl,rfl⟩
  ·have E:=Lib.hid (show a+sgnL (l.drop a)=a+2 by rw [EE];rfl)
   clear EE hx h h2 hl hlt ET SL hx0 hzz
   go_enter Tryz.func96,Tryz.ntmps96
   go_wp2_with (first | (go_at_call 97;(with_reducible refine (SM _).mono ?_);rintro e1 w1 ⟨rfl,hq⟩;obtain rfl:=hq.symm;clear SM) | (go_at_call 98;(with_reducible refine (DG _).mono ?_);rintro e2 w2 ⟨rfl,hq⟩;obtain rfl:=hq.symm;clear DG))
   go_ret
   exact ⟨by rw [E.out];rfl,rfl⟩
 ·have j1:decide ((a:Int)+1<(N:Int))=false:=by simp;omega
  have hlen:((l.drop a).take 2).length≤1:=by rw [List.length_take,List.length_drop,hN.out];omega
  have no:∀ u v:UInt8,((l.drop a).take 2==[u,v])=false:=fun u v=>by
   refine beq_eq_false_iff_ne.2 fun e=>?_
   rw [e] at hlen;simp at hlen
  rw [no,no,no] at ET
  rw [ET] at EE
  have EE:sgnL (l.drop a)=if oneS x=true then 1 else 0:=EE
  clear no hlen p1
  rcases one_facts x with ⟨o1,o2⟩ | ⟨o1,n0,n1,n2,n3,n4,n5,n6,n7,n8,n9⟩
  ·have E:=Lib.hid (show a+sgnL (l.drop a)=a+1 by rw [EE,o1];rfl)
   clear EE o1 hx h h2 hl hlt ET SL hx0
   rcases o2 with q0 | q0 | q0 | q0 | q0 | q0 | q0 | q0 | q0 | q0
   ·skip
    have m0:((z:Int)==61)=true:=by rw [←hzz.out,q0];rfl
    have r0:decide ((z:Int)=61)=true:=by rw [←hzz.out,q0];rfl
    clear hzz q0
    go_enter Tryz.func96,Tryz.ntmps96
    go_wp2_with (first | (go_at_call 97;(with_reducible refine (SM _).mono ?_);rintro e1 w1 ⟨rfl,hq⟩;obtain rfl:=hq.symm;clear SM) | (go_at_call 98;(with_reducible refine (DG _).mono ?_);rintro e2 w2 ⟨rfl,hq⟩;obtain rfl:=hq.symm;clear DG))
    go_ret
    exact ⟨by rw [E.out];rfl,rfl⟩
   ·skip
    have m0:((z:Int)==61)=false:=by rw [←hzz.out,q0];rfl
    have r0:decide ((z:Int)=61)=false:=by rw [←hzz.out,q0];rfl
    have m1:((z:Int)==60)=true:=by rw [←hzz.out,q0];rfl
    have r1:decide ((z:Int)=60)=true:=by rw [←hzz.out,q0];rfl
    clear hzz q0
    go_enter Tryz.func96,Tryz.ntmps96
    go_wp2_with (first | (go_at_call 97;(with_reducible refine (SM _).mono ?_);rintro e1 w1 ⟨rfl,hq⟩;obtain rfl:=hq.symm;clear SM) | (go_at_call 98;(with_reducible refine (DG _).mono ?_);rintro e2 w2 ⟨rfl,hq⟩;obtain rfl:=hq.symm;clear DG))
    go_ret
    exact ⟨by rw [E.out];rfl,rfl⟩
   ·skip
    have m0:((z:Int)==61)=false:=by rw [←hzz.out,q0];rfl
    have r0:decide ((z:Int)=61)=false:=by rw [←hzz.out,q0];rfl
    have m1:((z:Int)==60)=false:=by rw [←hzz.out,q0];rfl
    have r1:decide ((z:Int)=60)=false:=by rw [←hzz.out,q0];rfl
    have m2:((z:Int)==62)=true:=by rw [←hzz.out,q0];rfl
    have r2:decide ((z:Int)=62)=true:=by rw [←hzz.out,q0];rfl
    clear hzz q0
    go_enter Tryz.func96,Tryz.ntmps96
    go_wp2_with (first | (go_at_call 97;(with_reducible refine (SM _).mono ?_);rintro e1 w1 ⟨rfl,hq⟩;obtain rfl:=hq.symm;clear SM) | (go_at_call 98;(with_reducible refine (DG _).mono ?_);rintro e2 w2 ⟨rfl,hq⟩;obtain rfl:=hq.symm;clear DG))
    go_ret
    exact ⟨by rw [E.out];rfl,rfl⟩
   ·skip
    have m0:((z:Int)==61)=false:=by rw [←hzz.out,q0];rfl
    have r0:decide ((z:Int)=61)=false:=by rw [←hzz.out,q0];rfl
    have m1:((z:Int)==60)=false:=by rw [←hzz.out,q0];rfl
    have r1:decide ((z:Int)=60)=false:=by rw [←hzz.out,q0];rfl
    have m2:((z:Int)==62)=false:=by rw [←hzz.out,q0];rfl
    have r2:decide ((z:Int)=62)=false:=by rw [←hzz.out,q0];rfl
    have m3:((z:Int)==43)=true:=by rw [←hzz.out,q0];rfl
    have r3:decide ((z:Int)=43)=true:=by rw [←hzz.out,q0];rfl
    clear hzz q0
    go_enter Tryz.func96,Tryz.ntmps96
    go_wp2_with (first | (go_at_call 97;(with_reducible refine (SM _).mono ?_);rintro e1 w1 ⟨rfl,hq⟩;obtain rfl:=hq.symm;clear SM) | (go_at_call 98;(with_reducible refine (DG _).mono ?_);rintro e2 w2 ⟨rfl,hq⟩;obtain rfl:=hq.symm;clear DG))
    go_ret
    exact ⟨by rw [E.out];rfl,rfl⟩
   ·skip
    have m0:((z:Int)==61)=false:=by rw [←hzz.out,q0];rfl
    have r0:decide ((z:Int)=61)=false:=by rw [←hzz.out,q0];rfl
    have m1:((z:Int)==60)=false:=by rw [←hzz.out,q0];rfl
    have r1:decide ((z:Int)=60)=false:=by rw [←hzz.out,q0];rfl
    have m2:((z:Int)==62)=false:=by rw [←hzz.out,q0];rfl
    have r2:decide ((z:Int)=62)=false:=by rw [←hzz.out,q0];rfl
    have m3:((z:Int)==43)=false:=by rw [←hzz.out,q0];rfl
    have r3:decide ((z:Int)=43)=false:=by rw [←hzz.out,q0];rfl
    have m4:((z:Int)==45)=true:=by rw [←hzz.out,q0];rfl
    have r4:decide ((z:Int)=45)=true:=by rw [←hzz.out,q0];rfl
    clear hzz q0
    go_enter Tryz.func96,Tryz.ntmps96
    go_wp2_with (first | (go_at_call 97;(with_reducible refine (SM _).mono ?_);rintro e1 w1 ⟨rfl,hq⟩;obtain rfl:=hq.symm;clear SM) | (go_at_call 98;(with_reducible refine (DG _).mono ?_);rintro e2 w2 ⟨rfl,hq⟩;obtain rfl:=hq.symm;clear DG))
    go_ret
    exact ⟨by rw [E.out];rfl,rfl⟩
   ·skip
    have m0:((z:Int)==61)=false:=by rw [←hzz.out,q0];rfl
    have r0:decide ((z:Int)=61)=false:=by rw [←hzz.out,q0];rfl
    have m1:((z:Int)==60)=false:=by rw [←hzz.out,q0];rfl
    have r1:decide ((z:Int)=60)=false:=by rw [←hzz.out,q0];rfl
    have m2:((z:Int)==62)=false:=by rw [←hzz.out,q0];rfl
    have r2:decide ((z:Int)=62)=false:=by rw [←hzz.out,q0];rfl
    have m3:((z:Int)==43)=false:=by rw [←hzz.out,q0];rfl
    have r3:decide ((z:Int)=43)=false:=by rw [←hzz.out,q0];rfl
    have m4:((z:Int)==45)=false:=by rw [←hzz.out,q0];rfl
    have r4:decide ((z:Int)=45)=false:=by rw [←hzz.out,q0];rfl
    have m5:((z:Int)==42)=true:=by rw [←hzz.out,q0];rfl
    have r5:decide ((z:Int)=42)=true:=by rw [←hzz.out,q0];rfl
    clear hzz q0
    go_enter Tryz.func96,Tryz.ntmps96
    go_wp2_with (first | (go_at_call 97;(with_reducible refine (SM _).mono ?_);rintro e1 w1 ⟨rfl,hq⟩;obtain rfl:=hq.symm;clear SM) | (go_at_call 98;(with_reducible refine (DG _).mono ?_);rintro e2 w2 ⟨rfl,hq⟩;obtain rfl:=hq.symm;clear DG))
    go_ret
    exact ⟨by rw [E.out];rfl,rfl⟩
   ·skip
    have m0:((z:Int)==61)=false:=by rw [←hzz.out,q0];rfl
    have r0:decide ((z:Int)=61)=false:=by rw [←hzz.out,q0];rfl
    have m1:((z:Int)==60)=false:=by rw [←hzz.out,q0];rfl
    have r1:decide ((z:Int)=60)=false:=by rw [←hzz.out,q0];rfl
    have m2:((z:Int)==62)=false:=by rw [←hzz.out,q0];rfl
    have r2:decide ((z:Int)=62)=false:=by rw [←hzz.out,q0];rfl
    have m3:((z:Int)==43)=false:=by rw [←hzz.out,q0];rfl
    have r3:decide ((z:Int)=43)=false:=by rw [←hzz.out,q0];rfl
    have m4:((z:Int)==45)=false:=by rw [←hzz.out,q0];rfl
    have r4:decide ((z:Int)=45)=false:=by rw [←hzz.out,q0];rfl
    have m5:((z:Int)==42)=false:=by rw [←hzz.out,q0];rfl
    have r5:decide ((z:Int)=42)=false:=by rw [←hzz.out,q0];rfl
    have m6:((z:Int)==47)=true:=by rw [←hzz.out,q0];rfl
    have r6:decide ((z:Int)=47)=true:=by rw [←hzz.out,q0];rfl
    clear hzz q0
    go_enter Tryz.func96,Tryz.ntmps96
    go_wp2_with (first | (go_at_call 97;(with_reducible refine (SM _).mono ?_);rintro e1 w1 ⟨rfl,hq⟩;obtain rfl:=hq.symm;clear SM) | (go_at_call 98;(with_reducible refine (DG _).mono ?_);rintro e2 w2 ⟨rfl,hq⟩;obtain rfl:=hq.symm;clear DG))
    go_ret
    exact ⟨by rw [E.out];rfl,rfl⟩
   ·skip
    have m0:((z:Int)==61)=false:=by rw [←hzz.out,q0];rfl
    have r0:decide ((z:Int)=61)=false:=by rw [←hzz.out,q0];rfl
    have m1:((z:Int)==60)=false:=by rw [←hzz.out,q0];rfl
    have r1:decide ((z:Int)=60)=false:=by rw [←hzz.out,q0];rfl
    have m2:((z:Int)==62)=false:=by rw [←hzz.out,q0];rfl
    have r2:decide ((z:Int)=62)=false:=by rw [←hzz.out,q0];rfl
    have m3:((z:Int)==43)=false:=by rw [←hzz.out,q0];rfl
    have r3:decide ((z:Int)=43)=false:=by rw [←hzz.out,q0];rfl
    have m4:((z:Int)==45)=false:=by rw [←hzz.out,q0];rfl
    have r4:decide ((z:Int)=45)=false:=by rw [←hzz.out,q0];rfl
    have m5:((z:Int)==42)=false:=by rw [←hzz.out,q0];rfl
    have r5:decide ((z:Int)=42)=false:=by rw [←hzz.out,q0];rfl
    have m6:((z:Int)==47)=false:=by rw [←hzz.out,q0];rfl
    have r6:decide ((z:Int)=47)=false:=by rw [←hzz.out,q0];rfl
    have m7:((z:Int)==40)=true:=by rw [←hzz.out,q0];rfl
    have r7:decide ((z:Int)=40)=true:=by rw [←hzz.out,q0];rfl
    clear hzz q0
    go_enter Tryz.func96,Tryz.ntmps96
    go_wp2_with (first | (go_at_call 97;(with_reducible refine (SM _).mono ?_);rintro e1 w1 ⟨rfl,hq⟩;obtain rfl:=hq.symm;clear SM) | (go_at_call 98;(with_reducible refine (DG _).mono ?_);rintro e2 w2 ⟨rfl,hq⟩;obtain rfl:=hq.symm;clear DG))
    go_ret
    exact ⟨by rw [E.out];rfl,rfl⟩
   ·skip
    have m0:((z:Int)==61)=false:=by rw [←hzz.out,q0];rfl
    have r0:decide ((z:Int)=61)=false:=by rw [←hzz.out,q0];rfl
    have m1:((z:Int)==60)=false:=by rw [←hzz.out,q0];rfl
    have r1:decide ((z:Int)=60)=false:=by rw [←hzz.out,q0];rfl
    have m2:((z:Int)==62)=false:=by rw [←hzz.out,q0];rfl
    have r2:decide ((z:Int)=62)=false:=by rw [←hzz.out,q0];rfl
    have m3:((z:Int)==43)=false:=by rw [←hzz.out,q0];rfl
    have r3:decide ((z:Int)=43)=false:=by rw [←hzz.out,q0];rfl
    have m4:((z:Int)==45)=false:=by rw [←hzz.out,q0];rfl
    have r4:decide ((z:Int)=45)=false:=by rw [←hzz.out,q0];rfl
    have m5:((z:Int)==42)=false:=by rw [←hzz.out,q0];rfl
    have r5:decide ((z:Int)=42)=false:=by rw [←hzz.out,q0];rfl
    have m6:((z:Int)==47)=false:=by rw [←hzz.out,q0];rfl
    have r6:decide ((z:Int)=47)=false:=by rw [←hzz.out,q0];rfl
    have m7:((z:Int)==40)=false:=by rw [←hzz.out,q0];rfl
    have r7:decide ((z:Int)=40)=false:=by rw [←hzz.out,q0];rfl
    have m8:((z:Int)==41)=true:=by rw [←hzz.out,q0];rfl
    have r8:decide ((z:Int)=41)=true:=by rw [←hzz.out,q0];rfl
    clear hzz q0
    go_enter Tryz.func96,Tryz.ntmps96
    go_wp2_with (first | (go_at_call 97;(with_reducible refine (SM _).mono ?_);rintro e1 w1 ⟨rfl,hq⟩;obtain rfl:=hq.symm;clear SM) | (go_at_call 98;(with_reducible refine (DG _).mono ?_);rintro e2 w2 ⟨rfl,hq⟩;obtain rfl:=hq.symm;clear DG))
    go_ret
    exact ⟨by rw [E.out];rfl,rfl⟩
   ·skip
    have m0:((z:Int)==61)=false:=by rw [←hzz.out,q0];rfl
    have r0:decide ((z:Int)=61)=false:=by rw [←hzz.out,q0];rfl
    have m1:((z:Int)==60)=false:=by rw [←hzz.out,q0];rfl
    have r1:decide ((z:Int)=60)=false:=by rw [←hzz.out,q0];rfl
    have m2:((z:Int)==62)=false:=by rw [←hzz.out,q0];rfl
    have r2:decide ((z:Int)=62)=false:=by rw [←hzz.out,q0];rfl
    have m3:((z:Int)==43)=false:=by rw [←hzz.out,q0];rfl
    have r3:decide ((z:Int)=43)=false:=by rw [←hzz.out,q0];rfl
    have m4:((z:Int)==45)=false:=by rw [←hzz.out,q0];rfl
    have r4:decide ((z:Int)=45)=false:=by rw [←hzz.out,q0];rfl
    have m5:((z:Int)==42)=false:=by rw [←hzz.out,q0];rfl
    have r5:decide ((z:Int)=42)=false:=by rw [←hzz.out,q0];rfl
    have m6:((z:Int)==47)=false:=by rw [←hzz.out,q0];rfl
    have r6:decide ((z:Int)=47)=false:=by rw [←hzz.out,q0];rfl
    have m7:((z:Int)==40)=false:=by rw [←hzz.out,q0];rfl
    have r7:decide ((z:Int)=40)=false:=by rw [←hzz.out,q0];rfl
    have m8:((z:Int)==41)=false:=by rw [←hzz.out,q0];rfl
    have r8:decide ((z:Int)=41)=false:=by rw [←hzz.out,q0];rfl
    have m9:((z:Int)==44)=true:=by rw [←hzz.out,q0];rfl
    have r9:decide ((z:Int)=44)=true:=by rw [←hzz.out,q0];rfl
    clear hzz q0
    go_enter Tryz.func96,Tryz.ntmps96
    go_wp2_with (first | (go_at_call 97;(with_reducible refine (SM _).mono ?_);rintro e1 w1 ⟨rfl,hq⟩;obtain rfl:=hq.symm;clear SM) | (go_at_call 98;(with_reducible refine (DG _).mono ?_);rintro e2 w2 ⟨rfl,hq⟩;obtain rfl:=hq.symm;clear DG))
    go_ret
    exact ⟨by rw [E.out];rfl,rfl⟩
  ·have E:=Lib.hid (show a+sgnL (l.drop a)=a by rw [EE,o1];rfl)
   have m0:((z:Int)==61)=false:=by rw [←hzz.out];exact beq_no (x:=x) (n:=61) (by decide) n0
   have m1:((z:Int)==60)=false:=by rw [←hzz.out];exact beq_no (x:=x) (n:=60) (by decide) n1
   have m2:((z:Int)==62)=false:=by rw [←hzz.out];exact beq_no (x:=x) (n:=62) (by decide) n2
   have m3:((z:Int)==43)=false:=by rw [←hzz.out];exact beq_no (x:=x) (n:=43) (by decide) n3
   have m4:((z:Int)==45)=false:=by rw [←hzz.out];exact beq_no (x:=x) (n:=45) (by decide) n4
   have m5:((z:Int)==42)=false:=by rw [←hzz.out];exact beq_no (x:=x) (n:=42) (by decide) n5
   have m6:((z:Int)==47)=false:=by rw [←hzz.out];exact beq_no (x:=x) (n:=47) (by decide) n6
   have m7:((z:Int)==40)=false:=by rw [←hzz.out];exact beq_no (x:=x) (n:=40) (by decide) n7
   have m8:((z:Int)==41)=false:=by rw [←hzz.out];exact beq_no (x:=x) (n:=41) (by decide) n8
   have m9:((z:Int)==44)=false:=by rw [←hzz.out];exact beq_no (x:=x) (n:=44) (by decide) n9
   have r0:decide ((z:Int)=61)=false:=by have:=m0;simpa using this
   have r1:decide ((z:Int)=60)=false:=by have:=m1;simpa using this
   have r2:decide ((z:Int)=62)=false:=by have:=m2;simpa using this
   have r3:decide ((z:Int)=43)=false:=by have:=m3;simpa using this
   have r4:decide ((z:Int)=45)=false:=by have:=m4;simpa using this
   have r5:decide ((z:Int)=42)=false:=by have:=m5;simpa using this
   have r6:decide ((z:Int)=47)=false:=by have:=m6;simpa using this
   have r7:decide ((z:Int)=40)=false:=by have:=m7;simpa using this
   have r8:decide ((z:Int)=41)=false:=by have:=m8;simpa using this
   have r9:decide ((z:Int)=44)=false:=by have:=m9;simpa using this
   clear EE o1 hx h h2 hl hlt ET SL hx0 hzz n0 n1 n2 n3 n4 n5 n6 n7 n8 n9
   go_enter Tryz.func96,Tryz.ntmps96
   go_wp2_with (first | (go_at_call 97;(with_reducible refine (SM _).mono ?_);rintro e1 w1 ⟨rfl,hq⟩;obtain rfl:=hq.symm;clear SM) | (go_at_call 98;(with_reducible refine (DG _).mono ?_);rintro e2 w2 ⟨rfl,hq⟩;obtain rfl:=hq.symm;clear DG))
   go_ret
   exact ⟨by rw [E.out];rfl,rfl⟩
theorem end_is {w:World} (l:List UInt8) (hl:l.length≤1000) (a:Nat) (x:UInt8) (hx:l[a]?=some x):Calls Tryz.prog 96 #[.string (bs l),.int .i64 (a:Int)] w (EndPost (a+endL (l.drop a)) w):=by
 have hx0:(l.drop a)[0]?=some x:=by rw [List.getElem?_drop];simpa using hx
 cases h:isLo x
 ·cases h2:isDg x
  ·have e:endL (l.drop a)=sgnL (l.drop a):=by unfold endL;rw [hx0];simp [h,h2]
   rw [e];exact end_sg l hl a x hx h h2
  ·have e:endL (l.drop a)=numL (l.drop a):=by unfold endL;rw [hx0];simp [h,h2]
   rw [e];exact end_dg l hl a x hx h h2
 ·have e:endL (l.drop a)=wh isAl (l.drop a):=by unfold endL;rw [hx0];simp [h]
  rw [e];exact end_lo l hl a x hx h
end Go.Proofs.YteagpbkbdlmdiaaGreat.Lx
