/-
  The document's parser: stop, must, deeper, infix, window, walked.
-/
import Derived.Test.YteagpbkbdlmdiaaGreatQ34
set_option linter.unusedSimpArgs false
set_option linter.unusedVariables false
namespace Go.Proofs.YteagpbkbdlmdiaaGreat.Ps
set_option maxRecDepth 100000
open Go Go.RowKit Dt Tx Va Ev Lx
attribute [local go_sem ↓] Go.wp_at_zero Go.wp_at_succ
def RP (L:List Tok) (En:Int) (B b:Nat) (lv:Value) (s':Rd) (w:World) (tv:Value) (w':World):Prop:=∃ tv',St L En B b lv w' tv' s'∧KX b tv w w'∧Fr tv w tv'
def RV (L:List Tok) (En:Int) (B b:Nat) (lv:Value) (s':Rd) (w:World) (tv:Value) (e:Ending) (w':World):Prop:=(∃ u,e=.returned u)∧RP L En B b lv s' w tv w'
section
variable {L:List Tok} {En:Int} {B b N lc:Nat} {ao:Option Addr} {tv:Value} {w:World} {s:Rd}
theorem RP.refl (h:St L En B b (.slice ao N lc) w tv s):RP L En B b (.slice ao N lc) s w tv w:=⟨tv,h,KX.refl,Fr.refl _ _⟩
theorem RP.of_below {w':World} (h:St L En B b (.slice ao N lc) w tv s) (k:Below w.heap.size w w'):RP L En B b (.slice ao N lc) s w tv w':=⟨tv,h.below k,KX.of_below k,Fr.refl _ _⟩
theorem RP.then {s1 s2:Rd} {w1 w2:World} {tv1:Value} (k1:KX b tv w w1) (f1:Fr tv w tv1) (h:RP L En B b (.slice ao N lc) s2 w1 tv1 w2):RP L En B b (.slice ao N lc) s2 w tv w2:=by
 obtain ⟨tv2,h2,k2,f2⟩:=h
 exact ⟨tv2,h2,k1.trans k2 f1,f1.trans f2 k1.size⟩
theorem stop_is (h:St L En B b (.slice ao N lc) w tv s) (hN:L.length=N) (e:Int):Calls Tryz.prog 50 #[.pointer (some ⟨b,0,none⟩),.int .i64 e] w (RV L En B b (.slice ao N lc) (stopR L En e s) w tv):=by
 by_cases h0:s.e=0
 ·have E:stopR L En e s={s with e:=e,b:=placeR L En s}:=if_pos h0
  rw [E]
  have d1:decide (s.e=0)=true:=decide_eq_true h0
  have d2:(s.e==0)=true:=by simpa using h0
  have b5:=h.c5;have f5:=h.f 5
  have S1:=Lib.hid (h.setE e)
  have K1:=Lib.hid (KX.set (KX.refl (b:=b) (tv:=tv) (w:=w)) 5 (.int .i64 e))
  have P:=place_is S1.out hN
  have PE:placeR L En {s with e:=e}=placeR L En s:=rfl
  rw [PE] at P
  clear PE
  obtain ⟨w1,hw1⟩:∃ W,Hid (w.setCell ⟨b,5,none⟩ (.int .i64 e)=W):=⟨_,Lib.hid rfl⟩
  rw [hw1.out] at S1 K1 P
  clear h h0 E hN
  go_enter Tryz.func50,Tryz.ntmps50
  go_upto_region 2 with fail
  rw [hw1.out]
  clear hw1 b5 f5
  go_wp2_with (go_at_call 102;(with_reducible refine P.mono ?_);rintro e2 w2 ⟨rfl,q2⟩;have S2:=Lib.hid (S1.out.below q2);have K2:=Lib.hid (K1.out.trans (KX.of_below (b:=b) q2) (Fr.refl _ _));have b6:=S2.out.c6;have f6:=S2.out.f 6;clear q2 P S1 K1)
  go_end0
  exact ⟨⟨_,rfl⟩,tv,S2.out.setB _,K2.out.set _ _,Fr.refl _ _⟩
 ·have E:stopR L En e s=s:=if_neg h0
  rw [E]
  have d1:decide (s.e=0)=false:=decide_eq_false h0
  have d2:(s.e==0)=false:=by simpa using h0
  have b5:=h.c5
  have HR:=Lib.hid (RP.refl h)
  clear h h0 E hN
  go_enter Tryz.func50,Tryz.ntmps50
  go_wp2_with fail
  go_end0
  exact ⟨⟨_,rfl⟩,HR.out⟩
theorem must_is (h:St L En B b (.slice ao N lc) w tv s) (hN:L.length=N) (hl:N≤1000) (ha:s.a≤N) (l:List UInt8) (S:ByteArray) (hS:bs l=S):Calls Tryz.prog 143 #[.pointer (some ⟨b,0,none⟩),.string S] w (RV L En B b (.slice ao N lc) (mustR L En l s) w tv):=by
 subst hS
 by_cases h0:s.e=0
 ·have d1:decide (s.e=0)=true:=decide_eq_true h0
  have d2:(s.e !=0)=false:=by simpa using h0
  have b5:=h.c5
  have NX:=next_is h hN
  by_cases hw:nextR L s=l
  ·have E:mustR L En l s=upR s:=by unfold mustR;rw [if_pos h0,if_pos hw]
   rw [E]
   rw [hw] at NX
   have ss:=self_toList (bs l)
   have ss2:((bs l).toList !=(bs l).toList)=false:=by simp
   obtain ⟨S,hS⟩:∃ S,Hid (bs l=S):=⟨_,Lib.hid rfl⟩
   unfold SP at NX
   rw [hS.out] at NX ss ss2⊢
   have kw:IntKind.i64.wrap ((s.a:Int)+1)=(s.a:Int)+1:=Ev.wrap1 s.a (by omega)
   have HS:=Lib.hid h
   clear h h0 hw E hN hS
   go_enter Tryz.func143,Tryz.ntmps143
   go_wp2_with (go_at_call 101;(with_reducible refine NX.mono ?_);rintro e1 w1 ⟨rfl,q1⟩;have S1:=Lib.hid (HS.out.below q1);have K1:=Lib.hid (KX.of_below (b:=b) (tv:=tv) q1);have b1:=S1.out.c1;have f1:=S1.out.f 1;clear q1 NX)
   go_end0
   exact ⟨⟨_,rfl⟩,tv,S1.out.setA (s.a+1),K1.out.set _ _,Fr.refl _ _⟩
  ·have E:mustR L En l s=stopR L En 4 s:=by unfold mustR;rw [if_pos h0,if_neg hw]
   rw [E]
   have ss:((bs (nextR L s)).toList==(bs l).toList)=false:=by rw [bs_toList,bs_toList];simpa using hw
   have ss2:((bs (nextR L s)).toList !=(bs l).toList)=true:=by rw [bs_toList,bs_toList];simpa using hw
   obtain ⟨S,hS⟩:∃ S,Hid (bs l=S):=⟨_,Lib.hid rfl⟩
   obtain ⟨U,hU⟩:∃ S,Hid (bs (nextR L s)=S):=⟨_,Lib.hid rfl⟩
   unfold SP at NX
   rw [hS.out] at ss ss2⊢
   rw [hU.out] at NX ss ss2
   have HS:=Lib.hid h;have HN:=Lib.hid hN
   clear h h0 hw E hN hS hU
   go_enter Tryz.func143,Tryz.ntmps143
   go_wp2_with (first | (go_at_call 101;(with_reducible refine NX.mono ?_);rintro e1 w1 ⟨rfl,q1⟩;have K1:=Lib.hid (KX.of_below (b:=b) (tv:=tv) q1);have SC:=stop_is (HS.out.below q1) HN.out 4;clear q1 NX) | (go_at_call 50;(with_reducible refine SC.mono ?_);rintro e2 w2 ⟨⟨u2,rfl⟩,r2⟩;have R2:=Lib.hid (RP.then (s1:=s) K1.out (Fr.refl _ _) r2);clear r2 SC))
   go_end0
   exact ⟨⟨_,rfl⟩,R2.out⟩
 ·have E:mustR L En l s=s:=if_neg h0
  rw [E]
  have d1:decide (s.e=0)=false:=decide_eq_false h0
  have d2:(s.e !=0)=true:=by simpa using h0
  have b5:=h.c5
  have HR:=Lib.hid (RP.refl h)
  clear h h0 E hN
  go_enter Tryz.func143,Tryz.ntmps143
  go_wp2_with fail
  go_end0
  exact ⟨⟨_,rfl⟩,HR.out⟩
theorem wrapI {x:Int} (h:-1000000≤x) (h2:x≤1000000):IntKind.i64.wrap x=x:=by rw [IntWalk.i64_left];exact IntWalk.wrap64_in _ (by omega)
theorem deeper_is (h:St L En B b (.slice ao N lc) w tv s) (hN:L.length=N) (hd:-100000≤s.d) (hd2:s.d≤100000):Calls Tryz.prog 103 #[.pointer (some ⟨b,0,none⟩)] w (RV L En B b (.slice ao N lc) (deeperR L En s) w tv):=by
 have kw:IntKind.i64.wrap (s.d+1)=s.d+1:=wrapI (by omega) (by omega)
 have b3:=h.c3
 by_cases h0:16≤s.d
 ·have E:deeperR L En s={stopR L En 10 s with d:=s.d+1}:=by unfold deeperR fullR;rw [if_pos h0]
  rw [E]
  have d1:decide (16≤s.d)=true:=decide_eq_true h0
  have d2:decide (s.d ≥ 16)=true:=decide_eq_true h0
  have SC:=stop_is h hN 10
  have HD:=(stop_a (L:=L) (En:=En) (s:=s) 10).2.2
  have HK:=Lib.hid hN
  clear h h0 E hN hd hd2
  go_enter Tryz.func103,Tryz.ntmps103
  go_wp2_with (go_at_call 50;(with_reducible refine SC.mono ?_);rintro e2 w2 ⟨⟨u2,rfl⟩,tv2,s2,k2,fr2⟩;have S2:=Lib.hid s2;have K2:=Lib.hid k2;have F2:=Lib.hid fr2;have c3:=s2.c3;have f3:=s2.f 3;rw [HD] at c3;clear s2 k2 fr2 SC b3)
  go_end0
  exact ⟨⟨_,rfl⟩,tv2,S2.out.setD _,K2.out.set _ _,F2.out⟩
 ·have E:deeperR L En s={s with d:=s.d+1}:=by unfold deeperR fullR;rw [if_neg h0]
  rw [E]
  have d1:decide (16≤s.d)=false:=decide_eq_false h0
  have d2:decide (s.d ≥ 16)=false:=decide_eq_false h0
  have f3:=h.f 3
  have HS:=Lib.hid h
  clear h h0 E hN hd hd2
  go_enter Tryz.func103,Tryz.ntmps103
  go_wp2_with fail
  go_end0
  exact ⟨⟨_,rfl⟩,tv,HS.out.setD _,KX.refl.set _ _,Fr.refl _ _⟩
end
def U8P (z:Int) (w:World) (e:Ending) (w':World):Prop:=e=.returned (.int .u8 z)∧Below w.heap.size w w'
theorem window_is {w:World} (l:List UInt8):Calls Tryz.prog 145 #[.string (bs l)] w (U8P (windowR l) w):=by
 obtain ⟨S,hS⟩:∃ S,Hid (bs l=S):=⟨_,Lib.hid rfl⟩
 rw [hS.out]
 by_cases g0:l=[108,97,103]
 ·skip
  have E:windowR l=26:=by unfold windowR;rw [if_pos g0]
  rw [E]
  have s0:(S.toList==[108,97,103])=true:=by rw [←hS.out,bs_toList];simpa using g0
  have t0:(S.toList !=[108,97,103])=false:=by rw [←hS.out,bs_toList];simpa using g0
  clear E hS g0
  go_enter Tryz.func145,Tryz.ntmps145
  go_wp2_with fail
  go_ret
  exact ⟨rfl,Below.refl _ _⟩
 ·skip
  by_cases g1:l=[108,101,97,115,116]
  ·skip
   have E:windowR l=27:=by unfold windowR;rw [if_neg g0,if_pos g1]
   rw [E]
   have s0:(S.toList==[108,97,103])=false:=by rw [←hS.out,bs_toList];simpa using g0
   have t0:(S.toList !=[108,97,103])=true:=by rw [←hS.out,bs_toList];simpa using g0
   have s1:(S.toList==[108,101,97,115,116])=true:=by rw [←hS.out,bs_toList];simpa using g1
   have t1:(S.toList !=[108,101,97,115,116])=false:=by rw [←hS.out,bs_toList];simpa using g1
   clear E hS g0 g1
   go_enter Tryz.func145,Tryz.ntmps145
   go_wp2_with fail
   go_ret
   exact ⟨rfl,Below.refl _ _⟩
  ·skip
   by_cases g2:l=[109,111,115,116]
   ·skip
    have E:windowR l=28:=by unfold windowR;rw [if_neg g0,if_neg g1,if_pos g2]
    rw [E]
    have s0:(S.toList==[108,97,103])=false:=by rw [←hS.out,bs_toList];simpa using g0
    have t0:(S.toList !=[108,97,103])=true:=by rw [←hS.out,bs_toList];simpa using g0
    have s1:(S.toList==[108,101,97,115,116])=false:=by rw [←hS.out,bs_toList];simpa using g1
    have t1:(S.toList !=[108,101,97,115,116])=true:=by rw [←hS.out,bs_toList];simpa using g1
    have s2:(S.toList==[109,111,115,116])=true:=by rw [←hS.out,bs_toList];simpa using g2
    have t2:(S.toList !=[109,111,115,116])=false:=by rw [←hS.out,bs_toList];simpa using g2
    clear E hS g0 g1 g2
    go_enter Tryz.func145,Tryz.ntmps145
    go_wp2_with fail
    go_ret
    exact ⟨rfl,Below.refl _ _⟩
   ·skip
    by_cases g3:l=[97,110,121]
    ·skip
     have E:windowR l=29:=by unfold windowR;rw [if_neg g0,if_neg g1,if_neg g2,if_pos g3]
     rw [E]
     have s0:(S.toList==[108,97,103])=false:=by rw [←hS.out,bs_toList];simpa using g0
     have t0:(S.toList !=[108,97,103])=true:=by rw [←hS.out,bs_toList];simpa using g0
     have s1:(S.toList==[108,101,97,115,116])=false:=by rw [←hS.out,bs_toList];simpa using g1
     have t1:(S.toList !=[108,101,97,115,116])=true:=by rw [←hS.out,bs_toList];simpa using g1
     have s2:(S.toList==[109,111,115,116])=false:=by rw [←hS.out,bs_toList];simpa using g2
     have t2:(S.toList !=[109,111,115,116])=true:=by rw [←hS.out,bs_toList];simpa using g2
     have s3:(S.toList==[97,110,121])=true:=by rw [←hS.out,bs_toList];simpa using g3
     have t3:(S.toList !=[97,110,121])=false:=by rw [←hS.out,bs_toList];simpa using g3
     clear E hS g0 g1 g2 g3
     go_enter Tryz.func145,Tryz.ntmps145
     go_wp2_with fail
     go_ret
     exact ⟨rfl,Below.refl _ _⟩
    ·skip
     by_cases g4:l=[101,118,101,114,121]
     ·skip
      have E:windowR l=30:=by unfold windowR;rw [if_neg g0,if_neg g1,if_neg g2,if_neg g3,if_pos g4]
      rw [E]
      have s0:(S.toList==[108,97,103])=false:=by rw [←hS.out,bs_toList];simpa using g0
      have t0:(S.toList !=[108,97,103])=true:=by rw [←hS.out,bs_toList];simpa using g0
      have s1:(S.toList==[108,101,97,115,116])=false:=by rw [←hS.out,bs_toList];simpa using g1
      have t1:(S.toList !=[108,101,97,115,116])=true:=by rw [←hS.out,bs_toList];simpa using g1
      have s2:(S.toList==[109,111,115,116])=false:=by rw [←hS.out,bs_toList];simpa using g2
      have t2:(S.toList !=[109,111,115,116])=true:=by rw [←hS.out,bs_toList];simpa using g2
      have s3:(S.toList==[97,110,121])=false:=by rw [←hS.out,bs_toList];simpa using g3
      have t3:(S.toList !=[97,110,121])=true:=by rw [←hS.out,bs_toList];simpa using g3
      have s4:(S.toList==[101,118,101,114,121])=true:=by rw [←hS.out,bs_toList];simpa using g4
      have t4:(S.toList !=[101,118,101,114,121])=false:=by rw [←hS.out,bs_toList];simpa using g4
      clear E hS g0 g1 g2 g3 g4
      go_enter Tryz.func145,Tryz.ntmps145
      go_wp2_with fail
      go_ret
      exact ⟨rfl,Below.refl _ _⟩
     ·skip
      have E:windowR l=0:=by unfold windowR;rw [if_neg g0,if_neg g1,if_neg g2,if_neg g3,if_neg g4]
      rw [E]
      have s0:(S.toList==[108,97,103])=false:=by rw [←hS.out,bs_toList];simpa using g0
      have t0:(S.toList !=[108,97,103])=true:=by rw [←hS.out,bs_toList];simpa using g0
      have s1:(S.toList==[108,101,97,115,116])=false:=by rw [←hS.out,bs_toList];simpa using g1
      have t1:(S.toList !=[108,101,97,115,116])=true:=by rw [←hS.out,bs_toList];simpa using g1
      have s2:(S.toList==[109,111,115,116])=false:=by rw [←hS.out,bs_toList];simpa using g2
      have t2:(S.toList !=[109,111,115,116])=true:=by rw [←hS.out,bs_toList];simpa using g2
      have s3:(S.toList==[97,110,121])=false:=by rw [←hS.out,bs_toList];simpa using g3
      have t3:(S.toList !=[97,110,121])=true:=by rw [←hS.out,bs_toList];simpa using g3
      have s4:(S.toList==[101,118,101,114,121])=false:=by rw [←hS.out,bs_toList];simpa using g4
      have t4:(S.toList !=[101,118,101,114,121])=true:=by rw [←hS.out,bs_toList];simpa using g4
      clear E hS g0 g1 g2 g3 g4
      go_enter Tryz.func145,Tryz.ntmps145
      go_wp2_with fail
      go_ret
      exact ⟨rfl,Below.refl _ _⟩
theorem infix_0 {w:World} (l:List UInt8):Calls Tryz.prog 105 #[.int .i64 0,.string (bs l)] w (U8P (infixR 0 l) w):=by
 obtain ⟨S,hS⟩:∃ S,Hid (bs l=S):=⟨_,Lib.hid rfl⟩
 rw [hS.out]
 by_cases g0:l=[111,114]
 ·skip
  have E:infixR 0 l=5:=by show (if l=[111,114] then (5:Int) else 0)=_;rw [if_pos g0]
  rw [E]
  have s0:(S.toList==[111,114])=true:=by rw [←hS.out,bs_toList];simpa using g0
  have t0:(S.toList !=[111,114])=false:=by rw [←hS.out,bs_toList];simpa using g0
  clear E hS g0
  go_enter Tryz.func105,Tryz.ntmps105
  go_wp2_with fail
  go_ret
  exact ⟨rfl,Below.refl _ _⟩
 ·skip
  have E:infixR 0 l=0:=by show (if l=[111,114] then (5:Int) else 0)=_;rw [if_neg g0]
  rw [E]
  have s0:(S.toList==[111,114])=false:=by rw [←hS.out,bs_toList];simpa using g0
  have t0:(S.toList !=[111,114])=true:=by rw [←hS.out,bs_toList];simpa using g0
  clear E hS g0
  go_enter Tryz.func105,Tryz.ntmps105
  go_wp2_with fail
  go_ret
  exact ⟨rfl,Below.refl _ _⟩
theorem infix_1 {w:World} (l:List UInt8):Calls Tryz.prog 105 #[.int .i64 1,.string (bs l)] w (U8P (infixR 1 l) w):=by
 obtain ⟨S,hS⟩:∃ S,Hid (bs l=S):=⟨_,Lib.hid rfl⟩
 rw [hS.out]
 by_cases g0:l=[97,110,100]
 ·skip
  have E:infixR 1 l=6:=by show (if l=[97,110,100] then (6:Int) else 0)=_;rw [if_pos g0]
  rw [E]
  have s0:(S.toList==[97,110,100])=true:=by rw [←hS.out,bs_toList];simpa using g0
  have t0:(S.toList !=[97,110,100])=false:=by rw [←hS.out,bs_toList];simpa using g0
  clear E hS g0
  go_enter Tryz.func105,Tryz.ntmps105
  go_wp2_with fail
  go_ret
  exact ⟨rfl,Below.refl _ _⟩
 ·skip
  have E:infixR 1 l=0:=by show (if l=[97,110,100] then (6:Int) else 0)=_;rw [if_neg g0]
  rw [E]
  have s0:(S.toList==[97,110,100])=false:=by rw [←hS.out,bs_toList];simpa using g0
  have t0:(S.toList !=[97,110,100])=true:=by rw [←hS.out,bs_toList];simpa using g0
  clear E hS g0
  go_enter Tryz.func105,Tryz.ntmps105
  go_wp2_with fail
  go_ret
  exact ⟨rfl,Below.refl _ _⟩
theorem infix_2 {w:World} (l:List UInt8):Calls Tryz.prog 105 #[.int .i64 2,.string (bs l)] w (U8P (infixR 2 l) w):=by
 obtain ⟨S,hS⟩:∃ S,Hid (bs l=S):=⟨_,Lib.hid rfl⟩
 rw [hS.out]
 have E:infixR 2 l=0:=by rfl
 rw [E]
 clear E hS
 go_enter Tryz.func105,Tryz.ntmps105
 go_wp2_with fail
 go_ret
 exact ⟨rfl,Below.refl _ _⟩
theorem infix_3 {w:World} (l:List UInt8):Calls Tryz.prog 105 #[.int .i64 3,.string (bs l)] w (U8P (infixR 3 l) w):=by
 obtain ⟨S,hS⟩:∃ S,Hid (bs l=S):=⟨_,Lib.hid rfl⟩
 rw [hS.out]
 by_cases g0:l=[61]
 ·skip
  have E:infixR 3 l=8:=by show (if l=[61] then (8:Int) else if l=[60,62] then (9:Int) else if l=[60] then (10:Int) else if l=[60,61] then (11:Int) else if l=[62] then (12:Int) else if l=[62,61] then (13:Int) else 0)=_;rw [if_pos g0]
  rw [E]
  have s0:(S.toList==[61])=true:=by rw [←hS.out,bs_toList];simpa using g0
  have t0:(S.toList !=[61])=false:=by rw [←hS.out,bs_toList];simpa using g0
  clear E hS g0
  go_enter Tryz.func105,Tryz.ntmps105
  go_wp2_with fail
  go_ret
  exact ⟨rfl,Below.refl _ _⟩
 ·skip
  by_cases g1:l=[60,62]
  ·skip
   have E:infixR 3 l=9:=by show (if l=[61] then (8:Int) else if l=[60,62] then (9:Int) else if l=[60] then (10:Int) else if l=[60,61] then (11:Int) else if l=[62] then (12:Int) else if l=[62,61] then (13:Int) else 0)=_;rw [if_neg g0,if_pos g1]
   rw [E]
   have s0:(S.toList==[61])=false:=by rw [←hS.out,bs_toList];simpa using g0
   have t0:(S.toList !=[61])=true:=by rw [←hS.out,bs_toList];simpa using g0
   have s1:(S.toList==[60,62])=true:=by rw [←hS.out,bs_toList];simpa using g1
   have t1:(S.toList !=[60,62])=false:=by rw [←hS.out,bs_toList];simpa using g1
   clear E hS g0 g1
   go_enter Tryz.func105,Tryz.ntmps105
   go_wp2_with fail
   go_ret
   exact ⟨rfl,Below.refl _ _⟩
  ·skip
   by_cases g2:l=[60]
   ·skip
    have E:infixR 3 l=10:=by show (if l=[61] then (8:Int) else if l=[60,62] then (9:Int) else if l=[60] then (10:Int) else if l=[60,61] then (11:Int) else if l=[62] then (12:Int) else if l=[62,61] then (13:Int) else 0)=_;rw [if_neg g0,if_neg g1,if_pos g2]
    rw [E]
    have s0:(S.toList==[61])=false:=by rw [←hS.out,bs_toList];simpa using g0
    have t0:(S.toList !=[61])=true:=by rw [←hS.out,bs_toList];simpa using g0
    have s1:(S.toList==[60,62])=false:=by rw [←hS.out,bs_toList];simpa using g1
    have t1:(S.toList !=[60,62])=true:=by rw [←hS.out,bs_toList];simpa using g1
    have s2:(S.toList==[60])=true:=by rw [←hS.out,bs_toList];simpa using g2
    have t2:(S.toList !=[60])=false:=by rw [←hS.out,bs_toList];simpa using g2
    clear E hS g0 g1 g2
    go_enter Tryz.func105,Tryz.ntmps105
    go_wp2_with fail
    go_ret
    exact ⟨rfl,Below.refl _ _⟩
   ·skip
    by_cases g3:l=[60,61]
    ·skip
     have E:infixR 3 l=11:=by show (if l=[61] then (8:Int) else if l=[60,62] then (9:Int) else if l=[60] then (10:Int) else if l=[60,61] then (11:Int) else if l=[62] then (12:Int) else if l=[62,61] then (13:Int) else 0)=_;rw [if_neg g0,if_neg g1,if_neg g2,if_pos g3]
     rw [E]
     have s0:(S.toList==[61])=false:=by rw [←hS.out,bs_toList];simpa using g0
     have t0:(S.toList !=[61])=true:=by rw [←hS.out,bs_toList];simpa using g0
     have s1:(S.toList==[60,62])=false:=by rw [←hS.out,bs_toList];simpa using g1
     have t1:(S.toList !=[60,62])=true:=by rw [←hS.out,bs_toList];simpa using g1
     have s2:(S.toList==[60])=false:=by rw [←hS.out,bs_toList];simpa using g2
     have t2:(S.toList !=[60])=true:=by rw [←hS.out,bs_toList];simpa using g2
     have s3:(S.toList==[60,61])=true:=by rw [←hS.out,bs_toList];simpa using g3
     have t3:(S.toList !=[60,61])=false:=by rw [←hS.out,bs_toList];simpa using g3
     clear E hS g0 g1 g2 g3
     go_enter Tryz.func105,Tryz.ntmps105
     go_wp2_with fail
     go_ret
     exact ⟨rfl,Below.refl _ _⟩
    ·skip
     by_cases g4:l=[62]
     ·skip
      have E:infixR 3 l=12:=by show (if l=[61] then (8:Int) else if l=[60,62] then (9:Int) else if l=[60] then (10:Int) else if l=[60,61] then (11:Int) else if l=[62] then (12:Int) else if l=[62,61] then (13:Int) else 0)=_;rw [if_neg g0,if_neg g1,if_neg g2,if_neg g3,if_pos g4]
      rw [E]
      have s0:(S.toList==[61])=false:=by rw [←hS.out,bs_toList];simpa using g0
      have t0:(S.toList !=[61])=true:=by rw [←hS.out,bs_toList];simpa using g0
      have s1:(S.toList==[60,62])=false:=by rw [←hS.out,bs_toList];simpa using g1
      have t1:(S.toList !=[60,62])=true:=by rw [←hS.out,bs_toList];simpa using g1
      have s2:(S.toList==[60])=false:=by rw [←hS.out,bs_toList];simpa using g2
      have t2:(S.toList !=[60])=true:=by rw [←hS.out,bs_toList];simpa using g2
      have s3:(S.toList==[60,61])=false:=by rw [←hS.out,bs_toList];simpa using g3
      have t3:(S.toList !=[60,61])=true:=by rw [←hS.out,bs_toList];simpa using g3
      have s4:(S.toList==[62])=true:=by rw [←hS.out,bs_toList];simpa using g4
      have t4:(S.toList !=[62])=false:=by rw [←hS.out,bs_toList];simpa using g4
      clear E hS g0 g1 g2 g3 g4
      go_enter Tryz.func105,Tryz.ntmps105
      go_wp2_with fail
      go_ret
      exact ⟨rfl,Below.refl _ _⟩
     ·skip
      by_cases g5:l=[62,61]
      ·skip
       have E:infixR 3 l=13:=by show (if l=[61] then (8:Int) else if l=[60,62] then (9:Int) else if l=[60] then (10:Int) else if l=[60,61] then (11:Int) else if l=[62] then (12:Int) else if l=[62,61] then (13:Int) else 0)=_;rw [if_neg g0,if_neg g1,if_neg g2,if_neg g3,if_neg g4,if_pos g5]
       rw [E]
       have s0:(S.toList==[61])=false:=by rw [←hS.out,bs_toList];simpa using g0
       have t0:(S.toList !=[61])=true:=by rw [←hS.out,bs_toList];simpa using g0
       have s1:(S.toList==[60,62])=false:=by rw [←hS.out,bs_toList];simpa using g1
       have t1:(S.toList !=[60,62])=true:=by rw [←hS.out,bs_toList];simpa using g1
       have s2:(S.toList==[60])=false:=by rw [←hS.out,bs_toList];simpa using g2
       have t2:(S.toList !=[60])=true:=by rw [←hS.out,bs_toList];simpa using g2
       have s3:(S.toList==[60,61])=false:=by rw [←hS.out,bs_toList];simpa using g3
       have t3:(S.toList !=[60,61])=true:=by rw [←hS.out,bs_toList];simpa using g3
       have s4:(S.toList==[62])=false:=by rw [←hS.out,bs_toList];simpa using g4
       have t4:(S.toList !=[62])=true:=by rw [←hS.out,bs_toList];simpa using g4
       have s5:(S.toList==[62,61])=true:=by rw [←hS.out,bs_toList];simpa using g5
       have t5:(S.toList !=[62,61])=false:=by rw [←hS.out,bs_toList];simpa using g5
       clear E hS g0 g1 g2 g3 g4 g5
       go_enter Tryz.func105,Tryz.ntmps105
       go_wp2_with fail
       go_ret
       exact ⟨rfl,Below.refl _ _⟩
      ·skip
       have E:infixR 3 l=0:=by show (if l=[61] then (8:Int) else if l=[60,62] then (9:Int) else if l=[60] then (10:Int) else if l=[60,61] then (11:Int) else if l=[62] then (12:Int) else if l=[62,61] then (13:Int) else 0)=_;rw [if_neg g0,if_neg g1,if_neg g2,if_neg g3,if_neg g4,if_neg g5]
       rw [E]
       have s0:(S.toList==[61])=false:=by rw [←hS.out,bs_toList];simpa using g0
       have t0:(S.toList !=[61])=true:=by rw [←hS.out,bs_toList];simpa using g0
       have s1:(S.toList==[60,62])=false:=by rw [←hS.out,bs_toList];simpa using g1
       have t1:(S.toList !=[60,62])=true:=by rw [←hS.out,bs_toList];simpa using g1
       have s2:(S.toList==[60])=false:=by rw [←hS.out,bs_toList];simpa using g2
       have t2:(S.toList !=[60])=true:=by rw [←hS.out,bs_toList];simpa using g2
       have s3:(S.toList==[60,61])=false:=by rw [←hS.out,bs_toList];simpa using g3
       have t3:(S.toList !=[60,61])=true:=by rw [←hS.out,bs_toList];simpa using g3
       have s4:(S.toList==[62])=false:=by rw [←hS.out,bs_toList];simpa using g4
       have t4:(S.toList !=[62])=true:=by rw [←hS.out,bs_toList];simpa using g4
       have s5:(S.toList==[62,61])=false:=by rw [←hS.out,bs_toList];simpa using g5
       have t5:(S.toList !=[62,61])=true:=by rw [←hS.out,bs_toList];simpa using g5
       clear E hS g0 g1 g2 g3 g4 g5
       go_enter Tryz.func105,Tryz.ntmps105
       go_wp2_with fail
       go_ret
       exact ⟨rfl,Below.refl _ _⟩
theorem infix_4 {w:World} (l:List UInt8):Calls Tryz.prog 105 #[.int .i64 4,.string (bs l)] w (U8P (infixR 4 l) w):=by
 obtain ⟨S,hS⟩:∃ S,Hid (bs l=S):=⟨_,Lib.hid rfl⟩
 rw [hS.out]
 by_cases g0:l=[43]
 ·skip
  have E:infixR 4 l=14:=by show (if l=[43] then (14:Int) else if l=[45] then (15:Int) else 0)=_;rw [if_pos g0]
  rw [E]
  have s0:(S.toList==[43])=true:=by rw [←hS.out,bs_toList];simpa using g0
  have t0:(S.toList !=[43])=false:=by rw [←hS.out,bs_toList];simpa using g0
  clear E hS g0
  go_enter Tryz.func105,Tryz.ntmps105
  go_wp2_with fail
  go_ret
  exact ⟨rfl,Below.refl _ _⟩
 ·skip
  by_cases g1:l=[45]
  ·skip
   have E:infixR 4 l=15:=by show (if l=[43] then (14:Int) else if l=[45] then (15:Int) else 0)=_;rw [if_neg g0,if_pos g1]
   rw [E]
   have s0:(S.toList==[43])=false:=by rw [←hS.out,bs_toList];simpa using g0
   have t0:(S.toList !=[43])=true:=by rw [←hS.out,bs_toList];simpa using g0
   have s1:(S.toList==[45])=true:=by rw [←hS.out,bs_toList];simpa using g1
   have t1:(S.toList !=[45])=false:=by rw [←hS.out,bs_toList];simpa using g1
   clear E hS g0 g1
   go_enter Tryz.func105,Tryz.ntmps105
   go_wp2_with fail
   go_ret
   exact ⟨rfl,Below.refl _ _⟩
  ·skip
   have E:infixR 4 l=0:=by show (if l=[43] then (14:Int) else if l=[45] then (15:Int) else 0)=_;rw [if_neg g0,if_neg g1]
   rw [E]
   have s0:(S.toList==[43])=false:=by rw [←hS.out,bs_toList];simpa using g0
   have t0:(S.toList !=[43])=true:=by rw [←hS.out,bs_toList];simpa using g0
   have s1:(S.toList==[45])=false:=by rw [←hS.out,bs_toList];simpa using g1
   have t1:(S.toList !=[45])=true:=by rw [←hS.out,bs_toList];simpa using g1
   clear E hS g0 g1
   go_enter Tryz.func105,Tryz.ntmps105
   go_wp2_with fail
   go_ret
   exact ⟨rfl,Below.refl _ _⟩
theorem infix_5 {w:World} (l:List UInt8):Calls Tryz.prog 105 #[.int .i64 5,.string (bs l)] w (U8P (infixR 5 l) w):=by
 obtain ⟨S,hS⟩:∃ S,Hid (bs l=S):=⟨_,Lib.hid rfl⟩
 rw [hS.out]
 by_cases g0:l=[42]
 ·skip
  have E:infixR 5 l=16:=by show (if l=[42] then (16:Int) else if l=[47] then (17:Int) else 0)=_;rw [if_pos g0]
  rw [E]
  have s0:(S.toList==[42])=true:=by rw [←hS.out,bs_toList];simpa using g0
  have t0:(S.toList !=[42])=false:=by rw [←hS.out,bs_toList];simpa using g0
  clear E hS g0
  go_enter Tryz.func105,Tryz.ntmps105
  go_wp2_with fail
  go_ret
  exact ⟨rfl,Below.refl _ _⟩
 ·skip
  by_cases g1:l=[47]
  ·skip
   have E:infixR 5 l=17:=by show (if l=[42] then (16:Int) else if l=[47] then (17:Int) else 0)=_;rw [if_neg g0,if_pos g1]
   rw [E]
   have s0:(S.toList==[42])=false:=by rw [←hS.out,bs_toList];simpa using g0
   have t0:(S.toList !=[42])=true:=by rw [←hS.out,bs_toList];simpa using g0
   have s1:(S.toList==[47])=true:=by rw [←hS.out,bs_toList];simpa using g1
   have t1:(S.toList !=[47])=false:=by rw [←hS.out,bs_toList];simpa using g1
   clear E hS g0 g1
   go_enter Tryz.func105,Tryz.ntmps105
   go_wp2_with fail
   go_ret
   exact ⟨rfl,Below.refl _ _⟩
  ·skip
   have E:infixR 5 l=0:=by show (if l=[42] then (16:Int) else if l=[47] then (17:Int) else 0)=_;rw [if_neg g0,if_neg g1]
   rw [E]
   have s0:(S.toList==[42])=false:=by rw [←hS.out,bs_toList];simpa using g0
   have t0:(S.toList !=[42])=true:=by rw [←hS.out,bs_toList];simpa using g0
   have s1:(S.toList==[47])=false:=by rw [←hS.out,bs_toList];simpa using g1
   have t1:(S.toList !=[47])=true:=by rw [←hS.out,bs_toList];simpa using g1
   clear E hS g0 g1
   go_enter Tryz.func105,Tryz.ntmps105
   go_wp2_with fail
   go_ret
   exact ⟨rfl,Below.refl _ _⟩
theorem infix_6 {w:World} (l:List UInt8):Calls Tryz.prog 105 #[.int .i64 6,.string (bs l)] w (U8P (infixR 6 l) w):=by
 obtain ⟨S,hS⟩:∃ S,Hid (bs l=S):=⟨_,Lib.hid rfl⟩
 rw [hS.out]
 have E:infixR 6 l=0:=by rfl
 rw [E]
 clear E hS
 go_enter Tryz.func105,Tryz.ntmps105
 go_wp2_with fail
 go_ret
 exact ⟨rfl,Below.refl _ _⟩
theorem infix_is {w:World} (n:Nat) (hn:n≤6) (l:List UInt8):Calls Tryz.prog 105 #[.int .i64 (n:Int),.string (bs l)] w (U8P (infixR n l) w):=by
 match n,hn with
 | 0,_=>exact infix_0 l
 | 1,_=>exact infix_1 l
 | 2,_=>exact infix_2 l
 | 3,_=>exact infix_3 l
 | 4,_=>exact infix_4 l
 | 5,_=>exact infix_5 l
 | 6,_=>exact infix_6 l
end Go.Proofs.YteagpbkbdlmdiaaGreat.Ps
