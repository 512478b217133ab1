/-
  The document's Name: the world stays; The document's parser: put, field, whole, begin, end, walked.
-/
import Derived.Test.YteagpbkbdlmdiaaGreatQ34
import Derived.Test.YteagpbkbdlmdiaaGreatQ35
import Derived.Deep.RegionLaw
set_option linter.unusedSimpArgs false
set_option linter.unusedVariables false
namespace Go.Proofs.YteagpbkbdlmdiaaGreat.Lx
open Go Go.RowKit Dt Tx
attribute [local go_sem ↓] Go.wp_at_zero Go.wp_at_succ
def NqPost (b:Bool) (w:World) (e:Ending) (w':World):Prop:=e=.returned (.bool b)∧w'=w
set_option maxRecDepth 100000 in
set_option maxHeartbeats 2000000 in
theorem rname_q {w:World} (l:List UInt8) (hl:l.length≤1000):Calls Tryz.prog 162 #[.string (bs l)] w (NqPost (nameP l) w):=by
 have hz:(bs l).size=l.length:=bs_size l
 have KP:=fun w=>rkept_is (w:=w) l
 obtain ⟨N,hN⟩:∃ N,Hid (l.length=N):=⟨_,rfl⟩
 rw [hN.out] at hz hl
 obtain ⟨S,hS⟩:∃ S,Hid (bs l=S):=⟨_,rfl⟩
 rw [hS.out] at hz KP⊢
 unfold NqPost
 by_cases h0:N=0
 ·have E:nameP l=false:=by rw [List.length_eq_zero_iff.1 (hN.out.trans h0)];exact name_nil
  rw [E]
  have j1:decide ((N:Int)=0)=true:=by simp;omega
  have j2:((N:Int)==0)=true:=by simp;omega
  have j3:decide (N=0)=true:=by simpa using h0
  clear E h0 hl hS KP hN
  go_enter Tryz.func162,Tryz.ntmps162
  go_wp2_with fail
  go_ret
  exact ⟨rfl,rfl⟩
 ·have j1:decide ((N:Int)=0)=false:=by simp;omega
  have j2:((N:Int)==0)=false:=by simp;omega
  have j3:decide (N=0)=false:=by simpa using h0
  obtain ⟨x,hx⟩:∃ x,l[0]?=some x:=⟨_,List.getElem?_eq_getElem (by rw [hN.out];omega)⟩
  have kc:∀ w,(Instr.index 9 (.string (bs l)) (.int .i64 0)).run Tryz.prog w=.ok (.int .u8 (x.toNat:Int)) w:=at_byte l 0 x hx
  rw [hS.out] at kc
  have hpos:(0:Int)<(N:Int):=by omega
  by_cases h12:12<N
  ·have k1:decide ((12:Int)<(N:Int))=true:=by simp;omega
   have k2:decide (12<N)=true:=by simpa using h12
   rw [name_long (by rw [hN.out];exact h12)]
   clear h0 hl hS KP hN h12 hx kc
   go_enter Tryz.func162,Tryz.ntmps162
   go_wp2_with fail
   go_ret
   exact ⟨rfl,rfl⟩
  ·have k1:decide ((12:Int)<(N:Int))=false:=by simp;omega
   have k2:decide (12<N)=false:=by simpa using h12
   have SM:=fun w=>small_is x w
   obtain ⟨y,hy⟩:∃ y,Hid (x.toNat=y):=⟨_,rfl⟩
   rw [hy.out] at SM kc
   cases hlo:isLo x
   ·rw [hlo] at SM
    rw [name_first (by rw [hx];exact hlo)]
    clear h0 hl hS KP hN h12 hx hlo hy
    go_enter Tryz.func162,Tryz.ntmps162
    go_wp2_with (go_at_call 97;(with_reducible refine (SM _).mono ?_);rintro e1 w1 ⟨rfl,hq⟩;obtain rfl:=hq.symm;clear SM)
    go_ret
    exact ⟨rfl,rfl⟩
   ·rw [hlo] at SM
    cases hkp:keptW.contains l
    ·rw [hkp] at KP
     have YES:=Lib.hid (fun h3=>name_yes (l:=l) (by rw [hN.out];omega) (by rw [hN.out];omega) (by rw [hx];exact hlo) h3 hkp)
     have HL:=Lib.hid hl
     clear h0 hl h12 hx hlo hy hkp
     go_enter Tryz.func162,Tryz.ntmps162
     go_wp2_with (first | (go_at_call 97;(with_reducible refine (SM _).mono ?_);rintro e1 w1 ⟨rfl,hq⟩;obtain rfl:=hq.symm;clear SM) | (go_at_call 166;(with_reducible refine (KP _).mono ?_);rintro e2 w2 ⟨rfl,hq⟩;obtain rfl:=hq.symm;clear KP))
     go_loopw [3] (fun i wr=>∃ q:Nat,i=.int .i64 (q:Int)∧q≤N∧Hid (∀ r,r<q→(l[r]?).any isAl=true)∧Hid (wr=w)) (fun i _=>N - (intOf i).toNat)
     case atStart=>exact ⟨0,rfl,Nat.zero_le _,fun r h=>absurd h (Nat.not_lt_zero r),by first | exact rfl | exact (trivial:True)⟩
     case round=>
      obtain ⟨q,rfl,hq,HB,HW⟩:=hrel
      obtain rfl:=HW.out.symm
      by_cases hql:q<N
      ·obtain ⟨c,hc⟩:∃ c,l[q]?=some c:=⟨_,List.getElem?_eq_getElem (by rw [hN.out];exact hql)⟩
       have kq:=at_byte l q c hc
       rw [hS.out] at kq
       have i0:(0:Int)≤(q:Int):=by omega
       have i1:decide ((q:Int)<(N:Int))=true:=by simp;omega
       have S2:=fun w=>small_is c w
       have D2:=fun w=>rdigit_is c w
       have kw:IntKind.i64.wrap ((q:Int)+1)=(q:Int)+1:=wrap1 q (by have:=HL.out;omega)
       have HQ:=Lib.hid hql
       have HC:=Lib.hid hc
       obtain ⟨z,hzz⟩:∃ y,Hid (c.toNat=y):=⟨_,rfl⟩
       rw [hzz.out] at S2 D2 kq
       have key:isAl c=true→Hid (∀ r,r<q+1→(l[r]?).any isAl=true):=fun hcl r h2=>by
        rcases Nat.lt_or_ge r q with h | h
        ·exact HB.out r h
        ·have:r=q:=by omega
         subst this;rw [HC.out];exact hcl
       cases h1:isLo c
       ·rw [h1] at S2
        cases h2:isDg c
        ·rw [h2] at D2
         have hwq:wh isAl l=q:=wh_eq HB.out (by rw [hc];show isAl c=false;unfold isAl;rw [h1,h2];rfl)
         have E:=Lib.hid (name_wh (l:=l) (by rw [hwq,hN.out];omega))
         clear hc hql hq key h1 h2 hzz hwq
         go_wp2_with (first | (go_at_call 97;(with_reducible refine (S2 _).mono ?_);rintro e1 w1 ⟨rfl,hq⟩;obtain rfl:=hq.symm;clear S2) | (go_at_call 98;(with_reducible refine (D2 _).mono ?_);rintro e2 w2 ⟨rfl,hq⟩;obtain rfl:=hq.symm;clear D2))
         go_ret
         exact ⟨by rw [E.out];rfl,rfl⟩
        ·rw [h2] at D2
         have K:=key (by unfold isAl;rw [h1,h2];rfl)
         clear hc hql hq key h1 h2 hzz HB
         go_wp2_with (first | (go_at_call 97;(with_reducible refine (S2 _).mono ?_);rintro e1 w1 ⟨rfl,hq⟩;obtain rfl:=hq.symm;clear S2) | (go_at_call 98;(with_reducible refine (D2 _).mono ?_);rintro e2 w2 ⟨rfl,hq⟩;obtain rfl:=hq.symm;clear D2))
         refine ⟨⟨q+1,rfl,HQ.out,K,by first | exact rfl | exact (trivial:True)⟩,?_⟩
         show N - ((q:Int)+1).toNat<N - (q:Int).toNat
         have:=HQ.out;omega
       ·rw [h1] at S2
        have K:=key (by unfold isAl;rw [h1];rfl)
        clear hc hql hq key h1 hzz HB D2
        go_wp2_with (first | (go_at_call 97;(with_reducible refine (S2 _).mono ?_);rintro e1 w1 ⟨rfl,hq⟩;obtain rfl:=hq.symm;clear S2))
        refine ⟨⟨q+1,rfl,HQ.out,K,by first | exact rfl | exact (trivial:True)⟩,?_⟩
        show N - ((q:Int)+1).toNat<N - (q:Int).toNat
        have:=HQ.out;omega
      ·have hqN:q=N:=by omega
       subst hqN
       have hwq:wh isAl l=l.length:=by rw [hN.out];exact wh_eq HB.out (by rw [List.getElem?_eq_none (by rw [hN.out];exact Nat.le_refl _)];rfl)
       have E:=Lib.hid (YES.out hwq)
       clear hql hq HB hwq
       go_wp2_with fail
       go_ret
       exact ⟨by rw [E.out];rfl,rfl⟩
    ·rw [hkp] at KP
     rw [name_kept hkp]
     clear h0 hl hS hN h12 hx hlo hy hkp
     go_enter Tryz.func162,Tryz.ntmps162
     go_wp2_with (first | (go_at_call 97;(with_reducible refine (SM _).mono ?_);rintro e1 w1 ⟨rfl,hq⟩;obtain rfl:=hq.symm;clear SM) | (go_at_call 166;(with_reducible refine (KP _).mono ?_);rintro e2 w2 ⟨rfl,hq⟩;obtain rfl:=hq.symm;clear KP))
     go_ret
     exact ⟨rfl,rfl⟩
end Go.Proofs.YteagpbkbdlmdiaaGreat.Lx
namespace Go.Proofs.YteagpbkbdlmdiaaGreat.Ps
set_option maxRecDepth 100000
open Go Go.RowKit Dt Tx Va Ev Lx
attribute [local go_sem ↓] Go.wp_at_zero Go.wp_at_succ
section
variable {L:List Tok} {En:Int} {B b N lc:Nat} {ao:Option Addr} {tv:Value} {w:World} {s:Rd}
def ndT:Elem Tryz.prog Nd where
 sl:=23
 e:=39
 sz:=9
 bytes:=80
 z:=ndE.z
 enc:=ndE.enc
 und:=Tryz.underlying23
 info:=ndE.info
 zs:=ndE.zs
 pos:=ndE.pos
 len:=ndE.len
 one:=ndE.one
theorem St.more {w1 w':World} {tv' tv0:Value} {t':List Nd} (h:St L En B b (.slice ao N lc) w1 tv s) (k:KX b tv0 w w1) (f0:Fr tv0 w tv) (r:ndE.Row w' B tv' t') (g:w1.grownBy w' tv.ownBlock) (f:tv'.ownBlock=tv.ownBlock∨tv'.ownBlock=some w1.heap.size) :
  (w'.cell? ⟨b,4,none⟩=some tv∧w'.frozen? ⟨b,4,none⟩=false)∧St L En B b (.slice ao N lc) (w'.setCell ⟨b,4,none⟩ tv') tv' {s with t:=t'}∧KX b tv0 w (w'.setCell ⟨b,4,none⟩ tv')∧Fr tv0 w tv':=by
 have hz:w1.heap.size≤w'.heap.size:=g.size
 have eb:w'.heap[b]?=w1.heap[b]?:=g.block b h.lt fun e=>h.tne b e.symm rfl
 have hb:w'.heap[b]?=some (.cells #[.slice ao N lc,.int .i64 (s.a:Int),.int .i64 En,.int .i64 s.d,tv,.int .i64 s.e,.int .i64 s.b] 90 (0,0)):=eb.trans h.box
 have nb:∀ q,tv'.ownBlock=some q→q ≠ b:=fun q hq e=>by subst e;exact r.ne hb (by decide) hq.symm
 have kg:KX b tv w1 w':=⟨⟨g.1,g.2,g.3,Nat.le_trans (Nat.le_refl _) hz,fun i hi=>absurd hi (Nat.not_lt_zero i)⟩,hz,fun i hi _ ht=>g.block i hi ht⟩
 refine ⟨⟨by rw [cell_of_row w' _ _ _ _ (0,0) hb];rfl,frozen_of_row w' _ _ _ _ hb⟩,⟨?_,h.toks.block (by simpa using hz) (fun q hq hl hlt=>?_),?_,h.bB,h.tb⟩,(k.trans kg f0).set _ _,?_⟩
 ·rw [heap_setCell_same w' b 4 _ _ _ hb];rfl
 ·have h1:=h.tb q hq hl;have h2:=h.bB
  rw [heap_setCell_other _ ⟨b,4,none⟩ q _ (show ¬q=b by omega)]
  exact g.block q hlt fun e=>by have:=(h.row.lt q e.symm).1;omega
 ·exact r.block fun q hq=>heap_setCell_other _ ⟨b,4,none⟩ q _ (nb q hq)
 ·have f1:Fr tv w1 tv':=f.imp id fun e=>⟨_,e,Nat.le_refl _⟩
  exact f0.trans f1 k.size
def RI (L:List Tok) (En:Int) (B b:Nat) (lv:Value) (r:Rd × Int) (w:World) (tv:Value) (e:Ending) (w':World):Prop:=e=.returned (.int .i64 r.2)∧RP L En B b lv r.1 w tv w'
def RS (L:List Tok) (En:Int) (B b:Nat) (lv:Value) (r:Rd × List UInt8) (w:World) (tv:Value) (e:Ending) (w':World):Prop:=e=.returned (.string (bs r.2))∧RP L En B b lv r.1 w tv w'
theorem wrapL (n:Nat) (h:n≤100000):IntKind.i64.wrap ((n:Int)+1 - 1)=(n:Int):=by rw [IntWalk.i64_left,IntWalk.wrap64_in _ (by omega)];omega
theorem put_is (h:St L En B b (.slice ao N lc) w tv s) (ht:s.t.length≤10000) (op p x y z:Int):Calls Tryz.prog 104 #[.pointer (some ⟨b,0,none⟩),.int .u8 op,.int .i64 p,.int .i64 x,.int .i64 y,.int .i64 z] w (RI L En B b (.slice ao N lc) (putR op p x y z s) w tv):=by
 have b4:=h.c4
 obtain ⟨av,cv,hv,_,_⟩:=h.row.form
 have SRC:Hid (ndE.Arg (w.alloc (.cells #[.int .u8 op,.int .i64 0,.int .i64 0,.string ⟨#[]⟩,.int .i64 0,.int .i64 x,.int .i64 y,.int .i64 z,.int .i64 p] 39)) (.slice (some ⟨w.heap.size,0,none⟩) 1 1) [⟨op,0,0,[],0,x,y,z,p⟩]):=Lib.hid (Elem.arg_one (E:=ndE) (w:=w) ⟨op,0,0,[],0,x,y,z,p⟩ 39)
 have SA:=Lib.hid (h.below (ba w (.cells #[.int .u8 op,.int .i64 0,.int .i64 0,.string ⟨#[]⟩,.int .i64 0,.int .i64 x,.int .i64 y,.int .i64 z,.int .i64 p] 39)))
 have KA:=Lib.hid (KX.of_below (b:=b) (tv:=tv) (ba w (.cells #[.int .u8 op,.int .i64 0,.int .i64 0,.string ⟨#[]⟩,.int .i64 0,.int .i64 x,.int .i64 y,.int .i64 z,.int .i64 p] 39)))
 have HFL:Hid (s.t.length+[(⟨op,0,0,[],0,x,y,z,p⟩:Nd)].length≤1000001):=Lib.hid (by rw [List.length_singleton];omega)
 have HB:Hid (B≤(w.alloc (.cells #[.int .u8 op,.int .i64 0,.int .i64 0,.string ⟨#[]⟩,.int .i64 0,.int .i64 x,.int .i64 y,.int .i64 z,.int .i64 p] 39)).heap.size):=Lib.hid (by have:=h.bB;have:=h.lt;rw [World.size_alloc];omega)
 have kw:=wrapL s.t.length (by omega)
 have kw2:IntKind.i64.wrap (s.t.length:Int)=(s.t.length:Int):=wrapI (by omega) (by omega)
 obtain ⟨n,hn⟩:∃ n,Hid (s.t.length=n):=⟨_,Lib.hid rfl⟩
 rw [hn.out] at kw kw2
 have RES:Hid (∀ {w' tv'},RP L En B b (.slice ao N lc) {s with t:=s.t++[⟨op,0,0,[],0,x,y,z,p⟩]} w tv w'→RI L En B b (.slice ao N lc) (putR op p x y z s) w tv tv' w'∨True):=Lib.hid (fun _=> .inr trivial)
 clear h ht RES
 subst hv
 rw [hn.out] at b4 SA KA⊢
 have RT:Hid (ndT.Row (w.alloc (.cells #[.int .u8 op,.int .i64 0,.int .i64 0,.string ⟨#[]⟩,.int .i64 0,.int .i64 x,.int .i64 y,.int .i64 z,.int .i64 p] 39)) B (.slice av n cv) s.t):=Lib.hid SA.out.row
 have SRT:Hid (ndT.Arg (w.alloc (.cells #[.int .u8 op,.int .i64 0,.int .i64 0,.string ⟨#[]⟩,.int .i64 0,.int .i64 x,.int .i64 y,.int .i64 z,.int .i64 p] 39)) (.slice (some ⟨w.heap.size,0,none⟩) 1 1) [⟨op,0,0,[],0,x,y,z,p⟩]):=Lib.hid SRC.out
 go_enter Tryz.func104,Tryz.ntmps104
 go_upto_region 2 with (at_builtin;go_loud (refine Elem.app (E:=ndT) rfl _ _ rfl B (.slice av n cv) s.t (.slice (some ⟨w.heap.size,0,none⟩) 1 1) [⟨op,0,0,[],0,x,y,z,p⟩] rfl rfl RT.out SRT.out HFL.out (by decide) HB.out ?_;intro v6 w6 r6 g6 f6;have Y:=SA.out.more KA.out (Fr.refl _ _) r6 g6 f6;have d4:=Y.1.1;have f4:=Y.1.2;have SX:=Lib.hid Y.2.1;have KK:=Lib.hid Y.2.2.1;have FF:=Lib.hid Y.2.2.2;clear Y;obtain ⟨a6,q6,e6,_,_⟩:=r6.form;clear r6 g6 f6;obtain ⟨n6,hn6⟩:∃ k:Nat,Hid ((s.t++[(⟨op,0,0,[],0,x,y,z,p⟩:Nd)]).length=k):=⟨_,Lib.hid rfl⟩;rw [hn6.out] at e6;subst e6))
 have h6:n6=n+1:=by have:=hn6.out;rw [List.length_append,List.length_singleton,hn.out] at this;exact this.symm
 subst h6
 have c4:=SX.out.c4
 obtain ⟨W,hW⟩:∃ W,Hid (w6.setCell ⟨b,4,none⟩ (.slice a6 (n+1) q6)=W):=⟨_,Lib.hid rfl⟩
 rw [hW.out] at SX KK c4
 rw [hW.out]
 clear hW d4 f4 SA KA SRC HFL HB b4 RT SRT
 go_wp2_with fail
 go_ret
 refine ⟨?_,_,SX.out,KK.out,FF.out⟩
 show Ending.returned _=.returned (.int .i64 ((s.t.length:Nat):Int))
 rw [hn.out];simp
theorem field_is (h:St L En B b (.slice ao N lc) w tv s) (hN:L.length=N) (hl:N≤1000) (ha:s.a≤N) (ht:∀ x ∈ L,x.t.length≤1000):Calls Tryz.prog 147 #[.pointer (some ⟨b,0,none⟩)] w (RS L En B b (.slice ao N lc) (fieldR L En s) w tv):=by
 have NX:=next_is h hN
 have HS:=Lib.hid h;have HN:=Lib.hid hN
 have STOP:¬(s.e=0∧wordK L s=true∧nameP (nextR L s)=true)→fieldR L En s=(stopR L En 4 s,[]):=fun k=>if_neg k
 obtain ⟨U,hU⟩:∃ S,Hid (bs (nextR L s)=S):=⟨_,Lib.hid rfl⟩
 unfold SP at NX
 rw [hU.out] at NX
 by_cases h0:s.e=0
 ·have d1:decide (s.e=0)=true:=decide_eq_true h0
  have d2:(s.e !=0)=false:=by simpa using h0
  cases hx:L[s.a]? with
  | none=>
   rw [STOP (fun k=>by have:=k.2.1;unfold wordK at this;rw [hx] at this;cases this)]
   have ge:N≤s.a:=by rw [←hN];exact List.getElem?_eq_none_iff.1 hx
   have m1:decide ((s.a:Int) ≥ (N:Int))=true:=by simp;omega
   have m2:decide ((N:Int)≤(s.a:Int))=true:=by simp;omega
   have m3:decide (N≤s.a)=true:=by simp;omega
   clear h h0 hN ge ht hl ha hx STOP
   go_enter Tryz.func147,Tryz.ntmps147
   go_upto_region 2 with (go_at_call 101;(with_reducible refine NX.mono ?_);rintro e1 w1 ⟨rfl,q1⟩;have S1:=Lib.hid (HS.out.below q1);have K1:=Lib.hid (KX.of_below (b:=b) (tv:=tv) q1);clear q1 NX)
   have b0:=S1.out.c0;have b1:=S1.out.c1;have b5:=S1.out.c5
   go_quiet (fail)
   rename Nat=>nq0
   obtain ⟨nq,rfl⟩:∃ n:Nat,n=nq0:=⟨_,rfl⟩
   have BQ:=drewN_below w1 nq
   obtain ⟨wq,hwq⟩:∃ V,Hid (w1.drewN nq=V):=⟨_,Lib.hid rfl⟩
   rw [hwq.out] at BQ⊢
   have S2:=Lib.hid (S1.out.below BQ)
   have K2:=Lib.hid (K1.out.trans (KX.of_below (b:=b) BQ) (Fr.refl _ _))
   clear hwq BQ
   go_upto_region 3 with fail
   have SC:=stop_is S2.out HN.out 4
   go_wp2_with (go_at_call 50;(with_reducible refine SC.mono ?_);rintro e2 w2 ⟨⟨u2,rfl⟩,r2⟩;have R2:=Lib.hid (RP.then (s1:=s) K2.out (Fr.refl _ _) r2);clear r2 SC)
   go_ret
   exact ⟨rfl,R2.out⟩
  | some x=>
   have lt:s.a<N:=by rw [←hN];exact (List.getElem?_eq_some_iff.1 hx).1
   have m0:(0:Int)≤(s.a:Int):=by omega
   have m1:decide ((s.a:Int) ≥ (N:Int))=false:=by simp;omega
   have m2:decide ((N:Int)≤(s.a:Int))=false:=by simp;omega
   have m3:decide (N≤s.a)=false:=by simp;omega
   have m4:(s.a:Int)<(N:Int):=by omega
   have HX:=Lib.hid hx
   by_cases h1:x.k=1
   ·have e1:decide (x.k=1)=true:=decide_eq_true h1
    have e2:(x.k !=1)=false:=by simpa using h1
    have hw:wordK L s=true:=by unfold wordK;rw [hx];exact e1
    have hnx:nextR L s=x.t:=by unfold nextR;rw [hx];exact if_neg (by omega)
    have NMQ:=fun w=>rname_q (w:=w) x.t (ht x (List.mem_of_getElem? hx))
    have hUx:bs x.t=U:=by rw [←hnx];exact hU.out
    unfold NqPost at NMQ
    rw [hUx] at NMQ
    cases hnm:nameP x.t
    ·rw [hnm] at NMQ
     rw [STOP (fun k=>by have:=k.2.2;rw [hnx,hnm] at this;cases this)]
     clear h h0 hN lt ht hl ha hx STOP h1 hw hnx hUx hnm
     go_enter Tryz.func147,Tryz.ntmps147
     go_upto_region 2 with (go_at_call 101;(with_reducible refine NX.mono ?_);rintro e1 w1 ⟨rfl,q1⟩;have S1:=Lib.hid (HS.out.below q1);have K1:=Lib.hid (KX.of_below (b:=b) (tv:=tv) q1);clear q1 NX)
     have b0:=S1.out.c0;have b1:=S1.out.c1;have b5:=S1.out.c5
     obtain ⟨g,o,H⟩:=here (a:=s.a) S1.out.toks HX.out
     obtain rfl:=H.e
     have t0:=H.c0
     clear H
     go_quiet (first | (go_at_call 162;with_reducible refine Calls.quiet_of_same (NMQ _)))
     rename Nat=>nq0
     obtain ⟨nq,rfl⟩:∃ n:Nat,n=nq0:=⟨_,rfl⟩
     have BQ:=drewN_below w1 nq
     obtain ⟨wq,hwq⟩:∃ V,Hid (w1.drewN nq=V):=⟨_,Lib.hid rfl⟩
     rw [hwq.out] at BQ⊢
     have S2:=Lib.hid (S1.out.below BQ)
     have K2:=Lib.hid (K1.out.trans (KX.of_below (b:=b) BQ) (Fr.refl _ _))
     clear hwq BQ
     go_upto_region 3 with fail
     have SC:=stop_is S2.out HN.out 4
     go_wp2_with (go_at_call 50;(with_reducible refine SC.mono ?_);rintro e2 w2 ⟨⟨u2,rfl⟩,r2⟩;have R2:=Lib.hid (RP.then (s1:=s) K2.out (Fr.refl _ _) r2);clear r2 SC)
     go_ret
     exact ⟨rfl,R2.out⟩
    ·rw [hnm] at NMQ
     have GO:fieldR L En s=(upR s,nextR L s):=if_pos ⟨h0,hw,by rw [hnx];exact hnm⟩
     rw [GO]
     have kw:IntKind.i64.wrap ((s.a:Int)+1)=(s.a:Int)+1:=Ev.wrap1 s.a (by omega)
     clear h h0 hN lt ht hl ha hx STOP h1 hw hnx hUx hnm GO
     go_enter Tryz.func147,Tryz.ntmps147
     go_upto_region 2 with (go_at_call 101;(with_reducible refine NX.mono ?_);rintro e1 w1 ⟨rfl,q1⟩;have S1:=Lib.hid (HS.out.below q1);have K1:=Lib.hid (KX.of_below (b:=b) (tv:=tv) q1);clear q1 NX)
     have b0:=S1.out.c0;have b1:=S1.out.c1;have b5:=S1.out.c5
     obtain ⟨g,o,H⟩:=here (a:=s.a) S1.out.toks HX.out
     obtain rfl:=H.e
     have t0:=H.c0
     clear H
     go_quiet (first | (go_at_call 162;with_reducible refine Calls.quiet_of_same (NMQ _)))
     rename Nat=>nq0
     obtain ⟨nq,rfl⟩:∃ n:Nat,n=nq0:=⟨_,rfl⟩
     have BQ:=drewN_below w1 nq
     obtain ⟨wq,hwq⟩:∃ V,Hid (w1.drewN nq=V):=⟨_,Lib.hid rfl⟩
     rw [hwq.out] at BQ⊢
     have S2:=Lib.hid (S1.out.below BQ)
     have K2:=Lib.hid (K1.out.trans (KX.of_below (b:=b) BQ) (Fr.refl _ _))
     clear hwq BQ
     go_upto_region 5 with fail
     have d1:=S2.out.c1;have f1:=S2.out.f 1
     go_wp2_with fail
     go_ret
     refine ⟨by rw [←hU.out];rfl,tv,S2.out.setA (s.a+1),K2.out.set _ _,Fr.refl _ _⟩
   ·have e1:decide (x.k=1)=false:=decide_eq_false h1
    have e2:(x.k !=1)=true:=by simpa using h1
    rw [STOP (fun k=>by have:=k.2.1;unfold wordK at this;rw [hx] at this;exact h1 (of_decide_eq_true this))]
    clear h h0 hN lt ht hl ha hx STOP h1
    go_enter Tryz.func147,Tryz.ntmps147
    go_upto_region 2 with (go_at_call 101;(with_reducible refine NX.mono ?_);rintro e1 w1 ⟨rfl,q1⟩;have S1:=Lib.hid (HS.out.below q1);have K1:=Lib.hid (KX.of_below (b:=b) (tv:=tv) q1);clear q1 NX)
    have b0:=S1.out.c0;have b1:=S1.out.c1;have b5:=S1.out.c5
    obtain ⟨g,o,H⟩:=here (a:=s.a) S1.out.toks HX.out
    obtain rfl:=H.e
    have t0:=H.c0
    clear H
    go_quiet (fail)
    rename Nat=>nq0
    obtain ⟨nq,rfl⟩:∃ n:Nat,n=nq0:=⟨_,rfl⟩
    have BQ:=drewN_below w1 nq
    obtain ⟨wq,hwq⟩:∃ V,Hid (w1.drewN nq=V):=⟨_,Lib.hid rfl⟩
    rw [hwq.out] at BQ⊢
    have S2:=Lib.hid (S1.out.below BQ)
    have K2:=Lib.hid (K1.out.trans (KX.of_below (b:=b) BQ) (Fr.refl _ _))
    clear hwq BQ
    go_upto_region 3 with fail
    have SC:=stop_is S2.out HN.out 4
    go_wp2_with (go_at_call 50;(with_reducible refine SC.mono ?_);rintro e2 w2 ⟨⟨u2,rfl⟩,r2⟩;have R2:=Lib.hid (RP.then (s1:=s) K2.out (Fr.refl _ _) r2);clear r2 SC)
    go_ret
    exact ⟨rfl,R2.out⟩
 ·have d1:decide (s.e=0)=false:=decide_eq_false h0
  have d2:(s.e !=0)=true:=by simpa using h0
  rw [STOP (fun k=>h0 k.1)]
  clear h h0 hN ht hl ha STOP
  go_enter Tryz.func147,Tryz.ntmps147
  go_upto_region 2 with (go_at_call 101;(with_reducible refine NX.mono ?_);rintro e1 w1 ⟨rfl,q1⟩;have S1:=Lib.hid (HS.out.below q1);have K1:=Lib.hid (KX.of_below (b:=b) (tv:=tv) q1);clear q1 NX)
  have b5:=S1.out.c5
  go_quiet (fail)
  rename Nat=>nq0
  obtain ⟨nq,rfl⟩:∃ n:Nat,n=nq0:=⟨_,rfl⟩
  have BQ:=drewN_below w1 nq
  obtain ⟨wq,hwq⟩:∃ V,Hid (w1.drewN nq=V):=⟨_,Lib.hid rfl⟩
  rw [hwq.out] at BQ⊢
  have S2:=Lib.hid (S1.out.below BQ)
  have K2:=Lib.hid (K1.out.trans (KX.of_below (b:=b) BQ) (Fr.refl _ _))
  clear hwq BQ
  go_upto_region 3 with fail
  have SC:=stop_is S2.out HN.out 4
  go_wp2_with (go_at_call 50;(with_reducible refine SC.mono ?_);rintro e2 w2 ⟨⟨u2,rfl⟩,r2⟩;have R2:=Lib.hid (RP.then (s1:=s) K2.out (Fr.refl _ _) r2);clear r2 SC)
  go_ret
  exact ⟨rfl,R2.out⟩
theorem whole_is (h:St L En B b (.slice ao N lc) w tv s) (hN:L.length=N) (hl:N≤1000) (m:Int):Calls Tryz.prog 148 #[.pointer (some ⟨b,0,none⟩),.int .i64 m] w (RI L En B b (.slice ao N lc) (wholeR L En m s) w tv):=by
 have HS:=Lib.hid h;have HN:=Lib.hid hN
 have b5:=h.c5
 by_cases h0:s.e=0
 ·have d1:decide (s.e=0)=true:=decide_eq_true h0
  have d2:(s.e !=0)=false:=by simpa using h0
  have b0:=h.c0;have b1:=h.c1
  cases hx:L[s.a]? with
  | none=>
   have E:wholeR L En m s=(stopR L En 4 s,0):=by unfold wholeR;rw [if_pos h0,hx]
   rw [E]
   have ge:N≤s.a:=by rw [←hN];exact List.getElem?_eq_none_iff.1 hx
   have m1:decide ((s.a:Int) ≥ (N:Int))=true:=by simp;omega
   have m2:decide ((N:Int)≤(s.a:Int))=true:=by simp;omega
   have m3:decide (N≤s.a)=true:=by simp;omega
   clear h h0 hN ge hl hx E
   go_enter Tryz.func148,Tryz.ntmps148
   go_upto_region 3 with fail
   go_quiet (fail)
   rename Nat=>nq0
   obtain ⟨nq,rfl⟩:∃ n:Nat,n=nq0:=⟨_,rfl⟩
   have BQ:=drewN_below w nq
   obtain ⟨wq,hwq⟩:∃ V,Hid (w.drewN nq=V):=⟨_,Lib.hid rfl⟩
   rw [hwq.out] at BQ⊢
   have S2:=Lib.hid (HS.out.below BQ)
   have K2:=Lib.hid (KX.of_below (b:=b) (tv:=tv) BQ)
   clear hwq BQ
   go_upto_region 4 with fail
   have SC:=stop_is S2.out HN.out 4
   go_wp2_with (go_at_call 50;(with_reducible refine SC.mono ?_);rintro e2 w2 ⟨⟨u2,rfl⟩,r2⟩;have R2:=Lib.hid (RP.then (s1:=s) K2.out (Fr.refl _ _) r2);clear r2 SC)
   go_ret
   exact ⟨rfl,R2.out⟩
  | some x=>
   have lt:s.a<N:=by rw [←hN];exact (List.getElem?_eq_some_iff.1 hx).1
   have m0:(0:Int)≤(s.a:Int):=by omega
   have m1:decide ((s.a:Int) ≥ (N:Int))=false:=by simp;omega
   have m2:decide ((N:Int)≤(s.a:Int))=false:=by simp;omega
   have m3:decide (N≤s.a)=false:=by simp;omega
   have m4:(s.a:Int)<(N:Int):=by omega
   have HX:=Lib.hid hx
   obtain ⟨g,o,H⟩:=here (a:=s.a) h.toks hx
   obtain rfl:=H.e
   have t0:=H.c0;have t2:=H.c2;have t3:=H.c3
   have W:wholeR L En m s=if x.k=2∧x.s=0∧x.c≤m then (upR s,x.c) else (stopR L En 4 s,0):=by unfold wholeR;rw [if_pos h0,hx]
   by_cases h2:x.k=2
   ·have e1:decide (x.k=2)=true:=decide_eq_true h2
    have e2:(x.k !=2)=false:=by simpa using h2
    by_cases h3:x.s=0
    ·have e3:decide (x.s=0)=true:=decide_eq_true h3
     have e4:(x.s !=0)=false:=by simpa using h3
     by_cases h4:x.c≤m
     ·have e5:decide (x.c>m)=false:=decide_eq_false (by omega)
      have e6:decide (m<x.c)=false:=decide_eq_false (by omega)
      rw [W,if_pos ⟨h2,h3,h4⟩]
      have kw:IntKind.i64.wrap ((s.a:Int)+1)=(s.a:Int)+1:=Ev.wrap1 s.a (by omega)
      have kv:IntKind.i64.wrap ((s.a:Int)+1 - 1)=(s.a:Int):=wrapL s.a (by omega)
      have kv2:IntKind.i64.wrap (s.a:Int)=(s.a:Int):=wrapI (by omega) (by omega)
      clear h h0 hN lt hl hx W h2 h3 h4 H
      go_enter Tryz.func148,Tryz.ntmps148
      go_upto_region 3 with fail
      go_quiet (fail)
      rename Nat=>nq0
      obtain ⟨nq,rfl⟩:∃ n:Nat,n=nq0:=⟨_,rfl⟩
      have BQ:=drewN_below w nq
      obtain ⟨wq,hwq⟩:∃ V,Hid (w.drewN nq=V):=⟨_,Lib.hid rfl⟩
      rw [hwq.out] at BQ⊢
      have S2:=Lib.hid (HS.out.below BQ)
      have K2:=Lib.hid (KX.of_below (b:=b) (tv:=tv) BQ)
      clear hwq BQ
      go_upto_region 6 with fail
      have c1:=S2.out.c1;have f1:=S2.out.f 1
      go_upto_region 7 with fail
      have S3:=Lib.hid (S2.out.setA (s.a+1))
      have K3:=Lib.hid (K2.out.set 1 (.int .i64 (((s.a+1:Nat):Int))))
      obtain ⟨W3,hW⟩:∃ W,Hid (wq.setCell ⟨b,1,none⟩ (.int .i64 ((s.a:Int)+1))=W):=⟨_,Lib.hid rfl⟩
      have S3':Hid (St L En B b (.slice (some ⟨g,o,none⟩) N lc) W3 tv (upR s)):=Lib.hid (by rw [←hW.out];exact S3.out)
      have K3':Hid (KX b tv w W3):=Lib.hid (by rw [←hW.out];exact K3.out)
      rw [hW.out]
      clear hW S3 K3 c1 f1 b0 b1 b5 t0 t2 t3 S2 K2
      have b0:=S3'.out.c0
      have b1:W3.cell? ⟨b,1,none⟩=some (.int .i64 ((s.a:Int)+1)):=S3'.out.c1
      obtain ⟨g',o',H⟩:=here (a:=s.a) S3'.out.toks HX.out
      have He:=H.e
      cases He
      have t2:=H.c2
      clear H
      go_quiet (fail)
      go_wp2_with fail
      go_ret
      exact ⟨rfl,RP.then (s1:=upR s) K3'.out (Fr.refl _ _) (RP.of_below S3'.out (drewN_below _ _))⟩
     ·have e5:decide (x.c>m)=true:=decide_eq_true (by omega)
      have e6:decide (m<x.c)=true:=decide_eq_true (by omega)
      rw [W,if_neg (fun k=>h4 k.2.2)]
      clear h h0 hN lt hl hx W h2 h3 h4 H
      go_enter Tryz.func148,Tryz.ntmps148
      go_upto_region 3 with fail
      go_quiet (fail)
      rename Nat=>nq0
      obtain ⟨nq,rfl⟩:∃ n:Nat,n=nq0:=⟨_,rfl⟩
      have BQ:=drewN_below w nq
      obtain ⟨wq,hwq⟩:∃ V,Hid (w.drewN nq=V):=⟨_,Lib.hid rfl⟩
      rw [hwq.out] at BQ⊢
      have S2:=Lib.hid (HS.out.below BQ)
      have K2:=Lib.hid (KX.of_below (b:=b) (tv:=tv) BQ)
      clear hwq BQ
      go_upto_region 4 with fail
      have SC:=stop_is S2.out HN.out 4
      go_wp2_with (go_at_call 50;(with_reducible refine SC.mono ?_);rintro e2 w2 ⟨⟨u2,rfl⟩,r2⟩;have R2:=Lib.hid (RP.then (s1:=s) K2.out (Fr.refl _ _) r2);clear r2 SC)
      go_ret
      exact ⟨rfl,R2.out⟩
    ·have e3:decide (x.s=0)=false:=decide_eq_false h3
     have e4:(x.s !=0)=true:=by simpa using h3
     rw [W,if_neg (fun k=>h3 k.2.1)]
     clear h h0 hN lt hl hx W h2 h3 H
     go_enter Tryz.func148,Tryz.ntmps148
     go_upto_region 3 with fail
     go_quiet (fail)
     rename Nat=>nq0
     obtain ⟨nq,rfl⟩:∃ n:Nat,n=nq0:=⟨_,rfl⟩
     have BQ:=drewN_below w nq
     obtain ⟨wq,hwq⟩:∃ V,Hid (w.drewN nq=V):=⟨_,Lib.hid rfl⟩
     rw [hwq.out] at BQ⊢
     have S2:=Lib.hid (HS.out.below BQ)
     have K2:=Lib.hid (KX.of_below (b:=b) (tv:=tv) BQ)
     clear hwq BQ
     go_upto_region 4 with fail
     have SC:=stop_is S2.out HN.out 4
     go_wp2_with (go_at_call 50;(with_reducible refine SC.mono ?_);rintro e2 w2 ⟨⟨u2,rfl⟩,r2⟩;have R2:=Lib.hid (RP.then (s1:=s) K2.out (Fr.refl _ _) r2);clear r2 SC)
     go_ret
     exact ⟨rfl,R2.out⟩
   ·have e1:decide (x.k=2)=false:=decide_eq_false h2
    have e2:(x.k !=2)=true:=by simpa using h2
    rw [W,if_neg (fun k=>h2 k.1)]
    clear h h0 hN lt hl hx W h2 H
    go_enter Tryz.func148,Tryz.ntmps148
    go_upto_region 3 with fail
    go_quiet (fail)
    rename Nat=>nq0
    obtain ⟨nq,rfl⟩:∃ n:Nat,n=nq0:=⟨_,rfl⟩
    have BQ:=drewN_below w nq
    obtain ⟨wq,hwq⟩:∃ V,Hid (w.drewN nq=V):=⟨_,Lib.hid rfl⟩
    rw [hwq.out] at BQ⊢
    have S2:=Lib.hid (HS.out.below BQ)
    have K2:=Lib.hid (KX.of_below (b:=b) (tv:=tv) BQ)
    clear hwq BQ
    go_upto_region 4 with fail
    have SC:=stop_is S2.out HN.out 4
    go_wp2_with (go_at_call 50;(with_reducible refine SC.mono ?_);rintro e2 w2 ⟨⟨u2,rfl⟩,r2⟩;have R2:=Lib.hid (RP.then (s1:=s) K2.out (Fr.refl _ _) r2);clear r2 SC)
    go_ret
    exact ⟨rfl,R2.out⟩
 ·have E:wholeR L En m s=(s,0):=if_neg h0
  rw [E]
  have d1:decide (s.e=0)=false:=decide_eq_false h0
  have d2:(s.e !=0)=true:=by simpa using h0
  clear h h0 hN hl E
  go_enter Tryz.func148,Tryz.ntmps148
  go_wp2_with fail
  go_ret
  exact ⟨rfl,RP.refl HS.out⟩
theorem begin_is (h:St L En B b (.slice ao N lc) w tv s) (hN:L.length=N) (hl:N≤1000) (ha:s.a<N) (hd:-1000≤s.d) (hd2:s.d≤1000):Calls Tryz.prog 146 #[.pointer (some ⟨b,0,none⟩)] w (RV L En B b (.slice ao N lc) (beginR L En s) w tv):=by
 have b1:=h.c1;have f1:=h.f 1
 have kw:IntKind.i64.wrap ((s.a:Int)+1)=(s.a:Int)+1:=Ev.wrap1 s.a (by omega)
 have S1:=Lib.hid (h.setA (s.a+1))
 have K1:=Lib.hid (KX.set (KX.refl (b:=b) (tv:=tv) (w:=w)) 1 (.int .i64 ((s.a:Int)+1)))
 obtain ⟨W1,hW⟩:∃ W,Hid (w.setCell ⟨b,1,none⟩ (.int .i64 ((s.a:Int)+1))=W):=⟨_,Lib.hid rfl⟩
 have S1':Hid (St L En B b (.slice ao N lc) W1 tv (upR s)):=Lib.hid (by rw [←hW.out];exact S1.out)
 have K1':Hid (KX b tv w W1):=Lib.hid (by rw [←hW.out];exact K1.out)
 have HN:=Lib.hid hN;have HL:=Lib.hid hl;have HA:Hid ((upR s).a≤N):=Lib.hid ha
 have HD:Hid (-1000≤(upR s).d∧(upR s).d≤1000):=Lib.hid ⟨hd,hd2⟩
 clear S1 K1 h hN hl ha hd hd2
 have NX:=next_is S1'.out HN.out
 unfold SP at NX
 by_cases hw:nextR L (upR s)=wLp
 ·have E:beginR L En s=mustR L En wLp (deeperR L En (upR s)):=by unfold beginR;rw [if_pos hw]
  rw [E]
  rw [hw] at NX
  have HA2:Hid ((deeperR L En (upR s)).a≤N):=Lib.hid (by show (fullR L En (upR s)).a≤N;rw [full_a.1];exact HA.out)
  have NX2:Calls Tryz.prog 101 #[.pointer (some ⟨b,0,none⟩)] W1 fun e w'=>e=.returned (.string ⟨#[40]⟩)∧Below W1.heap.size W1 w':=NX
  clear hw E NX
  go_enter Tryz.func146,Tryz.ntmps146
  go_upto_region 1 with fail
  rw [hW.out]
  clear hW b1 f1
  go_wp2_with (first | (go_at_call 101;(with_reducible refine NX2.mono ?_);rintro e2 w2 ⟨rfl,q2⟩;have S2:=Lib.hid (S1'.out.below q2);have K2:=Lib.hid (K1'.out.trans (KX.of_below (b:=b) q2) (Fr.refl _ _));have DC:=deeper_is S2.out HN.out (by have:=HD.out.1;omega) (by have:=HD.out.2;omega);clear q2 NX2) | (go_at_call 103;(with_reducible refine DC.mono ?_);rintro e3 w3 ⟨⟨u3,rfl⟩,tv3,s3,k3,fr3⟩;have K3:=Lib.hid (K2.out.trans k3 (Fr.refl _ _));have F3:=Lib.hid (Fr.trans (Fr.refl tv w) fr3 K2.out.size);have MC:=must_is s3 HN.out HL.out HA2.out wLp ⟨#[40]⟩ rfl;clear s3 k3 fr3 DC) | (go_at_call 143;(with_reducible refine MC.mono ?_);rintro e4 w4 ⟨⟨u4,rfl⟩,r4⟩;have R4:=Lib.hid (RP.then (s1:=s) K3.out F3.out r4);clear r4 MC))
  go_end0
  exact ⟨⟨_,rfl⟩,R4.out⟩
 ·have E:beginR L En s=mustR L En wLp (upR s):=by unfold beginR;rw [if_neg hw]
  rw [E]
  have ss:((bs (nextR L (upR s))).toList==[40])=false:=by rw [bs_toList];simpa [wLp] using hw
  obtain ⟨U,hU⟩:∃ S,Hid (bs (nextR L (upR s))=S):=⟨_,Lib.hid rfl⟩
  rw [hU.out] at NX ss
  clear hw E
  go_enter Tryz.func146,Tryz.ntmps146
  go_upto_region 1 with fail
  rw [hW.out]
  clear hW b1 f1
  go_wp2_with (first | (go_at_call 101;(with_reducible refine NX.mono ?_);rintro e2 w2 ⟨rfl,q2⟩;have S2:=Lib.hid (S1'.out.below q2);have K2:=Lib.hid (K1'.out.trans (KX.of_below (b:=b) q2) (Fr.refl _ _));have MC:=must_is S2.out HN.out HL.out HA.out wLp ⟨#[40]⟩ rfl;clear q2 NX) | (go_at_call 143;(with_reducible refine MC.mono ?_);rintro e4 w4 ⟨⟨u4,rfl⟩,r4⟩;have R4:=Lib.hid (RP.then (s1:=s) K2.out (Fr.refl _ _) r4);clear r4 MC))
  go_end0
  exact ⟨⟨_,rfl⟩,R4.out⟩
end
end Go.Proofs.YteagpbkbdlmdiaaGreat.Ps
