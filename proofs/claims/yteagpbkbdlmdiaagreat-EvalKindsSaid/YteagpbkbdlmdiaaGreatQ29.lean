/-
  The document's types: Wrong, walked.
-/
import Derived.Test.YteagpbkbdlmdiaaGreatQ28
import Derived.BigQuiet
set_option linter.unusedSimpArgs false
set_option linter.unusedVariables false
namespace Go.Proofs.YteagpbkbdlmdiaaGreat.Ek
open Go Go.RowKit Dt Tx Va Ev
attribute [local go_sem ↓] Go.wp_at_zero Go.wp_at_succ
def Kd3 (w:World) (b:Nat) (x y z:Int):Prop:=w.heap[b]?=some (.cells #[.int .u8 x,.int .u8 y,.int .u8 z] 84 (0,0))
section
variable {w:World} {b:Nat} {x y z:Int}
theorem Kd3.lt (h:Kd3 w b x y z):b<w.heap.size:=(Array.getElem?_eq_some_iff.1 h).1
theorem Kd3.c0 (h:Kd3 w b x y z):w.cell? ⟨b,0,none⟩=some (.int .u8 x):=by rw [cell_of_row w _ _ _ _ (0,0) h];rfl
theorem Kd3.c1 (h:Kd3 w b x y z):w.cell? ⟨b,1,none⟩=some (.int .u8 y):=by rw [cell_of_row w _ _ _ _ (0,0) h];rfl
theorem Kd3.c2 (h:Kd3 w b x y z):w.cell? ⟨b,2,none⟩=some (.int .u8 z):=by rw [cell_of_row w _ _ _ _ (0,0) h];rfl
theorem Kd3.f (h:Kd3 w b x y z) (i:Nat):w.frozen? ⟨b,i,none⟩=false:=frozen_of_row w _ _ _ _ h
theorem Kd3.below {w':World} (h:Kd3 w b x y z) (k:Below w.heap.size w w'):Kd3 w' b x y z:=(k.block b h.lt).trans h
end
def KG (w:World) (b:Nat) (n:Nd) (F:Int→Int) (j:Nat):Prop:=Kd3 w b (if 0<j then F n.x else 0) (if 1<j then F n.y else 0) (if 2<j then F n.z else 0)
theorem KG.set {w:World} {b:Nat} {n:Nd} {F:Int→Int} {j:Nat} (h:KG w b n F j) (hj:j<3):KG (w.setCell ⟨b,j,none⟩ (.int .u8 (F (kidX n j)))) b n F (j+1):=by
 unfold KG Kd3 at h⊢
 rw [heap_setCell_same w b j _ _ _ h]
 match j,hj with
 | 0,_=>rfl
 | 1,_=>rfl
 | 2,_=>rfl
theorem KG.skip {w:World} {b:Nat} {n:Nd} {F:Int→Int} {j:Nat} (h:KG w b n F j) (hj:j<3) (h0:F (kidX n j)=0):KG w b n F (j+1):=by
 unfold KG Kd3 at h⊢
 rw [h]
 match j,hj with
 | 0,_=>change F n.x=0 at h0;simp [h0]
 | 1,_=>change F n.y=0 at h0;simp [h0]
 | 2,_=>change F n.z=0 at h0;simp [h0]
theorem KG.cell {w:World} {b:Nat} {n:Nd} {F:Int→Int} {j:Nat} (h:KG w b n F j) (hj:j<3):∃ v,w.cell? ⟨b,j,none⟩=some (.int .u8 v):=by
 unfold KG at h
 match j,hj with
 | 0,_=>exact ⟨_,h.c0⟩
 | 1,_=>exact ⟨_,h.c1⟩
 | 2,_=>exact ⟨_,h.c2⟩
theorem kid_cell {w:World} {b:Nat} {n:Nd} (h:Nine w b n) {j:Nat} (hj:j<3):w.cell? ⟨b,5+j,none⟩=some (.int .i64 (kidX n j)):=by
 match j,hj with
 | 0,_=>exact h.c5
 | 1,_=>exact h.c6
 | 2,_=>exact h.c7
def WrP (r:Int × Int) (w:World) (e:Ending) (w':World):Prop:=e=.returned (.tuple #[.int .u8 r.1,.int .i64 r.2])∧Below w.heap.size w w'
set_option maxRecDepth 100000 in
set_option maxHeartbeats 40000000 in
theorem kwrong_step {t:List Nd} {fs:List Fd} (hW:WholeT t) (hl:t.length≤300) (hlf:fs.length≤1000) (hno:∀ n ∈ t,n.ok) {i:Nat} (hi:i<t.length) (WX:∀ j,j<i→∀ (w:World) (vt vf:Value),ndE.Arg w vt t→fdE.Arg w vf fs→Calls Tryz.prog 27 #[vt,.int .i64 (j:Int),vf] w (WrP (kindAt fs t j) w)) {w:World} {vt vf:Value} (ht:ndE.Arg w vt t) (hf:fdE.Arg w vf fs):Calls Tryz.prog 27 #[vt,.int .i64 (i:Int),vf] w (WrP (kindAt fs t i) w):=by
 obtain ⟨n,hn⟩:∃ n,t[i]?=some n:=⟨_,List.getElem?_eq_getElem hi⟩
 have NT:=(hW.1 i n hn).1
 have NOK:=hno n (List.mem_of_getElem? hn)
 have HT:=Lib.hid ht;have HFF:=Lib.hid hf
 obtain ⟨aa,ca,rfl,h1⟩:=argN ht
 obtain ⟨af,cf,rfl,_⟩:=argF hf
 obtain ⟨N,hN⟩:∃ N,Hid (t.length=N):=⟨_,Lib.hid rfl⟩
 obtain ⟨M,hM⟩:∃ N,Hid (fs.length=N):=⟨_,Lib.hid rfl⟩
 have HT2:Hid (ndE.Arg w (.slice aa N ca) t):=by rw [←hN.out];exact HT
 have HF2:Hid (fdE.Arg w (.slice af M cf) fs):=by rw [←hM.out];exact HFF
 rw [hN.out,hM.out]
 obtain ⟨ba',oa,rfl,l1,c0,c1,c2,c3,c4,c5,c6,c7,c8⟩:=h1 i n hn
 have i1:(i:Int)<(N:Int):=by have:=hN.out;omega
 have i0:(0:Int)≤(i:Int):=by omega
 have WXB:∀ j,j<i→∀ w',Below w.heap.size w w'→Calls Tryz.prog 27 #[.slice (some ⟨ba',oa,none⟩) N ca,.int .i64 (j:Int),.slice af M cf] w' (WrP (kindAt fs t j) w'):=fun j hj w' h=>WX j hj w' _ _ (HT2.out.below h) (HF2.out.below h)
 have FC:=fun w' (h:Below w.heap.size w w')=>find_is (HF2.out.below h) hlf n.n
 obtain ⟨F,hF⟩:∃ F,Hid (kidK (wrongL fs t i)=F):=⟨_,Lib.hid rfl⟩
 have FK:Hid (∀ a:Nat,a<i→(kindAt fs t a).1=F (a:Int)):=Lib.hid (fun a ha=>by rw [←hF.out,kidK_at (by omega) (by omega) (by omega)];rfl)
 have FN:Hid (F (-1)=0):=Lib.hid (by rw [←hF.out];rfl)
 have KB:Hid (∀ j,j<3→(0≤kidX n j∧kidX n j<(i:Int))∨kidX n j= -1):=Lib.hid (fun j hj=>by
  obtain ⟨_,hx,hy,hz⟩:=NT
  match j,hj with
  | 0,_=>change (0≤n.x∧n.x<(i:Int))∨n.x= -1;split at hx;exact .inl hx;exact .inr hx
  | 1,_=>change (0≤n.y∧n.y<(i:Int))∨n.y= -1;split at hy;exact .inl hy;exact .inr hy
  | 2,_=>change (0≤n.z∧n.z<(i:Int))∨n.z= -1;split at hz;exact .inl hz;exact .inr hz)
 obtain ⟨res,hres⟩:∃ r,Hid (kindAt fs t i=r):=⟨_,Lib.hid rfl⟩
 have HR:Hid (wrongN fs (wrongL fs t i) n=res):=Lib.hid (by rw [←hres.out,kindAt_step hn])
 rw [hres.out]
 have HOP:=Lib.hid (kidsN_op NT.1)
 have HWX:=Lib.hid WXB
 clear hW hno hi WX ht hf h1 hn HT HFF HT2 HF2 hN hl hlf NT NOK WXB hres
 go_enter Tryz.func27,Tryz.ntmps27
 go_upto_region 2 with fail
 obtain ⟨W0,iN,hW,hX,N0,B0,LN,_,_⟩:=mkN w n
 rw [hW.out];try rw [hX.out]
 clear hW hX c0 c1 c2 c3 c4 c5 c6 c7 c8
 have n3:=N0.out.c3
 obtain ⟨SN,hSN⟩:∃ S,Hid (bs n.n=S):=⟨_,Lib.hid rfl⟩
 have FC0:=FC W0 B0.out
 rw [hSN.out] at FC0 n3
 clear FC
 obtain ⟨fk,hfk⟩:∃ r,Hid (findF fs n.n=r):=⟨_,Lib.hid rfl⟩
 rw [hfk.out] at FC0
 obtain ⟨fkk,fko⟩:=fk
 have HFK:Hid (fieldK fs n.n=if n.n=[] then (0,0) else if fko=false then (0,5) else if fkk ≠ 1∧fkk ≠ 2 then (0,8) else (fkk,0)):=Lib.hid (by unfold fieldK;rw [hfk.out])
 have key:∃ fld:Int,(n.n=[]∧fld=0∧fieldK fs n.n=(fld,0))∨(¬n.n=[]∧fko=false∧fieldK fs n.n=(0,5))∨(¬n.n=[]∧fko=true∧¬fkk=1∧¬fkk=2∧fieldK fs n.n=(0,8))∨(¬n.n=[]∧fko=true∧fld=fkk∧(fkk=1∨fkk=2)∧fieldK fs n.n=(fld,0)):=by
  have h:=HFK.out
  by_cases e:n.n=[]
  ·exact ⟨0,.inl ⟨e,rfl,by rw [h,if_pos e]⟩⟩
  ·rw [if_neg e] at h
   by_cases e2:fko=false
   ·exact ⟨0,.inr (.inl ⟨e,e2,by rw [h,if_pos e2]⟩)⟩
   ·rw [if_neg e2] at h
    have e3:fko=true:=by simpa using e2
    by_cases e4:fkk ≠ 1∧fkk ≠ 2
    ·exact ⟨0,.inr (.inr (.inl ⟨e,e3,e4.1,e4.2,by rw [h,if_pos e4]⟩))⟩
    ·exact ⟨fkk,.inr (.inr (.inr ⟨e,e3,rfl,by omega,by rw [h,if_neg e4]⟩))⟩
 clear HFK hfk
 obtain ⟨fld,key⟩:=key
 have RW:∀ r:Int × Int,fieldK fs n.n=r→Hid ((if r.2 ≠ 0 then (0,r.2) else if (kindOf n.op r.1 (F n.x) (F n.y) (F n.z)).2=true then ((kindOf n.op r.1 (F n.x) (F n.y) (F n.z)).1,0) else (0,8))=res):=fun r e=>Lib.hid (by rw [←e,←hF.out];exact HR.out)
 go_upto_region 3 with fail
 obtain ⟨sB,hsB⟩:∃ s:Bool,Hid ((SN.toList==[])=s):=⟨_,Lib.hid rfl⟩
 have s1:(SN.toList==[])=sB:=hsB.out
 have s2:(SN.toList !=[])=(!sB):=by rw [←hsB.out];rfl
 have hsn:(sB=true↔n.n=[]):=by rw [←hsB.out,←hSN.out,bs_toList];simp
 replace hsn:=Lib.hid hsn
 clear hsB hSN
 go_upto_if 22 with fail
 go_cut [9] (fun p wx=>∃ fld:Int,p=.int .u8 fld∧Hid (fieldK fs n.n=(fld,0))∧W0=wx)
 case first=>
  rcases key with ⟨hn0,rfl,hk⟩ | ⟨hn0,h1,hk⟩ | ⟨hn0,rfl,h1,h2,hk⟩ | ⟨hn0,rfl,rfl,h12,hk⟩
  ·obtain rfl:=hsn.out.2 hn0
   go_wp2_with fail
   go_meet
   case rel=>exact ⟨_,rfl,Lib.hid hk,rfl⟩
  all_goals
   obtain rfl:sB=false:=by cases sB;rfl;exact absurd (hsn.out.1 rfl) hn0
  ·subst h1
   have E:=RW _ hk
   clear hk RW HR hF HWX KB FK FN
   go_wp2_with (go_at_call 47;(with_reducible refine FC0.mono ?_);rintro e1 w1 ⟨rfl,hq⟩;obtain rfl:=hq.symm;clear FC0)
   go_ret2
   exact ⟨by rw [←E.out];rfl,B0.out⟩
  ·have E:=RW _ hk
   have z1:(fkk !=1)=true:=by simpa using h1
   have z2:(fkk !=2)=true:=by simpa using h2
   have z3:(fkk==1)=false:=by simpa using h1
   have z4:(fkk==2)=false:=by simpa using h2
   have z5:decide (fkk=1)=false:=decide_eq_false h1
   have z6:decide (fkk=2)=false:=decide_eq_false h2
   clear hk RW HR hF HWX KB FK FN h1 h2
   go_wp2_with (go_at_call 47;(with_reducible refine FC0.mono ?_);rintro e1 w1 ⟨rfl,hq⟩;obtain rfl:=hq.symm;clear FC0)
   go_ret2
   exact ⟨by rw [←E.out];rfl,B0.out⟩
  ·rcases h12 with rfl | rfl
   all_goals
    go_wp2_with (go_at_call 47;(with_reducible refine FC0.mono ?_);rintro e1 w1 ⟨rfl,hq⟩;obtain rfl:=hq.symm;clear FC0)
    go_meet
    case rel=>exact ⟨_,rfl,Lib.hid hk,rfl⟩
 case rest=>
  obtain ⟨fld,rfl,hk,rfl⟩:=hcut
  clear key
  have E:=RW _ hk.out
  clear hk RW HR hF s1 s2 hsn
  go_upto_region 11 with fail
  obtain ⟨W1,iK,hW,hX,K1,BK,LK,_,_⟩:=mk1 W0 (.cells #[.int .u8 0,.int .u8 0,.int .u8 0] 84)
  rw [hW.out];try rw [hX.out]
  clear hW hX n3
  replace K1:Hid (KG W1 iK n F 0):=K1
  have N1:=hN N0 BK.out
  have B1:=hB B0 BK.out
  have HNK:Hid (¬iN=iK):=Lib.hid (by have:=N0.out.lt;have:=LK.out;omega)
  have LKW:Hid (w.heap.size≤iK):=Lib.hid (by have:=LK.out;have:=B0.out.size;omega)
  clear N0 B0 BK LK
  go_wp2_with fail
  go_loopw [13] (fun i wr=>∃ (j:Nat),i=.int .i64 (j:Int)∧j≤3∧Hid (KG wr iK n F j)∧Hid (Nine wr iN n)∧Hid (Below w.heap.size w wr)) (fun i _=>3 - (intOf i).toNat)
  case atStart=>exact ⟨0,rfl,by omega,K1.out,N1.out,B1.out⟩
  case round=>
   clear K1 N1 B1
   obtain ⟨wo,rfl⟩:∃ wo:World,wo=wr:=⟨_,rfl⟩
   obtain ⟨j,rfl,hj,K,NN,B⟩:=hrel
   by_cases hj3:j<3
   ·obtain ⟨xj,hxj⟩:∃ x,Hid (kidX n j=x):=⟨_,Lib.hid rfl⟩
    have cj:=kid_cell NN.out hj3
    have kb:=KB.out j hj3
    rw [hxj.out] at cj kb
    have y0:(0:Int)≤(j:Int):=by omega
    have y1:(j:Int)<3:=by omega
    have y2:decide ((j:Int)<3)=true:=by simp;omega
    have y3:decide (j<3)=true:=by simpa using hj3
    have yw:IntKind.i64.wrap ((j:Int)+1)=(j:Int)+1:=wrap1 j (by omega)
    have HJ:=Lib.hid hj3
    clear hj3 hj
    rcases kb with ⟨hx0,hxi⟩ | rfl
    ·obtain ⟨a,rfl⟩:∃ a:Nat,xj=(a:Int):=⟨xj.toNat,by omega⟩
     have la:a<i:=by omega
     have z0:decide ((0:Int)≤(a:Int))=true:=by simp
     have z1:decide ((a:Int) ≥ 0)=true:=by simp
     have WC:=fun w' h=>HWX.out a la w' h
     obtain ⟨⟨ka,ke⟩,hka⟩:∃ r,Hid (kindAt fs t a=r):=⟨_,Lib.hid rfl⟩
     have HKA:Hid (F (kidX n j)=ka):=Lib.hid (by rw [hxj.out,←FK.out a la,hka.out])
     simp only [hka.out] at WC
     clear hx0 hxi la hka
     go_wp2_with (go_at_call 27;(with_reducible refine (WC _ B.out).mono ?_);rintro e2 w2 ⟨rfl,q2⟩;have K2:Hid (KG w2 iK n F j):=Lib.hid (Kd3.below K.out q2);have N2:=hN NN q2;have B2:=Lib.hid (bt B.out q2);obtain ⟨v0,cv⟩:=K2.out.cell HJ.out;have fv:=Kd3.f K2.out j;clear q2 WC K NN B cj)
     refine ⟨⟨j+1,rfl,HJ.out,?_,(heap_setCell_other _ ⟨iK,j,none⟩ iN _ HNK.out).trans N2.out,B2.out.setCell (p:=⟨iK,j,none⟩) LKW.out _⟩,?_⟩
     ·have:=K2.out.set HJ.out;rw [HKA.out] at this;exact this
     ·show 3 - ((j:Int)+1).toNat<3 - (j:Int).toNat;have:=HJ.out;omega
    ·have KS:=Lib.hid (K.out.skip HJ.out (by rw [hxj.out];exact FN.out))
     go_wp2_with fail
     refine ⟨⟨j+1,rfl,HJ.out,KS,NN,B⟩,?_⟩
     show 3 - ((j:Int)+1).toNat<3 - (j:Int).toNat;have:=HJ.out;omega
   ·obtain rfl:j=3:=by omega
    have y2:decide (((3:Nat):Int)<3)=false:=by decide
    have n0:=NN.out.c0
    obtain ⟨k0,hk0⟩:∃ k,Hid (F n.x=k):=⟨_,Lib.hid rfl⟩
    obtain ⟨k1,hk1⟩:∃ k,Hid (F n.y=k):=⟨_,Lib.hid rfl⟩
    obtain ⟨k2,hk2⟩:∃ k,Hid (F n.z=k):=⟨_,Lib.hid rfl⟩
    have K3:Hid (Kd3 wo iK k0 k1 k2):=Lib.hid (by rw [←hk0.out,←hk1.out,←hk2.out];exact K.out)
    rw [hk0.out,hk1.out,hk2.out] at E
    have HE:=E.out
    rw [if_neg (by simp)] at HE
    try dsimp only at HE
    have hop:=HOP.out
    generalize n.op=op at n0 HE hop
    replace HE:=Lib.hid HE
    have hG:(op=1∨op=2∨op=3∨op=24∨op=4∨op=26)∨(op=27∨op=28)∨(op=29∨op=30)∨(op=7)∨(op=5∨op=6)∨(op=8∨op=9)∨(op=10∨op=11∨op=12∨op=13)∨(op=18∨op=22∨op=23)∨(op=19)∨(op=25)∨(op=14∨op=15∨op=16∨op=17∨op=20∨op=21):=by omega
    have kc0:=K3.out.c0;have kc1:=K3.out.c1;have kc2:=K3.out.c2
    clear hj3 hj K NN E hk0 hk1 hk2 HWX KB FK FN hop HOP
    rcases hG with hG | hG | hG | hG | hG | hG | hG | hG | hG | hG | hG
    ·rcases hG with rfl | rfl | rfl | rfl | rfl | rfl
     all_goals
      go_wp2_with fail
      go_ret2
      exact ⟨by rw [←HE.out];simp [kindOf],B.out⟩
    ·rcases hG with rfl | rfl
     all_goals
      by_cases h0:fld=1
      ·skip
       have h0a:decide (fld=1)=true:=decide_eq_true h0
       have h0b:(fld==1)=true:=(by simpa using h0)
       have h0c:(fld !=1)=false:=(by simpa using h0)
       go_wp2_with fail
       go_ret2
       exact ⟨by rw [←HE.out];simp [kindOf,h0],B.out⟩
      ·skip
       have h0a:decide (fld=1)=false:=decide_eq_false h0
       have h0b:(fld==1)=false:=(by simpa using h0)
       have h0c:(fld !=1)=true:=(by simpa using h0)
       go_wp2_with fail
       go_ret2
       exact ⟨by rw [←HE.out];simp [kindOf,h0],B.out⟩
    ·rcases hG with rfl | rfl
     all_goals
      by_cases h0:fld=2
      ·skip
       have h0a:decide (fld=2)=true:=decide_eq_true h0
       have h0b:(fld==2)=true:=(by simpa using h0)
       have h0c:(fld !=2)=false:=(by simpa using h0)
       go_wp2_with fail
       go_ret2
       exact ⟨by rw [←HE.out];simp [kindOf,h0],B.out⟩
      ·skip
       have h0a:decide (fld=2)=false:=decide_eq_false h0
       have h0b:(fld==2)=false:=(by simpa using h0)
       have h0c:(fld !=2)=true:=(by simpa using h0)
       go_wp2_with fail
       go_ret2
       exact ⟨by rw [←HE.out];simp [kindOf,h0],B.out⟩
    ·subst hG
     by_cases h0:k0=2
     ·skip
      have h0a:decide (k0=2)=true:=decide_eq_true h0
      have h0b:(k0==2)=true:=(by simpa using h0)
      have h0c:(k0 !=2)=false:=(by simpa using h0)
      go_upto_region 28 with fail
      go_quiet (fail)
      go_wp2_with fail
      go_ret2
      exact ⟨by rw [←HE.out];simp [kindOf,h0],below_drewN B.out _⟩
     ·skip
      have h0a:decide (k0=2)=false:=decide_eq_false h0
      have h0b:(k0==2)=false:=(by simpa using h0)
      have h0c:(k0 !=2)=true:=(by simpa using h0)
      go_upto_region 28 with fail
      go_quiet (fail)
      go_wp2_with fail
      go_ret2
      exact ⟨by rw [←HE.out];simp [kindOf,h0],below_drewN B.out _⟩
    ·rcases hG with rfl | rfl
     all_goals
      by_cases h0:k0=2
      ·skip
       have h0a:decide (k0=2)=true:=decide_eq_true h0
       have h0b:(k0==2)=true:=(by simpa using h0)
       have h0c:(k0 !=2)=false:=(by simpa using h0)
       by_cases h1:k1=2
       ·skip
        have h1a:decide (k1=2)=true:=decide_eq_true h1
        have h1b:(k1==2)=true:=(by simpa using h1)
        have h1c:(k1 !=2)=false:=(by simpa using h1)
        go_upto_region 31 with fail
        go_quiet (fail)
        go_wp2_with fail
        go_ret2
        exact ⟨by rw [←HE.out];simp [kindOf,h0,h1],below_drewN B.out _⟩
       ·skip
        have h1a:decide (k1=2)=false:=decide_eq_false h1
        have h1b:(k1==2)=false:=(by simpa using h1)
        have h1c:(k1 !=2)=true:=(by simpa using h1)
        go_upto_region 31 with fail
        go_quiet (fail)
        go_wp2_with fail
        go_ret2
        exact ⟨by rw [←HE.out];simp [kindOf,h0,h1],below_drewN B.out _⟩
      ·skip
       have h0a:decide (k0=2)=false:=decide_eq_false h0
       have h0b:(k0==2)=false:=(by simpa using h0)
       have h0c:(k0 !=2)=true:=(by simpa using h0)
       by_cases h1:k1=2
       ·skip
        have h1a:decide (k1=2)=true:=decide_eq_true h1
        have h1b:(k1==2)=true:=(by simpa using h1)
        have h1c:(k1 !=2)=false:=(by simpa using h1)
        go_upto_region 31 with fail
        go_quiet (fail)
        go_wp2_with fail
        go_ret2
        exact ⟨by rw [←HE.out];simp [kindOf,h0,h1],below_drewN B.out _⟩
       ·skip
        have h1a:decide (k1=2)=false:=decide_eq_false h1
        have h1b:(k1==2)=false:=(by simpa using h1)
        have h1c:(k1 !=2)=true:=(by simpa using h1)
        go_upto_region 31 with fail
        go_quiet (fail)
        go_wp2_with fail
        go_ret2
        exact ⟨by rw [←HE.out];simp [kindOf,h0,h1],below_drewN B.out _⟩
    ·rcases hG with rfl | rfl
     all_goals
      by_cases h0:k0=k1
      ·skip
       have h0a:decide (k0=k1)=true:=decide_eq_true h0
       have h0b:(k0==k1)=true:=(by simpa using h0)
       have h0c:(k0 !=k1)=false:=(by simpa using h0)
       go_upto_region 34 with fail
       go_quiet (fail)
       go_wp2_with fail
       go_ret2
       exact ⟨by rw [←HE.out];simp [kindOf,h0],below_drewN B.out _⟩
      ·skip
       have h0a:decide (k0=k1)=false:=decide_eq_false h0
       have h0b:(k0==k1)=false:=(by simpa using h0)
       have h0c:(k0 !=k1)=true:=(by simpa using h0)
       go_upto_region 34 with fail
       go_quiet (fail)
       go_wp2_with fail
       go_ret2
       exact ⟨by rw [←HE.out];simp [kindOf,h0],below_drewN B.out _⟩
    ·rcases hG with rfl | rfl | rfl | rfl
     all_goals
      by_cases h0:k0=1
      ·skip
       have h0a:decide (k0=1)=true:=decide_eq_true h0
       have h0b:(k0==1)=true:=(by simpa using h0)
       have h0c:(k0 !=1)=false:=(by simpa using h0)
       by_cases h1:k1=1
       ·skip
        have h1a:decide (k1=1)=true:=decide_eq_true h1
        have h1b:(k1==1)=true:=(by simpa using h1)
        have h1c:(k1 !=1)=false:=(by simpa using h1)
        go_upto_region 39 with fail
        go_quiet (fail)
        go_wp2_with fail
        go_ret2
        exact ⟨by rw [←HE.out];simp [kindOf,h0,h1],below_drewN B.out _⟩
       ·skip
        have h1a:decide (k1=1)=false:=decide_eq_false h1
        have h1b:(k1==1)=false:=(by simpa using h1)
        have h1c:(k1 !=1)=true:=(by simpa using h1)
        go_upto_region 39 with fail
        go_quiet (fail)
        go_wp2_with fail
        go_ret2
        exact ⟨by rw [←HE.out];simp [kindOf,h0,h1],below_drewN B.out _⟩
      ·skip
       have h0a:decide (k0=1)=false:=decide_eq_false h0
       have h0b:(k0==1)=false:=(by simpa using h0)
       have h0c:(k0 !=1)=true:=(by simpa using h0)
       by_cases h1:k1=1
       ·skip
        have h1a:decide (k1=1)=true:=decide_eq_true h1
        have h1b:(k1==1)=true:=(by simpa using h1)
        have h1c:(k1 !=1)=false:=(by simpa using h1)
        go_upto_region 39 with fail
        go_quiet (fail)
        go_wp2_with fail
        go_ret2
        exact ⟨by rw [←HE.out];simp [kindOf,h0,h1],below_drewN B.out _⟩
       ·skip
        have h1a:decide (k1=1)=false:=decide_eq_false h1
        have h1b:(k1==1)=false:=(by simpa using h1)
        have h1c:(k1 !=1)=true:=(by simpa using h1)
        go_upto_region 39 with fail
        go_quiet (fail)
        go_wp2_with fail
        go_ret2
        exact ⟨by rw [←HE.out];simp [kindOf,h0,h1],below_drewN B.out _⟩
    ·rcases hG with rfl | rfl | rfl
     all_goals
      by_cases h0:k0=1
      ·skip
       have h0a:decide (k0=1)=true:=decide_eq_true h0
       have h0b:(k0==1)=true:=(by simpa using h0)
       have h0c:(k0 !=1)=false:=(by simpa using h0)
       go_wp2_with fail
       go_ret2
       exact ⟨by rw [←HE.out];simp [kindOf,h0],B.out⟩
      ·skip
       have h0a:decide (k0=1)=false:=decide_eq_false h0
       have h0b:(k0==1)=false:=(by simpa using h0)
       have h0c:(k0 !=1)=true:=(by simpa using h0)
       go_wp2_with fail
       go_ret2
       exact ⟨by rw [←HE.out];simp [kindOf,h0],B.out⟩
    ·subst hG
     by_cases h0:k0=2
     ·skip
      have h0a:decide (k0=2)=true:=decide_eq_true h0
      have h0b:(k0==2)=true:=(by simpa using h0)
      have h0c:(k0 !=2)=false:=(by simpa using h0)
      by_cases h1:k1=k2
      ·skip
       have h1a:decide (k1=k2)=true:=decide_eq_true h1
       have h1b:(k1==k2)=true:=(by simpa using h1)
       have h1c:(k1 !=k2)=false:=(by simpa using h1)
       go_upto_region 45 with fail
       go_quiet (fail)
       go_wp2_with fail
       go_ret2
       exact ⟨by rw [←HE.out];simp [kindOf,h0,h1],below_drewN B.out _⟩
      ·skip
       have h1a:decide (k1=k2)=false:=decide_eq_false h1
       have h1b:(k1==k2)=false:=(by simpa using h1)
       have h1c:(k1 !=k2)=true:=(by simpa using h1)
       go_upto_region 45 with fail
       go_quiet (fail)
       go_wp2_with fail
       go_ret2
       exact ⟨by rw [←HE.out];simp [kindOf,h0,h1],below_drewN B.out _⟩
     ·skip
      have h0a:decide (k0=2)=false:=decide_eq_false h0
      have h0b:(k0==2)=false:=(by simpa using h0)
      have h0c:(k0 !=2)=true:=(by simpa using h0)
      by_cases h1:k1=k2
      ·skip
       have h1a:decide (k1=k2)=true:=decide_eq_true h1
       have h1b:(k1==k2)=true:=(by simpa using h1)
       have h1c:(k1 !=k2)=false:=(by simpa using h1)
       go_upto_region 45 with fail
       go_quiet (fail)
       go_wp2_with fail
       go_ret2
       exact ⟨by rw [←HE.out];simp [kindOf,h0,h1],below_drewN B.out _⟩
      ·skip
       have h1a:decide (k1=k2)=false:=decide_eq_false h1
       have h1b:(k1==k2)=false:=(by simpa using h1)
       have h1c:(k1 !=k2)=true:=(by simpa using h1)
       go_upto_region 45 with fail
       go_quiet (fail)
       go_wp2_with fail
       go_ret2
       exact ⟨by rw [←HE.out];simp [kindOf,h0,h1],below_drewN B.out _⟩
    ·subst hG
     by_cases h0:k0=fld
     ·skip
      have h0a:decide (k0=fld)=true:=decide_eq_true h0
      have h0b:(k0==fld)=true:=(by simpa using h0)
      have h0c:(k0 !=fld)=false:=(by simpa using h0)
      go_upto_region 47 with fail
      go_quiet (fail)
      go_wp2_with fail
      go_ret2
      exact ⟨by rw [←HE.out];simp [kindOf,h0],below_drewN B.out _⟩
     ·skip
      have h0a:decide (k0=fld)=false:=decide_eq_false h0
      have h0b:(k0==fld)=false:=(by simpa using h0)
      have h0c:(k0 !=fld)=true:=(by simpa using h0)
      go_upto_region 47 with fail
      go_quiet (fail)
      go_wp2_with fail
      go_ret2
      exact ⟨by rw [←HE.out];simp [kindOf,h0],below_drewN B.out _⟩
    ·rcases hG with rfl | rfl | rfl | rfl | rfl | rfl
     all_goals
      by_cases h0:k0=1
      ·skip
       have h0a:decide (k0=1)=true:=decide_eq_true h0
       have h0b:(k0==1)=true:=(by simpa using h0)
       have h0c:(k0 !=1)=false:=(by simpa using h0)
       by_cases h1:k1=1
       ·skip
        have h1a:decide (k1=1)=true:=decide_eq_true h1
        have h1b:(k1==1)=true:=(by simpa using h1)
        have h1c:(k1 !=1)=false:=(by simpa using h1)
        go_wp2_with fail
        go_ret2
        exact ⟨by rw [←HE.out];simp [kindOf,h0,h1],B.out⟩
       ·skip
        have h1a:decide (k1=1)=false:=decide_eq_false h1
        have h1b:(k1==1)=false:=(by simpa using h1)
        have h1c:(k1 !=1)=true:=(by simpa using h1)
        go_wp2_with fail
        go_ret2
        exact ⟨by rw [←HE.out];simp [kindOf,h0,h1],B.out⟩
      ·skip
       have h0a:decide (k0=1)=false:=decide_eq_false h0
       have h0b:(k0==1)=false:=(by simpa using h0)
       have h0c:(k0 !=1)=true:=(by simpa using h0)
       by_cases h1:k1=1
       ·skip
        have h1a:decide (k1=1)=true:=decide_eq_true h1
        have h1b:(k1==1)=true:=(by simpa using h1)
        have h1c:(k1 !=1)=false:=(by simpa using h1)
        go_wp2_with fail
        go_ret2
        exact ⟨by rw [←HE.out];simp [kindOf,h0,h1],B.out⟩
       ·skip
        have h1a:decide (k1=1)=false:=decide_eq_false h1
        have h1b:(k1==1)=false:=(by simpa using h1)
        have h1c:(k1 !=1)=true:=(by simpa using h1)
        go_wp2_with fail
        go_ret2
        exact ⟨by rw [←HE.out];simp [kindOf,h0,h1],B.out⟩
theorem kwrong_is {t:List Nd} {fs:List Fd} (hW:WholeT t) (hl:t.length≤300) (hlf:fs.length≤1000) (hno:∀ n ∈ t,n.ok):∀ (K i:Nat),i<K→i<t.length→∀ (w:World) (vt vf:Value),ndE.Arg w vt t→fdE.Arg w vf fs→Calls Tryz.prog 27 #[vt,.int .i64 (i:Int),vf] w (WrP (kindAt fs t i) w)
 | 0,i,h=>absurd h (by omega)
 | K+1,i,h=>fun hi w vt vf ht hf=>kwrong_step hW hl hlf hno hi (fun j hj w vt vf h h'=>kwrong_is hW hl hlf hno K j (by omega) (by omega) w vt vf h h') ht hf
end Go.Proofs.YteagpbkbdlmdiaaGreat.Ek
