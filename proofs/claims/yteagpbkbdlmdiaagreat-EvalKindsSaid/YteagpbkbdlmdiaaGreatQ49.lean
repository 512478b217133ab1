/-
  The document's printer: text, walked.
-/
import Derived.Test.YteagpbkbdlmdiaaGreatQ28
import Derived.BigQuiet
set_option linter.unusedSimpArgs false
set_option linter.unusedVariables false
namespace Go.Proofs.YteagpbkbdlmdiaaGreat.Ek
open Go Go.RowKit Dt Tx Va Ev
attribute [local go_sem ↓] Go.wp_at_zero Go.wp_at_succ
theorem size_lit (x:Array UInt8):ByteArray.size ⟨x⟩=x.size:=rfl
theorem kidZ_nat (t:List Nd) (a:Nat):kidZ t (a:Int)=szAt t a:=by simp [kidZ]
theorem NodeT.lt {n:Nd} {i:Nat} (h:NodeT n i):n.x<(i:Int)∧n.y<(i:Int)∧n.z<(i:Int):=by
 obtain ⟨_,hx,hy,hz⟩:=h
 refine ⟨?_,?_,?_⟩
 ·split at hx<;>omega
 ·split at hy<;>omega
 ·split at hz<;>omega
set_option maxRecDepth 100000 in
set_option maxHeartbeats 40000000 in
theorem text_step {t:List Nd} (hW:WholeT t) (hl:t.length≤300) (hno:∀ n ∈ t,n.ok) (hnm:∀ n ∈ t,n.n.length≤2000) {i:Nat} (hi:i<t.length) (TX:∀ j,j<i→∀ (w:World) (vt:Value),ndE.Arg w vt t→Calls Tryz.prog 45 #[vt,.int .i64 (j:Int)] w (StrP (3000*szAt t j) w)) {w:World} {vt:Value} (ht:ndE.Arg w vt t):Calls Tryz.prog 45 #[vt,.int .i64 (i:Int)] w (StrP (3000*szAt t i) w):=by
 have SZB:∀ a,a<i→3000*szAt t a≤1000000:=fun a ha=>by
  obtain ⟨m,hm⟩:∃ m,t[a]?=some m:=⟨_,List.getElem?_eq_getElem (by omega)⟩
  have:=(hW.1 a m hm).2;omega
 have AX:∀ j,j<i→∀ (w:World) (vt:Value),ndE.Arg w vt t→∀ least:Int,Calls Tryz.prog 91 #[vt,.int .i64 (j:Int),.int .i64 least] w (StrP (3000*szAt t j+2) w):=fun j hj w vt h least=>at_is h hno (by omega) (SZB j hj) (TX j hj w vt h) least
 obtain ⟨n,hn⟩:∃ n,t[i]?=some n:=⟨_,List.getElem?_eq_getElem hi⟩
 have NT:=(hW.1 i n hn).1
 have NOK:=hno n (List.mem_of_getElem? hn)
 have HNL:=Lib.hid (hnm n (List.mem_of_getElem? hn))
 have HT:=Lib.hid ht
 obtain ⟨aa,ca,rfl,h1⟩:=argN ht
 obtain ⟨N,hN⟩:∃ N,Hid (t.length=N):=⟨_,Lib.hid rfl⟩
 have HT2:Hid (ndE.Arg w (.slice aa N ca) t):=by rw [←hN.out];exact HT
 rw [hN.out]
 obtain ⟨ba',oa,rfl,l1,c0,c1,c2,c3,c4,c5,c6,c7,c8⟩:=h1 i n hn
 have i1:(i:Int)<(N:Int):=by have:=hN.out;omega
 have i0:(0:Int)≤(i:Int):=by omega
 have TXB:∀ j,j<i→∀ w',Below w.heap.size w w'→Calls Tryz.prog 45 #[.slice (some ⟨ba',oa,none⟩) N ca,.int .i64 (j:Int)] w' (StrP (3000*szAt t j) w'):=fun j hj w' h=>TX j hj w' _ (HT2.out.below h)
 have AXB:∀ j,j<i→∀ least:Int,∀ w',Below w.heap.size w w'→Calls Tryz.prog 91 #[.slice (some ⟨ba',oa,none⟩) N ca,.int .i64 (j:Int),.int .i64 least] w' (StrP (3000*szAt t j+2) w'):=fun j hj least w' h=>AX j hj w' _ (HT2.out.below h) least
 have HZ:=Lib.hid (szAt_step hn NT.lt.1 NT.lt.2.1 NT.lt.2.2)
 obtain ⟨R,hR⟩:∃ R,Hid (3000*szAt t i=R):=⟨_,Lib.hid rfl⟩
 rw [hR.out]
 clear hW hno hnm hi TX AX ht h1 hn HT HT2 hN hl
 obtain ⟨op,c,s,nm,k,x,y,z,p⟩:=n
 dsimp only at HZ HNL
 obtain ⟨SN,hSN⟩:∃ S,Hid (bs nm=S):=⟨_,Lib.hid rfl⟩
 have HSN:Hid (SN.size≤2000):=Lib.hid (by rw [←hSN.out,bs_size];exact HNL.out)
 have NTu:0≤kidsN op∧(if 0<kidsN op then 0≤x∧x<(i:Int) else x= -1)∧(if 1<kidsN op then 0≤y∧y<(i:Int) else y= -1)∧(if 2<kidsN op then 0≤z∧z<(i:Int) else z= -1):=NT
 replace NT:=Lib.hid NTu
 clear NTu
 have LC:=fun w=>level_is op NOK.1.1 w
 obtain ⟨O,hO⟩:∃ O,Hid (op=O):=⟨_,Lib.hid rfl⟩
 have IC:=fun w=>str_of (infix_is O (hO.out ▸ NOK.1.1) w)
 have WC:=fun w=>str_of (window_is O (hO.out ▸ NOK.1.1) w)
 have DC:=fun w=>digits_any (w:=w) k NOK.2.2.2.1
 have NC:=fun w=>rtext_any (w:=w) c s NOK.2.1
 have HOP:=Lib.hid (kidsN_op NT.out.1)
 clear NOK
 go_enter Tryz.func45,Tryz.ntmps45
 go_upto_region 2 with fail
 obtain ⟨W1,iN,hW,hX,N1,B1,LN,_,_⟩:=mkN w ⟨op,c,s,nm,k,x,y,z,p⟩
 rw [hW.out];try rw [hX.out]
 clear hW hX c0 c1 c2 c3 c4 c5 c6 c7 c8
 have n5:=N1.out.c5;have n6:=N1.out.c6;have n7:=N1.out.c7
 dsimp only at n5 n6 n7
 go_quiet (fail)
 rename Nat=>nq0
 obtain ⟨nq,rfl⟩:∃ n:Nat,n=nq0:=⟨_,rfl⟩
 have BQ:=drewN_below W1 nq
 obtain ⟨W0,hwq⟩:∃ V,Hid (W1.drewN nq=V):=⟨_,Lib.hid rfl⟩
 rw [hwq.out] at BQ⊢
 have N0:=hN N1 BQ
 have B0:=hB B1 BQ
 clear hwq BQ N1 B1 n5 n6 n7
 have CS:∀ {w'},Nine w' iN ⟨op,c,s,nm,k,x,y,z,p⟩→w'.cell? ⟨iN,0,none⟩=some (.int .u8 O)∧w'.cell? ⟨iN,1,none⟩=some (.int .i64 c)∧w'.cell? ⟨iN,2,none⟩=some (.int .i64 s)∧w'.cell? ⟨iN,3,none⟩=some (.string SN)∧w'.cell? ⟨iN,4,none⟩=some (.int .i64 k):=fun h=>⟨hO.out ▸ h.c0,h.c1,h.c2,hSN.out ▸ h.c3,h.c4⟩
 obtain ⟨-,n1,n2,n3,n4⟩:=CS N0.out
 have n0:=N0.out.c0
 dsimp only at n0
 have hG:(op=5∨op=6∨op=8∨op=9∨op=10∨op=11∨op=12∨op=13∨op=14∨op=15∨op=16∨op=17)∨(op=1)∨(op=2∨op=3)∨(op=4)∨(op=24)∨(op=7)∨(op=18)∨(op=19)∨(op=20∨op=21)∨(op=22)∨(op=23)∨(op=25)∨(op=26∨op=27∨op=28∨op=29∨op=30):=by have:=HOP.out;omega
 clear HOP hSN HNL hO
 rcases hG with hG | hG | hG | hG | hG | hG | hG | hG | hG | hG | hG | hG | hG
 ·rcases hG with rfl | rfl | rfl | rfl | rfl | rfl | rfl | rfl | rfl | rfl | rfl | rfl
  all_goals
   obtain ⟨a,rfl⟩:∃ a:Nat,x=(a:Int):=⟨x.toNat,by have:=NT.out.2.1.1;omega⟩
   have la:a<i:=by have:=NT.out.2.1.2;omega
   obtain ⟨Ma,hMa⟩:∃ M,Hid (3000*szAt t a=M):=⟨_,Lib.hid rfl⟩
   have BMa:Hid (Ma≤1000000):=Lib.hid (by rw [←hMa.out];exact SZB _ la)
   have Ta:=TXB a la;have Aa:=AXB a la
   simp only [hMa.out] at Ta Aa
   obtain ⟨b,rfl⟩:∃ a:Nat,y=(a:Int):=⟨y.toNat,by have:=NT.out.2.2.1.1;omega⟩
   have lb:b<i:=by have:=NT.out.2.2.1.2;omega
   obtain ⟨Mb,hMb⟩:∃ M,Hid (3000*szAt t b=M):=⟨_,Lib.hid rfl⟩
   have BMb:Hid (Mb≤1000000):=Lib.hid (by rw [←hMb.out];exact SZB _ lb)
   have Tb:=TXB b lb;have Ab:=AXB b lb
   simp only [hMb.out] at Tb Ab
   have HF:Hid (3000+Ma+Mb≤R):=Lib.hid (by have h:=HZ.out;rw [kidZ_nat t a] at h;rw [kidZ_nat t b] at h;have:=hR.out;have:=hMa.out;have:=hMb.out;omega)
   clear HZ hR SZB hMa hMb
   clear NT TXB AXB NC
   go_upto_region 37 with (go_at_call 94;(with_reducible refine (LC _).mono ?_);rintro e9 w9 ⟨⟨z9,rfl⟩,hq⟩;obtain rfl:=hq.symm;clear LC)
   by_cases h3:z9=3
   ·subst h3
    go_upto_region 38 with fail
    clear n0
    have mkS:∀ w',Below W0.heap.size W0 w'→(Below W0.heap.size W0 w'∧w'.cell? ⟨iN,0,none⟩=some (.int .u8 O)):=fun w' hb=>⟨hb,(CS (N0.out.below hb)).1⟩
    have HS0:=mkS _ ((Below.refl _ _).drew)
    go_region_held3 (fun w'=>Below W0.heap.size W0 w'∧w'.cell? ⟨iN,0,none⟩=some (.int .u8 O))
     (first | with_reducible exact HS0 | with_reducible assumption | (refine mkS _ ?_;(repeat (first | with_reducible exact And.left (by with_reducible assumption) | with_reducible exact Below.refl _ _ | refine Below.setCell ?_ (by first | omega | (simp only [World.size_alloc,hdrew];omega) | (simp<;>omega)) _ | refine Below.alloc ?_ (by first | omega | (simp only [World.size_alloc,hdrew];omega) | (simp<;>omega)) _ | refine Below.drew ?_))))
     (first | (go_at_call 91;(with_reducible refine (Aa _ _ (bt B0.out (And.left (by assumption)))).mono ?_);rintro e1 w1 ⟨S1,rfl,l1,q1⟩;have H1:=Lib.hid l1;have HS1:=mkS _ (bt (And.left (by assumption)) q1);clear l1 q1) | (go_at_call 95;(with_reducible refine (IC _).mono ?_);rintro e2 w2 ⟨S2,rfl,l2,q2⟩;have H2:=Lib.hid l2;have f20:¬9223372036854775807<S1.size+S2.size:=(by have:=HSN.out;have:=BMa.out;have:=BMb.out;have:=H1.out;omega);have HS2:=mkS _ (bt (And.left (by assumption)) q2);clear l2 q2) | (go_at_call 91;(with_reducible refine (Ab _ _ (bt B0.out (And.left (by assumption)))).mono ?_);rintro e3 w3 ⟨S3,rfl,l3,q3⟩;have H3:=Lib.hid l3;have f30:¬9223372036854775807<S1.size+S2.size+S3.size:=(by have:=HSN.out;have:=BMa.out;have:=BMb.out;have:=H1.out;have:=H2.out;omega);have HS3:=mkS _ (bt (And.left (by assumption)) q3);clear l3 q3))
    go_wp2_with fail
    go_ret
    refine ⟨_,rfl,?_,bt B0.out (And.left (by assumption))⟩
    try simp only [size_app,size_lit,List.size_toArray,List.length_cons,List.length_nil]
    have:=HF.out;have:=HSN.out;have:=H1.out;have:=H2.out;have:=H3.out;have:=BMa.out;have:=BMb.out;omega
   ·skip
    have h31:(z9==3)=false:=by simpa using h3
    have h32:decide (z9=3)=false:=decide_eq_false h3
    clear h3
    go_upto_region 39 with fail
    clear n0
    have mkS:∀ w',Below W0.heap.size W0 w'→(Below W0.heap.size W0 w'∧w'.cell? ⟨iN,0,none⟩=some (.int .u8 O)):=fun w' hb=>⟨hb,(CS (N0.out.below hb)).1⟩
    have HS0:=mkS _ ((Below.refl _ _).drew)
    go_region_held3 (fun w'=>Below W0.heap.size W0 w'∧w'.cell? ⟨iN,0,none⟩=some (.int .u8 O))
     (first | with_reducible exact HS0 | with_reducible assumption | (refine mkS _ ?_;(repeat (first | with_reducible exact And.left (by with_reducible assumption) | with_reducible exact Below.refl _ _ | refine Below.setCell ?_ (by first | omega | (simp only [World.size_alloc,hdrew];omega) | (simp<;>omega)) _ | refine Below.alloc ?_ (by first | omega | (simp only [World.size_alloc,hdrew];omega) | (simp<;>omega)) _ | refine Below.drew ?_))))
     (first | (go_at_call 91;(with_reducible refine (Aa _ _ (bt B0.out (And.left (by assumption)))).mono ?_);rintro e1 w1 ⟨S1,rfl,l1,q1⟩;have H1:=Lib.hid l1;have HS1:=mkS _ (bt (And.left (by assumption)) q1);clear l1 q1) | (go_at_call 95;(with_reducible refine (IC _).mono ?_);rintro e2 w2 ⟨S2,rfl,l2,q2⟩;have H2:=Lib.hid l2;have f20:¬9223372036854775807<S1.size+S2.size:=(by have:=HSN.out;have:=BMa.out;have:=BMb.out;have:=H1.out;omega);have HS2:=mkS _ (bt (And.left (by assumption)) q2);clear l2 q2) | (go_at_call 91;(with_reducible refine (Ab _ _ (bt B0.out (And.left (by assumption)))).mono ?_);rintro e3 w3 ⟨S3,rfl,l3,q3⟩;have H3:=Lib.hid l3;have f30:¬9223372036854775807<S1.size+S2.size+S3.size:=(by have:=HSN.out;have:=BMa.out;have:=BMb.out;have:=H1.out;have:=H2.out;omega);have HS3:=mkS _ (bt (And.left (by assumption)) q3);clear l3 q3))
    go_wp2_with fail
    go_ret
    refine ⟨_,rfl,?_,bt B0.out (And.left (by assumption))⟩
    try simp only [size_app,size_lit,List.size_toArray,List.length_cons,List.length_nil]
    have:=HF.out;have:=HSN.out;have:=H1.out;have:=H2.out;have:=H3.out;have:=BMa.out;have:=BMb.out;omega
 ·subst hG
  have HF:Hid (3000≤R):=Lib.hid (by have h:=HZ.out;have:=hR.out;omega)
  clear HZ hR SZB
  clear NT TXB AXB
  go_wp2_with (first | (go_at_call 90;(with_reducible refine (NC _).mono ?_);rintro e1 w1 ⟨S1,rfl,l1,q1⟩;have H1:=Lib.hid l1;have B1:=hB B0 q1;clear l1 q1))
  go_ret
  refine ⟨_,rfl,?_,B1.out⟩
  try simp only [size_app,size_lit,List.size_toArray,List.length_cons,List.length_nil]
  have:=HF.out;have:=HSN.out;have:=H1.out;omega
 ·rcases hG with rfl | rfl
  all_goals
   have HF:Hid (3000≤R):=Lib.hid (by have h:=HZ.out;have:=hR.out;omega)
   clear HZ hR SZB
   clear NT TXB AXB NC
   go_wp2_with fail
   go_ret
   refine ⟨_,rfl,?_,B0.out⟩
   try simp only [size_app,size_lit,List.size_toArray,List.length_cons,List.length_nil]
   have:=HF.out;have:=HSN.out;omega
 ·subst hG
  have HF:Hid (3000≤R):=Lib.hid (by have h:=HZ.out;have:=hR.out;omega)
  clear HZ hR SZB
  clear NT TXB AXB NC
  go_wp2_with fail
  go_ret
  refine ⟨_,rfl,?_,B0.out⟩
  try simp only [size_app,size_lit,List.size_toArray,List.length_cons,List.length_nil]
  have:=HF.out;have:=HSN.out;omega
 ·subst hG
  have HF:Hid (3000≤R):=Lib.hid (by have h:=HZ.out;have:=hR.out;omega)
  clear HZ hR SZB
  clear NT TXB AXB NC
  have f00:¬9223372036854775807<4+SN.size:=(by have:=HSN.out;omega);have f01:¬9223372036854775807<4+SN.size+1:=(by have:=HSN.out;omega)
  go_wp2_with fail
  go_ret
  refine ⟨_,rfl,?_,B0.out⟩
  try simp only [size_app,size_lit,List.size_toArray,List.length_cons,List.length_nil]
  have:=HF.out;have:=HSN.out;omega
 ·subst hG
  obtain ⟨a,rfl⟩:∃ a:Nat,x=(a:Int):=⟨x.toNat,by have:=NT.out.2.1.1;omega⟩
  have la:a<i:=by have:=NT.out.2.1.2;omega
  obtain ⟨Ma,hMa⟩:∃ M,Hid (3000*szAt t a=M):=⟨_,Lib.hid rfl⟩
  have BMa:Hid (Ma≤1000000):=Lib.hid (by rw [←hMa.out];exact SZB _ la)
  have Ta:=TXB a la;have Aa:=AXB a la
  simp only [hMa.out] at Ta Aa
  have HF:Hid (3000+Ma≤R):=Lib.hid (by have h:=HZ.out;rw [kidZ_nat t a] at h;have:=hR.out;have:=hMa.out;omega)
  clear HZ hR SZB hMa
  clear NT TXB AXB NC
  go_wp2_with (first | (go_at_call 91;(with_reducible refine (Aa _ _ B0.out).mono ?_);rintro e1 w1 ⟨S1,rfl,l1,q1⟩;have H1:=Lib.hid l1;have f10:¬9223372036854775807<4+S1.size:=(by have:=HSN.out;have:=BMa.out;omega);have B1:=hB B0 q1;clear l1 q1))
  go_ret
  refine ⟨_,rfl,?_,B1.out⟩
  try simp only [size_app,size_lit,List.size_toArray,List.length_cons,List.length_nil]
  have:=HF.out;have:=HSN.out;have:=H1.out;have:=BMa.out;omega
 ·subst hG
  obtain ⟨a,rfl⟩:∃ a:Nat,x=(a:Int):=⟨x.toNat,by have:=NT.out.2.1.1;omega⟩
  have la:a<i:=by have:=NT.out.2.1.2;omega
  obtain ⟨Ma,hMa⟩:∃ M,Hid (3000*szAt t a=M):=⟨_,Lib.hid rfl⟩
  have BMa:Hid (Ma≤1000000):=Lib.hid (by rw [←hMa.out];exact SZB _ la)
  have Ta:=TXB a la;have Aa:=AXB a la
  simp only [hMa.out] at Ta Aa
  have HF:Hid (3000+Ma≤R):=Lib.hid (by have h:=HZ.out;rw [kidZ_nat t a] at h;have:=hR.out;have:=hMa.out;omega)
  clear HZ hR SZB hMa
  clear NT TXB AXB NC
  go_wp2_with (first | (go_at_call 91;(with_reducible refine (Aa _ _ B0.out).mono ?_);rintro e1 w1 ⟨S1,rfl,l1,q1⟩;have H1:=Lib.hid l1;have f10:¬9223372036854775807<1+S1.size:=(by have:=HSN.out;have:=BMa.out;omega);have B1:=hB B0 q1;clear l1 q1))
  go_ret
  refine ⟨_,rfl,?_,B1.out⟩
  try simp only [size_app,size_lit,List.size_toArray,List.length_cons,List.length_nil]
  have:=HF.out;have:=HSN.out;have:=H1.out;have:=BMa.out;omega
 ·subst hG
  obtain ⟨a,rfl⟩:∃ a:Nat,x=(a:Int):=⟨x.toNat,by have:=NT.out.2.1.1;omega⟩
  have la:a<i:=by have:=NT.out.2.1.2;omega
  obtain ⟨Ma,hMa⟩:∃ M,Hid (3000*szAt t a=M):=⟨_,Lib.hid rfl⟩
  have BMa:Hid (Ma≤1000000):=Lib.hid (by rw [←hMa.out];exact SZB _ la)
  have Ta:=TXB a la;have Aa:=AXB a la
  simp only [hMa.out] at Ta Aa
  obtain ⟨b,rfl⟩:∃ a:Nat,y=(a:Int):=⟨y.toNat,by have:=NT.out.2.2.1.1;omega⟩
  have lb:b<i:=by have:=NT.out.2.2.1.2;omega
  obtain ⟨Mb,hMb⟩:∃ M,Hid (3000*szAt t b=M):=⟨_,Lib.hid rfl⟩
  have BMb:Hid (Mb≤1000000):=Lib.hid (by rw [←hMb.out];exact SZB _ lb)
  have Tb:=TXB b lb;have Ab:=AXB b lb
  simp only [hMb.out] at Tb Ab
  obtain ⟨d,rfl⟩:∃ a:Nat,z=(a:Int):=⟨z.toNat,by have:=NT.out.2.2.2.1;omega⟩
  have ld:d<i:=by have:=NT.out.2.2.2.2;omega
  obtain ⟨Md,hMd⟩:∃ M,Hid (3000*szAt t d=M):=⟨_,Lib.hid rfl⟩
  have BMd:Hid (Md≤1000000):=Lib.hid (by rw [←hMd.out];exact SZB _ ld)
  have Td:=TXB d ld;have Ad:=AXB d ld
  simp only [hMd.out] at Td Ad
  have HF:Hid (3000+Ma+Mb+Md≤R):=Lib.hid (by have h:=HZ.out;rw [kidZ_nat t a] at h;rw [kidZ_nat t b] at h;rw [kidZ_nat t d] at h;have:=hR.out;have:=hMa.out;have:=hMb.out;have:=hMd.out;omega)
  clear HZ hR SZB hMa hMb hMd
  clear NT TXB AXB NC
  go_wp2_with (first | (go_at_call 45;(with_reducible refine (Ta _ B0.out).mono ?_);rintro e1 w1 ⟨S1,rfl,l1,q1⟩;have H1:=Lib.hid l1;have f10:¬9223372036854775807<3+S1.size:=(by have:=HSN.out;have:=BMa.out;have:=BMb.out;have:=BMd.out;omega);have f11:¬9223372036854775807<3+S1.size+2:=(by have:=HSN.out;have:=BMa.out;have:=BMb.out;have:=BMd.out;omega);have B1:=hB B0 q1;clear l1 q1) | (go_at_call 45;(with_reducible refine (Tb _ B1.out).mono ?_);rintro e2 w2 ⟨S2,rfl,l2,q2⟩;have H2:=Lib.hid l2;have f20:¬9223372036854775807<3+S1.size+2+S2.size:=(by have:=HSN.out;have:=BMa.out;have:=BMb.out;have:=BMd.out;have:=H1.out;omega);have f21:¬9223372036854775807<3+S1.size+2+S2.size+2:=(by have:=HSN.out;have:=BMa.out;have:=BMb.out;have:=BMd.out;have:=H1.out;omega);have B2:=hB B1 q2;clear l2 q2) | (go_at_call 45;(with_reducible refine (Td _ B2.out).mono ?_);rintro e3 w3 ⟨S3,rfl,l3,q3⟩;have H3:=Lib.hid l3;have f30:¬9223372036854775807<3+S1.size+2+S2.size+2+S3.size:=(by have:=HSN.out;have:=BMa.out;have:=BMb.out;have:=BMd.out;have:=H1.out;have:=H2.out;omega);have f31:¬9223372036854775807<3+S1.size+2+S2.size+2+S3.size+1:=(by have:=HSN.out;have:=BMa.out;have:=BMb.out;have:=BMd.out;have:=H1.out;have:=H2.out;omega);have B3:=hB B2 q3;clear l3 q3))
  go_ret
  refine ⟨_,rfl,?_,B3.out⟩
  try simp only [size_app,size_lit,List.size_toArray,List.length_cons,List.length_nil]
  have:=HF.out;have:=HSN.out;have:=H1.out;have:=H2.out;have:=H3.out;have:=BMa.out;have:=BMb.out;have:=BMd.out;omega
 ·rcases hG with rfl | rfl
  all_goals
   obtain ⟨a,rfl⟩:∃ a:Nat,x=(a:Int):=⟨x.toNat,by have:=NT.out.2.1.1;omega⟩
   have la:a<i:=by have:=NT.out.2.1.2;omega
   obtain ⟨Ma,hMa⟩:∃ M,Hid (3000*szAt t a=M):=⟨_,Lib.hid rfl⟩
   have BMa:Hid (Ma≤1000000):=Lib.hid (by rw [←hMa.out];exact SZB _ la)
   have Ta:=TXB a la;have Aa:=AXB a la
   simp only [hMa.out] at Ta Aa
   obtain ⟨b,rfl⟩:∃ a:Nat,y=(a:Int):=⟨y.toNat,by have:=NT.out.2.2.1.1;omega⟩
   have lb:b<i:=by have:=NT.out.2.2.1.2;omega
   obtain ⟨Mb,hMb⟩:∃ M,Hid (3000*szAt t b=M):=⟨_,Lib.hid rfl⟩
   have BMb:Hid (Mb≤1000000):=Lib.hid (by rw [←hMb.out];exact SZB _ lb)
   have Tb:=TXB b lb;have Ab:=AXB b lb
   simp only [hMb.out] at Tb Ab
   have HF:Hid (3000+Ma+Mb≤R):=Lib.hid (by have h:=HZ.out;rw [kidZ_nat t a] at h;rw [kidZ_nat t b] at h;have:=hR.out;have:=hMa.out;have:=hMb.out;omega)
   clear HZ hR SZB hMa hMb
   clear NT TXB AXB NC
   go_wp2_with (first | (go_at_call 45;(with_reducible refine (Ta _ B0.out).mono ?_);rintro e1 w1 ⟨S1,rfl,l1,q1⟩;have H1:=Lib.hid l1;have f10:¬9223372036854775807<4+S1.size:=(by have:=HSN.out;have:=BMa.out;have:=BMb.out;omega);have f11:¬9223372036854775807<4+S1.size+2:=(by have:=HSN.out;have:=BMa.out;have:=BMb.out;omega);have B1:=hB B0 q1;clear l1 q1) | (go_at_call 45;(with_reducible refine (Tb _ B1.out).mono ?_);rintro e2 w2 ⟨S2,rfl,l2,q2⟩;have H2:=Lib.hid l2;have f20:¬9223372036854775807<4+S1.size+2+S2.size:=(by have:=HSN.out;have:=BMa.out;have:=BMb.out;have:=H1.out;omega);have f21:¬9223372036854775807<4+S1.size+2+S2.size+1:=(by have:=HSN.out;have:=BMa.out;have:=BMb.out;have:=H1.out;omega);have B2:=hB B1 q2;clear l2 q2))
   go_ret
   refine ⟨_,rfl,?_,B2.out⟩
   try simp only [size_app,size_lit,List.size_toArray,List.length_cons,List.length_nil]
   have:=HF.out;have:=HSN.out;have:=H1.out;have:=H2.out;have:=BMa.out;have:=BMb.out;omega
 ·subst hG
  obtain ⟨a,rfl⟩:∃ a:Nat,x=(a:Int):=⟨x.toNat,by have:=NT.out.2.1.1;omega⟩
  have la:a<i:=by have:=NT.out.2.1.2;omega
  obtain ⟨Ma,hMa⟩:∃ M,Hid (3000*szAt t a=M):=⟨_,Lib.hid rfl⟩
  have BMa:Hid (Ma≤1000000):=Lib.hid (by rw [←hMa.out];exact SZB _ la)
  have Ta:=TXB a la;have Aa:=AXB a la
  simp only [hMa.out] at Ta Aa
  have HF:Hid (3000+Ma≤R):=Lib.hid (by have h:=HZ.out;rw [kidZ_nat t a] at h;have:=hR.out;have:=hMa.out;omega)
  clear HZ hR SZB hMa
  clear NT TXB AXB NC
  go_wp2_with (first | (go_at_call 45;(with_reducible refine (Ta _ B0.out).mono ?_);rintro e1 w1 ⟨S1,rfl,l1,q1⟩;have H1:=Lib.hid l1;have f10:¬9223372036854775807<4+S1.size:=(by have:=HSN.out;have:=BMa.out;omega);have f11:¬9223372036854775807<4+S1.size+1:=(by have:=HSN.out;have:=BMa.out;omega);have B1:=hB B0 q1;clear l1 q1))
  go_ret
  refine ⟨_,rfl,?_,B1.out⟩
  try simp only [size_app,size_lit,List.size_toArray,List.length_cons,List.length_nil]
  have:=HF.out;have:=HSN.out;have:=H1.out;have:=BMa.out;omega
 ·subst hG
  obtain ⟨a,rfl⟩:∃ a:Nat,x=(a:Int):=⟨x.toNat,by have:=NT.out.2.1.1;omega⟩
  have la:a<i:=by have:=NT.out.2.1.2;omega
  obtain ⟨Ma,hMa⟩:∃ M,Hid (3000*szAt t a=M):=⟨_,Lib.hid rfl⟩
  have BMa:Hid (Ma≤1000000):=Lib.hid (by rw [←hMa.out];exact SZB _ la)
  have Ta:=TXB a la;have Aa:=AXB a la
  simp only [hMa.out] at Ta Aa
  have HF:Hid (3000+Ma≤R):=Lib.hid (by have h:=HZ.out;rw [kidZ_nat t a] at h;have:=hR.out;have:=hMa.out;omega)
  clear HZ hR SZB hMa
  clear NT TXB AXB NC
  go_upto_region 25 with fail
  clear n0
  have mkS:∀ w',Below W0.heap.size W0 w'→(Below W0.heap.size W0 w'∧w'.cell? ⟨iN,4,none⟩=some (.int .i64 k)):=fun w' hb=>⟨hb,(CS (N0.out.below hb)).2.2.2.2⟩
  have HS0:=mkS _ ((Below.refl _ _).drew)
  go_region_held3 (fun w'=>Below W0.heap.size W0 w'∧w'.cell? ⟨iN,4,none⟩=some (.int .i64 k))
   (first | with_reducible exact HS0 | with_reducible assumption | (refine mkS _ ?_;(repeat (first | with_reducible exact And.left (by with_reducible assumption) | with_reducible exact Below.refl _ _ | refine Below.setCell ?_ (by first | omega | (simp only [World.size_alloc,hdrew];omega) | (simp<;>omega)) _ | refine Below.alloc ?_ (by first | omega | (simp only [World.size_alloc,hdrew];omega) | (simp<;>omega)) _ | refine Below.drew ?_))))
   (first | (go_at_call 45;(with_reducible refine (Ta _ (bt B0.out (And.left (by assumption)))).mono ?_);rintro e1 w1 ⟨S1,rfl,l1,q1⟩;have H1:=Lib.hid l1;have f10:¬9223372036854775807<6+S1.size:=(by have:=HSN.out;have:=BMa.out;omega);have f11:¬9223372036854775807<6+S1.size+2:=(by have:=HSN.out;have:=BMa.out;omega);have HS1:=mkS _ (bt (And.left (by assumption)) q1);clear l1 q1) | (go_at_call 92;(with_reducible refine (DC _).mono ?_);rintro e2 w2 ⟨S2,rfl,l2,q2⟩;have H2:=Lib.hid l2;have f20:¬9223372036854775807<6+S1.size+2+S2.size:=(by have:=HSN.out;have:=BMa.out;have:=H1.out;omega);have f21:¬9223372036854775807<6+S1.size+2+S2.size+1:=(by have:=HSN.out;have:=BMa.out;have:=H1.out;omega);have HS2:=mkS _ (bt (And.left (by assumption)) q2);clear l2 q2))
  go_wp2_with fail
  go_ret
  refine ⟨_,rfl,?_,bt B0.out (And.left (by assumption))⟩
  try simp only [size_app,size_lit,List.size_toArray,List.length_cons,List.length_nil]
  have:=HF.out;have:=HSN.out;have:=H1.out;have:=H2.out;have:=BMa.out;omega
 ·subst hG
  obtain ⟨a,rfl⟩:∃ a:Nat,x=(a:Int):=⟨x.toNat,by have:=NT.out.2.1.1;omega⟩
  have la:a<i:=by have:=NT.out.2.1.2;omega
  obtain ⟨Ma,hMa⟩:∃ M,Hid (3000*szAt t a=M):=⟨_,Lib.hid rfl⟩
  have BMa:Hid (Ma≤1000000):=Lib.hid (by rw [←hMa.out];exact SZB _ la)
  have Ta:=TXB a la;have Aa:=AXB a la
  simp only [hMa.out] at Ta Aa
  have HF:Hid (3000+Ma≤R):=Lib.hid (by have h:=HZ.out;rw [kidZ_nat t a] at h;have:=hR.out;have:=hMa.out;omega)
  clear HZ hR SZB hMa
  clear NT TXB AXB NC
  have f00:¬9223372036854775807<7+SN.size:=(by have:=HSN.out;omega);have f01:¬9223372036854775807<7+SN.size+2:=(by have:=HSN.out;omega)
  go_upto_region 29 with fail
  clear n0
  have mkS:∀ w',Below W0.heap.size W0 w'→(Below W0.heap.size W0 w'∧w'.cell? ⟨iN,3,none⟩=some (.string SN)):=fun w' hb=>⟨hb,(CS (N0.out.below hb)).2.2.2.1⟩
  have HS0:=mkS _ ((Below.refl _ _).drew)
  go_region_held3 (fun w'=>Below W0.heap.size W0 w'∧w'.cell? ⟨iN,3,none⟩=some (.string SN))
   (first | with_reducible exact HS0 | with_reducible assumption | (refine mkS _ ?_;(repeat (first | with_reducible exact And.left (by with_reducible assumption) | with_reducible exact Below.refl _ _ | refine Below.setCell ?_ (by first | omega | (simp only [World.size_alloc,hdrew];omega) | (simp<;>omega)) _ | refine Below.alloc ?_ (by first | omega | (simp only [World.size_alloc,hdrew];omega) | (simp<;>omega)) _ | refine Below.drew ?_))))
   (first | (go_at_call 45;(with_reducible refine (Ta _ (bt B0.out (And.left (by assumption)))).mono ?_);rintro e1 w1 ⟨S1,rfl,l1,q1⟩;have H1:=Lib.hid l1;have f10:¬9223372036854775807<7+SN.size+2+S1.size:=(by have:=HSN.out;have:=BMa.out;omega);have f11:¬9223372036854775807<7+SN.size+2+S1.size+1:=(by have:=HSN.out;have:=BMa.out;omega);have HS1:=mkS _ (bt (And.left (by assumption)) q1);clear l1 q1))
  go_wp2_with fail
  go_ret
  refine ⟨_,rfl,?_,bt B0.out (And.left (by assumption))⟩
  try simp only [size_app,size_lit,List.size_toArray,List.length_cons,List.length_nil]
  have:=HF.out;have:=HSN.out;have:=H1.out;have:=BMa.out;omega
 ·rcases hG with rfl | rfl | rfl | rfl | rfl
  all_goals
   have HF:Hid (3000≤R):=Lib.hid (by have h:=HZ.out;have:=hR.out;omega)
   clear HZ hR SZB
   clear NT TXB AXB NC
   go_upto_region 35 with fail
   clear n0
   have mkS:∀ w',Below W0.heap.size W0 w'→(Below W0.heap.size W0 w'∧w'.cell? ⟨iN,0,none⟩=some (.int .u8 O)∧w'.cell? ⟨iN,3,none⟩=some (.string SN)∧w'.cell? ⟨iN,4,none⟩=some (.int .i64 k)):=fun w' hb=>⟨hb,(CS (N0.out.below hb)).1,(CS (N0.out.below hb)).2.2.2.1,(CS (N0.out.below hb)).2.2.2.2⟩
   have HS0:=mkS _ ((Below.refl _ _).drew)
   go_region_held3 (fun w'=>Below W0.heap.size W0 w'∧w'.cell? ⟨iN,0,none⟩=some (.int .u8 O)∧w'.cell? ⟨iN,3,none⟩=some (.string SN)∧w'.cell? ⟨iN,4,none⟩=some (.int .i64 k))
    (first | with_reducible exact HS0 | with_reducible assumption | (refine mkS _ ?_;(repeat (first | with_reducible exact And.left (by with_reducible assumption) | with_reducible exact Below.refl _ _ | refine Below.setCell ?_ (by first | omega | (simp only [World.size_alloc,hdrew];omega) | (simp<;>omega)) _ | refine Below.alloc ?_ (by first | omega | (simp only [World.size_alloc,hdrew];omega) | (simp<;>omega)) _ | refine Below.drew ?_))))
    (first | (go_at_call 93;(with_reducible refine (WC _).mono ?_);rintro e1 w1 ⟨S1,rfl,l1,q1⟩;have H1:=Lib.hid l1;have f10:¬9223372036854775807<S1.size+1:=(by have:=HSN.out;omega);have f11:¬9223372036854775807<S1.size+1+SN.size:=(by have:=HSN.out;omega);have f12:¬9223372036854775807<S1.size+1+SN.size+2:=(by have:=HSN.out;omega);have HS1:=mkS _ (bt (And.left (by assumption)) q1);clear l1 q1) | (go_at_call 92;(with_reducible refine (DC _).mono ?_);rintro e2 w2 ⟨S2,rfl,l2,q2⟩;have H2:=Lib.hid l2;have f20:¬9223372036854775807<S1.size+1+SN.size+2+S2.size:=(by have:=HSN.out;have:=H1.out;omega);have f21:¬9223372036854775807<S1.size+1+SN.size+2+S2.size+1:=(by have:=HSN.out;have:=H1.out;omega);have HS2:=mkS _ (bt (And.left (by assumption)) q2);clear l2 q2))
   go_wp2_with fail
   go_ret
   refine ⟨_,rfl,?_,bt B0.out (And.left (by assumption))⟩
   try simp only [size_app,size_lit,List.size_toArray,List.length_cons,List.length_nil]
   have:=HF.out;have:=HSN.out;have:=H1.out;have:=H2.out;omega
theorem ektext_is {t:List Nd} (hW:WholeT t) (hl:t.length≤300) (hno:∀ n ∈ t,n.ok) (hnm:∀ n ∈ t,n.n.length≤2000):∀ (K i:Nat),i<K→i<t.length→∀ (w:World) (vt:Value),ndE.Arg w vt t→Calls Tryz.prog 45 #[vt,.int .i64 (i:Int)] w (StrP (3000*szAt t i) w)
 | 0,i,h=>absurd h (by omega)
 | K+1,i,h=>fun hi w vt ht=>text_step hW hl hno hnm hi (fun j hj w vt h=>ektext_is hW hl hno hnm K j (by omega) (by omega) w vt h) ht
end Go.Proofs.YteagpbkbdlmdiaaGreat.Ek
