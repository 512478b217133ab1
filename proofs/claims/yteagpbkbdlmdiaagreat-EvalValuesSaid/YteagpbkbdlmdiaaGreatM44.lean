/-
  eval.node: ops of the map, walked; The document's eval: same, single, node, walked.
-/
import Derived.Test.YteagpbkbdlmdiaaGreatM43
import Derived.Test.YteagpbkbdlmdiaaGreatM30
/- eval.node: ops of the map, walked. -/
namespace Go.Proofs.YteagpbkbdlmdiaaGreat.Ev
open Go Go.ChangeMaps Go.RowKit Dt Tx Va
set_option linter.unusedSimpArgs false
set_option linter.unusedVariables false
attribute [local go_sem ↓] Go.wp_at_zero Go.wp_at_succ
set_option maxRecDepth 100000 in
set_option maxHeartbeats 10000000 in
theorem node_map {w:World} (op m:Int) (hm:(op,m) ∈ opsL) (c s k x y z p:Int) (nm:List UInt8) {v a b d:V} (g:Nat) (ha:V.fine a) (hb:V.fine b) (hk:K3 w g a b d):Calls Tryz.prog 24 #[an ⟨op,c,s,nm,k,x,y,z,p⟩,av v,.slice (some ⟨g,0,none⟩) 3 3] w (VP (nodeV ⟨op,c,s,nm,k,x,y,z,p⟩ v a b d) w):=by
 obtain ⟨res,hres⟩:∃ r,Hid (nodeV ⟨op,c,s,nm,k,x,y,z,p⟩ v a b d=r):=⟨_,Lib.hid rfl⟩
 rw [hres.out]
 have HMM:=Lib.hid hm
 simp only [opsL,List.mem_cons,Prod.mk.injEq,List.mem_nil_iff,or_false] at hm
 have hG:((op=10∨op=11∨op=12∨op=13)∧m=2)∨((op=14∨op=15∨op=16∨op=17)∧m=2)∨((op=20∨op=21)∧m=2)∨((op=18∨op=22)∧m=1)∨((op=23)∧m=1)∨((op=5)∧m=2)∨((op=6)∧m=2)∨((op=7)∧m=1)∨((op=8)∧m=2)∨((op=9)∧m=2)∨((op=19)∧m=3):=by rcases hm with ⟨rfl,rfl⟩ | ⟨rfl,rfl⟩ | ⟨rfl,rfl⟩ | ⟨rfl,rfl⟩ | ⟨rfl,rfl⟩ | ⟨rfl,rfl⟩ | ⟨rfl,rfl⟩ | ⟨rfl,rfl⟩ | ⟨rfl,rfl⟩ | ⟨rfl,rfl⟩ | ⟨rfl,rfl⟩ | ⟨rfl,rfl⟩ | ⟨rfl,rfl⟩ | ⟨rfl,rfl⟩ | ⟨rfl,rfl⟩ | ⟨rfl,rfl⟩ | ⟨rfl,rfl⟩ | ⟨rfl,rfl⟩ | ⟨rfl,rfl⟩<;>decide
 have hS:op ≠ 1∧op ≠ 2∧op ≠ 3∧op ≠ 4∧op ≠ 24∧op ≠ 25∧op ≠ 26∧op ≠ 27∧op ≠ 28∧op ≠ 29∧op ≠ 30:=by rcases hm with ⟨rfl,_⟩ | ⟨rfl,_⟩ | ⟨rfl,_⟩ | ⟨rfl,_⟩ | ⟨rfl,_⟩ | ⟨rfl,_⟩ | ⟨rfl,_⟩ | ⟨rfl,_⟩ | ⟨rfl,_⟩ | ⟨rfl,_⟩ | ⟨rfl,_⟩ | ⟨rfl,_⟩ | ⟨rfl,_⟩ | ⟨rfl,_⟩ | ⟨rfl,_⟩ | ⟨rfl,_⟩ | ⟨rfl,_⟩ | ⟨rfl,_⟩ | ⟨rfl,_⟩<;>decide
 clear hm
 replace hG:=Lib.hid hG
 have o1:decide (op=1)=false:=decide_eq_false (by omega)
 have u1:(op==1)=false:=by simp;omega
 have o2:decide (op=2)=false:=decide_eq_false (by omega)
 have u2:(op==2)=false:=by simp;omega
 have o3:decide (op=3)=false:=decide_eq_false (by omega)
 have u3:(op==3)=false:=by simp;omega
 have o4:decide (op=4)=false:=decide_eq_false (by omega)
 have u4:(op==4)=false:=by simp;omega
 have o24:decide (op=24)=false:=decide_eq_false (by omega)
 have u24:(op==24)=false:=by simp;omega
 have o25:decide (op=25)=false:=decide_eq_false (by omega)
 have u25:(op==25)=false:=by simp;omega
 have o26:decide (op=26)=false:=decide_eq_false (by omega)
 have u26:(op==26)=false:=by simp;omega
 have o27:decide (op=27)=false:=decide_eq_false (by omega)
 have u27:(op==27)=false:=by simp;omega
 have o28:decide (op=28)=false:=decide_eq_false (by omega)
 have u28:(op==28)=false:=by simp;omega
 have o29:decide (op=29)=false:=decide_eq_false (by omega)
 have u29:(op==29)=false:=by simp;omega
 have o30:decide (op=30)=false:=decide_eq_false (by omega)
 have u30:(op==30)=false:=by simp;omega
 clear hS
 try dsimp only [av,an,ao]
 go_enter Tryz.func24,Tryz.ntmps24
 go_upto_region 1 with fail
 obtain ⟨W0,iN,iU,iR,hW,hN,hU,hR,N0,U0,R0,B0,LN,LU,LR,LI,LS⟩:=mkNVZ w ⟨op,c,s,nm,k,x,y,z,p⟩ v
 rw [hW.out];try rw [hR.out];try rw [hU.out];try rw [hN.out]
 clear hW hN hU hR
 have Nc0:=N0.out.c0
 have K0:=Lib.hid (hk.below B0.out)
 clear hk
 have HA:=Lib.hid ha;have HB:=Lib.hid hb
 clear ha hb
 go_upto_region 22 with fail
 go_cut [7,8] (fun p7 ok8 wx=>∃ (i7:Nat) (f:Value),p7=.pointer (some ⟨i7,0,none⟩)∧ok8=.bool true∧DB wx i7 (.int .i64 m) f∧Good k op f wx∧Below W0.heap.size W0 wx)
 case first=>
  have mkS:∀ w',Below W0.heap.size W0 w'→(Below W0.heap.size W0 w'∧w'.cell? ⟨iN,0,none⟩=some (.int .u8 op)∧w'.cell? ⟨iN,4,none⟩=some (.int .i64 k)):=fun w' hb=>⟨hb,(N0.out.below hb).c0,(N0.out.below hb).c4⟩
  have HS0:=mkS _ ((Below.refl _ _).drew)
  go_region_held3 (fun w'=>Below W0.heap.size W0 w'∧w'.cell? ⟨iN,0,none⟩=some (.int .u8 op)∧w'.cell? ⟨iN,4,none⟩=some (.int .i64 k))
   (first | with_reducible exact HS0 | with_reducible assumption | (refine mkS _ ?_;(repeat (first | with_reducible exact And.left (by with_reducible assumption) | with_reducible exact Below.refl _ _ | refine Below.setCell ?_ (by first | omega | (simp only [World.size_alloc,hdrew];omega) | (simp<;>omega)) _ | refine Below.alloc ?_ (by first | omega | (simp only [World.size_alloc,hdrew];omega) | (simp<;>omega)) _ | refine Below.drew ?_))))
   (first | (go_at_call 35;(with_reducible refine (ops_is (w:=_) k).mono ?_);rintro e20 w20 ⟨bm,T,rfl,hM,hT,b20⟩;have HS20:=mkS _ (bt (And.left (by assumption)) b20);have T20:=Lib.hid (HS20.1);have zz20:=Below.size T20.out;obtain ⟨f,hg,hlk⟩:=look_op HMM.out hM hT;clear hM hT;have HG:=Lib.hid hg;obtain ⟨fF,fcs,rfl⟩:=Good.fn HMM.out hg;clear hg;have lk0:=hlk _ (Below.refl _ _);have lk1:=hlk _ (ba _ (.cells #[.int .i64 0,.nilFunc] 72));clear hlk;(try replace b20:=undrew b20);(first | (have QA:=DB.below (DB.new _ _ _) b20;(try simp only [World.size_alloc,hdrew] at QA);have QA:=Lib.hid QA;have qa0:=QA.out.c0;have qa1:=QA.out.c1;have qf0:=QA.out.f 0;have qf1:=QA.out.f 1;clear b20) | clear b20)))
  all_goals
   dsimp only [Exit.then]
   refine ‹∀ (a':Act) (w':World),Met _ a' w'→_› _ _ ?_
   go_meet
   case rel=>
    first
    | exact ⟨_,_,rfl,rfl,DB.new _ _ _,Good.kb HMM.out HG.out (Kb.of_below (ba _ _)),by (repeat (first | with_reducible exact And.left (by with_reducible assumption) | with_reducible exact Below.refl _ _ | refine Below.setCell ?_ (by first | omega | (simp only [World.size_alloc,hdrew];omega) | (simp<;>omega)) _ | refine Below.alloc ?_ (by first | omega | (simp only [World.size_alloc,hdrew];omega) | (simp<;>omega)) _ | refine Below.drew ?_))⟩
    | exact ⟨_,_,rfl,rfl,DB.set QA.out _ _,Good.kb HMM.out HG.out (Kb.set QA.out _ _),by (repeat (first | with_reducible exact And.left (by with_reducible assumption) | with_reducible exact Below.refl _ _ | refine Below.setCell ?_ (by first | omega | (simp only [World.size_alloc,hdrew];omega) | (simp<;>omega)) _ | refine Below.alloc ?_ (by first | omega | (simp only [World.size_alloc,hdrew];omega) | (simp<;>omega)) _ | refine Below.drew ?_))⟩
 case rest=>
  obtain ⟨i7,f,rfl,rfl,hdb,hg,hbw⟩:=hcut
  clear Nc0
  have hG:=hG.out
  rcases hG with ⟨hop,rfl⟩ | ⟨hop,rfl⟩ | ⟨hop,rfl⟩ | ⟨hop,rfl⟩ | ⟨rfl,rfl⟩ | ⟨rfl,rfl⟩ | ⟨rfl,rfl⟩ | ⟨rfl,rfl⟩ | ⟨rfl,rfl⟩ | ⟨rfl,rfl⟩ | ⟨rfl,rfl⟩
  ·rcases hop with rfl | rfl | rfl | rfl
   all_goals
    obtain rfl:=hres.out
    obtain ⟨bf,rfl,hf⟩:=hg
    dsimp only [fn0,fn1] at hdb
    have D1:=Lib.hid hdb;have B1:=hB B0 hbw;have R1:=hF R0 hbw;have K1:=Lib.hid (K0.out.below hbw)
    have F1:=Lib.hid hf
    clear hres hdb hbw hf
    go_upto_region 25 with fail
    have Dd:=Lib.hid (D1.out.below (drb wc))
    have Kd:=K1.out.below (drb wc)
    have HNE:Hid (¬i7=iR):=Lib.hid (D1.out.ne R1.out)
    first | have CT:=do_10 HA.out HB.out Kd (Bx.below F1.out (drb wc)) | have CT:=do_11 HA.out HB.out Kd (Bx.below F1.out (drb wc)) | have CT:=do_12 HA.out HB.out Kd (Bx.below F1.out (drb wc)) | have CT:=do_13 HA.out HB.out Kd (Bx.below F1.out (drb wc))
    clear Kd
    have mkS:∀ {w'},DB w' i7 (.int .i64 2) (Value.func (.func 115) #[] #[.pointer (some ⟨bf,0,none⟩)])→(w'.cell? ⟨i7,0,none⟩=some (.int .i64 2)∧w'.cell? ⟨i7,1,none⟩=some (Value.func (.func 115) #[] #[.pointer (some ⟨bf,0,none⟩)])):=fun h=>⟨h.c0,h.c1⟩
    have HS0:=mkS Dd.out
    go_region_held3 (fun w'=>w'.cell? ⟨i7,0,none⟩=some (.int .i64 2)∧w'.cell? ⟨i7,1,none⟩=some (Value.func (.func 115) #[] #[.pointer (some ⟨bf,0,none⟩)]))
     (first | with_reducible exact HS0 | with_reducible assumption | with_reducible exact HS8 _ _ _ _)
     (first | (go_at_call 115;(with_reducible refine CT.mono ?_);rintro e8 w8 ⟨rfl,q8⟩;have D8:=Lib.hid (Dd.out.below q8);have B8:=Lib.hid (bt (B1.out.drew) q8);have R8:=hF R1 (bt (drb wc) q8);have HS7:=mkS D8.out;have HS8:=fun x0 x1 x2 x3=>mkS (D8.out.other4 HNE.out x0 x1 x2 x3);clear mkS;obtain ⟨Rc0,Rc1,Rc2,Rc3,Rf0,Rf1,Rf2,Rf3⟩:=R8.out.cf;clear q8 CT))
    go_wp2_with fail
    exact ret4 6 rfl R8 B8 LR rfl rfl rfl
  ·rcases hop with rfl | rfl | rfl | rfl
   all_goals
    obtain rfl:=hres.out
    obtain ⟨bf,rfl,hf⟩:=hg
    dsimp only [fn0,fn1] at hdb
    have D1:=Lib.hid hdb;have B1:=hB B0 hbw;have R1:=hF R0 hbw;have K1:=Lib.hid (K0.out.below hbw)
    have F1:=Lib.hid hf
    clear hres hdb hbw hf
    go_upto_region 25 with fail
    have Dd:=Lib.hid (D1.out.below (drb wc))
    have Kd:=K1.out.below (drb wc)
    have HNE:Hid (¬i7=iR):=Lib.hid (D1.out.ne R1.out)
    first | have CT:=do_14 HA.out HB.out Kd (Bx.below F1.out (drb wc)) | have CT:=do_15 HA.out HB.out Kd (Bx.below F1.out (drb wc)) | have CT:=do_16 HA.out HB.out Kd (Bx.below F1.out (drb wc)) | have CT:=do_17 HA.out HB.out Kd (Bx.below F1.out (drb wc))
    clear Kd
    have mkS:∀ {w'},DB w' i7 (.int .i64 2) (Value.func (.func 119) #[] #[.pointer (some ⟨bf,0,none⟩)])→(w'.cell? ⟨i7,0,none⟩=some (.int .i64 2)∧w'.cell? ⟨i7,1,none⟩=some (Value.func (.func 119) #[] #[.pointer (some ⟨bf,0,none⟩)])):=fun h=>⟨h.c0,h.c1⟩
    have HS0:=mkS Dd.out
    go_region_held3 (fun w'=>w'.cell? ⟨i7,0,none⟩=some (.int .i64 2)∧w'.cell? ⟨i7,1,none⟩=some (Value.func (.func 119) #[] #[.pointer (some ⟨bf,0,none⟩)]))
     (first | with_reducible exact HS0 | with_reducible assumption | with_reducible exact HS8 _ _ _ _)
     (first | (go_at_call 119;(with_reducible refine CT.mono ?_);rintro e8 w8 ⟨rfl,q8⟩;have D8:=Lib.hid (Dd.out.below q8);have B8:=Lib.hid (bt (B1.out.drew) q8);have R8:=hF R1 (bt (drb wc) q8);have HS7:=mkS D8.out;have HS8:=fun x0 x1 x2 x3=>mkS (D8.out.other4 HNE.out x0 x1 x2 x3);clear mkS;obtain ⟨Rc0,Rc1,Rc2,Rc3,Rf0,Rf1,Rf2,Rf3⟩:=R8.out.cf;clear q8 CT))
    go_wp2_with fail
    exact ret4 6 rfl R8 B8 LR rfl rfl rfl
  ·rcases hop with rfl | rfl
   all_goals
    obtain rfl:=hres.out
    obtain ⟨bf,bc,rfl,hf,hc⟩:=hg
    dsimp only [fn0,fn1] at hdb
    have D1:=Lib.hid hdb;have B1:=hB B0 hbw;have R1:=hF R0 hbw;have K1:=Lib.hid (K0.out.below hbw)
    have F1:=Lib.hid hf;have C1:=Lib.hid hc
    clear hres hdb hbw hf hc
    go_upto_region 25 with fail
    have Dd:=Lib.hid (D1.out.below (drb wc))
    have Kd:=K1.out.below (drb wc)
    have HNE:Hid (¬i7=iR):=Lib.hid (D1.out.ne R1.out)
    first | have CT:=do_20 HA.out HB.out Kd (Bx.below F1.out (drb wc)) (Bx.below C1.out (drb wc)) | have CT:=do_21 HA.out HB.out Kd (Bx.below F1.out (drb wc)) (Bx.below C1.out (drb wc))
    clear Kd
    have mkS:∀ {w'},DB w' i7 (.int .i64 2) (Value.func (.func 119) #[] #[.pointer (some ⟨bf,0,none⟩)])→(w'.cell? ⟨i7,0,none⟩=some (.int .i64 2)∧w'.cell? ⟨i7,1,none⟩=some (Value.func (.func 119) #[] #[.pointer (some ⟨bf,0,none⟩)])):=fun h=>⟨h.c0,h.c1⟩
    have HS0:=mkS Dd.out
    go_region_held3 (fun w'=>w'.cell? ⟨i7,0,none⟩=some (.int .i64 2)∧w'.cell? ⟨i7,1,none⟩=some (Value.func (.func 119) #[] #[.pointer (some ⟨bf,0,none⟩)]))
     (first | with_reducible exact HS0 | with_reducible assumption | with_reducible exact HS8 _ _ _ _)
     (first | (go_at_call 119;(with_reducible refine CT.mono ?_);rintro e8 w8 ⟨rfl,q8⟩;have D8:=Lib.hid (Dd.out.below q8);have B8:=Lib.hid (bt (B1.out.drew) q8);have R8:=hF R1 (bt (drb wc) q8);have HS7:=mkS D8.out;have HS8:=fun x0 x1 x2 x3=>mkS (D8.out.other4 HNE.out x0 x1 x2 x3);clear mkS;obtain ⟨Rc0,Rc1,Rc2,Rc3,Rf0,Rf1,Rf2,Rf3⟩:=R8.out.cf;clear q8 CT))
    go_wp2_with fail
    exact ret4 6 rfl R8 B8 LR rfl rfl rfl
  ·rcases hop with rfl | rfl
   all_goals
    obtain rfl:=hres.out
    obtain ⟨bf,bc,rfl,hf,hc⟩:=hg
    dsimp only [fn0,fn1] at hdb
    have D1:=Lib.hid hdb;have B1:=hB B0 hbw;have R1:=hF R0 hbw;have K1:=Lib.hid (K0.out.below hbw)
    have F1:=Lib.hid hf;have C1:=Lib.hid hc
    clear hres hdb hbw hf hc
    go_upto_region 25 with fail
    have Dd:=Lib.hid (D1.out.below (drb wc))
    have Kd:=K1.out.below (drb wc)
    have HNE:Hid (¬i7=iR):=Lib.hid (D1.out.ne R1.out)
    first | have CT:=do_18 (k:=k) HA.out Kd (Bx.below F1.out (drb wc)) (Bx.below C1.out (drb wc)) | have CT:=do_22 (k:=k) HA.out Kd (Bx.below F1.out (drb wc)) (Bx.below C1.out (drb wc))
    clear Kd
    have mkS:∀ {w'},DB w' i7 (.int .i64 1) (Value.func (.func 119) #[] #[.pointer (some ⟨bf,0,none⟩)])→(w'.cell? ⟨i7,0,none⟩=some (.int .i64 1)∧w'.cell? ⟨i7,1,none⟩=some (Value.func (.func 119) #[] #[.pointer (some ⟨bf,0,none⟩)])):=fun h=>⟨h.c0,h.c1⟩
    have HS0:=mkS Dd.out
    go_region_held3 (fun w'=>w'.cell? ⟨i7,0,none⟩=some (.int .i64 1)∧w'.cell? ⟨i7,1,none⟩=some (Value.func (.func 119) #[] #[.pointer (some ⟨bf,0,none⟩)]))
     (first | with_reducible exact HS0 | with_reducible assumption | with_reducible exact HS8 _ _ _ _)
     (first | (go_at_call 119;(with_reducible refine CT.mono ?_);rintro e8 w8 ⟨rfl,q8⟩;have D8:=Lib.hid (Dd.out.below q8);have B8:=Lib.hid (bt (B1.out.drew) q8);have R8:=hF R1 (bt (drb wc) q8);have HS7:=mkS D8.out;have HS8:=fun x0 x1 x2 x3=>mkS (D8.out.other4 HNE.out x0 x1 x2 x3);clear mkS;obtain ⟨Rc0,Rc1,Rc2,Rc3,Rf0,Rf1,Rf2,Rf3⟩:=R8.out.cf;clear q8 CT))
    go_wp2_with fail
    exact ret4 6 rfl R8 B8 LR rfl rfl rfl
  ·skip
   obtain rfl:=hres.out
   obtain ⟨bf,bc,bk,rfl,hf,hc,hq⟩:=hg
   dsimp only [fn0,fn1] at hdb
   have D1:=Lib.hid hdb;have B1:=hB B0 hbw;have R1:=hF R0 hbw;have K1:=Lib.hid (K0.out.below hbw)
   have F1:=Lib.hid hf;have C1:=Lib.hid hc;have Q1:=Lib.hid hq
   clear hres hdb hbw hf hc hq
   go_upto_region 25 with fail
   have Dd:=Lib.hid (D1.out.below (drb wc))
   have Kd:=K1.out.below (drb wc)
   have HNE:Hid (¬i7=iR):=Lib.hid (D1.out.ne R1.out)
   have CT:=do_23 HA.out Kd (Bx.below F1.out (drb wc)) (Bx.below C1.out (drb wc)) (Bx.below Q1.out (drb wc))
   clear Kd
   have mkS:∀ {w'},DB w' i7 (.int .i64 1) (Value.func (.func 119) #[] #[.pointer (some ⟨bf,0,none⟩)])→(w'.cell? ⟨i7,0,none⟩=some (.int .i64 1)∧w'.cell? ⟨i7,1,none⟩=some (Value.func (.func 119) #[] #[.pointer (some ⟨bf,0,none⟩)])):=fun h=>⟨h.c0,h.c1⟩
   have HS0:=mkS Dd.out
   go_region_held3 (fun w'=>w'.cell? ⟨i7,0,none⟩=some (.int .i64 1)∧w'.cell? ⟨i7,1,none⟩=some (Value.func (.func 119) #[] #[.pointer (some ⟨bf,0,none⟩)]))
    (first | with_reducible exact HS0 | with_reducible assumption | with_reducible exact HS8 _ _ _ _)
    (first | (go_at_call 119;(with_reducible refine CT.mono ?_);rintro e8 w8 ⟨rfl,q8⟩;have D8:=Lib.hid (Dd.out.below q8);have B8:=Lib.hid (bt (B1.out.drew) q8);have R8:=hF R1 (bt (drb wc) q8);have HS7:=mkS D8.out;have HS8:=fun x0 x1 x2 x3=>mkS (D8.out.other4 HNE.out x0 x1 x2 x3);clear mkS;obtain ⟨Rc0,Rc1,Rc2,Rc3,Rf0,Rf1,Rf2,Rf3⟩:=R8.out.cf;clear q8 CT))
   go_wp2_with fail
   exact ret4 6 rfl R8 B8 LR rfl rfl rfl
  ·skip
   obtain rfl:=hres.out
   obtain rfl:=hg
   dsimp only [fn0,fn1] at hdb
   have D1:=Lib.hid hdb;have B1:=hB B0 hbw;have R1:=hF R0 hbw;have K1:=Lib.hid (K0.out.below hbw)
   clear hres hdb hbw
   go_upto_region 25 with fail
   have Dd:=Lib.hid (D1.out.below (drb wc))
   have Kd:=K1.out.below (drb wc)
   have HNE:Hid (¬i7=iR):=Lib.hid (D1.out.ne R1.out)
   have CT:=or0 g a b d Kd
   clear Kd
   have mkS:∀ {w'},DB w' i7 (.int .i64 2) (Value.func (.func 54) #[] #[])→(w'.cell? ⟨i7,0,none⟩=some (.int .i64 2)∧w'.cell? ⟨i7,1,none⟩=some (Value.func (.func 54) #[] #[])):=fun h=>⟨h.c0,h.c1⟩
   have HS0:=mkS Dd.out
   go_region_held3 (fun w'=>w'.cell? ⟨i7,0,none⟩=some (.int .i64 2)∧w'.cell? ⟨i7,1,none⟩=some (Value.func (.func 54) #[] #[]))
    (first | with_reducible exact HS0 | with_reducible assumption | with_reducible exact HS8 _ _ _ _)
    (first | (go_at_call 54;(with_reducible refine CT.mono ?_);rintro e8 w8 ⟨rfl,q8⟩;have D8:=Lib.hid (Dd.out.below q8);have B8:=Lib.hid (bt (B1.out.drew) q8);have R8:=hF R1 (bt (drb wc) q8);have HS7:=mkS D8.out;have HS8:=fun x0 x1 x2 x3=>mkS (D8.out.other4 HNE.out x0 x1 x2 x3);clear mkS;obtain ⟨Rc0,Rc1,Rc2,Rc3,Rf0,Rf1,Rf2,Rf3⟩:=R8.out.cf;clear q8 CT))
   go_wp2_with fail
   exact ret4 6 rfl R8 B8 LR rfl rfl rfl
  ·skip
   obtain rfl:=hres.out
   obtain rfl:=hg
   dsimp only [fn0,fn1] at hdb
   have D1:=Lib.hid hdb;have B1:=hB B0 hbw;have R1:=hF R0 hbw;have K1:=Lib.hid (K0.out.below hbw)
   clear hres hdb hbw
   go_upto_region 25 with fail
   have Dd:=Lib.hid (D1.out.below (drb wc))
   have Kd:=K1.out.below (drb wc)
   have HNE:Hid (¬i7=iR):=Lib.hid (D1.out.ne R1.out)
   have CT:=and0 g a b d Kd
   clear Kd
   have mkS:∀ {w'},DB w' i7 (.int .i64 2) (Value.func (.func 58) #[] #[])→(w'.cell? ⟨i7,0,none⟩=some (.int .i64 2)∧w'.cell? ⟨i7,1,none⟩=some (Value.func (.func 58) #[] #[])):=fun h=>⟨h.c0,h.c1⟩
   have HS0:=mkS Dd.out
   go_region_held3 (fun w'=>w'.cell? ⟨i7,0,none⟩=some (.int .i64 2)∧w'.cell? ⟨i7,1,none⟩=some (Value.func (.func 58) #[] #[]))
    (first | with_reducible exact HS0 | with_reducible assumption | with_reducible exact HS8 _ _ _ _)
    (first | (go_at_call 58;(with_reducible refine CT.mono ?_);rintro e8 w8 ⟨rfl,q8⟩;have D8:=Lib.hid (Dd.out.below q8);have B8:=Lib.hid (bt (B1.out.drew) q8);have R8:=hF R1 (bt (drb wc) q8);have HS7:=mkS D8.out;have HS8:=fun x0 x1 x2 x3=>mkS (D8.out.other4 HNE.out x0 x1 x2 x3);clear mkS;obtain ⟨Rc0,Rc1,Rc2,Rc3,Rf0,Rf1,Rf2,Rf3⟩:=R8.out.cf;clear q8 CT))
   go_wp2_with fail
   exact ret4 6 rfl R8 B8 LR rfl rfl rfl
  ·skip
   obtain rfl:=hres.out
   obtain rfl:=hg
   dsimp only [fn0,fn1] at hdb
   have D1:=Lib.hid hdb;have B1:=hB B0 hbw;have R1:=hF R0 hbw;have K1:=Lib.hid (K0.out.below hbw)
   clear hres hdb hbw
   go_upto_region 25 with fail
   have Dd:=Lib.hid (D1.out.below (drb wc))
   have Kd:=K1.out.below (drb wc)
   have HNE:Hid (¬i7=iR):=Lib.hid (D1.out.ne R1.out)
   have CT:=not0 g a b d Kd
   clear Kd
   have mkS:∀ {w'},DB w' i7 (.int .i64 1) (Value.func (.func 60) #[] #[])→(w'.cell? ⟨i7,0,none⟩=some (.int .i64 1)∧w'.cell? ⟨i7,1,none⟩=some (Value.func (.func 60) #[] #[])):=fun h=>⟨h.c0,h.c1⟩
   have HS0:=mkS Dd.out
   go_region_held3 (fun w'=>w'.cell? ⟨i7,0,none⟩=some (.int .i64 1)∧w'.cell? ⟨i7,1,none⟩=some (Value.func (.func 60) #[] #[]))
    (first | with_reducible exact HS0 | with_reducible assumption | with_reducible exact HS8 _ _ _ _)
    (first | (go_at_call 60;(with_reducible refine CT.mono ?_);rintro e8 w8 ⟨rfl,q8⟩;have D8:=Lib.hid (Dd.out.below q8);have B8:=Lib.hid (bt (B1.out.drew) q8);have R8:=hF R1 (bt (drb wc) q8);have HS7:=mkS D8.out;have HS8:=fun x0 x1 x2 x3=>mkS (D8.out.other4 HNE.out x0 x1 x2 x3);clear mkS;obtain ⟨Rc0,Rc1,Rc2,Rc3,Rf0,Rf1,Rf2,Rf3⟩:=R8.out.cf;clear q8 CT))
   go_wp2_with fail
   exact ret4 6 rfl R8 B8 LR rfl rfl rfl
  ·skip
   obtain rfl:=hres.out
   obtain rfl:=hg
   dsimp only [fn0,fn1] at hdb
   have D1:=Lib.hid hdb;have B1:=hB B0 hbw;have R1:=hF R0 hbw;have K1:=Lib.hid (K0.out.below hbw)
   clear hres hdb hbw
   go_upto_region 25 with fail
   have Dd:=Lib.hid (D1.out.below (drb wc))
   have Kd:=K1.out.below (drb wc)
   have HNE:Hid (¬i7=iR):=Lib.hid (D1.out.ne R1.out)
   have CT:=eq8 g a b d HA.out HB.out Kd
   clear Kd
   have mkS:∀ {w'},DB w' i7 (.int .i64 2) (Value.func (.func 62) #[] #[])→(w'.cell? ⟨i7,0,none⟩=some (.int .i64 2)∧w'.cell? ⟨i7,1,none⟩=some (Value.func (.func 62) #[] #[])):=fun h=>⟨h.c0,h.c1⟩
   have HS0:=mkS Dd.out
   go_region_held3 (fun w'=>w'.cell? ⟨i7,0,none⟩=some (.int .i64 2)∧w'.cell? ⟨i7,1,none⟩=some (Value.func (.func 62) #[] #[]))
    (first | with_reducible exact HS0 | with_reducible assumption | with_reducible exact HS8 _ _ _ _)
    (first | (go_at_call 62;(with_reducible refine CT.mono ?_);rintro e8 w8 ⟨rfl,q8⟩;have D8:=Lib.hid (Dd.out.below q8);have B8:=Lib.hid (bt (B1.out.drew) q8);have R8:=hF R1 (bt (drb wc) q8);have HS7:=mkS D8.out;have HS8:=fun x0 x1 x2 x3=>mkS (D8.out.other4 HNE.out x0 x1 x2 x3);clear mkS;obtain ⟨Rc0,Rc1,Rc2,Rc3,Rf0,Rf1,Rf2,Rf3⟩:=R8.out.cf;clear q8 CT))
   go_wp2_with fail
   exact ret4 6 rfl R8 B8 LR rfl rfl rfl
  ·skip
   obtain rfl:=hres.out
   obtain rfl:=hg
   dsimp only [fn0,fn1] at hdb
   have D1:=Lib.hid hdb;have B1:=hB B0 hbw;have R1:=hF R0 hbw;have K1:=Lib.hid (K0.out.below hbw)
   clear hres hdb hbw
   go_upto_region 25 with fail
   have Dd:=Lib.hid (D1.out.below (drb wc))
   have Kd:=K1.out.below (drb wc)
   have HNE:Hid (¬i7=iR):=Lib.hid (D1.out.ne R1.out)
   have CT:=eq9 g a b d HA.out HB.out Kd
   clear Kd
   have mkS:∀ {w'},DB w' i7 (.int .i64 2) (Value.func (.func 64) #[] #[])→(w'.cell? ⟨i7,0,none⟩=some (.int .i64 2)∧w'.cell? ⟨i7,1,none⟩=some (Value.func (.func 64) #[] #[])):=fun h=>⟨h.c0,h.c1⟩
   have HS0:=mkS Dd.out
   go_region_held3 (fun w'=>w'.cell? ⟨i7,0,none⟩=some (.int .i64 2)∧w'.cell? ⟨i7,1,none⟩=some (Value.func (.func 64) #[] #[]))
    (first | with_reducible exact HS0 | with_reducible assumption | with_reducible exact HS8 _ _ _ _)
    (first | (go_at_call 64;(with_reducible refine CT.mono ?_);rintro e8 w8 ⟨rfl,q8⟩;have D8:=Lib.hid (Dd.out.below q8);have B8:=Lib.hid (bt (B1.out.drew) q8);have R8:=hF R1 (bt (drb wc) q8);have HS7:=mkS D8.out;have HS8:=fun x0 x1 x2 x3=>mkS (D8.out.other4 HNE.out x0 x1 x2 x3);clear mkS;obtain ⟨Rc0,Rc1,Rc2,Rc3,Rf0,Rf1,Rf2,Rf3⟩:=R8.out.cf;clear q8 CT))
   go_wp2_with fail
   exact ret4 6 rfl R8 B8 LR rfl rfl rfl
  ·skip
   obtain rfl:=hres.out
   obtain rfl:=hg
   dsimp only [fn0,fn1] at hdb
   have D1:=Lib.hid hdb;have B1:=hB B0 hbw;have R1:=hF R0 hbw;have K1:=Lib.hid (K0.out.below hbw)
   clear hres hdb hbw
   go_upto_region 25 with fail
   have Dd:=Lib.hid (D1.out.below (drb wc))
   have Kd:=K1.out.below (drb wc)
   have HNE:Hid (¬i7=iR):=Lib.hid (D1.out.ne R1.out)
   have CT:=if0 g a b d Kd
   clear Kd
   have mkS:∀ {w'},DB w' i7 (.int .i64 3) (Value.func (.func 81) #[] #[])→(w'.cell? ⟨i7,0,none⟩=some (.int .i64 3)∧w'.cell? ⟨i7,1,none⟩=some (Value.func (.func 81) #[] #[])):=fun h=>⟨h.c0,h.c1⟩
   have HS0:=mkS Dd.out
   go_region_held3 (fun w'=>w'.cell? ⟨i7,0,none⟩=some (.int .i64 3)∧w'.cell? ⟨i7,1,none⟩=some (Value.func (.func 81) #[] #[]))
    (first | with_reducible exact HS0 | with_reducible assumption | with_reducible exact HS8 _ _ _ _)
    (first | (go_at_call 81;(with_reducible refine CT.mono ?_);rintro e8 w8 ⟨rfl,q8⟩;have D8:=Lib.hid (Dd.out.below q8);have B8:=Lib.hid (bt (B1.out.drew) q8);have R8:=hF R1 (bt (drb wc) q8);have HS7:=mkS D8.out;have HS8:=fun x0 x1 x2 x3=>mkS (D8.out.other4 HNE.out x0 x1 x2 x3);clear mkS;obtain ⟨Rc0,Rc1,Rc2,Rc3,Rf0,Rf1,Rf2,Rf3⟩:=R8.out.cf;clear q8 CT))
   go_wp2_with fail
   exact ret4 6 rfl R8 B8 LR rfl rfl rfl
end Go.Proofs.YteagpbkbdlmdiaaGreat.Ev
/- The document's eval: same, single, node, walked. -/
namespace Go.Proofs.YteagpbkbdlmdiaaGreat.Ev
set_option maxRecDepth 100000
open Go Go.RowKit Dt Tx Va
set_option linter.unusedSimpArgs false
set_option linter.unusedVariables false
attribute [local go_sem ↓] Go.wp_at_zero Go.wp_at_succ
set_option maxHeartbeats 2000000 in
theorem rsame_vp {w:World} (op:Int) (hop:op=8∨op=9) {a b:V} (ha:V.fine a) (hb:V.fine b):Calls Tryz.prog 41 #[.int .u8 op,av a,av b] w (VP (sameV op a b) w):=by
 have EA:(a.k=0∨a.k=4)→sameV op a b=wrongV a:=fun p=>by unfold sameV;rw [if_pos p]
 have EB:¬(a.k=0∨a.k=4)→(b.k=0∨b.k=4)→sameV op a b=wrongV b:=fun p q=>by unfold sameV;rw [if_neg p,if_pos q]
 have E0:¬(a.k=0∨a.k=4)→¬(b.k=0∨b.k=4)→sameV op a b=if decide (a.k=1) ≠ decide (b.k=1) then badE 13 else truthV ((if a.k=1 then decide (cmpZ (unV a) (unV b)=0) else decide (a.k=b.k))==decide (op=8)):=fun p q=>by unfold sameV;rw [if_neg p,if_neg q]
 obtain ⟨o,ho⟩:∃ o:Bool,Hid (decide (op=8)=o):=⟨_,Lib.hid rfl⟩
 rw [ho.out] at E0
 replace EA:=Lib.hid EA
 replace EB:=Lib.hid EB
 replace E0:=Lib.hid E0
 replace ha:=Lib.hid ha
 replace hb:=Lib.hid hb
 generalize sameV op a b=res at EA EB E0⊢
 rcases hop with rfl | rfl<;>cases o<;>first | exact absurd ho.out (by decide) | clear ho
 all_goals
  try dsimp only [av,an,ao]
  go_enter Tryz.func41,Tryz.ntmps41
  go_upto_region 1 with fail
  obtain ⟨W0,iX,iY,iR,hW,hX,hY,hR,X0,Y0,R0,B0,LX,LY,LR,LI,LS⟩:=mkVVZ w a b
  rw [hW.out];try rw [hR.out];try rw [hY.out];try rw [hX.out]
  clear hW hX hY hR
  obtain ⟨Xc0,Xc1,Xc2,Xc3⟩:=X0.out.cs
  obtain ⟨Yc0,Yc1,Yc2,Yc3⟩:=Y0.out.cs
  by_cases p:a.k=0∨a.k=4
  ·obtain rfl:=EA.out p
   clear EA EB E0
   rcases k04 p with ⟨h0,h1,h2,h3,h4,h5⟩ | ⟨h0,h1,h2,h3,h4,h5⟩<;>clear p
   all_goals
    go_wp2_with (go_at_call 40;(with_reducible refine (rwrong_vp (w:=_) a).mono ?_);rintro e1 w1 ⟨rfl,q1⟩;have B1:=hB B0 q1;have R1:=hF R0 q1;clear q1 B0 R0;obtain ⟨Rc0,Rc1,Rc2,Rc3,Rf0,Rf1,Rf2,Rf3⟩:=R1.out.cf)
    exact ret4 6 rfl R1 B1 LR rfl rfl rfl
  by_cases q:b.k=0∨b.k=4
  ·obtain rfl:=EB.out p q
   clear EA EB E0
   obtain ⟨⟨g0,g1,g2⟩,⟨g3,g4,g5⟩⟩:=kno p
   rcases k04 q with ⟨h0,h1,h2,h3,h4,h5⟩ | ⟨h0,h1,h2,h3,h4,h5⟩<;>clear p q
   all_goals
    go_wp2_with (go_at_call 40;(with_reducible refine (rwrong_vp (w:=_) b).mono ?_);rintro e1 w1 ⟨rfl,q1⟩;have B1:=hB B0 q1;have R1:=hF R0 q1;clear q1 B0 R0;obtain ⟨Rc0,Rc1,Rc2,Rc3,Rf0,Rf1,Rf2,Rf3⟩:=R1.out.cf)
    exact ret4 6 rfl R1 B1 LR rfl rfl rfl
  have E:=E0.out p q
  clear E0 EA EB
  obtain ⟨⟨g0,g1,g2⟩,⟨g3,g4,g5⟩⟩:=kno p
  obtain ⟨⟨h0,h1,h2⟩,⟨h3,h4,h5⟩⟩:=kno q
  clear p q
  by_cases g:a.k=1
  ·by_cases h:b.k=1
   ·obtain ⟨na,ea,la,fa,_⟩:=num_parts ha.out g
    obtain ⟨nb,eb,lb,fb,_⟩:=num_parts hb.out h
    clear g0 g1 g2 g3 g4 g5 h0 h1 h2 h3 h4 h5 ha hb Xc0 Xc1 Xc2 Xc3 Yc0 Yc1 Yc2 Yc3
    generalize a.c=ca at ea fa;generalize b.c=cb at eb fb
    subst ea;subst eb;clear g h
    have CM:=fun w=>rcmp_t (w:=w) ca cb na nb fa fb la lb
    obtain ⟨z,hz⟩:∃ z,Hid (cmpZ (un ca na) (un cb nb)=z):=⟨_,Lib.hid rfl⟩
    rw [show cmpZ (unV ⟨1,ca,(na:Int),0⟩) (unV ⟨1,cb,(nb:Int),0⟩)=z from hz.out] at E
    simp only [hz.out] at CM
    clear hz
    obtain ⟨Xc0,Xc1,Xc2,Xc3⟩:_∧_∧_∧_:=X0.out.cs;obtain ⟨Yc0,Yc1,Yc2,Yc3⟩:=Y0.out.cs
    try dsimp only at Xc0 Xc1 Xc2 Xc3 Yc0 Yc1 Yc2 Yc3
    by_cases r:z=0
    ·rw [decide_eq_true r] at E
     subst E
     have r1:decide (z=0)=true:=decide_eq_true r
     have r2:(z==0)=true:=by simpa using r
     have r3:(z !=0)=false:=by simpa using r
     clear r
     go_wp2_with (first | (go_at_call 84;(with_reducible refine (CM _).mono ?_);rintro e1 w1 ⟨rfl,q1⟩;have B1:=hB B0 q1;have X1:=hF X0 q1;have Y1:=hF Y0 q1;have R1:=hF R0 q1;clear CM;clear q1 B0 X0 Y0 R0) | (go_at_call 16;(with_reducible refine (rtruth_vp (w:=_) _).mono ?_);rintro e2 w2 ⟨rfl,q2⟩;have B2:=hB B1 q2;have R2:=hF R1 q2;clear q2 B1 R1;obtain ⟨Rc0,Rc1,Rc2,Rc3,Rf0,Rf1,Rf2,Rf3⟩:=R2.out.cf))
     exact ret4 6 rfl R2 B2 LR rfl rfl rfl
    ·rw [decide_eq_false r] at E
     subst E
     have r1:decide (z=0)=false:=decide_eq_false r
     have r2:(z==0)=false:=by simpa using r
     have r3:(z !=0)=true:=by simpa using r
     clear r
     go_wp2_with (first | (go_at_call 84;(with_reducible refine (CM _).mono ?_);rintro e1 w1 ⟨rfl,q1⟩;have B1:=hB B0 q1;have X1:=hF X0 q1;have Y1:=hF Y0 q1;have R1:=hF R0 q1;clear CM;clear q1 B0 X0 Y0 R0) | (go_at_call 16;(with_reducible refine (rtruth_vp (w:=_) _).mono ?_);rintro e2 w2 ⟨rfl,q2⟩;have B2:=hB B1 q2;have R2:=hF R1 q2;clear q2 B1 R1;obtain ⟨Rc0,Rc1,Rc2,Rc3,Rf0,Rf1,Rf2,Rf3⟩:=R2.out.cf))
     exact ret4 6 rfl R2 B2 LR rfl rfl rfl
   ·skip
    rw [if_pos (by rw [decide_eq_true g,decide_eq_false h];decide)] at E
    subst E
    have g1:decide (a.k=1)=true:=decide_eq_true g
    have g2:(a.k==1)=true:=by simpa using g
    have g3:(a.k !=1)=false:=by simpa using g
    have h1:decide (b.k=1)=false:=decide_eq_false h
    have h2:(b.k==1)=false:=by simpa using h
    have h3:(b.k !=1)=true:=by simpa using h
    clear g h
    go_wp2_with (go_at_call 15;(with_reducible refine (rbad_vp (w:=_) 13).mono ?_);rintro e1 w1 ⟨rfl,q1⟩;have B1:=hB B0 q1;have R1:=hF R0 q1;clear q1 B0 R0;obtain ⟨Rc0,Rc1,Rc2,Rc3,Rf0,Rf1,Rf2,Rf3⟩:=R1.out.cf)
    exact ret4 6 rfl R1 B1 LR rfl rfl rfl
  ·by_cases h:b.k=1
   ·skip
    rw [if_pos (by rw [decide_eq_false g,decide_eq_true h];decide)] at E
    subst E
    have g1:decide (a.k=1)=false:=decide_eq_false g
    have g2:(a.k==1)=false:=by simpa using g
    have g3:(a.k !=1)=true:=by simpa using g
    have h1:decide (b.k=1)=true:=decide_eq_true h
    have h2:(b.k==1)=true:=by simpa using h
    have h3:(b.k !=1)=false:=by simpa using h
    clear g h
    go_wp2_with (go_at_call 15;(with_reducible refine (rbad_vp (w:=_) 13).mono ?_);rintro e1 w1 ⟨rfl,q1⟩;have B1:=hB B0 q1;have R1:=hF R0 q1;clear q1 B0 R0;obtain ⟨Rc0,Rc1,Rc2,Rc3,Rf0,Rf1,Rf2,Rf3⟩:=R1.out.cf)
    exact ret4 6 rfl R1 B1 LR rfl rfl rfl
   ·rw [if_neg (by rw [decide_eq_false g,decide_eq_false h];decide),if_neg g] at E
    have g1:decide (a.k=1)=false:=decide_eq_false g
    have g2:(a.k==1)=false:=by simpa using g
    have g3:(a.k !=1)=true:=by simpa using g
    have h1:decide (b.k=1)=false:=decide_eq_false h
    have h2:(b.k==1)=false:=by simpa using h
    have h3:(b.k !=1)=true:=by simpa using h
    clear g h
    by_cases r:a.k=b.k
    ·rw [decide_eq_true r] at E
     subst E
     have r1:decide (a.k=b.k)=true:=decide_eq_true r
     have r2:(a.k==b.k)=true:=by simpa using r
     have r3:(a.k !=b.k)=false:=by simpa using r
     clear r
     go_wp2_with (go_at_call 16;(with_reducible refine (rtruth_vp (w:=_) _).mono ?_);rintro e1 w1 ⟨rfl,q1⟩;have B1:=hB B0 q1;have R1:=hF R0 q1;clear q1 B0 R0;obtain ⟨Rc0,Rc1,Rc2,Rc3,Rf0,Rf1,Rf2,Rf3⟩:=R1.out.cf)
     exact ret4 6 rfl R1 B1 LR rfl rfl rfl
    ·rw [decide_eq_false r] at E
     subst E
     have r1:decide (a.k=b.k)=false:=decide_eq_false r
     have r2:(a.k==b.k)=false:=by simpa using r
     have r3:(a.k !=b.k)=true:=by simpa using r
     clear r
     go_wp2_with (go_at_call 16;(with_reducible refine (rtruth_vp (w:=_) _).mono ?_);rintro e1 w1 ⟨rfl,q1⟩;have B1:=hB B0 q1;have R1:=hF R0 q1;clear q1 B0 R0;obtain ⟨Rc0,Rc1,Rc2,Rc3,Rf0,Rf1,Rf2,Rf3⟩:=R1.out.cf)
     exact ret4 6 rfl R1 B1 LR rfl rfl rfl
theorem rsingle_18 {w:World} (c s k x y z p:Int) (nm:List UInt8) {a:V} (ha:V.fine a):Calls Tryz.prog 42 #[an ⟨18,c,s,nm,k,x,y,z,p⟩,av a] w (VP (singleV 18 k a) w):=by
 by_cases g:a.k=1
 ·obtain ⟨na,ea,la,fa,_⟩:=num_parts ha g
  have E0:singleV 18 k a=singleN 18 k a:=by unfold singleV;rw [if_neg (by simpa using g)]
  rw [E0]
  clear E0 ha
  generalize a.c=ca at ea fa
  subst ea;clear g
  have E:singleN 18 k ⟨1,ca,(na:Int),0⟩=toldV (decT (0 - un ca na) 9):=rfl
  rw [E]
  clear E
  have OPC:=fun w=>rsub0_t (w:=w) ca na fa la
  have ER:=decT_err (0 - un ca na) 9
  obtain ⟨⟨p1,q1,f1⟩,ht⟩:∃ t,Hid (decT (0 - un ca na) 9=t):=⟨_,Lib.hid rfl⟩
  rw [ht.out] at ER⊢
  simp only [ht.out] at OPC
  clear ht
  have ER:=Lib.hid ER
  try dsimp only [av,an,ao]
  go_enter Tryz.func42,Tryz.ntmps42
  go_upto_region 1 with fail
  obtain ⟨W0,iN,iX,iR,hW,hN,hX,hR,N0,X0,R0,B0,LN,LX,LR,LI,LS⟩:=mkNVZ w ⟨18,c,s,nm,k,x,y,z,p⟩ ⟨1,ca,(na:Int),0⟩
  rw [hW.out];try rw [hR.out];try rw [hX.out];try rw [hN.out]
  clear hW hN hX hR
  have Nc0:=N0.out.c0;have Nc4:=N0.out.c4
  obtain ⟨Xc0,Xc1,Xc2,Xc3⟩:=X0.out.cs
  go_upto_region 4 with fail
  obtain ⟨W1,iO,hW,hO,O1,BO,LO,LI2,LS2⟩:=mk1 W0 (.cells #[.int .i64 0,.int .i64 0] 30)
  rw [hW.out]
  rw [hO.out]
  clear hW hO
  replace O1:Hid (Two W1 iO 0 0):=O1
  have N1:=Lib.hid (N0.out.below BO.out);have X1:=Lib.hid (X0.out.below BO.out);have R1:=Lib.hid (R0.out.below BO.out);have B1:=Lib.hid (bt B0.out BO.out)
  clear Nc0 Nc4 Xc0 Xc1 Xc2 Xc3
  have Nc0:=N1.out.c0;have Nc4:=N1.out.c4
  obtain ⟨Xc0,Xc1,Xc2,Xc3⟩:=X1.out.cs
  have Oc0:=O1.out.c0;have Oc1:=O1.out.c1
  go_wp2_with (first | (go_at_call 85;(with_reducible refine (OPC _).mono ?_);rintro e2 w2 ⟨rfl,q2⟩;have B2:=Lib.hid (bt B1.out q2);have R2:=Lib.hid (R1.out.below q2);clear OPC q2 B1 R1) | (go_at_call 37;(with_reducible refine (rdec_vp (w:=_) p1 q1 f1 ER.out).mono ?_);rintro e3 w3 ⟨rfl,q3⟩;have B3:=hB B2 q3;have R3:=hF R2 q3;clear q3 B2 R2;obtain ⟨Rc0,Rc1,Rc2,Rc3,Rf0,Rf1,Rf2,Rf3⟩:=R3.out.cf))
  exact ret4 4 rfl R3 B3 LR rfl rfl rfl
 ·have E:singleV 18 k a=wrongV a:=by unfold singleV;rw [if_pos g]
  rw [E]
  have g1:decide (a.k=1)=false:=decide_eq_false g
  have g2:(a.k==1)=false:=by simpa using g
  have g3:(a.k !=1)=true:=by simpa using g
  clear E g ha
  try dsimp only [av,an,ao]
  go_enter Tryz.func42,Tryz.ntmps42
  go_upto_region 1 with fail
  obtain ⟨W0,iN,iX,iR,hW,hN,hX,hR,N0,X0,R0,B0,LN,LX,LR,LI,LS⟩:=mkNVZ w ⟨18,c,s,nm,k,x,y,z,p⟩ a
  rw [hW.out];try rw [hR.out];try rw [hX.out];try rw [hN.out]
  clear hW hN hX hR
  obtain ⟨Xc0,Xc1,Xc2,Xc3⟩:=X0.out.cs
  go_wp2_with (go_at_call 40;(with_reducible refine (rwrong_vp (w:=_) a).mono ?_);rintro e1 w1 ⟨rfl,q1⟩;have B1:=hB B0 q1;have R1:=hF R0 q1;clear q1 B0 R0;obtain ⟨Rc0,Rc1,Rc2,Rc3,Rf0,Rf1,Rf2,Rf3⟩:=R1.out.cf)
  exact ret4 4 rfl R1 B1 LR rfl rfl rfl
theorem rsingle_22 {w:World} (c s k x y z p:Int) (nm:List UInt8) {a:V} (ha:V.fine a):Calls Tryz.prog 42 #[an ⟨22,c,s,nm,k,x,y,z,p⟩,av a] w (VP (singleV 22 k a) w):=by
 by_cases g:a.k=1
 ·obtain ⟨na,ea,la,fa,_⟩:=num_parts ha g
  have E0:singleV 22 k a=singleN 22 k a:=by unfold singleV;rw [if_neg (by simpa using g)]
  rw [E0]
  clear E0 ha
  generalize a.c=ca at ea fa
  subst ea;clear g
  by_cases r:0≤ca
  ·have E:singleN 22 k ⟨1,ca,(na:Int),0⟩=⟨1,ca,(na:Int),0⟩:=by show (if 0≤ca then _ else _)=_;rw [if_pos r]
   rw [E]
   clear E
   have r1:decide (0≤ca)=true:=decide_eq_true r
   have r2:decide (ca ≥ 0)=true:=decide_eq_true r
   try dsimp only [av,an,ao]
   go_enter Tryz.func42,Tryz.ntmps42
   go_upto_region 1 with fail
   obtain ⟨W0,iN,iX,iR,hW,hN,hX,hR,N0,X0,R0,B0,LN,LX,LR,LI,LS⟩:=mkNVZ w ⟨22,c,s,nm,k,x,y,z,p⟩ ⟨1,ca,(na:Int),0⟩
   rw [hW.out];try rw [hR.out];try rw [hX.out];try rw [hN.out]
   clear hW hN hX hR
   have Nc0:=N0.out.c0;have Nc4:=N0.out.c4
   obtain ⟨Xc0,Xc1,Xc2,Xc3⟩:=X0.out.cs
   go_upto_region 4 with fail
   obtain ⟨W1,iO,hW,hO,O1,BO,LO,LI2,LS2⟩:=mk1 W0 (.cells #[.int .i64 0,.int .i64 0] 30)
   rw [hW.out]
   rw [hO.out]
   clear hW hO
   replace O1:Hid (Two W1 iO 0 0):=O1
   have N1:=Lib.hid (N0.out.below BO.out);have X1:=Lib.hid (X0.out.below BO.out);have R1:=Lib.hid (R0.out.below BO.out);have B1:=Lib.hid (bt B0.out BO.out)
   clear Nc0 Nc4 Xc0 Xc1 Xc2 Xc3
   have Nc0:=N1.out.c0;have Nc4:=N1.out.c4
   obtain ⟨Xc0,Xc1,Xc2,Xc3⟩:=X1.out.cs
   have Oc0:=O1.out.c0;have Oc1:=O1.out.c1
   obtain ⟨Rc0,Rc1,Rc2,Rc3,Rf0,Rf1,Rf2,Rf3⟩:=R1.out.cf
   clear r
   go_wp2_with fail
   exact ret4 4 rfl R1 B1 LR rfl rfl rfl
  ·have E:singleN 22 k ⟨1,ca,(na:Int),0⟩=toldV (decT (0 - un ca na) 9):=by show (if 0≤ca then _ else _)=_;rw [if_neg r];rfl
   rw [E]
   clear E
   have r1:decide (0≤ca)=false:=decide_eq_false r
   have r2:decide (ca ≥ 0)=false:=decide_eq_false r
   clear r
   have OPC:=fun w=>rsub0_t (w:=w) ca na fa la
   have ER:=decT_err (0 - un ca na) 9
   obtain ⟨⟨p1,q1,f1⟩,ht⟩:∃ t,Hid (decT (0 - un ca na) 9=t):=⟨_,Lib.hid rfl⟩
   rw [ht.out] at ER⊢
   simp only [ht.out] at OPC
   clear ht
   have ER:=Lib.hid ER
   try dsimp only [av,an,ao]
   go_enter Tryz.func42,Tryz.ntmps42
   go_upto_region 1 with fail
   obtain ⟨W0,iN,iX,iR,hW,hN,hX,hR,N0,X0,R0,B0,LN,LX,LR,LI,LS⟩:=mkNVZ w ⟨22,c,s,nm,k,x,y,z,p⟩ ⟨1,ca,(na:Int),0⟩
   rw [hW.out];try rw [hR.out];try rw [hX.out];try rw [hN.out]
   clear hW hN hX hR
   have Nc0:=N0.out.c0;have Nc4:=N0.out.c4
   obtain ⟨Xc0,Xc1,Xc2,Xc3⟩:=X0.out.cs
   go_upto_region 4 with fail
   obtain ⟨W1,iO,hW,hO,O1,BO,LO,LI2,LS2⟩:=mk1 W0 (.cells #[.int .i64 0,.int .i64 0] 30)
   rw [hW.out]
   rw [hO.out]
   clear hW hO
   replace O1:Hid (Two W1 iO 0 0):=O1
   have N1:=Lib.hid (N0.out.below BO.out);have X1:=Lib.hid (X0.out.below BO.out);have R1:=Lib.hid (R0.out.below BO.out);have B1:=Lib.hid (bt B0.out BO.out)
   clear Nc0 Nc4 Xc0 Xc1 Xc2 Xc3
   have Nc0:=N1.out.c0;have Nc4:=N1.out.c4
   obtain ⟨Xc0,Xc1,Xc2,Xc3⟩:=X1.out.cs
   have Oc0:=O1.out.c0;have Oc1:=O1.out.c1
   go_wp2_with (first | (go_at_call 85;(with_reducible refine (OPC _).mono ?_);rintro e2 w2 ⟨rfl,q2⟩;have B2:=Lib.hid (bt B1.out q2);have R2:=Lib.hid (R1.out.below q2);clear OPC q2 B1 R1) | (go_at_call 37;(with_reducible refine (rdec_vp (w:=_) p1 q1 f1 ER.out).mono ?_);rintro e3 w3 ⟨rfl,q3⟩;have B3:=hB B2 q3;have R3:=hF R2 q3;clear q3 B2 R2;obtain ⟨Rc0,Rc1,Rc2,Rc3,Rf0,Rf1,Rf2,Rf3⟩:=R3.out.cf))
   exact ret4 4 rfl R3 B3 LR rfl rfl rfl
 ·have E:singleV 22 k a=wrongV a:=by unfold singleV;rw [if_pos g]
  rw [E]
  have g1:decide (a.k=1)=false:=decide_eq_false g
  have g2:(a.k==1)=false:=by simpa using g
  have g3:(a.k !=1)=true:=by simpa using g
  clear E g ha
  try dsimp only [av,an,ao]
  go_enter Tryz.func42,Tryz.ntmps42
  go_upto_region 1 with fail
  obtain ⟨W0,iN,iX,iR,hW,hN,hX,hR,N0,X0,R0,B0,LN,LX,LR,LI,LS⟩:=mkNVZ w ⟨22,c,s,nm,k,x,y,z,p⟩ a
  rw [hW.out];try rw [hR.out];try rw [hX.out];try rw [hN.out]
  clear hW hN hX hR
  obtain ⟨Xc0,Xc1,Xc2,Xc3⟩:=X0.out.cs
  go_wp2_with (go_at_call 40;(with_reducible refine (rwrong_vp (w:=_) a).mono ?_);rintro e1 w1 ⟨rfl,q1⟩;have B1:=hB B0 q1;have R1:=hF R0 q1;clear q1 B0 R0;obtain ⟨Rc0,Rc1,Rc2,Rc3,Rf0,Rf1,Rf2,Rf3⟩:=R1.out.cf)
  exact ret4 4 rfl R1 B1 LR rfl rfl rfl
theorem rsingle_23 {w:World} (c s k x y z p:Int) (nm:List UInt8) {a:V} (ha:V.fine a):Calls Tryz.prog 42 #[an ⟨23,c,s,nm,k,x,y,z,p⟩,av a] w (VP (singleV 23 k a) w):=by
 by_cases g:a.k=1
 ·obtain ⟨na,ea,la,fa,_⟩:=num_parts ha g
  have E0:singleV 23 k a=singleN 23 k a:=by unfold singleV;rw [if_neg (by simpa using g)]
  rw [E0]
  clear E0 ha
  generalize a.c=ca at ea fa
  subst ea;clear g
  by_cases r:k<0
  ·have E:singleN 23 k ⟨1,ca,(na:Int),0⟩=badE 13:=by show toldV (roundT _ _)=_;unfold roundT;rw [if_neg (by unfold isB;simp;omega)];rfl
   rw [E]
   clear E
   have r1:decide (k<0)=true:=decide_eq_true r
   clear r
   try dsimp only [av,an,ao]
   go_enter Tryz.func42,Tryz.ntmps42
   go_upto_region 1 with fail
   obtain ⟨W0,iN,iX,iR,hW,hN,hX,hR,N0,X0,R0,B0,LN,LX,LR,LI,LS⟩:=mkNVZ w ⟨23,c,s,nm,k,x,y,z,p⟩ ⟨1,ca,(na:Int),0⟩
   rw [hW.out];try rw [hR.out];try rw [hX.out];try rw [hN.out]
   clear hW hN hX hR
   have Nc0:=N0.out.c0;have Nc4:=N0.out.c4
   obtain ⟨Xc0,Xc1,Xc2,Xc3⟩:=X0.out.cs
   go_upto_region 4 with fail
   obtain ⟨W1,iO,hW,hO,O1,BO,LO,LI2,LS2⟩:=mk1 W0 (.cells #[.int .i64 0,.int .i64 0] 30)
   rw [hW.out]
   rw [hO.out]
   clear hW hO
   replace O1:Hid (Two W1 iO 0 0):=O1
   have N1:=Lib.hid (N0.out.below BO.out);have X1:=Lib.hid (X0.out.below BO.out);have R1:=Lib.hid (R0.out.below BO.out);have B1:=Lib.hid (bt B0.out BO.out)
   clear Nc0 Nc4 Xc0 Xc1 Xc2 Xc3
   have Nc0:=N1.out.c0;have Nc4:=N1.out.c4
   obtain ⟨Xc0,Xc1,Xc2,Xc3⟩:=X1.out.cs
   have Oc0:=O1.out.c0;have Oc1:=O1.out.c1
   go_wp2_with (go_at_call 15;(with_reducible refine (rbad_vp (w:=_) 13).mono ?_);rintro e2 w2 ⟨rfl,q2⟩;have B2:=Lib.hid (bt B1.out q2);have R2:=Lib.hid (R1.out.below q2);clear q2 B1 R1;obtain ⟨Rc0,Rc1,Rc2,Rc3,Rf0,Rf1,Rf2,Rf3⟩:=R2.out.cf)
   exact ret4 4 rfl R2 B2 LR rfl rfl rfl
  ·have r1:decide (k<0)=false:=decide_eq_false r
   by_cases t:k≤9
   ·obtain ⟨kn,rfl⟩:∃ n:Nat,k=(n:Int):=⟨k.toNat,by omega⟩
    have hk:kn≤9:=by omega
    have t1:decide ((kn:Int)>9)=false:=decide_eq_false (by omega)
    have t2:decide ((9:Int)<(kn:Int))=false:=decide_eq_false (by omega)
    have t3:decide (9<kn)=false:=decide_eq_false (by omega)
    clear r t
    have E:singleN 23 (kn:Int) ⟨1,ca,(na:Int),0⟩=toldV (decT (evenZ (un ca na) (10 ^ (9 - kn))) kn):=by show toldV (roundT _ _)=_;unfold roundT;rw [if_pos (by unfold isB;simp;omega)];rfl
    rw [E]
    clear E
    have OPC:=fun w=>rround_t (w:=w) ca na kn fa la hk
    have ER:=decT_err (evenZ (un ca na) (10 ^ (9 - kn))) kn
    obtain ⟨⟨p1,q1,f1⟩,ht⟩:∃ t,Hid (decT (evenZ (un ca na) (10 ^ (9 - kn))) kn=t):=⟨_,Lib.hid rfl⟩
    rw [ht.out] at ER⊢
    simp only [ht.out] at OPC
    clear ht
    have ER:=Lib.hid ER
    try dsimp only [av,an,ao]
    go_enter Tryz.func42,Tryz.ntmps42
    go_upto_region 1 with fail
    obtain ⟨W0,iN,iX,iR,hW,hN,hX,hR,N0,X0,R0,B0,LN,LX,LR,LI,LS⟩:=mkNVZ w ⟨23,c,s,nm,(kn:Int),x,y,z,p⟩ ⟨1,ca,(na:Int),0⟩
    rw [hW.out];try rw [hR.out];try rw [hX.out];try rw [hN.out]
    clear hW hN hX hR
    have Nc0:=N0.out.c0;have Nc4:=N0.out.c4
    obtain ⟨Xc0,Xc1,Xc2,Xc3⟩:=X0.out.cs
    go_upto_region 4 with fail
    obtain ⟨W1,iO,hW,hO,O1,BO,LO,LI2,LS2⟩:=mk1 W0 (.cells #[.int .i64 0,.int .i64 0] 30)
    rw [hW.out]
    rw [hO.out]
    clear hW hO
    replace O1:Hid (Two W1 iO 0 0):=O1
    have N1:=Lib.hid (N0.out.below BO.out);have X1:=Lib.hid (X0.out.below BO.out);have R1:=Lib.hid (R0.out.below BO.out);have B1:=Lib.hid (bt B0.out BO.out)
    clear Nc0 Nc4 Xc0 Xc1 Xc2 Xc3
    have Nc0:=N1.out.c0;have Nc4:=N1.out.c4
    obtain ⟨Xc0,Xc1,Xc2,Xc3⟩:=X1.out.cs
    have Oc0:=O1.out.c0;have Oc1:=O1.out.c1
    go_wp2_with (first | (go_at_call 83;(with_reducible refine (OPC _).mono ?_);rintro e2 w2 ⟨rfl,q2⟩;have B2:=Lib.hid (bt B1.out q2);have R2:=Lib.hid (R1.out.below q2);clear OPC q2 B1 R1) | (go_at_call 37;(with_reducible refine (rdec_vp (w:=_) p1 q1 f1 ER.out).mono ?_);rintro e3 w3 ⟨rfl,q3⟩;have B3:=hB B2 q3;have R3:=hF R2 q3;clear q3 B2 R2;obtain ⟨Rc0,Rc1,Rc2,Rc3,Rf0,Rf1,Rf2,Rf3⟩:=R3.out.cf))
    exact ret4 4 rfl R3 B3 LR rfl rfl rfl
   ·have t1:decide (k>9)=true:=decide_eq_true (by omega)
    have t2:decide (9<k)=true:=decide_eq_true (by omega)
    have E:singleN 23 k ⟨1,ca,(na:Int),0⟩=badE 13:=by show toldV (roundT _ _)=_;unfold roundT;rw [if_neg (by unfold isB;simp;omega)];rfl
    rw [E]
    clear E r t
    try dsimp only [av,an,ao]
    go_enter Tryz.func42,Tryz.ntmps42
    go_upto_region 1 with fail
    obtain ⟨W0,iN,iX,iR,hW,hN,hX,hR,N0,X0,R0,B0,LN,LX,LR,LI,LS⟩:=mkNVZ w ⟨23,c,s,nm,k,x,y,z,p⟩ ⟨1,ca,(na:Int),0⟩
    rw [hW.out];try rw [hR.out];try rw [hX.out];try rw [hN.out]
    clear hW hN hX hR
    have Nc0:=N0.out.c0;have Nc4:=N0.out.c4
    obtain ⟨Xc0,Xc1,Xc2,Xc3⟩:=X0.out.cs
    go_upto_region 4 with fail
    obtain ⟨W1,iO,hW,hO,O1,BO,LO,LI2,LS2⟩:=mk1 W0 (.cells #[.int .i64 0,.int .i64 0] 30)
    rw [hW.out]
    rw [hO.out]
    clear hW hO
    replace O1:Hid (Two W1 iO 0 0):=O1
    have N1:=Lib.hid (N0.out.below BO.out);have X1:=Lib.hid (X0.out.below BO.out);have R1:=Lib.hid (R0.out.below BO.out);have B1:=Lib.hid (bt B0.out BO.out)
    clear Nc0 Nc4 Xc0 Xc1 Xc2 Xc3
    have Nc0:=N1.out.c0;have Nc4:=N1.out.c4
    obtain ⟨Xc0,Xc1,Xc2,Xc3⟩:=X1.out.cs
    have Oc0:=O1.out.c0;have Oc1:=O1.out.c1
    go_wp2_with (go_at_call 15;(with_reducible refine (rbad_vp (w:=_) 13).mono ?_);rintro e2 w2 ⟨rfl,q2⟩;have B2:=Lib.hid (bt B1.out q2);have R2:=Lib.hid (R1.out.below q2);clear q2 B1 R1;obtain ⟨Rc0,Rc1,Rc2,Rc3,Rf0,Rf1,Rf2,Rf3⟩:=R2.out.cf)
    exact ret4 4 rfl R2 B2 LR rfl rfl rfl
 ·have E:singleV 23 k a=wrongV a:=by unfold singleV;rw [if_pos g]
  rw [E]
  have g1:decide (a.k=1)=false:=decide_eq_false g
  have g2:(a.k==1)=false:=by simpa using g
  have g3:(a.k !=1)=true:=by simpa using g
  clear E g ha
  try dsimp only [av,an,ao]
  go_enter Tryz.func42,Tryz.ntmps42
  go_upto_region 1 with fail
  obtain ⟨W0,iN,iX,iR,hW,hN,hX,hR,N0,X0,R0,B0,LN,LX,LR,LI,LS⟩:=mkNVZ w ⟨23,c,s,nm,k,x,y,z,p⟩ a
  rw [hW.out];try rw [hR.out];try rw [hX.out];try rw [hN.out]
  clear hW hN hX hR
  obtain ⟨Xc0,Xc1,Xc2,Xc3⟩:=X0.out.cs
  go_wp2_with (go_at_call 40;(with_reducible refine (rwrong_vp (w:=_) a).mono ?_);rintro e1 w1 ⟨rfl,q1⟩;have B1:=hB B0 q1;have R1:=hF R0 q1;clear q1 B0 R0;obtain ⟨Rc0,Rc1,Rc2,Rc3,Rf0,Rf1,Rf2,Rf3⟩:=R1.out.cf)
  exact ret4 4 rfl R1 B1 LR rfl rfl rfl
theorem rsingle_vp {w:World} (op:Int) (c s k x y z p:Int) (nm:List UInt8) (hop:op=18∨op=22∨op=23) {a:V} (ha:V.fine a):Calls Tryz.prog 42 #[an ⟨op,c,s,nm,k,x,y,z,p⟩,av a] w (VP (singleV op k a) w):=by
 rcases hop with rfl | rfl | rfl
 ·exact rsingle_18 c s k x y z p nm ha
 ·exact rsingle_22 c s k x y z p nm ha
 ·exact rsingle_23 c s k x y z p nm ha
end Go.Proofs.YteagpbkbdlmdiaaGreat.Ev
