/-
  eval.node: ops of the map, walked; EvRef3: what its functions answer; eval.node, walked.
-/
import Derived.Test.YteagpbkbdlmdiaaGreatQ45
import Derived.Test.YteagpbkbdlmdiaaGreatQ24
set_option linter.unusedSimpArgs false
set_option linter.unusedVariables false
namespace Go.Proofs.YteagpbkbdlmdiaaGreat.Ev
open Go Go.ChangeMaps Go.RowKit Dt Tx Va
attribute [local go_sem ↓] Go.wp_at_zero Go.wp_at_succ
set_option maxRecDepth 100000 in
set_option maxHeartbeats 10000000 in
theorem node_map {w:World} (op m:Int) (hm:(op,m) ∈ opsL) (c s k x y z p:Int) (nm:List UInt8) {v a b d:V} (g:Nat) (ha:V.fine a) (hb:V.fine b) (hk:K3 w g a b d):Calls Tryz.prog 24 #[an ⟨op,c,s,nm,k,x,y,z,p⟩,av v,.slice (some ⟨g,0,none⟩) 3 3] w (VP (nodeV ⟨op,c,s,nm,k,x,y,z,p⟩ v a b d) w):=by
 obtain ⟨res,hres⟩:∃ r,Hid (nodeV ⟨op,c,s,nm,k,x,y,z,p⟩ v a b d=r):=⟨_,Lib.hid rfl⟩
 rw [hres.out]
 have HMM:=Lib.hid hm
 simp only [opsL,List.mem_cons,Prod.mk.injEq,List.mem_nil_iff,or_false] at hm
 have hG:((op=10∨op=11∨op=12∨op=13)∧m=2)∨((op=14∨op=15∨op=16∨op=17)∧m=2)∨((op=20∨op=21)∧m=2)∨((op=18∨op=22)∧m=1)∨((op=23)∧m=1)∨((op=5)∧m=2)∨((op=6)∧m=2)∨((op=7)∧m=1)∨((op=8)∧m=2)∨((op=9)∧m=2)∨((op=19)∧m=3):=by rcases hm with ⟨rfl,rfl⟩ | ⟨rfl,rfl⟩ | ⟨rfl,rfl⟩ | ⟨rfl,rfl⟩ | ⟨rfl,rfl⟩ | ⟨rfl,rfl⟩ | ⟨rfl,rfl⟩ | ⟨rfl,rfl⟩ | ⟨rfl,rfl⟩ | ⟨rfl,rfl⟩ | ⟨rfl,rfl⟩ | ⟨rfl,rfl⟩ | ⟨rfl,rfl⟩ | ⟨rfl,rfl⟩ | ⟨rfl,rfl⟩ | ⟨rfl,rfl⟩ | ⟨rfl,rfl⟩ | ⟨rfl,rfl⟩ | ⟨rfl,rfl⟩<;>decide
 have hS:op ≠ 1∧op ≠ 2∧op ≠ 3∧op ≠ 4∧op ≠ 24∧op ≠ 25∧op ≠ 26∧op ≠ 27∧op ≠ 28∧op ≠ 29∧op ≠ 30:=by rcases hm with ⟨rfl,_⟩ | ⟨rfl,_⟩ | ⟨rfl,_⟩ | ⟨rfl,_⟩ | ⟨rfl,_⟩ | ⟨rfl,_⟩ | ⟨rfl,_⟩ | ⟨rfl,_⟩ | ⟨rfl,_⟩ | ⟨rfl,_⟩ | ⟨rfl,_⟩ | ⟨rfl,_⟩ | ⟨rfl,_⟩ | ⟨rfl,_⟩ | ⟨rfl,_⟩ | ⟨rfl,_⟩ | ⟨rfl,_⟩ | ⟨rfl,_⟩ | ⟨rfl,_⟩<;>decide
 clear hm
 replace hG:=Lib.hid hG
 have o1:decide (op=1)=false:=decide_eq_false (by omega)
 have u1:(op==1)=false:=by simp;omega
 have o2:decide (op=2)=false:=decide_eq_false (by omega)
 have u2:(op==2)=false:=by simp;omega
 have o3:decide (op=3)=false:=decide_eq_false (by omega)
 have u3:(op==3)=false:=by simp;omega
 have o4:decide (op=4)=false:=decide_eq_false (by omega)
 have u4:(op==4)=false:=by simp;omega
 have o24:decide (op=24)=false:=decide_eq_false (by omega)
 have u24:(op==24)=false:=by simp;omega
 have o25:decide (op=25)=false:=decide_eq_false (by omega)
 have u25:(op==25)=false:=by simp;omega
 have o26:decide (op=26)=false:=decide_eq_false (by omega)
 have u26:(op==26)=false:=by simp;omega
 have o27:decide (op=27)=false:=decide_eq_false (by omega)
 have u27:(op==27)=false:=by simp;omega
 have o28:decide (op=28)=false:=decide_eq_false (by omega)
 have u28:(op==28)=false:=by simp;omega
 have o29:decide (op=29)=false:=decide_eq_false (by omega)
 have u29:(op==29)=false:=by simp;omega
 have o30:decide (op=30)=false:=decide_eq_false (by omega)
 have u30:(op==30)=false:=by simp;omega
 clear hS
 try dsimp only [av,an,ao]
 go_enter Tryz.func24,Tryz.ntmps24
 go_upto_region 1 with fail
 obtain ⟨W0,iN,iU,iR,hW,hN,hU,hR,N0,U0,R0,B0,LN,LU,LR,LI,LS⟩:=mkNVZ w ⟨op,c,s,nm,k,x,y,z,p⟩ v
 rw [hW.out];try rw [hR.out];try rw [hU.out];try rw [hN.out]
 clear hW hN hU hR
 have Nc0:=N0.out.c0
 have K0:=Lib.hid (hk.below B0.out)
 clear hk
 have HA:=Lib.hid ha;have HB:=Lib.hid hb
 clear ha hb
 go_upto_region 22 with fail
 go_cut [7,8] (fun p7 ok8 wx=>∃ (i7:Nat) (f:Value),p7=.pointer (some ⟨i7,0,none⟩)∧ok8=.bool true∧DB wx i7 (.int .i64 m) f∧Good k op f wx∧Below W0.heap.size W0 wx)
 case first=>
  have mkS:∀ w',Below W0.heap.size W0 w'→(Below W0.heap.size W0 w'∧w'.cell? ⟨iN,0,none⟩=some (.int .u8 op)∧w'.cell? ⟨iN,4,none⟩=some (.int .i64 k)):=fun w' hb=>⟨hb,(N0.out.below hb).c0,(N0.out.below hb).c4⟩
  have HS0:=mkS _ ((Below.refl _ _).drew)
  go_region_held3 (fun w'=>Below W0.heap.size W0 w'∧w'.cell? ⟨iN,0,none⟩=some (.int .u8 op)∧w'.cell? ⟨iN,4,none⟩=some (.int .i64 k))
   (first | with_reducible exact HS0 | with_reducible assumption | (refine mkS _ ?_;(repeat (first | with_reducible exact And.left (by with_reducible assumption) | with_reducible exact Below.refl _ _ | refine Below.setCell ?_ (by first | omega | (simp only [World.size_alloc,hdrew];omega) | (simp<;>omega)) _ | refine Below.alloc ?_ (by first | omega | (simp only [World.size_alloc,hdrew];omega) | (simp<;>omega)) _ | refine Below.drew ?_))))
   (first | (go_at_call 35;(with_reducible refine (ops_is (w:=_) k).mono ?_);rintro e20 w20 ⟨bm,T,rfl,hM,hT,b20⟩;have HS20:=mkS _ (bt (And.left (by assumption)) b20);have T20:=Lib.hid (HS20.1);have zz20:=Below.size T20.out;obtain ⟨f,hg,hlk⟩:=look_op HMM.out hM hT;clear hM hT;have HG:=Lib.hid hg;obtain ⟨fF,fcs,rfl⟩:=Good.fn HMM.out hg;clear hg;have lk0:=hlk _ (Below.refl _ _);have lk1:=hlk _ (ba _ (.cells #[.int .i64 0,.nilFunc] 72));clear hlk;(try replace b20:=undrew b20);(first | (have QA:=DB.below (DB.new _ _ _) b20;(try simp only [World.size_alloc,hdrew] at QA);have QA:=Lib.hid QA;have qa0:=QA.out.c0;have qa1:=QA.out.c1;have qf0:=QA.out.f 0;have qf1:=QA.out.f 1;clear b20) | clear b20)))
  all_goals
   dsimp only [Exit.then]
   refine ‹∀ (a':Act) (w':World),Met _ a' w'→_› _ _ ?_
   go_meet
   case rel=>
    first
    | exact ⟨_,_,rfl,rfl,DB.new _ _ _,Good.kb HMM.out HG.out (Kb.of_below (ba _ _)),by (repeat (first | with_reducible exact And.left (by with_reducible assumption) | with_reducible exact Below.refl _ _ | refine Below.setCell ?_ (by first | omega | (simp only [World.size_alloc,hdrew];omega) | (simp<;>omega)) _ | refine Below.alloc ?_ (by first | omega | (simp only [World.size_alloc,hdrew];omega) | (simp<;>omega)) _ | refine Below.drew ?_))⟩
    | exact ⟨_,_,rfl,rfl,DB.set QA.out _ _,Good.kb HMM.out HG.out (Kb.set QA.out _ _),by (repeat (first | with_reducible exact And.left (by with_reducible assumption) | with_reducible exact Below.refl _ _ | refine Below.setCell ?_ (by first | omega | (simp only [World.size_alloc,hdrew];omega) | (simp<;>omega)) _ | refine Below.alloc ?_ (by first | omega | (simp only [World.size_alloc,hdrew];omega) | (simp<;>omega)) _ | refine Below.drew ?_))⟩
 case rest=>
  obtain ⟨i7,f,rfl,rfl,hdb,hg,hbw⟩:=hcut
  clear Nc0
  have hG:=hG.out
  rcases hG with ⟨hop,rfl⟩ | ⟨hop,rfl⟩ | ⟨hop,rfl⟩ | ⟨hop,rfl⟩ | ⟨rfl,rfl⟩ | ⟨rfl,rfl⟩ | ⟨rfl,rfl⟩ | ⟨rfl,rfl⟩ | ⟨rfl,rfl⟩ | ⟨rfl,rfl⟩ | ⟨rfl,rfl⟩
  ·rcases hop with rfl | rfl | rfl | rfl
   all_goals
    obtain rfl:=hres.out
    obtain ⟨bf,rfl,hf⟩:=hg
    dsimp only [fn0,fn1] at hdb
    have D1:=Lib.hid hdb;have B1:=hB B0 hbw;have R1:=hF R0 hbw;have K1:=Lib.hid (K0.out.below hbw)
    have F1:=Lib.hid hf
    clear hres hdb hbw hf
    go_upto_region 25 with fail
    have Dd:=Lib.hid (D1.out.below (drb wc))
    have Kd:=K1.out.below (drb wc)
    have HNE:Hid (¬i7=iR):=Lib.hid (D1.out.ne R1.out)
    first | have CT:=do_10 HA.out HB.out Kd (Bx.below F1.out (drb wc)) | have CT:=do_11 HA.out HB.out Kd (Bx.below F1.out (drb wc)) | have CT:=do_12 HA.out HB.out Kd (Bx.below F1.out (drb wc)) | have CT:=do_13 HA.out HB.out Kd (Bx.below F1.out (drb wc))
    clear Kd
    have mkS:∀ {w'},DB w' i7 (.int .i64 2) (Value.func (.func 115) #[] #[.pointer (some ⟨bf,0,none⟩)])→(w'.cell? ⟨i7,0,none⟩=some (.int .i64 2)∧w'.cell? ⟨i7,1,none⟩=some (Value.func (.func 115) #[] #[.pointer (some ⟨bf,0,none⟩)])):=fun h=>⟨h.c0,h.c1⟩
    have HS0:=mkS Dd.out
    go_region_held3 (fun w'=>w'.cell? ⟨i7,0,none⟩=some (.int .i64 2)∧w'.cell? ⟨i7,1,none⟩=some (Value.func (.func 115) #[] #[.pointer (some ⟨bf,0,none⟩)]))
     (first | with_reducible exact HS0 | with_reducible assumption | with_reducible exact HS8 _ _ _ _)
     (first | (go_at_call 115;(with_reducible refine CT.mono ?_);rintro e8 w8 ⟨rfl,q8⟩;have D8:=Lib.hid (Dd.out.below q8);have B8:=Lib.hid (bt (B1.out.drew) q8);have R8:=hF R1 (bt (drb wc) q8);have HS7:=mkS D8.out;have HS8:=fun x0 x1 x2 x3=>mkS (D8.out.other4 HNE.out x0 x1 x2 x3);clear mkS;obtain ⟨Rc0,Rc1,Rc2,Rc3,Rf0,Rf1,Rf2,Rf3⟩:=R8.out.cf;clear q8 CT))
    go_wp2_with fail
    exact ret4 6 rfl R8 B8 LR rfl rfl rfl
  ·rcases hop with rfl | rfl | rfl | rfl
   all_goals
    obtain rfl:=hres.out
    obtain ⟨bf,rfl,hf⟩:=hg
    dsimp only [fn0,fn1] at hdb
    have D1:=Lib.hid hdb;have B1:=hB B0 hbw;have R1:=hF R0 hbw;have K1:=Lib.hid (K0.out.below hbw)
    have F1:=Lib.hid hf
    clear hres hdb hbw hf
    go_upto_region 25 with fail
    have Dd:=Lib.hid (D1.out.below (drb wc))
    have Kd:=K1.out.below (drb wc)
    have HNE:Hid (¬i7=iR):=Lib.hid (D1.out.ne R1.out)
    first | have CT:=do_14 HA.out HB.out Kd (Bx.below F1.out (drb wc)) | have CT:=do_15 HA.out HB.out Kd (Bx.below F1.out (drb wc)) | have CT:=do_16 HA.out HB.out Kd (Bx.below F1.out (drb wc)) | have CT:=do_17 HA.out HB.out Kd (Bx.below F1.out (drb wc))
    clear Kd
    have mkS:∀ {w'},DB w' i7 (.int .i64 2) (Value.func (.func 119) #[] #[.pointer (some ⟨bf,0,none⟩)])→(w'.cell? ⟨i7,0,none⟩=some (.int .i64 2)∧w'.cell? ⟨i7,1,none⟩=some (Value.func (.func 119) #[] #[.pointer (some ⟨bf,0,none⟩)])):=fun h=>⟨h.c0,h.c1⟩
    have HS0:=mkS Dd.out
    go_region_held3 (fun w'=>w'.cell? ⟨i7,0,none⟩=some (.int .i64 2)∧w'.cell? ⟨i7,1,none⟩=some (Value.func (.func 119) #[] #[.pointer (some ⟨bf,0,none⟩)]))
     (first | with_reducible exact HS0 | with_reducible assumption | with_reducible exact HS8 _ _ _ _)
     (first | (go_at_call 119;(with_reducible refine CT.mono ?_);rintro e8 w8 ⟨rfl,q8⟩;have D8:=Lib.hid (Dd.out.below q8);have B8:=Lib.hid (bt (B1.out.drew) q8);have R8:=hF R1 (bt (drb wc) q8);have HS7:=mkS D8.out;have HS8:=fun x0 x1 x2 x3=>mkS (D8.out.other4 HNE.out x0 x1 x2 x3);clear mkS;obtain ⟨Rc0,Rc1,Rc2,Rc3,Rf0,Rf1,Rf2,Rf3⟩:=R8.out.cf;clear q8 CT))
    go_wp2_with fail
    exact ret4 6 rfl R8 B8 LR rfl rfl rfl
  ·rcases hop with rfl | rfl
   all_goals
    obtain rfl:=hres.out
    obtain ⟨bf,bc,rfl,hf,hc⟩:=hg
    dsimp only [fn0,fn1] at hdb
    have D1:=Lib.hid hdb;have B1:=hB B0 hbw;have R1:=hF R0 hbw;have K1:=Lib.hid (K0.out.below hbw)
    have F1:=Lib.hid hf;have C1:=Lib.hid hc
    clear hres hdb hbw hf hc
    go_upto_region 25 with fail
    have Dd:=Lib.hid (D1.out.below (drb wc))
    have Kd:=K1.out.below (drb wc)
    have HNE:Hid (¬i7=iR):=Lib.hid (D1.out.ne R1.out)
    first | have CT:=do_20 HA.out HB.out Kd (Bx.below F1.out (drb wc)) (Bx.below C1.out (drb wc)) | have CT:=do_21 HA.out HB.out Kd (Bx.below F1.out (drb wc)) (Bx.below C1.out (drb wc))
    clear Kd
    have mkS:∀ {w'},DB w' i7 (.int .i64 2) (Value.func (.func 119) #[] #[.pointer (some ⟨bf,0,none⟩)])→(w'.cell? ⟨i7,0,none⟩=some (.int .i64 2)∧w'.cell? ⟨i7,1,none⟩=some (Value.func (.func 119) #[] #[.pointer (some ⟨bf,0,none⟩)])):=fun h=>⟨h.c0,h.c1⟩
    have HS0:=mkS Dd.out
    go_region_held3 (fun w'=>w'.cell? ⟨i7,0,none⟩=some (.int .i64 2)∧w'.cell? ⟨i7,1,none⟩=some (Value.func (.func 119) #[] #[.pointer (some ⟨bf,0,none⟩)]))
     (first | with_reducible exact HS0 | with_reducible assumption | with_reducible exact HS8 _ _ _ _)
     (first | (go_at_call 119;(with_reducible refine CT.mono ?_);rintro e8 w8 ⟨rfl,q8⟩;have D8:=Lib.hid (Dd.out.below q8);have B8:=Lib.hid (bt (B1.out.drew) q8);have R8:=hF R1 (bt (drb wc) q8);have HS7:=mkS D8.out;have HS8:=fun x0 x1 x2 x3=>mkS (D8.out.other4 HNE.out x0 x1 x2 x3);clear mkS;obtain ⟨Rc0,Rc1,Rc2,Rc3,Rf0,Rf1,Rf2,Rf3⟩:=R8.out.cf;clear q8 CT))
    go_wp2_with fail
    exact ret4 6 rfl R8 B8 LR rfl rfl rfl
  ·rcases hop with rfl | rfl
   all_goals
    obtain rfl:=hres.out
    obtain ⟨bf,bc,rfl,hf,hc⟩:=hg
    dsimp only [fn0,fn1] at hdb
    have D1:=Lib.hid hdb;have B1:=hB B0 hbw;have R1:=hF R0 hbw;have K1:=Lib.hid (K0.out.below hbw)
    have F1:=Lib.hid hf;have C1:=Lib.hid hc
    clear hres hdb hbw hf hc
    go_upto_region 25 with fail
    have Dd:=Lib.hid (D1.out.below (drb wc))
    have Kd:=K1.out.below (drb wc)
    have HNE:Hid (¬i7=iR):=Lib.hid (D1.out.ne R1.out)
    first | have CT:=do_18 (k:=k) HA.out Kd (Bx.below F1.out (drb wc)) (Bx.below C1.out (drb wc)) | have CT:=do_22 (k:=k) HA.out Kd (Bx.below F1.out (drb wc)) (Bx.below C1.out (drb wc))
    clear Kd
    have mkS:∀ {w'},DB w' i7 (.int .i64 1) (Value.func (.func 119) #[] #[.pointer (some ⟨bf,0,none⟩)])→(w'.cell? ⟨i7,0,none⟩=some (.int .i64 1)∧w'.cell? ⟨i7,1,none⟩=some (Value.func (.func 119) #[] #[.pointer (some ⟨bf,0,none⟩)])):=fun h=>⟨h.c0,h.c1⟩
    have HS0:=mkS Dd.out
    go_region_held3 (fun w'=>w'.cell? ⟨i7,0,none⟩=some (.int .i64 1)∧w'.cell? ⟨i7,1,none⟩=some (Value.func (.func 119) #[] #[.pointer (some ⟨bf,0,none⟩)]))
     (first | with_reducible exact HS0 | with_reducible assumption | with_reducible exact HS8 _ _ _ _)
     (first | (go_at_call 119;(with_reducible refine CT.mono ?_);rintro e8 w8 ⟨rfl,q8⟩;have D8:=Lib.hid (Dd.out.below q8);have B8:=Lib.hid (bt (B1.out.drew) q8);have R8:=hF R1 (bt (drb wc) q8);have HS7:=mkS D8.out;have HS8:=fun x0 x1 x2 x3=>mkS (D8.out.other4 HNE.out x0 x1 x2 x3);clear mkS;obtain ⟨Rc0,Rc1,Rc2,Rc3,Rf0,Rf1,Rf2,Rf3⟩:=R8.out.cf;clear q8 CT))
    go_wp2_with fail
    exact ret4 6 rfl R8 B8 LR rfl rfl rfl
  ·skip
   obtain rfl:=hres.out
   obtain ⟨bf,bc,bk,rfl,hf,hc,hq⟩:=hg
   dsimp only [fn0,fn1] at hdb
   have D1:=Lib.hid hdb;have B1:=hB B0 hbw;have R1:=hF R0 hbw;have K1:=Lib.hid (K0.out.below hbw)
   have F1:=Lib.hid hf;have C1:=Lib.hid hc;have Q1:=Lib.hid hq
   clear hres hdb hbw hf hc hq
   go_upto_region 25 with fail
   have Dd:=Lib.hid (D1.out.below (drb wc))
   have Kd:=K1.out.below (drb wc)
   have HNE:Hid (¬i7=iR):=Lib.hid (D1.out.ne R1.out)
   have CT:=do_23 HA.out Kd (Bx.below F1.out (drb wc)) (Bx.below C1.out (drb wc)) (Bx.below Q1.out (drb wc))
   clear Kd
   have mkS:∀ {w'},DB w' i7 (.int .i64 1) (Value.func (.func 119) #[] #[.pointer (some ⟨bf,0,none⟩)])→(w'.cell? ⟨i7,0,none⟩=some (.int .i64 1)∧w'.cell? ⟨i7,1,none⟩=some (Value.func (.func 119) #[] #[.pointer (some ⟨bf,0,none⟩)])):=fun h=>⟨h.c0,h.c1⟩
   have HS0:=mkS Dd.out
   go_region_held3 (fun w'=>w'.cell? ⟨i7,0,none⟩=some (.int .i64 1)∧w'.cell? ⟨i7,1,none⟩=some (Value.func (.func 119) #[] #[.pointer (some ⟨bf,0,none⟩)]))
    (first | with_reducible exact HS0 | with_reducible assumption | with_reducible exact HS8 _ _ _ _)
    (first | (go_at_call 119;(with_reducible refine CT.mono ?_);rintro e8 w8 ⟨rfl,q8⟩;have D8:=Lib.hid (Dd.out.below q8);have B8:=Lib.hid (bt (B1.out.drew) q8);have R8:=hF R1 (bt (drb wc) q8);have HS7:=mkS D8.out;have HS8:=fun x0 x1 x2 x3=>mkS (D8.out.other4 HNE.out x0 x1 x2 x3);clear mkS;obtain ⟨Rc0,Rc1,Rc2,Rc3,Rf0,Rf1,Rf2,Rf3⟩:=R8.out.cf;clear q8 CT))
   go_wp2_with fail
   exact ret4 6 rfl R8 B8 LR rfl rfl rfl
  ·skip
   obtain rfl:=hres.out
   obtain rfl:=hg
   dsimp only [fn0,fn1] at hdb
   have D1:=Lib.hid hdb;have B1:=hB B0 hbw;have R1:=hF R0 hbw;have K1:=Lib.hid (K0.out.below hbw)
   clear hres hdb hbw
   go_upto_region 25 with fail
   have Dd:=Lib.hid (D1.out.below (drb wc))
   have Kd:=K1.out.below (drb wc)
   have HNE:Hid (¬i7=iR):=Lib.hid (D1.out.ne R1.out)
   have CT:=or0 g a b d Kd
   clear Kd
   have mkS:∀ {w'},DB w' i7 (.int .i64 2) (Value.func (.func 54) #[] #[])→(w'.cell? ⟨i7,0,none⟩=some (.int .i64 2)∧w'.cell? ⟨i7,1,none⟩=some (Value.func (.func 54) #[] #[])):=fun h=>⟨h.c0,h.c1⟩
   have HS0:=mkS Dd.out
   go_region_held3 (fun w'=>w'.cell? ⟨i7,0,none⟩=some (.int .i64 2)∧w'.cell? ⟨i7,1,none⟩=some (Value.func (.func 54) #[] #[]))
    (first | with_reducible exact HS0 | with_reducible assumption | with_reducible exact HS8 _ _ _ _)
    (first | (go_at_call 54;(with_reducible refine CT.mono ?_);rintro e8 w8 ⟨rfl,q8⟩;have D8:=Lib.hid (Dd.out.below q8);have B8:=Lib.hid (bt (B1.out.drew) q8);have R8:=hF R1 (bt (drb wc) q8);have HS7:=mkS D8.out;have HS8:=fun x0 x1 x2 x3=>mkS (D8.out.other4 HNE.out x0 x1 x2 x3);clear mkS;obtain ⟨Rc0,Rc1,Rc2,Rc3,Rf0,Rf1,Rf2,Rf3⟩:=R8.out.cf;clear q8 CT))
   go_wp2_with fail
   exact ret4 6 rfl R8 B8 LR rfl rfl rfl
  ·skip
   obtain rfl:=hres.out
   obtain rfl:=hg
   dsimp only [fn0,fn1] at hdb
   have D1:=Lib.hid hdb;have B1:=hB B0 hbw;have R1:=hF R0 hbw;have K1:=Lib.hid (K0.out.below hbw)
   clear hres hdb hbw
   go_upto_region 25 with fail
   have Dd:=Lib.hid (D1.out.below (drb wc))
   have Kd:=K1.out.below (drb wc)
   have HNE:Hid (¬i7=iR):=Lib.hid (D1.out.ne R1.out)
   have CT:=and0 g a b d Kd
   clear Kd
   have mkS:∀ {w'},DB w' i7 (.int .i64 2) (Value.func (.func 58) #[] #[])→(w'.cell? ⟨i7,0,none⟩=some (.int .i64 2)∧w'.cell? ⟨i7,1,none⟩=some (Value.func (.func 58) #[] #[])):=fun h=>⟨h.c0,h.c1⟩
   have HS0:=mkS Dd.out
   go_region_held3 (fun w'=>w'.cell? ⟨i7,0,none⟩=some (.int .i64 2)∧w'.cell? ⟨i7,1,none⟩=some (Value.func (.func 58) #[] #[]))
    (first | with_reducible exact HS0 | with_reducible assumption | with_reducible exact HS8 _ _ _ _)
    (first | (go_at_call 58;(with_reducible refine CT.mono ?_);rintro e8 w8 ⟨rfl,q8⟩;have D8:=Lib.hid (Dd.out.below q8);have B8:=Lib.hid (bt (B1.out.drew) q8);have R8:=hF R1 (bt (drb wc) q8);have HS7:=mkS D8.out;have HS8:=fun x0 x1 x2 x3=>mkS (D8.out.other4 HNE.out x0 x1 x2 x3);clear mkS;obtain ⟨Rc0,Rc1,Rc2,Rc3,Rf0,Rf1,Rf2,Rf3⟩:=R8.out.cf;clear q8 CT))
   go_wp2_with fail
   exact ret4 6 rfl R8 B8 LR rfl rfl rfl
  ·skip
   obtain rfl:=hres.out
   obtain rfl:=hg
   dsimp only [fn0,fn1] at hdb
   have D1:=Lib.hid hdb;have B1:=hB B0 hbw;have R1:=hF R0 hbw;have K1:=Lib.hid (K0.out.below hbw)
   clear hres hdb hbw
   go_upto_region 25 with fail
   have Dd:=Lib.hid (D1.out.below (drb wc))
   have Kd:=K1.out.below (drb wc)
   have HNE:Hid (¬i7=iR):=Lib.hid (D1.out.ne R1.out)
   have CT:=not0 g a b d Kd
   clear Kd
   have mkS:∀ {w'},DB w' i7 (.int .i64 1) (Value.func (.func 60) #[] #[])→(w'.cell? ⟨i7,0,none⟩=some (.int .i64 1)∧w'.cell? ⟨i7,1,none⟩=some (Value.func (.func 60) #[] #[])):=fun h=>⟨h.c0,h.c1⟩
   have HS0:=mkS Dd.out
   go_region_held3 (fun w'=>w'.cell? ⟨i7,0,none⟩=some (.int .i64 1)∧w'.cell? ⟨i7,1,none⟩=some (Value.func (.func 60) #[] #[]))
    (first | with_reducible exact HS0 | with_reducible assumption | with_reducible exact HS8 _ _ _ _)
    (first | (go_at_call 60;(with_reducible refine CT.mono ?_);rintro e8 w8 ⟨rfl,q8⟩;have D8:=Lib.hid (Dd.out.below q8);have B8:=Lib.hid (bt (B1.out.drew) q8);have R8:=hF R1 (bt (drb wc) q8);have HS7:=mkS D8.out;have HS8:=fun x0 x1 x2 x3=>mkS (D8.out.other4 HNE.out x0 x1 x2 x3);clear mkS;obtain ⟨Rc0,Rc1,Rc2,Rc3,Rf0,Rf1,Rf2,Rf3⟩:=R8.out.cf;clear q8 CT))
   go_wp2_with fail
   exact ret4 6 rfl R8 B8 LR rfl rfl rfl
  ·skip
   obtain rfl:=hres.out
   obtain rfl:=hg
   dsimp only [fn0,fn1] at hdb
   have D1:=Lib.hid hdb;have B1:=hB B0 hbw;have R1:=hF R0 hbw;have K1:=Lib.hid (K0.out.below hbw)
   clear hres hdb hbw
   go_upto_region 25 with fail
   have Dd:=Lib.hid (D1.out.below (drb wc))
   have Kd:=K1.out.below (drb wc)
   have HNE:Hid (¬i7=iR):=Lib.hid (D1.out.ne R1.out)
   have CT:=eq8 g a b d HA.out HB.out Kd
   clear Kd
   have mkS:∀ {w'},DB w' i7 (.int .i64 2) (Value.func (.func 62) #[] #[])→(w'.cell? ⟨i7,0,none⟩=some (.int .i64 2)∧w'.cell? ⟨i7,1,none⟩=some (Value.func (.func 62) #[] #[])):=fun h=>⟨h.c0,h.c1⟩
   have HS0:=mkS Dd.out
   go_region_held3 (fun w'=>w'.cell? ⟨i7,0,none⟩=some (.int .i64 2)∧w'.cell? ⟨i7,1,none⟩=some (Value.func (.func 62) #[] #[]))
    (first | with_reducible exact HS0 | with_reducible assumption | with_reducible exact HS8 _ _ _ _)
    (first | (go_at_call 62;(with_reducible refine CT.mono ?_);rintro e8 w8 ⟨rfl,q8⟩;have D8:=Lib.hid (Dd.out.below q8);have B8:=Lib.hid (bt (B1.out.drew) q8);have R8:=hF R1 (bt (drb wc) q8);have HS7:=mkS D8.out;have HS8:=fun x0 x1 x2 x3=>mkS (D8.out.other4 HNE.out x0 x1 x2 x3);clear mkS;obtain ⟨Rc0,Rc1,Rc2,Rc3,Rf0,Rf1,Rf2,Rf3⟩:=R8.out.cf;clear q8 CT))
   go_wp2_with fail
   exact ret4 6 rfl R8 B8 LR rfl rfl rfl
  ·skip
   obtain rfl:=hres.out
   obtain rfl:=hg
   dsimp only [fn0,fn1] at hdb
   have D1:=Lib.hid hdb;have B1:=hB B0 hbw;have R1:=hF R0 hbw;have K1:=Lib.hid (K0.out.below hbw)
   clear hres hdb hbw
   go_upto_region 25 with fail
   have Dd:=Lib.hid (D1.out.below (drb wc))
   have Kd:=K1.out.below (drb wc)
   have HNE:Hid (¬i7=iR):=Lib.hid (D1.out.ne R1.out)
   have CT:=eq9 g a b d HA.out HB.out Kd
   clear Kd
   have mkS:∀ {w'},DB w' i7 (.int .i64 2) (Value.func (.func 64) #[] #[])→(w'.cell? ⟨i7,0,none⟩=some (.int .i64 2)∧w'.cell? ⟨i7,1,none⟩=some (Value.func (.func 64) #[] #[])):=fun h=>⟨h.c0,h.c1⟩
   have HS0:=mkS Dd.out
   go_region_held3 (fun w'=>w'.cell? ⟨i7,0,none⟩=some (.int .i64 2)∧w'.cell? ⟨i7,1,none⟩=some (Value.func (.func 64) #[] #[]))
    (first | with_reducible exact HS0 | with_reducible assumption | with_reducible exact HS8 _ _ _ _)
    (first | (go_at_call 64;(with_reducible refine CT.mono ?_);rintro e8 w8 ⟨rfl,q8⟩;have D8:=Lib.hid (Dd.out.below q8);have B8:=Lib.hid (bt (B1.out.drew) q8);have R8:=hF R1 (bt (drb wc) q8);have HS7:=mkS D8.out;have HS8:=fun x0 x1 x2 x3=>mkS (D8.out.other4 HNE.out x0 x1 x2 x3);clear mkS;obtain ⟨Rc0,Rc1,Rc2,Rc3,Rf0,Rf1,Rf2,Rf3⟩:=R8.out.cf;clear q8 CT))
   go_wp2_with fail
   exact ret4 6 rfl R8 B8 LR rfl rfl rfl
  ·skip
   obtain rfl:=hres.out
   obtain rfl:=hg
   dsimp only [fn0,fn1] at hdb
   have D1:=Lib.hid hdb;have B1:=hB B0 hbw;have R1:=hF R0 hbw;have K1:=Lib.hid (K0.out.below hbw)
   clear hres hdb hbw
   go_upto_region 25 with fail
   have Dd:=Lib.hid (D1.out.below (drb wc))
   have Kd:=K1.out.below (drb wc)
   have HNE:Hid (¬i7=iR):=Lib.hid (D1.out.ne R1.out)
   have CT:=if0 g a b d Kd
   clear Kd
   have mkS:∀ {w'},DB w' i7 (.int .i64 3) (Value.func (.func 81) #[] #[])→(w'.cell? ⟨i7,0,none⟩=some (.int .i64 3)∧w'.cell? ⟨i7,1,none⟩=some (Value.func (.func 81) #[] #[])):=fun h=>⟨h.c0,h.c1⟩
   have HS0:=mkS Dd.out
   go_region_held3 (fun w'=>w'.cell? ⟨i7,0,none⟩=some (.int .i64 3)∧w'.cell? ⟨i7,1,none⟩=some (Value.func (.func 81) #[] #[]))
    (first | with_reducible exact HS0 | with_reducible assumption | with_reducible exact HS8 _ _ _ _)
    (first | (go_at_call 81;(with_reducible refine CT.mono ?_);rintro e8 w8 ⟨rfl,q8⟩;have D8:=Lib.hid (Dd.out.below q8);have B8:=Lib.hid (bt (B1.out.drew) q8);have R8:=hF R1 (bt (drb wc) q8);have HS7:=mkS D8.out;have HS8:=fun x0 x1 x2 x3=>mkS (D8.out.other4 HNE.out x0 x1 x2 x3);clear mkS;obtain ⟨Rc0,Rc1,Rc2,Rc3,Rf0,Rf1,Rf2,Rf3⟩:=R8.out.cf;clear q8 CT))
   go_wp2_with fail
   exact ret4 6 rfl R8 B8 LR rfl rfl rfl
end Go.Proofs.YteagpbkbdlmdiaaGreat.Ev
namespace Go.Proofs.YteagpbkbdlmdiaaGreat.Ev
open Go Go.RowKit Dt Tx Va
attribute [local go_sem ↓] Go.wp_at_zero Go.wp_at_succ
theorem nodeV_other (n:Nd) (v a b d:V) (h:n.op<1∨30<n.op):nodeV n v a b d=badE 13:=by
 unfold nodeV winF
 have:∀ i:Int,1≤i→i≤30→¬n.op=i:=fun i _ _=>by omega
 have w:(decide (n.op=26∨n.op=27∨n.op=28∨n.op=29∨n.op=30))=false:=decide_eq_false (by omega)
 rw [w]
 rw [if_neg (by omega),if_neg (by omega),if_neg (by omega),if_neg (by simp;omega),if_neg (by omega),if_neg (by omega),if_neg (by omega),if_neg (by omega),if_neg (by omega),if_neg (by omega)]
end Go.Proofs.YteagpbkbdlmdiaaGreat.Ev
namespace Go.Proofs.YteagpbkbdlmdiaaGreat.Ev
open Go Go.ChangeMaps Go.RowKit Dt Tx Va
attribute [local go_sem ↓] Go.wp_at_zero Go.wp_at_succ
set_option maxRecDepth 100000 in
set_option maxHeartbeats 1000000 in
theorem node_other {w:World} (op:Int) (c s k x y z p:Int) (nm:List UInt8) {v a b d:V} (g:Nat) (hop:op<1∨30<op) (ho1:0≤op) (ho2:op≤255):Calls Tryz.prog 24 #[an ⟨op,c,s,nm,k,x,y,z,p⟩,av v,.slice (some ⟨g,0,none⟩) 3 3] w (VP (badE 13) w):=by
 have hno:∀ m,(op,m) ∉ opsL:=fun m h=>by
  simp only [opsL,List.mem_cons,Prod.mk.injEq,List.mem_nil_iff,or_false] at h
  omega
 have o1:decide (op=1)=false:=decide_eq_false (by omega)
 have u1:(op==1)=false:=by simp;omega
 have o2:decide (op=2)=false:=decide_eq_false (by omega)
 have u2:(op==2)=false:=by simp;omega
 have o3:decide (op=3)=false:=decide_eq_false (by omega)
 have u3:(op==3)=false:=by simp;omega
 have o4:decide (op=4)=false:=decide_eq_false (by omega)
 have u4:(op==4)=false:=by simp;omega
 have o24:decide (op=24)=false:=decide_eq_false (by omega)
 have u24:(op==24)=false:=by simp;omega
 have o25:decide (op=25)=false:=decide_eq_false (by omega)
 have u25:(op==25)=false:=by simp;omega
 have o26:decide (op=26)=false:=decide_eq_false (by omega)
 have u26:(op==26)=false:=by simp;omega
 have o27:decide (op=27)=false:=decide_eq_false (by omega)
 have u27:(op==27)=false:=by simp;omega
 have o28:decide (op=28)=false:=decide_eq_false (by omega)
 have u28:(op==28)=false:=by simp;omega
 have o29:decide (op=29)=false:=decide_eq_false (by omega)
 have u29:(op==29)=false:=by simp;omega
 have o30:decide (op=30)=false:=decide_eq_false (by omega)
 have u30:(op==30)=false:=by simp;omega
 clear hop
 try dsimp only [av,an,ao]
 go_enter Tryz.func24,Tryz.ntmps24
 go_upto_region 1 with fail
 obtain ⟨W0,iN,iU,iR,hW,hN,hU,hR,N0,U0,R0,B0,LN,LU,LR,LI,LS⟩:=mkNVZ w ⟨op,c,s,nm,k,x,y,z,p⟩ v
 rw [hW.out];try rw [hR.out];try rw [hU.out];try rw [hN.out]
 clear hW hN hU hR
 have Nc0:=N0.out.c0
 have HO1:=Lib.hid ho1;have HO2:=Lib.hid ho2;have HNO:=Lib.hid hno
 clear ho1 ho2 hno
 go_upto_region 22 with fail
 go_cut [7,8] (fun p7 ok8 wx=>ok8=.bool false∧Below W0.heap.size W0 wx)
 case first=>
  have mkS:∀ w',Below W0.heap.size W0 w'→(Below W0.heap.size W0 w'∧w'.cell? ⟨iN,0,none⟩=some (.int .u8 op)∧w'.cell? ⟨iN,4,none⟩=some (.int .i64 k)):=fun w' hb=>⟨hb,(N0.out.below hb).c0,(N0.out.below hb).c4⟩
  have HS0:=mkS _ ((Below.refl _ _).drew)
  go_region_held3 (fun w'=>Below W0.heap.size W0 w'∧w'.cell? ⟨iN,0,none⟩=some (.int .u8 op)∧w'.cell? ⟨iN,4,none⟩=some (.int .i64 k))
   (first | with_reducible exact HS0 | with_reducible assumption | (refine mkS _ ?_;(repeat (first | with_reducible exact And.left (by with_reducible assumption) | with_reducible exact Below.refl _ _ | refine Below.setCell ?_ (by first | omega | (simp only [World.size_alloc,hdrew];omega) | (simp<;>omega)) _ | refine Below.alloc ?_ (by first | omega | (simp only [World.size_alloc,hdrew];omega) | (simp<;>omega)) _ | refine Below.drew ?_))))
   (first | (go_at_call 35;(with_reducible refine (ops_is (w:=_) k).mono ?_);rintro e20 w20 ⟨bm,T,rfl,hM,hT,b20⟩;have HS20:=mkS _ (bt (And.left (by assumption)) b20);have T20:=Lib.hid (HS20.1);have zz20:=Below.size T20.out;have hlk:=look_none HNO.out HO1.out HO2.out hM hT;clear hM hT;have lk0:=hlk _ (Below.refl _ _);have lk1:=hlk _ (ba _ (.cells #[.int .i64 0,.nilFunc] 72));clear hlk;(try replace b20:=undrew b20);(first | (have QA:=DB.below (DB.new _ _ _) b20;(try simp only [World.size_alloc,hdrew] at QA);have QA:=Lib.hid QA;have qa0:=QA.out.c0;have qa1:=QA.out.c1;have qf0:=QA.out.f 0;have qf1:=QA.out.f 1;clear b20) | clear b20)))
  all_goals
   dsimp only [Exit.then]
   refine ‹∀ (a':Act) (w':World),Met _ a' w'→_› _ _ ?_
   go_meet
   case rel=>exact ⟨rfl,by (repeat (first | with_reducible exact And.left (by with_reducible assumption) | with_reducible exact Below.refl _ _ | refine Below.setCell ?_ (by first | omega | (simp only [World.size_alloc,hdrew];omega) | (simp<;>omega)) _ | refine Below.alloc ?_ (by first | omega | (simp only [World.size_alloc,hdrew];omega) | (simp<;>omega)) _ | refine Below.drew ?_))⟩
 case rest=>
  obtain ⟨rfl,hbw⟩:=hcut
  have B1:=Lib.hid (bt B0.out hbw);have R1:=Lib.hid (R0.out.below hbw)
  clear hbw Nc0
  go_wp2_with (go_at_call 23;(with_reducible refine (bad_vp (w:=_) 13).mono ?_);rintro e8 w8 ⟨rfl,q8⟩;have B8:=Lib.hid (bt B1.out q8);have R8:=Lib.hid (R1.out.below q8);have Rc0:=R8.out.c0;have Rf0:=R8.out.f 0;have Rc1:=R8.out.c1;have Rf1:=R8.out.f 1;have Rc2:=R8.out.c2;have Rf2:=R8.out.f 2;have Rc3:=R8.out.c3;have Rf3:=R8.out.f 3;clear q8)
  exact ret4 6 rfl R8 B8 LR rfl rfl rfl
theorem node_vp {w:World} (n:Nd) {v a b d:V} (g:Nat) (hn:n.ok) (ha:V.fine a) (hb:V.fine b) (hk:K3 w g a b d):Calls Tryz.prog 24 #[an n,av v,.slice (some ⟨g,0,none⟩) 3 3] w (VP (nodeV n v a b d) w):=by
 have hc:=hn.2.1
 have ho:=hn.1
 by_cases h:n.op<1∨30<n.op
 ·rw [nodeV_other n v a b d h]
  obtain ⟨op,c,s,nm,k,x,y,z,p⟩:=n
  exact node_other (a:=a) (b:=b) (d:=d) op c s k x y z p nm g h ho.1 ho.2
 ·obtain ⟨op,c,s,nm,k,x,y,z,p⟩:=n
  simp only at h hc⊢
  have h1:1≤op∧op≤30:=by omega
  have:op=1∨op=2∨op=3∨op=4∨op=5∨op=6∨op=7∨op=8∨op=9∨op=10∨op=11∨op=12∨op=13∨op=14∨op=15∨op=16∨op=17∨op=18∨op=19∨op=20∨op=21∨op=22∨op=23∨op=24∨op=25∨op=26∨op=27∨op=28∨op=29∨op=30:=by omega
  clear h h1 ho hn
  rcases this with rfl | rfl | rfl | rfl | rfl | rfl | rfl | rfl | rfl | rfl | rfl | rfl | rfl | rfl | rfl | rfl | rfl | rfl | rfl | rfl | rfl | rfl | rfl | rfl | rfl | rfl | rfl | rfl | rfl | rfl
  ·exact node_1 (v:=v) (a:=a) (b:=b) (d:=d) c s k x y z p nm g hc
  ·exact node_2 (v:=v) (a:=a) (b:=b) (d:=d) c s k x y z p nm g
  ·exact node_3 (v:=v) (a:=a) (b:=b) (d:=d) c s k x y z p nm g
  ·exact node_4 (v:=v) (a:=a) (b:=b) (d:=d) c s k x y z p nm g
  ·exact node_map 5 2 (by decide) c s k x y z p nm g ha hb hk
  ·exact node_map 6 2 (by decide) c s k x y z p nm g ha hb hk
  ·exact node_map 7 1 (by decide) c s k x y z p nm g ha hb hk
  ·exact node_map 8 2 (by decide) c s k x y z p nm g ha hb hk
  ·exact node_map 9 2 (by decide) c s k x y z p nm g ha hb hk
  ·exact node_map 10 2 (by decide) c s k x y z p nm g ha hb hk
  ·exact node_map 11 2 (by decide) c s k x y z p nm g ha hb hk
  ·exact node_map 12 2 (by decide) c s k x y z p nm g ha hb hk
  ·exact node_map 13 2 (by decide) c s k x y z p nm g ha hb hk
  ·exact node_map 14 2 (by decide) c s k x y z p nm g ha hb hk
  ·exact node_map 15 2 (by decide) c s k x y z p nm g ha hb hk
  ·exact node_map 16 2 (by decide) c s k x y z p nm g ha hb hk
  ·exact node_map 17 2 (by decide) c s k x y z p nm g ha hb hk
  ·exact node_map 18 1 (by decide) c s k x y z p nm g ha hb hk
  ·exact node_map 19 3 (by decide) c s k x y z p nm g ha hb hk
  ·exact node_map 20 2 (by decide) c s k x y z p nm g ha hb hk
  ·exact node_map 21 2 (by decide) c s k x y z p nm g ha hb hk
  ·exact node_map 22 1 (by decide) c s k x y z p nm g ha hb hk
  ·exact node_map 23 1 (by decide) c s k x y z p nm g ha hb hk
  ·exact node_24 (v:=v) (a:=a) (b:=b) (d:=d) c s k x y z p nm g
  ·exact node_25 c s k x y z p nm g hk
  ·exact node_26 (v:=v) (a:=a) (b:=b) (d:=d) c s k x y z p nm g
  ·exact node_27 (v:=v) (a:=a) (b:=b) (d:=d) c s k x y z p nm g
  ·exact node_28 (v:=v) (a:=a) (b:=b) (d:=d) c s k x y z p nm g
  ·exact node_29 (v:=v) (a:=a) (b:=b) (d:=d) c s k x y z p nm g
  ·exact node_30 (v:=v) (a:=a) (b:=b) (d:=d) c s k x y z p nm g
end Go.Proofs.YteagpbkbdlmdiaaGreat.Ev
