/-
  eval and its document: operand, walked; eval and its document: the place of an operand, walked.
-/
import Derived.Test.YteagpbkbdlmdiaaGreatM30
import Derived.Test.YteagpbkbdlmdiaaGreatM24
import Derived.Laws.StructEq
import Derived.BigQuiet
import Derived.Deep.QuietTactic
/- eval and its document: operand, walked. -/
namespace Go.Proofs.YteagpbkbdlmdiaaGreat.Ev
set_option maxRecDepth 100000
open Go Go.RowKit Dt Tx Va
set_option linter.unusedSimpArgs false
set_option linter.unusedVariables false
attribute [local go_sem ↓] Go.wp_at_zero Go.wp_at_succ
def ndE:Elem Tryz.prog Nd where
 sl:=22
 e:=39
 sz:=9
 bytes:=80
 z:=.agg #[.int .u8 0,.int .i64 0,.int .i64 0,.string ⟨#[]⟩,.int .i64 0,.int .i64 0,.int .i64 0,.int .i64 0,.int .i64 0]
 enc:=fun n=>[.int .u8 n.op,.int .i64 n.c,.int .i64 n.s,.string (bs n.n),.int .i64 n.k,.int .i64 n.x,.int .i64 n.y,.int .i64 n.z,.int .i64 n.p]
 und:=Tryz.underlying22
 info:=by kernel_rfl
 zs:=rfl
 pos:=by decide
 len:=fun _=>rfl
 one:=fun x u hu=>by simp only [List.mem_cons,List.not_mem_nil,or_false] at hu;rcases hu with rfl | rfl | rfl | rfl | rfl | rfl | rfl | rfl | rfl<;>rfl
def opE:Elem Tryz.prog Opd where
 sl:=27
 e:=43
 sz:=3
 bytes:=32
 z:=.agg #[.int .u8 0,.string ⟨#[]⟩,.int .i64 0]
 enc:=fun q=>[.int .u8 q.op,.string (bs q.n),.int .i64 q.k]
 und:=Tryz.underlying27
 info:=by kernel_rfl
 zs:=rfl
 pos:=by decide
 len:=fun _=>rfl
 one:=fun x u hu=>by simp only [List.mem_cons,List.not_mem_nil,or_false] at hu;rcases hu with rfl | rfl | rfl<;>rfl
def vaE:Elem Tryz.prog V where
 sl:=24
 e:=33
 sz:=4
 bytes:=32
 z:=.agg #[.int .u8 0,.int .i64 0,.int .i64 0,.int .i64 0]
 enc:=fun v=>[.int .u8 v.k,.int .i64 v.c,.int .i64 v.s,.int .i64 v.e]
 und:=Tryz.underlying24
 info:=by kernel_rfl
 zs:=rfl
 pos:=by decide
 len:=fun _=>rfl
 one:=fun x u hu=>by simp only [List.mem_cons,List.not_mem_nil,or_false] at hu;rcases hu with rfl | rfl | rfl | rfl<;>rfl
theorem OpdB.new (w:World) (q:Opd):OpdB (w.alloc (.cells #[.int .u8 q.op,.string (bs q.n),.int .i64 q.k] 43)) w.heap.size q:=heap_alloc_new w _
theorem OpdB.set {w:World} {b:Nat} {q:Opd} (h:OpdB w b q) (r:Opd):OpdB (((w.setCell ⟨b,0,none⟩ (.int .u8 r.op)).setCell ⟨b,1,none⟩ (.string (bs r.n))).setCell ⟨b,2,none⟩ (.int .i64 r.k)) b r:=by
 have h1:(w.setCell ⟨b,0,none⟩ (.int .u8 r.op)).heap[b]?=some (.cells #[.int .u8 r.op,.string (bs q.n),.int .i64 q.k] 43 (0,0)):=by rw [heap_setCell_same w b 0 _ _ _ h];rfl
 have h2:((w.setCell ⟨b,0,none⟩ (.int .u8 r.op)).setCell ⟨b,1,none⟩ (.string (bs r.n))).heap[b]?=some (.cells #[.int .u8 r.op,.string (bs r.n),.int .i64 q.k] 43 (0,0)):=by rw [heap_setCell_same _ b 1 _ _ _ h1];rfl
 show _=_
 rw [heap_setCell_same _ b 2 _ _ _ h2];rfl
theorem below_set3 {B g:Nat} {a w:World} (h:Below B a w) (hg:B≤g) (x0 x1 x2:Value):Below B a (((w.setCell ⟨g,0,none⟩ x0).setCell ⟨g,1,none⟩ x1).setCell ⟨g,2,none⟩ x2):=
 Below.setCell (Below.setCell (Below.setCell h (p:=⟨g,0,none⟩) hg _) (p:=⟨g,1,none⟩) hg _) (p:=⟨g,2,none⟩) hg _
theorem results_cellO {fn:Func} {p u:Tmp} (h:fn.results=#[.cell p 43,.tmp u]) (tmps:Array Value) (w:World) (g:Nat) (q:Opd) (hp:tmps.getD p undef=.pointer (some ⟨g,0,none⟩)) (hg:OpdB w g q) :
  (results fn tmps).run Tryz.prog w=.ok (.tuple #[.agg #[.int .u8 q.op,.string (bs q.n),.int .i64 q.k],tmps.getD u undef]) w:=
 results_cell2 h tmps w g _ _ (0,0) _ hp hg Tryz.underlying43 rfl (by kernel_rfl)
def OP (r:Option Opd) (w:World) (e:Ending) (w':World):Prop:=e=.returned (.tuple #[.agg #[.int .u8 (r.getD noO).op,.string (bs (r.getD noO).n),.int .i64 (r.getD noO).k],.bool r.isSome])∧Below w.heap.size w w'
theorem opd_4 {w:World} (c s k x y z p:Int) (nm:List UInt8):Calls Tryz.prog 17 #[an ⟨4,c,s,nm,k,x,y,z,p⟩] w (OP (some ⟨4,nm,0⟩) w):=by
 obtain ⟨S,hS⟩:∃ S,Hid (bs nm=S):=⟨_,Lib.hid rfl⟩
 try dsimp only [av,an,ao]
 go_enter Tryz.func17,Tryz.ntmps17
 go_upto_region 1 with fail
 obtain ⟨W0,iN,iR,hW,hN,hR,N0,R0,B0,LN,LR,LI,LS⟩:=mkNQ w ⟨4,c,s,nm,k,x,y,z,p⟩
 rw [hW.out];try rw [hR.out];try rw [hN.out]
 clear hW hN hR
 have Nc0:=N0.out.c0;have Nc3:=N0.out.c3
 have Rc0:=R0.out.c0;have Rc1:=R0.out.c1;have Rc2:=R0.out.c2;have Rf0:=R0.out.f 0;have Rf1:=R0.out.f 1;have Rf2:=R0.out.f 2
 go_wp2_with fail
 exact bodyPost_ret (v:=.tuple #[.agg #[.int .u8 _,.string _,.int .i64 _],.bool _]) (results_cellO (fn:=Tryz.f17) (p:=2) (u:=3) rfl _ _ iR ⟨4,nm,0⟩ rfl (R0.out.set ⟨4,nm,0⟩)) rfl ⟨rfl,below_set3 B0.out LR.out _ _ _⟩
theorem opd_24 {w:World} (c s k x y z p:Int) (nm:List UInt8):Calls Tryz.prog 17 #[an ⟨24,c,s,nm,k,x,y,z,p⟩] w (OP (some ⟨4,nm,0⟩) w):=by
 obtain ⟨S,hS⟩:∃ S,Hid (bs nm=S):=⟨_,Lib.hid rfl⟩
 try dsimp only [av,an,ao]
 go_enter Tryz.func17,Tryz.ntmps17
 go_upto_region 1 with fail
 obtain ⟨W0,iN,iR,hW,hN,hR,N0,R0,B0,LN,LR,LI,LS⟩:=mkNQ w ⟨24,c,s,nm,k,x,y,z,p⟩
 rw [hW.out];try rw [hR.out];try rw [hN.out]
 clear hW hN hR
 have Nc0:=N0.out.c0;have Nc3:=N0.out.c3
 have Rc0:=R0.out.c0;have Rc1:=R0.out.c1;have Rc2:=R0.out.c2;have Rf0:=R0.out.f 0;have Rf1:=R0.out.f 1;have Rf2:=R0.out.f 2
 go_wp2_with fail
 exact bodyPost_ret (v:=.tuple #[.agg #[.int .u8 _,.string _,.int .i64 _],.bool _]) (results_cellO (fn:=Tryz.f17) (p:=2) (u:=3) rfl _ _ iR ⟨4,nm,0⟩ rfl (R0.out.set ⟨4,nm,0⟩)) rfl ⟨rfl,below_set3 B0.out LR.out _ _ _⟩
theorem opd_25 {w:World} (c s k x y z p:Int) (nm:List UInt8):Calls Tryz.prog 17 #[an ⟨25,c,s,nm,k,x,y,z,p⟩] w (OP (some ⟨4,nm,0⟩) w):=by
 obtain ⟨S,hS⟩:∃ S,Hid (bs nm=S):=⟨_,Lib.hid rfl⟩
 try dsimp only [av,an,ao]
 go_enter Tryz.func17,Tryz.ntmps17
 go_upto_region 1 with fail
 obtain ⟨W0,iN,iR,hW,hN,hR,N0,R0,B0,LN,LR,LI,LS⟩:=mkNQ w ⟨25,c,s,nm,k,x,y,z,p⟩
 rw [hW.out];try rw [hR.out];try rw [hN.out]
 clear hW hN hR
 have Nc0:=N0.out.c0;have Nc3:=N0.out.c3
 have Rc0:=R0.out.c0;have Rc1:=R0.out.c1;have Rc2:=R0.out.c2;have Rf0:=R0.out.f 0;have Rf1:=R0.out.f 1;have Rf2:=R0.out.f 2
 go_wp2_with fail
 exact bodyPost_ret (v:=.tuple #[.agg #[.int .u8 _,.string _,.int .i64 _],.bool _]) (results_cellO (fn:=Tryz.f17) (p:=2) (u:=3) rfl _ _ iR ⟨4,nm,0⟩ rfl (R0.out.set ⟨4,nm,0⟩)) rfl ⟨rfl,below_set3 B0.out LR.out _ _ _⟩
theorem opd_26 {w:World} (c s k x y z p:Int) (nm:List UInt8):Calls Tryz.prog 17 #[an ⟨26,c,s,nm,k,x,y,z,p⟩] w (OP (some ⟨26,nm,k⟩) w):=by
 obtain ⟨S,hS⟩:∃ S,Hid (bs nm=S):=⟨_,Lib.hid rfl⟩
 try dsimp only [av,an,ao]
 go_enter Tryz.func17,Tryz.ntmps17
 go_upto_region 1 with fail
 obtain ⟨W0,iN,iR,hW,hN,hR,N0,R0,B0,LN,LR,LI,LS⟩:=mkNQ w ⟨26,c,s,nm,k,x,y,z,p⟩
 rw [hW.out];try rw [hR.out];try rw [hN.out]
 clear hW hN hR
 have Nc0:=N0.out.c0;have Nc3:=N0.out.c3;have Nc4:=N0.out.c4
 have Rc0:=R0.out.c0;have Rc1:=R0.out.c1;have Rc2:=R0.out.c2;have Rf0:=R0.out.f 0;have Rf1:=R0.out.f 1;have Rf2:=R0.out.f 2
 go_wp2_with fail
 exact bodyPost_ret (v:=.tuple #[.agg #[.int .u8 _,.string _,.int .i64 _],.bool _]) (results_cellO (fn:=Tryz.f17) (p:=2) (u:=3) rfl _ _ iR ⟨26,nm,k⟩ rfl (R0.out.set ⟨26,nm,k⟩)) rfl ⟨rfl,below_set3 B0.out LR.out _ _ _⟩
theorem opd_27 {w:World} (c s k x y z p:Int) (nm:List UInt8):Calls Tryz.prog 17 #[an ⟨27,c,s,nm,k,x,y,z,p⟩] w (OP (some ⟨27,nm,k⟩) w):=by
 obtain ⟨S,hS⟩:∃ S,Hid (bs nm=S):=⟨_,Lib.hid rfl⟩
 try dsimp only [av,an,ao]
 go_enter Tryz.func17,Tryz.ntmps17
 go_upto_region 1 with fail
 obtain ⟨W0,iN,iR,hW,hN,hR,N0,R0,B0,LN,LR,LI,LS⟩:=mkNQ w ⟨27,c,s,nm,k,x,y,z,p⟩
 rw [hW.out];try rw [hR.out];try rw [hN.out]
 clear hW hN hR
 have Nc0:=N0.out.c0;have Nc3:=N0.out.c3;have Nc4:=N0.out.c4
 have Rc0:=R0.out.c0;have Rc1:=R0.out.c1;have Rc2:=R0.out.c2;have Rf0:=R0.out.f 0;have Rf1:=R0.out.f 1;have Rf2:=R0.out.f 2
 go_wp2_with fail
 exact bodyPost_ret (v:=.tuple #[.agg #[.int .u8 _,.string _,.int .i64 _],.bool _]) (results_cellO (fn:=Tryz.f17) (p:=2) (u:=3) rfl _ _ iR ⟨27,nm,k⟩ rfl (R0.out.set ⟨27,nm,k⟩)) rfl ⟨rfl,below_set3 B0.out LR.out _ _ _⟩
theorem opd_28 {w:World} (c s k x y z p:Int) (nm:List UInt8):Calls Tryz.prog 17 #[an ⟨28,c,s,nm,k,x,y,z,p⟩] w (OP (some ⟨28,nm,k⟩) w):=by
 obtain ⟨S,hS⟩:∃ S,Hid (bs nm=S):=⟨_,Lib.hid rfl⟩
 try dsimp only [av,an,ao]
 go_enter Tryz.func17,Tryz.ntmps17
 go_upto_region 1 with fail
 obtain ⟨W0,iN,iR,hW,hN,hR,N0,R0,B0,LN,LR,LI,LS⟩:=mkNQ w ⟨28,c,s,nm,k,x,y,z,p⟩
 rw [hW.out];try rw [hR.out];try rw [hN.out]
 clear hW hN hR
 have Nc0:=N0.out.c0;have Nc3:=N0.out.c3;have Nc4:=N0.out.c4
 have Rc0:=R0.out.c0;have Rc1:=R0.out.c1;have Rc2:=R0.out.c2;have Rf0:=R0.out.f 0;have Rf1:=R0.out.f 1;have Rf2:=R0.out.f 2
 go_wp2_with fail
 exact bodyPost_ret (v:=.tuple #[.agg #[.int .u8 _,.string _,.int .i64 _],.bool _]) (results_cellO (fn:=Tryz.f17) (p:=2) (u:=3) rfl _ _ iR ⟨28,nm,k⟩ rfl (R0.out.set ⟨28,nm,k⟩)) rfl ⟨rfl,below_set3 B0.out LR.out _ _ _⟩
theorem opd_29 {w:World} (c s k x y z p:Int) (nm:List UInt8):Calls Tryz.prog 17 #[an ⟨29,c,s,nm,k,x,y,z,p⟩] w (OP (some ⟨29,nm,k⟩) w):=by
 obtain ⟨S,hS⟩:∃ S,Hid (bs nm=S):=⟨_,Lib.hid rfl⟩
 try dsimp only [av,an,ao]
 go_enter Tryz.func17,Tryz.ntmps17
 go_upto_region 1 with fail
 obtain ⟨W0,iN,iR,hW,hN,hR,N0,R0,B0,LN,LR,LI,LS⟩:=mkNQ w ⟨29,c,s,nm,k,x,y,z,p⟩
 rw [hW.out];try rw [hR.out];try rw [hN.out]
 clear hW hN hR
 have Nc0:=N0.out.c0;have Nc3:=N0.out.c3;have Nc4:=N0.out.c4
 have Rc0:=R0.out.c0;have Rc1:=R0.out.c1;have Rc2:=R0.out.c2;have Rf0:=R0.out.f 0;have Rf1:=R0.out.f 1;have Rf2:=R0.out.f 2
 go_wp2_with fail
 exact bodyPost_ret (v:=.tuple #[.agg #[.int .u8 _,.string _,.int .i64 _],.bool _]) (results_cellO (fn:=Tryz.f17) (p:=2) (u:=3) rfl _ _ iR ⟨29,nm,k⟩ rfl (R0.out.set ⟨29,nm,k⟩)) rfl ⟨rfl,below_set3 B0.out LR.out _ _ _⟩
theorem opd_30 {w:World} (c s k x y z p:Int) (nm:List UInt8):Calls Tryz.prog 17 #[an ⟨30,c,s,nm,k,x,y,z,p⟩] w (OP (some ⟨30,nm,k⟩) w):=by
 obtain ⟨S,hS⟩:∃ S,Hid (bs nm=S):=⟨_,Lib.hid rfl⟩
 try dsimp only [av,an,ao]
 go_enter Tryz.func17,Tryz.ntmps17
 go_upto_region 1 with fail
 obtain ⟨W0,iN,iR,hW,hN,hR,N0,R0,B0,LN,LR,LI,LS⟩:=mkNQ w ⟨30,c,s,nm,k,x,y,z,p⟩
 rw [hW.out];try rw [hR.out];try rw [hN.out]
 clear hW hN hR
 have Nc0:=N0.out.c0;have Nc3:=N0.out.c3;have Nc4:=N0.out.c4
 have Rc0:=R0.out.c0;have Rc1:=R0.out.c1;have Rc2:=R0.out.c2;have Rf0:=R0.out.f 0;have Rf1:=R0.out.f 1;have Rf2:=R0.out.f 2
 go_wp2_with fail
 exact bodyPost_ret (v:=.tuple #[.agg #[.int .u8 _,.string _,.int .i64 _],.bool _]) (results_cellO (fn:=Tryz.f17) (p:=2) (u:=3) rfl _ _ iR ⟨30,nm,k⟩ rfl (R0.out.set ⟨30,nm,k⟩)) rfl ⟨rfl,below_set3 B0.out LR.out _ _ _⟩
theorem opd_op {w:World} (op:Int) (c s k x y z p:Int) (nm:List UInt8) (hop:oneF op=false) (hop2:winF op=false):Calls Tryz.prog 17 #[an ⟨op,c,s,nm,k,x,y,z,p⟩] w (OP (none) w):=by
 have o4:decide (op=4)=false:=decide_eq_false (by have h1:=of_decide_eq_false hop;have h2:=of_decide_eq_false hop2;omega)
 have u4:(op==4)=false:=by have h1:=of_decide_eq_false hop;have h2:=of_decide_eq_false hop2;simp;omega
 have o24:decide (op=24)=false:=decide_eq_false (by have h1:=of_decide_eq_false hop;have h2:=of_decide_eq_false hop2;omega)
 have u24:(op==24)=false:=by have h1:=of_decide_eq_false hop;have h2:=of_decide_eq_false hop2;simp;omega
 have o25:decide (op=25)=false:=decide_eq_false (by have h1:=of_decide_eq_false hop;have h2:=of_decide_eq_false hop2;omega)
 have u25:(op==25)=false:=by have h1:=of_decide_eq_false hop;have h2:=of_decide_eq_false hop2;simp;omega
 have o26:decide (op=26)=false:=decide_eq_false (by have h1:=of_decide_eq_false hop;have h2:=of_decide_eq_false hop2;omega)
 have u26:(op==26)=false:=by have h1:=of_decide_eq_false hop;have h2:=of_decide_eq_false hop2;simp;omega
 have o27:decide (op=27)=false:=decide_eq_false (by have h1:=of_decide_eq_false hop;have h2:=of_decide_eq_false hop2;omega)
 have u27:(op==27)=false:=by have h1:=of_decide_eq_false hop;have h2:=of_decide_eq_false hop2;simp;omega
 have o28:decide (op=28)=false:=decide_eq_false (by have h1:=of_decide_eq_false hop;have h2:=of_decide_eq_false hop2;omega)
 have u28:(op==28)=false:=by have h1:=of_decide_eq_false hop;have h2:=of_decide_eq_false hop2;simp;omega
 have o29:decide (op=29)=false:=decide_eq_false (by have h1:=of_decide_eq_false hop;have h2:=of_decide_eq_false hop2;omega)
 have u29:(op==29)=false:=by have h1:=of_decide_eq_false hop;have h2:=of_decide_eq_false hop2;simp;omega
 have o30:decide (op=30)=false:=decide_eq_false (by have h1:=of_decide_eq_false hop;have h2:=of_decide_eq_false hop2;omega)
 have u30:(op==30)=false:=by have h1:=of_decide_eq_false hop;have h2:=of_decide_eq_false hop2;simp;omega
 clear hop hop2
 obtain ⟨S,hS⟩:∃ S,Hid (bs nm=S):=⟨_,Lib.hid rfl⟩
 try dsimp only [av,an,ao]
 go_enter Tryz.func17,Tryz.ntmps17
 go_upto_region 1 with fail
 obtain ⟨W0,iN,iR,hW,hN,hR,N0,R0,B0,LN,LR,LI,LS⟩:=mkNQ w ⟨op,c,s,nm,k,x,y,z,p⟩
 rw [hW.out];try rw [hR.out];try rw [hN.out]
 clear hW hN hR
 have Nc0:=N0.out.c0
 have Rc0:=R0.out.c0;have Rc1:=R0.out.c1;have Rc2:=R0.out.c2;have Rf0:=R0.out.f 0;have Rf1:=R0.out.f 1;have Rf2:=R0.out.f 2
 go_wp2_with fail
 exact bodyPost_ret (v:=.tuple #[.agg #[.int .u8 _,.string _,.int .i64 _],.bool _]) (results_cellO (fn:=Tryz.f17) (p:=2) (u:=3) rfl _ _ iR noO rfl (R0.out.set noO)) rfl ⟨rfl,below_set3 B0.out LR.out _ _ _⟩
theorem opd_is {w:World} (n:Nd):Calls Tryz.prog 17 #[an n] w (OP (opdOf n) w):=by
 obtain ⟨op,c,s,nm,k,x,y,z,p⟩:=n
 unfold opdOf
 cases h1:oneF op
 ·cases h2:winF op
  ·simp only [Bool.false_eq_true,if_false]
   exact opd_op op c s k x y z p nm h1 h2
  ·simp only [Bool.false_eq_true,if_false,if_true]
   have:=of_decide_eq_true h2
   clear h1 h2
   rcases this with rfl | rfl | rfl | rfl | rfl
   ·exact opd_26 c s k x y z p nm
   ·exact opd_27 c s k x y z p nm
   ·exact opd_28 c s k x y z p nm
   ·exact opd_29 c s k x y z p nm
   ·exact opd_30 c s k x y z p nm
 ·simp only [if_true]
  have:=of_decide_eq_true h1
  clear h1
  rcases this with rfl | rfl | rfl
  ·exact opd_4 c s k x y z p nm
  ·exact opd_24 c s k x y z p nm
  ·exact opd_25 c s k x y z p nm
theorem ropd_4 {w:World} (c s k x y z p:Int) (nm:List UInt8):Calls Tryz.prog 19 #[an ⟨4,c,s,nm,k,x,y,z,p⟩] w (OP (some ⟨4,nm,0⟩) w):=by
 obtain ⟨S,hS⟩:∃ S,Hid (bs nm=S):=⟨_,Lib.hid rfl⟩
 try dsimp only [av,an,ao]
 go_enter Tryz.func19,Tryz.ntmps19
 go_upto_region 1 with fail
 obtain ⟨W0,iN,iR,hW,hN,hR,N0,R0,B0,LN,LR,LI,LS⟩:=mkNQ w ⟨4,c,s,nm,k,x,y,z,p⟩
 rw [hW.out];try rw [hR.out];try rw [hN.out]
 clear hW hN hR
 have Nc0:=N0.out.c0;have Nc3:=N0.out.c3
 have Rc0:=R0.out.c0;have Rc1:=R0.out.c1;have Rc2:=R0.out.c2;have Rf0:=R0.out.f 0;have Rf1:=R0.out.f 1;have Rf2:=R0.out.f 2
 go_wp2_with fail
 exact bodyPost_ret (v:=.tuple #[.agg #[.int .u8 _,.string _,.int .i64 _],.bool _]) (results_cellO (fn:=Tryz.f19) (p:=2) (u:=3) rfl _ _ iR ⟨4,nm,0⟩ rfl (R0.out.set ⟨4,nm,0⟩)) rfl ⟨rfl,below_set3 B0.out LR.out _ _ _⟩
theorem ropd_24 {w:World} (c s k x y z p:Int) (nm:List UInt8):Calls Tryz.prog 19 #[an ⟨24,c,s,nm,k,x,y,z,p⟩] w (OP (some ⟨4,nm,0⟩) w):=by
 obtain ⟨S,hS⟩:∃ S,Hid (bs nm=S):=⟨_,Lib.hid rfl⟩
 try dsimp only [av,an,ao]
 go_enter Tryz.func19,Tryz.ntmps19
 go_upto_region 1 with fail
 obtain ⟨W0,iN,iR,hW,hN,hR,N0,R0,B0,LN,LR,LI,LS⟩:=mkNQ w ⟨24,c,s,nm,k,x,y,z,p⟩
 rw [hW.out];try rw [hR.out];try rw [hN.out]
 clear hW hN hR
 have Nc0:=N0.out.c0;have Nc3:=N0.out.c3
 have Rc0:=R0.out.c0;have Rc1:=R0.out.c1;have Rc2:=R0.out.c2;have Rf0:=R0.out.f 0;have Rf1:=R0.out.f 1;have Rf2:=R0.out.f 2
 go_wp2_with fail
 exact bodyPost_ret (v:=.tuple #[.agg #[.int .u8 _,.string _,.int .i64 _],.bool _]) (results_cellO (fn:=Tryz.f19) (p:=2) (u:=3) rfl _ _ iR ⟨4,nm,0⟩ rfl (R0.out.set ⟨4,nm,0⟩)) rfl ⟨rfl,below_set3 B0.out LR.out _ _ _⟩
theorem ropd_25 {w:World} (c s k x y z p:Int) (nm:List UInt8):Calls Tryz.prog 19 #[an ⟨25,c,s,nm,k,x,y,z,p⟩] w (OP (some ⟨4,nm,0⟩) w):=by
 obtain ⟨S,hS⟩:∃ S,Hid (bs nm=S):=⟨_,Lib.hid rfl⟩
 try dsimp only [av,an,ao]
 go_enter Tryz.func19,Tryz.ntmps19
 go_upto_region 1 with fail
 obtain ⟨W0,iN,iR,hW,hN,hR,N0,R0,B0,LN,LR,LI,LS⟩:=mkNQ w ⟨25,c,s,nm,k,x,y,z,p⟩
 rw [hW.out];try rw [hR.out];try rw [hN.out]
 clear hW hN hR
 have Nc0:=N0.out.c0;have Nc3:=N0.out.c3
 have Rc0:=R0.out.c0;have Rc1:=R0.out.c1;have Rc2:=R0.out.c2;have Rf0:=R0.out.f 0;have Rf1:=R0.out.f 1;have Rf2:=R0.out.f 2
 go_wp2_with fail
 exact bodyPost_ret (v:=.tuple #[.agg #[.int .u8 _,.string _,.int .i64 _],.bool _]) (results_cellO (fn:=Tryz.f19) (p:=2) (u:=3) rfl _ _ iR ⟨4,nm,0⟩ rfl (R0.out.set ⟨4,nm,0⟩)) rfl ⟨rfl,below_set3 B0.out LR.out _ _ _⟩
theorem ropd_26 {w:World} (c s k x y z p:Int) (nm:List UInt8):Calls Tryz.prog 19 #[an ⟨26,c,s,nm,k,x,y,z,p⟩] w (OP (some ⟨26,nm,k⟩) w):=by
 obtain ⟨S,hS⟩:∃ S,Hid (bs nm=S):=⟨_,Lib.hid rfl⟩
 try dsimp only [av,an,ao]
 go_enter Tryz.func19,Tryz.ntmps19
 go_upto_region 1 with fail
 obtain ⟨W0,iN,iR,hW,hN,hR,N0,R0,B0,LN,LR,LI,LS⟩:=mkNQ w ⟨26,c,s,nm,k,x,y,z,p⟩
 rw [hW.out];try rw [hR.out];try rw [hN.out]
 clear hW hN hR
 have Nc0:=N0.out.c0;have Nc3:=N0.out.c3;have Nc4:=N0.out.c4
 have Rc0:=R0.out.c0;have Rc1:=R0.out.c1;have Rc2:=R0.out.c2;have Rf0:=R0.out.f 0;have Rf1:=R0.out.f 1;have Rf2:=R0.out.f 2
 go_wp2_with fail
 exact bodyPost_ret (v:=.tuple #[.agg #[.int .u8 _,.string _,.int .i64 _],.bool _]) (results_cellO (fn:=Tryz.f19) (p:=2) (u:=3) rfl _ _ iR ⟨26,nm,k⟩ rfl (R0.out.set ⟨26,nm,k⟩)) rfl ⟨rfl,below_set3 B0.out LR.out _ _ _⟩
theorem ropd_27 {w:World} (c s k x y z p:Int) (nm:List UInt8):Calls Tryz.prog 19 #[an ⟨27,c,s,nm,k,x,y,z,p⟩] w (OP (some ⟨27,nm,k⟩) w):=by
 obtain ⟨S,hS⟩:∃ S,Hid (bs nm=S):=⟨_,Lib.hid rfl⟩
 try dsimp only [av,an,ao]
 go_enter Tryz.func19,Tryz.ntmps19
 go_upto_region 1 with fail
 obtain ⟨W0,iN,iR,hW,hN,hR,N0,R0,B0,LN,LR,LI,LS⟩:=mkNQ w ⟨27,c,s,nm,k,x,y,z,p⟩
 rw [hW.out];try rw [hR.out];try rw [hN.out]
 clear hW hN hR
 have Nc0:=N0.out.c0;have Nc3:=N0.out.c3;have Nc4:=N0.out.c4
 have Rc0:=R0.out.c0;have Rc1:=R0.out.c1;have Rc2:=R0.out.c2;have Rf0:=R0.out.f 0;have Rf1:=R0.out.f 1;have Rf2:=R0.out.f 2
 go_wp2_with fail
 exact bodyPost_ret (v:=.tuple #[.agg #[.int .u8 _,.string _,.int .i64 _],.bool _]) (results_cellO (fn:=Tryz.f19) (p:=2) (u:=3) rfl _ _ iR ⟨27,nm,k⟩ rfl (R0.out.set ⟨27,nm,k⟩)) rfl ⟨rfl,below_set3 B0.out LR.out _ _ _⟩
theorem ropd_28 {w:World} (c s k x y z p:Int) (nm:List UInt8):Calls Tryz.prog 19 #[an ⟨28,c,s,nm,k,x,y,z,p⟩] w (OP (some ⟨28,nm,k⟩) w):=by
 obtain ⟨S,hS⟩:∃ S,Hid (bs nm=S):=⟨_,Lib.hid rfl⟩
 try dsimp only [av,an,ao]
 go_enter Tryz.func19,Tryz.ntmps19
 go_upto_region 1 with fail
 obtain ⟨W0,iN,iR,hW,hN,hR,N0,R0,B0,LN,LR,LI,LS⟩:=mkNQ w ⟨28,c,s,nm,k,x,y,z,p⟩
 rw [hW.out];try rw [hR.out];try rw [hN.out]
 clear hW hN hR
 have Nc0:=N0.out.c0;have Nc3:=N0.out.c3;have Nc4:=N0.out.c4
 have Rc0:=R0.out.c0;have Rc1:=R0.out.c1;have Rc2:=R0.out.c2;have Rf0:=R0.out.f 0;have Rf1:=R0.out.f 1;have Rf2:=R0.out.f 2
 go_wp2_with fail
 exact bodyPost_ret (v:=.tuple #[.agg #[.int .u8 _,.string _,.int .i64 _],.bool _]) (results_cellO (fn:=Tryz.f19) (p:=2) (u:=3) rfl _ _ iR ⟨28,nm,k⟩ rfl (R0.out.set ⟨28,nm,k⟩)) rfl ⟨rfl,below_set3 B0.out LR.out _ _ _⟩
theorem ropd_29 {w:World} (c s k x y z p:Int) (nm:List UInt8):Calls Tryz.prog 19 #[an ⟨29,c,s,nm,k,x,y,z,p⟩] w (OP (some ⟨29,nm,k⟩) w):=by
 obtain ⟨S,hS⟩:∃ S,Hid (bs nm=S):=⟨_,Lib.hid rfl⟩
 try dsimp only [av,an,ao]
 go_enter Tryz.func19,Tryz.ntmps19
 go_upto_region 1 with fail
 obtain ⟨W0,iN,iR,hW,hN,hR,N0,R0,B0,LN,LR,LI,LS⟩:=mkNQ w ⟨29,c,s,nm,k,x,y,z,p⟩
 rw [hW.out];try rw [hR.out];try rw [hN.out]
 clear hW hN hR
 have Nc0:=N0.out.c0;have Nc3:=N0.out.c3;have Nc4:=N0.out.c4
 have Rc0:=R0.out.c0;have Rc1:=R0.out.c1;have Rc2:=R0.out.c2;have Rf0:=R0.out.f 0;have Rf1:=R0.out.f 1;have Rf2:=R0.out.f 2
 go_wp2_with fail
 exact bodyPost_ret (v:=.tuple #[.agg #[.int .u8 _,.string _,.int .i64 _],.bool _]) (results_cellO (fn:=Tryz.f19) (p:=2) (u:=3) rfl _ _ iR ⟨29,nm,k⟩ rfl (R0.out.set ⟨29,nm,k⟩)) rfl ⟨rfl,below_set3 B0.out LR.out _ _ _⟩
theorem ropd_30 {w:World} (c s k x y z p:Int) (nm:List UInt8):Calls Tryz.prog 19 #[an ⟨30,c,s,nm,k,x,y,z,p⟩] w (OP (some ⟨30,nm,k⟩) w):=by
 obtain ⟨S,hS⟩:∃ S,Hid (bs nm=S):=⟨_,Lib.hid rfl⟩
 try dsimp only [av,an,ao]
 go_enter Tryz.func19,Tryz.ntmps19
 go_upto_region 1 with fail
 obtain ⟨W0,iN,iR,hW,hN,hR,N0,R0,B0,LN,LR,LI,LS⟩:=mkNQ w ⟨30,c,s,nm,k,x,y,z,p⟩
 rw [hW.out];try rw [hR.out];try rw [hN.out]
 clear hW hN hR
 have Nc0:=N0.out.c0;have Nc3:=N0.out.c3;have Nc4:=N0.out.c4
 have Rc0:=R0.out.c0;have Rc1:=R0.out.c1;have Rc2:=R0.out.c2;have Rf0:=R0.out.f 0;have Rf1:=R0.out.f 1;have Rf2:=R0.out.f 2
 go_wp2_with fail
 exact bodyPost_ret (v:=.tuple #[.agg #[.int .u8 _,.string _,.int .i64 _],.bool _]) (results_cellO (fn:=Tryz.f19) (p:=2) (u:=3) rfl _ _ iR ⟨30,nm,k⟩ rfl (R0.out.set ⟨30,nm,k⟩)) rfl ⟨rfl,below_set3 B0.out LR.out _ _ _⟩
theorem ropd_op {w:World} (op:Int) (c s k x y z p:Int) (nm:List UInt8) (hop:oneF op=false) (hop2:winF op=false):Calls Tryz.prog 19 #[an ⟨op,c,s,nm,k,x,y,z,p⟩] w (OP (none) w):=by
 have o4:decide (op=4)=false:=decide_eq_false (by have h1:=of_decide_eq_false hop;have h2:=of_decide_eq_false hop2;omega)
 have u4:(op==4)=false:=by have h1:=of_decide_eq_false hop;have h2:=of_decide_eq_false hop2;simp;omega
 have o24:decide (op=24)=false:=decide_eq_false (by have h1:=of_decide_eq_false hop;have h2:=of_decide_eq_false hop2;omega)
 have u24:(op==24)=false:=by have h1:=of_decide_eq_false hop;have h2:=of_decide_eq_false hop2;simp;omega
 have o25:decide (op=25)=false:=decide_eq_false (by have h1:=of_decide_eq_false hop;have h2:=of_decide_eq_false hop2;omega)
 have u25:(op==25)=false:=by have h1:=of_decide_eq_false hop;have h2:=of_decide_eq_false hop2;simp;omega
 have o26:decide (op=26)=false:=decide_eq_false (by have h1:=of_decide_eq_false hop;have h2:=of_decide_eq_false hop2;omega)
 have u26:(op==26)=false:=by have h1:=of_decide_eq_false hop;have h2:=of_decide_eq_false hop2;simp;omega
 have o27:decide (op=27)=false:=decide_eq_false (by have h1:=of_decide_eq_false hop;have h2:=of_decide_eq_false hop2;omega)
 have u27:(op==27)=false:=by have h1:=of_decide_eq_false hop;have h2:=of_decide_eq_false hop2;simp;omega
 have o28:decide (op=28)=false:=decide_eq_false (by have h1:=of_decide_eq_false hop;have h2:=of_decide_eq_false hop2;omega)
 have u28:(op==28)=false:=by have h1:=of_decide_eq_false hop;have h2:=of_decide_eq_false hop2;simp;omega
 have o29:decide (op=29)=false:=decide_eq_false (by have h1:=of_decide_eq_false hop;have h2:=of_decide_eq_false hop2;omega)
 have u29:(op==29)=false:=by have h1:=of_decide_eq_false hop;have h2:=of_decide_eq_false hop2;simp;omega
 have o30:decide (op=30)=false:=decide_eq_false (by have h1:=of_decide_eq_false hop;have h2:=of_decide_eq_false hop2;omega)
 have u30:(op==30)=false:=by have h1:=of_decide_eq_false hop;have h2:=of_decide_eq_false hop2;simp;omega
 clear hop hop2
 obtain ⟨S,hS⟩:∃ S,Hid (bs nm=S):=⟨_,Lib.hid rfl⟩
 try dsimp only [av,an,ao]
 go_enter Tryz.func19,Tryz.ntmps19
 go_upto_region 1 with fail
 obtain ⟨W0,iN,iR,hW,hN,hR,N0,R0,B0,LN,LR,LI,LS⟩:=mkNQ w ⟨op,c,s,nm,k,x,y,z,p⟩
 rw [hW.out];try rw [hR.out];try rw [hN.out]
 clear hW hN hR
 have Nc0:=N0.out.c0
 have Rc0:=R0.out.c0;have Rc1:=R0.out.c1;have Rc2:=R0.out.c2;have Rf0:=R0.out.f 0;have Rf1:=R0.out.f 1;have Rf2:=R0.out.f 2
 go_wp2_with fail
 exact bodyPost_ret (v:=.tuple #[.agg #[.int .u8 _,.string _,.int .i64 _],.bool _]) (results_cellO (fn:=Tryz.f19) (p:=2) (u:=3) rfl _ _ iR noO rfl (R0.out.set noO)) rfl ⟨rfl,below_set3 B0.out LR.out _ _ _⟩
theorem ropd_is {w:World} (n:Nd):Calls Tryz.prog 19 #[an n] w (OP (opdOf n) w):=by
 obtain ⟨op,c,s,nm,k,x,y,z,p⟩:=n
 unfold opdOf
 cases h1:oneF op
 ·cases h2:winF op
  ·simp only [Bool.false_eq_true,if_false]
   exact ropd_op op c s k x y z p nm h1 h2
  ·simp only [Bool.false_eq_true,if_false,if_true]
   have:=of_decide_eq_true h2
   clear h1 h2
   rcases this with rfl | rfl | rfl | rfl | rfl
   ·exact ropd_26 c s k x y z p nm
   ·exact ropd_27 c s k x y z p nm
   ·exact ropd_28 c s k x y z p nm
   ·exact ropd_29 c s k x y z p nm
   ·exact ropd_30 c s k x y z p nm
 ·simp only [if_true]
  have:=of_decide_eq_true h1
  clear h1
  rcases this with rfl | rfl | rfl
  ·exact ropd_4 c s k x y z p nm
  ·exact ropd_24 c s k x y z p nm
  ·exact ropd_25 c s k x y z p nm
end Go.Proofs.YteagpbkbdlmdiaaGreat.Ev
/- eval and its document: the place of an operand, walked. -/
namespace Go.Proofs.YteagpbkbdlmdiaaGreat.Ev
set_option maxRecDepth 100000
set_option maxHeartbeats 2000000
open Go Go.RowKit Dt Tx Va
set_option linter.unusedSimpArgs false
set_option linter.unusedVariables false
attribute [local go_sem ↓] Go.wp_at_zero Go.wp_at_succ
theorem below_drewN {n:Nat} {w w':World} (h:Below n w w'):∀ q,Below n w (w'.drewN q)
 | 0=>h
 | q+1=>⟨h.os,h.tape,h.output,h.size,h.block⟩
theorem wrap1 (q:Nat) (h:q≤9000000):IntKind.i64.wrap ((q:Int)+1)=(q:Int)+1:=by rw [IntWalk.i64_left];exact IntWalk.wrap64_in _ (by omega)
theorem argO {w:World} {v:Value} {xs:List Opd} (h:opE.Arg w v xs):∃ (ao:Option Addr) (cap:Nat),v=.slice ao xs.length cap∧∀ (i:Nat) (x:Opd),xs[i]?=some x→∃ b o:Nat,ao=some ⟨b,o,none⟩∧b<w.heap.size∧
  w.cell? ⟨b,o+i*3,none⟩=some (.int .u8 x.op)∧w.cell? ⟨b,o+i*3+1,none⟩=some (.string (bs x.n))∧w.cell? ⟨b,o+i*3+2,none⟩=some (.int .i64 x.k):=by
 obtain ⟨ao,cap,e,_,h⟩:=h
 refine ⟨ao,cap,e,fun i x hx=>?_⟩
 obtain ⟨b,o,h1,h2,h3⟩:=h i x hx
 exact ⟨b,o,h1,h2,h3 0 _ rfl,h3 1 _ rfl,h3 2 _ rfl⟩
def placeP (xs:List Opd) (q:Opd):Int:=if q ∈ xs then (xs.idxOf q:Int) else -1
theorem placeP_at {xs:List Opd} {q:Opd} {k:Nat} (h:xs[k]?=some q) (hb:∀ j,j<k→xs[j]? ≠ some q):placeP xs q=(k:Int):=by
 unfold placeP
 rw [if_pos (List.mem_of_getElem? h)]
 have hk:=(List.getElem?_eq_some_iff.1 h).1
 have e:=(List.getElem?_eq_some_iff.1 h).2
 have hm:=List.mem_of_getElem? h
 have hi:xs.idxOf q<xs.length:=List.idxOf_lt_length_iff.2 hm
 have hg:xs[xs.idxOf q]=q:=List.getElem_idxOf hi
 rcases Nat.lt_trichotomy (xs.idxOf q) k with g | g | g
 ·exact absurd (by rw [List.getElem?_eq_getElem hi,hg]) (hb _ g)
 ·rw [g]
 ·exfalso
  have key:∀ (ys:List Opd) (k:Nat),ys[k]?=some q→ys.idxOf q≤k:=by
   intro ys
   induction ys with
   | nil=>intro k h;simp at h
   | cons y ys ih=>
    intro k h
    rw [List.idxOf_cons]
    cases hy:(y==q) with
    | true=>simp
    | false=>
     cases k with
     | zero=>simp at h;subst h;simp at hy
     | succ k=>simp at h;have:=ih k h;simp;omega
  have:=key xs k h
  omega
theorem placeP_no {xs:List Opd} {q:Opd} (hb:∀ j,j<xs.length→xs[j]? ≠ some q):placeP xs q= -1:=by
 unfold placeP
 rw [if_neg]
 intro hm
 obtain ⟨i,hi⟩:=List.mem_iff_getElem?.1 hm
 exact hb i (List.getElem?_eq_some_iff.1 hi).1 hi
theorem placeP_neg {xs:List Opd} {q:Opd}:decide (placeP xs q<0)=!decide (q ∈ xs):=by
 unfold placeP
 split
 ·rename_i h;simp [h]
 ·rename_i h;simp [h]
theorem placeP_pos {xs:List Opd} {q:Opd}:decide (placeP xs q ≥ 0)=decide (q ∈ xs):=by
 unfold placeP
 split
 ·rename_i h;simp [h]
 ·rename_i h;simp [h]
theorem placeP_in {xs:List Opd} {q:Opd} (h:q ∈ xs):placeP xs q=(xs.idxOf q:Int):=by unfold placeP;rw [if_pos h]
def ZP (z:Int) (w:World) (e:Ending) (w':World):Prop:=e=.returned (.int .i64 z)∧Below w.heap.size w w'
theorem place_is {w:World} {v:Value} {xs:List Opd} (q:Opd) (ha:opE.Arg w v xs) (hl:xs.length≤1000000):Calls Tryz.prog 20 #[v,ao q] w (ZP (placeP xs q) w):=by
 obtain ⟨aa,ca,rfl,h1⟩:=argO ha
 obtain ⟨q0,q1,q2⟩:=q
 have HA:=Lib.hid h1;have HL:=Lib.hid hl
 obtain ⟨N,hN⟩:∃ N,Hid (xs.length=N):=⟨_,Lib.hid rfl⟩
 rw [hN.out]
 clear ha h1 hl
 try dsimp only [av,an,ao]
 go_enter Tryz.func20,Tryz.ntmps20
 go_upto_region 1 with fail
 obtain ⟨W0,iX,hW,hX,X0,B0,LX,LI,LS⟩:=mk1 w (.cells #[.int .u8 q0,.string (bs q1),.int .i64 q2] 43)
 rw [hW.out]
 try rw [hX.out]
 clear hW hX
 replace X0:Hid (OpdB W0 iX ⟨q0,q1,q2⟩):=X0
 go_wp2_with fail
 go_loopw [5] (fun i wr=>∃ (k:Nat),i=.int .i64 (k:Int)∧k≤N∧Hid (∀ j,j<k→xs[j]? ≠ some ⟨q0,q1,q2⟩)∧Hid (Below W0.heap.size W0 wr)) (fun i _=>N - (intOf i).toNat)
 case atStart=>exact ⟨0,rfl,by omega,fun j h=>absurd h (Nat.not_lt_zero j),Below.refl _ _⟩
 case round=>
  obtain ⟨wo,rfl⟩:∃ wo:World,wo=wr:=⟨_,rfl⟩
  obtain ⟨k,rfl,hk,NB,B⟩:=hrel
  by_cases hkl:k<N
  ·obtain ⟨x,hx⟩:∃ x,xs[k]?=some x:=⟨_,List.getElem?_eq_getElem (by rw [hN.out];exact hkl)⟩
   obtain ⟨ba',oa,rfl,l1,c0,c1,c2⟩:=HA.out k x hx
   have i0:(0:Int)≤(k:Int):=by omega
   have i1:(k:Int)<(N:Int):=by omega
   have i2:decide ((k:Int)<(N:Int))=true:=by simp;omega
   have i3:decide (k<N)=true:=by simpa using hkl
   have c0':=(B.out.cell (p:=⟨ba',_,none⟩) (Nat.lt_of_lt_of_le l1 B0.out.size)).trans ((B0.out.cell (p:=⟨ba',_,none⟩) l1).trans c0);have c1':=(B.out.cell (p:=⟨ba',_,none⟩) (Nat.lt_of_lt_of_le l1 B0.out.size)).trans ((B0.out.cell (p:=⟨ba',_,none⟩) l1).trans c1);have c2':=(B.out.cell (p:=⟨ba',_,none⟩) (Nat.lt_of_lt_of_le l1 B0.out.size)).trans ((B0.out.cell (p:=⟨ba',_,none⟩) l1).trans c2)
   have X1:=Lib.hid (X0.out.below B.out)
   have d0:=X1.out.c0;have d1:=X1.out.c1;have d2:=X1.out.c2
   have HK:=Lib.hid hkl
   have kw:IntKind.i64.wrap ((k:Int)+1)=(k:Int)+1:=wrap1 k (by have:=HL.out;have:=hN.out;omega)
   obtain ⟨x0,x1,x2⟩:=x
   have HX:=Lib.hid hx
   have NX:(¬(⟨x0,x1,x2⟩:Opd)=⟨q0,q1,q2⟩)→Hid (∀ j,j<k+1→xs[j]? ≠ some ⟨q0,q1,q2⟩):=fun hne j hj=>by
    rcases Nat.lt_or_ge j k with h | h
    ·exact NB.out j h
    ·have:j=k:=by omega
     subst this
     rw [HX.out]
     exact fun e=>hne (Option.some.inj e)
   have PX:(⟨x0,x1,x2⟩:Opd)=⟨q0,q1,q2⟩→Hid (placeP xs ⟨q0,q1,q2⟩=(k:Int)):=fun he=>placeP_at (by rw [HX.out,he]) NB.out
   clear hx hkl hk c0 c1 c2
   dsimp only at c0' c1' c2' d0 d1 d2
   by_cases g0:x0=q0
   ·subst g0
    by_cases g1:x1=q1
    ·subst g1
     by_cases g2:x2=q2
     ·subst g2
      have PE:=PX rfl
      clear NX PX NB
      have ss:=self_toList (bs x1)
      obtain ⟨S,hS⟩:∃ S,Hid (bs x1=S):=⟨_,Lib.hid rfl⟩
      rw [hS.out] at c1' d1 ss
      go_upto_region 4 with fail
      go_quiet (fail)
      go_wp2_with fail
      go_ret
      exact ⟨by rw [PE.out];rfl,bt B0.out (below_drewN B.out _)⟩
     ·have PE:=NX (fun e=>g2 (congrArg Opd.k e))
      clear NX PX NB
      have ss:=self_toList (bs x1)
      obtain ⟨S,hS⟩:∃ S,Hid (bs x1=S):=⟨_,Lib.hid rfl⟩
      rw [hS.out] at c1' d1 ss
      have g21:(x2==q2)=false:=by simpa using g2
      have g22:(q2==x2)=false:=by simpa using fun e=>g2 e.symm
      have g23:decide (x2=q2)=false:=decide_eq_false g2
      have g24:decide (q2=x2)=false:=decide_eq_false fun e=>g2 e.symm
      clear g2
      go_upto_region 4 with fail
      go_quiet (fail)
      go_wp2_with fail
      go_roundw
      case rel=>exact ⟨k+1,rfl,by have:=HK.out;omega,PE,below_drewN B.out _⟩
      case measure=>show N - ((k:Int)+1).toNat<N - ((k:Int)).toNat;have:=HK.out;omega
    ·have PE:=NX (fun e=>g1 (congrArg Opd.n e))
     clear NX PX NB
     have s1:((bs x1).toList==(bs q1).toList)=false:=by rw [bs_toList,bs_toList];simpa using g1
     have s2:((bs q1).toList==(bs x1).toList)=false:=by rw [bs_toList,bs_toList];simpa using fun e=>g1 e.symm
     clear g1
     obtain ⟨S,hS⟩:∃ S,Hid (bs x1=S):=⟨_,Lib.hid rfl⟩
     obtain ⟨U,hU⟩:∃ S,Hid (bs q1=S):=⟨_,Lib.hid rfl⟩
     rw [hS.out] at c1' s1 s2
     rw [hU.out] at d1 s1 s2
     go_upto_region 4 with fail
     go_quiet (fail)
     go_wp2_with fail
     go_roundw
     case rel=>exact ⟨k+1,rfl,by have:=HK.out;omega,PE,below_drewN B.out _⟩
     case measure=>show N - ((k:Int)+1).toNat<N - ((k:Int)).toNat;have:=HK.out;omega
   ·have PE:=NX (fun e=>g0 (congrArg Opd.op e))
    clear NX PX NB
    have g01:(x0==q0)=false:=by simpa using g0
    have g02:(q0==x0)=false:=by simpa using fun e=>g0 e.symm
    have g03:decide (x0=q0)=false:=decide_eq_false g0
    have g04:decide (q0=x0)=false:=decide_eq_false fun e=>g0 e.symm
    clear g0
    go_upto_region 4 with fail
    go_quiet (fail)
    go_wp2_with fail
    go_roundw
    case rel=>exact ⟨k+1,rfl,by have:=HK.out;omega,PE,below_drewN B.out _⟩
    case measure=>show N - ((k:Int)+1).toNat<N - ((k:Int)).toNat;have:=HK.out;omega
  ·have hke:k=N:=by omega
   subst hke
   have i2:decide ((k:Int)<(k:Int))=false:=by simp
   have PE:=Lib.hid (placeP_no (xs:=xs) (q:=⟨q0,q1,q2⟩) (by rw [hN.out];exact NB.out))
   clear hkl hk
   go_wp2_with fail
   go_ret
   exact ⟨by rw [PE.out];rfl,bt B0.out B.out⟩
theorem index_is {w:World} {v:Value} {xs:List Opd} (q:Opd) (ha:opE.Arg w v xs) (hl:xs.length≤1000000):Calls Tryz.prog 21 #[v,ao q] w (ZP (placeP xs q) w):=by
 obtain ⟨aa,ca,rfl,h1⟩:=argO ha
 obtain ⟨q0,q1,q2⟩:=q
 have HA:=Lib.hid h1;have HL:=Lib.hid hl
 obtain ⟨N,hN⟩:∃ N,Hid (xs.length=N):=⟨_,Lib.hid rfl⟩
 rw [hN.out]
 clear ha h1 hl
 try dsimp only [av,an,ao]
 go_enter Tryz.func21,Tryz.ntmps21
 go_upto_region 1 with fail
 obtain ⟨W0,iX,hW,hX,X0,B0,LX,LI,LS⟩:=mk1 w (.cells #[.int .u8 q0,.string (bs q1),.int .i64 q2] 43)
 rw [hW.out]
 try rw [hX.out]
 clear hW hX
 replace X0:Hid (OpdB W0 iX ⟨q0,q1,q2⟩):=X0
 go_wp2_with fail
 go_loopw [8] (fun i wr=>∃ (k:Nat),i=.int .i64 (k:Int)∧k≤N∧Hid (∀ j,j<k→xs[j]? ≠ some ⟨q0,q1,q2⟩)∧Hid (Below W0.heap.size W0 wr)) (fun i _=>N - (intOf i).toNat)
 case atStart=>exact ⟨0,rfl,by omega,fun j h=>absurd h (Nat.not_lt_zero j),Below.refl _ _⟩
 case round=>
  obtain ⟨wo,rfl⟩:∃ wo:World,wo=wr:=⟨_,rfl⟩
  obtain ⟨k,rfl,hk,NB,B⟩:=hrel
  by_cases hkl:k<N
  ·obtain ⟨x,hx⟩:∃ x,xs[k]?=some x:=⟨_,List.getElem?_eq_getElem (by rw [hN.out];exact hkl)⟩
   obtain ⟨ba',oa,rfl,l1,c0,c1,c2⟩:=HA.out k x hx
   have i0:(0:Int)≤(k:Int):=by omega
   have i1:(k:Int)<(N:Int):=by omega
   have i2:decide ((k:Int)<(N:Int))=true:=by simp;omega
   have i3:decide (k<N)=true:=by simpa using hkl
   have c0':=(B.out.cell (p:=⟨ba',_,none⟩) (Nat.lt_of_lt_of_le l1 B0.out.size)).trans ((B0.out.cell (p:=⟨ba',_,none⟩) l1).trans c0);have c1':=(B.out.cell (p:=⟨ba',_,none⟩) (Nat.lt_of_lt_of_le l1 B0.out.size)).trans ((B0.out.cell (p:=⟨ba',_,none⟩) l1).trans c1);have c2':=(B.out.cell (p:=⟨ba',_,none⟩) (Nat.lt_of_lt_of_le l1 B0.out.size)).trans ((B0.out.cell (p:=⟨ba',_,none⟩) l1).trans c2)
   have X1:=Lib.hid (X0.out.below B.out)
   have d0:=X1.out.c0;have d1:=X1.out.c1;have d2:=X1.out.c2
   have HK:=Lib.hid hkl
   have kw:IntKind.i64.wrap ((k:Int)+1)=(k:Int)+1:=wrap1 k (by have:=HL.out;have:=hN.out;omega)
   obtain ⟨x0,x1,x2⟩:=x
   have HX:=Lib.hid hx
   have NX:(¬(⟨x0,x1,x2⟩:Opd)=⟨q0,q1,q2⟩)→Hid (∀ j,j<k+1→xs[j]? ≠ some ⟨q0,q1,q2⟩):=fun hne j hj=>by
    rcases Nat.lt_or_ge j k with h | h
    ·exact NB.out j h
    ·have:j=k:=by omega
     subst this
     rw [HX.out]
     exact fun e=>hne (Option.some.inj e)
   have PX:(⟨x0,x1,x2⟩:Opd)=⟨q0,q1,q2⟩→Hid (placeP xs ⟨q0,q1,q2⟩=(k:Int)):=fun he=>placeP_at (by rw [HX.out,he]) NB.out
   clear hx hkl hk c0 c1 c2
   dsimp only at c0' c1' c2' d0 d1 d2
   by_cases g0:x0=q0
   ·subst g0
    by_cases g1:x1=q1
    ·subst g1
     by_cases g2:x2=q2
     ·subst g2
      have PE:=PX rfl
      clear NX PX NB
      have ss:=self_toList (bs x1)
      obtain ⟨S,hS⟩:∃ S,Hid (bs x1=S):=⟨_,Lib.hid rfl⟩
      rw [hS.out] at c1' d1 ss
      go_upto_region 4 with fail
      go_quiet (fail)
      go_wp2_with fail
      go_ret
      exact ⟨by rw [PE.out];rfl,bt B0.out (below_drewN B.out _)⟩
     ·have PE:=NX (fun e=>g2 (congrArg Opd.k e))
      clear NX PX NB
      have ss:=self_toList (bs x1)
      obtain ⟨S,hS⟩:∃ S,Hid (bs x1=S):=⟨_,Lib.hid rfl⟩
      rw [hS.out] at c1' d1 ss
      have g21:(x2==q2)=false:=by simpa using g2
      have g22:(q2==x2)=false:=by simpa using fun e=>g2 e.symm
      have g23:decide (x2=q2)=false:=decide_eq_false g2
      have g24:decide (q2=x2)=false:=decide_eq_false fun e=>g2 e.symm
      clear g2
      go_upto_region 4 with fail
      go_quiet (fail)
      go_wp2_with fail
      go_roundw
      case rel=>exact ⟨k+1,rfl,by have:=HK.out;omega,PE,below_drewN B.out _⟩
      case measure=>show N - ((k:Int)+1).toNat<N - ((k:Int)).toNat;have:=HK.out;omega
    ·have PE:=NX (fun e=>g1 (congrArg Opd.n e))
     clear NX PX NB
     have s1:((bs x1).toList==(bs q1).toList)=false:=by rw [bs_toList,bs_toList];simpa using g1
     have s2:((bs q1).toList==(bs x1).toList)=false:=by rw [bs_toList,bs_toList];simpa using fun e=>g1 e.symm
     clear g1
     obtain ⟨S,hS⟩:∃ S,Hid (bs x1=S):=⟨_,Lib.hid rfl⟩
     obtain ⟨U,hU⟩:∃ S,Hid (bs q1=S):=⟨_,Lib.hid rfl⟩
     rw [hS.out] at c1' s1 s2
     rw [hU.out] at d1 s1 s2
     go_upto_region 4 with fail
     go_quiet (fail)
     go_wp2_with fail
     go_roundw
     case rel=>exact ⟨k+1,rfl,by have:=HK.out;omega,PE,below_drewN B.out _⟩
     case measure=>show N - ((k:Int)+1).toNat<N - ((k:Int)).toNat;have:=HK.out;omega
   ·have PE:=NX (fun e=>g0 (congrArg Opd.op e))
    clear NX PX NB
    have g01:(x0==q0)=false:=by simpa using g0
    have g02:(q0==x0)=false:=by simpa using fun e=>g0 e.symm
    have g03:decide (x0=q0)=false:=decide_eq_false g0
    have g04:decide (q0=x0)=false:=decide_eq_false fun e=>g0 e.symm
    clear g0
    go_upto_region 4 with fail
    go_quiet (fail)
    go_wp2_with fail
    go_roundw
    case rel=>exact ⟨k+1,rfl,by have:=HK.out;omega,PE,below_drewN B.out _⟩
    case measure=>show N - ((k:Int)+1).toNat<N - ((k:Int)).toNat;have:=HK.out;omega
  ·have hke:k=N:=by omega
   subst hke
   have i2:decide ((k:Int)<(k:Int))=false:=by simp
   have PE:=Lib.hid (placeP_no (xs:=xs) (q:=⟨q0,q1,q2⟩) (by rw [hN.out];exact NB.out))
   clear hkl hk
   go_wp2_with fail
   go_ret
   exact ⟨by rw [PE.out];rfl,bt B0.out B.out⟩
theorem contains_is {w:World} {v:Value} {xs:List Opd} (q:Opd) (ha:opE.Arg w v xs) (hl:xs.length≤1000000):Calls Tryz.prog 18 #[v,ao q] w (BP (decide (q ∈ xs)) w):=by
 have P:=fun w (h:opE.Arg w v xs)=>index_is q h hl
 have E:=placeP_pos (xs:=xs) (q:=q)
 rw [←E]
 generalize placeP xs q=z at P⊢
 clear E
 try dsimp only [av,an,ao]
 go_enter Tryz.func18,Tryz.ntmps18
 go_upto_region 1 with fail
 obtain ⟨W0,iX,hW,hX,X0,B0,LX,LI,LS⟩:=mk1 w (.cells #[.int .u8 q.op,.string (bs q.n),.int .i64 q.k] 43)
 rw [hW.out]
 try rw [hX.out]
 clear hW hX
 replace X0:Hid (OpdB W0 iX q):=X0
 have Xc0:=X0.out.c0;have Xc1:=X0.out.c1;have Xc2:=X0.out.c2
 have PW:=P W0 (ha.below B0.out)
 clear P ha hl
 go_wp2_with (go_at_call 21;(with_reducible refine PW.mono ?_);rintro e1 w1 ⟨rfl,q1⟩;have B1:=Lib.hid (bt B0.out q1);clear q1 B0)
 go_ret
 exact ⟨rfl,B1.out⟩
end Go.Proofs.YteagpbkbdlmdiaaGreat.Ev
