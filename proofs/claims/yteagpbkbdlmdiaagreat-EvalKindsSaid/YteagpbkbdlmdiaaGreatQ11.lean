/-
  THE WALKS of the reference's word, Of.
-/
import Derived.Test.YteagpbkbdlmdiaaGreatQ9
set_option linter.unusedSimpArgs false
set_option linter.unusedVariables false
namespace Go.Proofs.YteagpbkbdlmdiaaGreat
open Go.RowKit
attribute [local go_sem ↓] Go.wp_at_zero Go.wp_at_succ
theorem rowW_gdl {w:World} {a:Option Addr} {n cap:Nat} {ds:List Nat} (h:RowW w (.slice a n cap) ds) (i:Nat) (hi:i<ds.length):∃ g,a=some ⟨g,0,none⟩∧w.cell? ⟨g,i,none⟩=some (.int .i64 ((Nm.gd ds i:Nat):Int))∧g<w.heap.size:=by
 obtain ⟨g,rfl,hg⟩:=rowW_some h (by omega)
 obtain ⟨g',e,hc⟩:=rowW_gd h i hi
 simp at e;subst e
 exact ⟨g,rfl,hc,hg⟩
theorem run_fieldN1 (b v:Value) (w:World):(Instr.field 147 (.agg #[b,v]) 1).run Tryz.prog w=.ok v w:=by kernel_rfl
set_option maxRecDepth 100000 in
set_option maxHeartbeats 2000000 in
theorem of_any (n:Int) (w:World) (h0:-9223372036854775808≤n) (h1:n≤9223372036854775807) :
  Calls Tryz.prog 139 #[.int .i64 n] w (NumPost 8 n w):=by
 by_cases hn:0≤n
 ·have hw:IntKind.u64.wrap n=n:=by rw [IntKind.wrap_u64];omega
  have HU:=Lib.hid (show n<18446744073709551616 by omega)
  clear h0 h1
  go_enter Tryz.func139,Tryz.ntmps139
  go_wp2_with fail
  refine (word_any n _ hn HU.out).mono ?_
  rintro e w1 ⟨v,hv,rfl,b1⟩
  obtain ⟨bz,az,nz,cz,rfl⟩:=num_agg hv
  have HV:=Lib.hid hv
  have HR:=Lib.hid (boxAt_below (boxAt_new w (.bool false) (.slice none 0 0)) b1)
  have r0:=HR.out.c0;have r1:=HR.out.c1;have r2:=HR.out.f0;have r3:=HR.out.f1
  have B1:=Lib.hid b1
  clear hv b1
  go_wp2_with fail
  refine bodyPost_ret (v:=.agg #[.bool bz,.slice az nz cz]) (by simp [results,Tryz.results139,go_sem,r0,r1]) rfl ⟨_,num_mono (num_set2 _ _ HV.out HR.out) (by omega),rfl,((bt (ba _ _) B1.out).setCell (Nat.le_refl _) _).setCell (Nat.le_refl _) _⟩
 ·have hn1:n<0:=by omega
  have hfld:=fun a m cap b (w:World)=>run_fieldN1 (.bool b) (.slice a m cap) w
  have hw1:IntKind.i64.wrap (n+1)=n+1:=by rw [IntKind.wrap_i64];omega
  have hw2:IntKind.i64.wrap (-(n+1))= -(n+1):=by rw [IntKind.wrap_i64];omega
  have hw3:IntKind.u64.wrap (-(n+1))= -(n+1):=by rw [IntKind.wrap_u64];omega
  have HU:Hid (0≤ -(n+1)∧ -(n+1)<18446744073709551616):=⟨by omega,by omega⟩
  go_enter Tryz.func139,Tryz.ntmps139
  go_wp2_with fail
  refine (word_any (-(n+1)) _ HU.out.1 HU.out.2).mono ?_
  rintro e w1 ⟨v,hv,rfl,b1⟩
  obtain ⟨a,m,cap,ds,rfl,hr,hc,hvv,hl,hm⟩:=num_open hv
  obtain ⟨bz,hbz⟩:∃ b,Hid (decide (-(n+1)<0)=b):=⟨_,rfl⟩
  rw [hbz.out]
  have HD:Hid (RowW w1 (.slice a m cap) ds∧Nm.Canon ds∧Nm.val ds=(-(n+1)).natAbs∧ds.length≤7):=⟨hr,hc,hvv,hl⟩
  have HR:=Lib.hid (boxAt_below (boxAt_new w (.bool false) (.slice none 0 0)) b1)
  have B1:=Lib.hid b1
  clear hv hr hc hvv hl hm b1 h0 h1 hw1 hw2 hw3
  go_wp2_with fail
  refine (plus_any _ _ ds [1] _ (rowW_alloc HD.out.1 _) (rowB_lit w1 1 1 rfl).row HD.out.2.1.1 (by intro q hq;simp at hq;omega) (by have:=HD.out.2.2.2;omega) (by simp)).mono ?_
  rintro e w2 ⟨v2,cs,hcs,hp,rfl,b2⟩
  obtain ⟨a2,c2,rfl,_⟩:=rowW_form hcs
  have HR2:=Lib.hid (boxAt_below (boxAt_below HR.out (ba w1 _)) b2)
  have r0:=HR2.out.c0;have r1:=HR2.out.c1;have r2:=HR2.out.f0;have r3:=HR2.out.f1
  have HC:=Lib.hid hcs
  have HP:=Lib.hid hp
  have B2:=Lib.hid (bt (ba _ _) (bt B1.out (bt (ba _ _) b2)))
  clear hcs hp b2
  obtain ⟨nc,hnc⟩:∃ nc,Hid (cs.length=nc):=⟨_,rfl⟩
  rw [hnc.out]
  have HN1:=Lib.hid hn1
  clear hn hn1
  go_wp2_with fail
  refine bodyPost_ret (v:=.agg #[.bool true,.slice a2 nc c2]) (by simp [results,Tryz.results139,go_sem,r0,r1]) rfl ⟨_,?_,rfl,(B2.out.setCell (Nat.le_refl _) _).setCell (Nat.le_refl _) _⟩
  obtain ⟨p1,p2,p3,p4⟩:=HP.out
  refine num_set2 _ _ ⟨_,cs,by simp [HN1.out],hnc.out ▸ HC.out,p4 HD.out.2.1 ⟨by intro q hq;simp at hq;omega,by simp⟩,?_,?_⟩ HR2.out
  ·rw [p2,HD.out.2.2.1];have:=HN1.out;simp [Nm.val];omega
  ·have:=HD.out.2.2.2;simp at p3;omega
end Go.Proofs.YteagpbkbdlmdiaaGreat
