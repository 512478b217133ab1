/-
  The document's printer: its small functions, walked; Rows of whole numbers; The document's printer: whole, walked; The document's printer: at, by what text does; The document's types: find, walked.
-/
import Derived.Test.YteagpbkbdlmdiaaGreatQ26
import Derived.Test.YteagpbkbdlmdiaaGreatQ23
import Derived.Test.YteagpbkbdlmdiaaGreatQ27
import Derived.Test.YteagpbkbdlmdiaaGreatQ22
import Derived.Test.YteagpbkbdlmdiaaGreatQ24
set_option linter.unusedSimpArgs false
set_option linter.unusedVariables false
namespace Go.Proofs.YteagpbkbdlmdiaaGreat.Ek
set_option maxRecDepth 100000
set_option maxHeartbeats 2000000
open Go Go.RowKit Dt Tx Va Ev
attribute [local go_sem ↓] Go.wp_at_zero Go.wp_at_succ
def StrP (M:Nat) (w:World) (e:Ending) (w':World):Prop:=∃ S:ByteArray,e=.returned (.string S)∧S.size≤M∧Below w.heap.size w w'
theorem kids_is (op:Int) (h0:0≤op) (w:World):Calls Tryz.prog 89 #[.int .u8 op] w fun e w'=>e=.returned (.int .i64 (kidsN op))∧w'=w:=by
 by_cases h:op≤30
 ·have:op=0∨op=1∨op=2∨op=3∨op=4∨op=5∨op=6∨op=7∨op=8∨op=9∨op=10∨op=11∨op=12∨op=13∨op=14∨op=15∨op=16∨op=17∨op=18∨op=19∨op=20∨op=21∨op=22∨op=23∨op=24∨op=25∨op=26∨op=27∨op=28∨op=29∨op=30:=by omega
  clear h h0
  rcases this with rfl | rfl | rfl | rfl | rfl | rfl | rfl | rfl | rfl | rfl | rfl | rfl | rfl | rfl | rfl | rfl | rfl | rfl | rfl | rfl | rfl | rfl | rfl | rfl | rfl | rfl | rfl | rfl | rfl | rfl | rfl
  all_goals
   go_enter Tryz.func89,Tryz.ntmps89
   go_wp2_with fail
   go_ret
   exact ⟨rfl,rfl⟩
 ·skip
  have o1:decide (op=1)=false:=decide_eq_false (by omega)
  have u1:(op==1)=false:=by simp;omega
  have o2:decide (op=2)=false:=decide_eq_false (by omega)
  have u2:(op==2)=false:=by simp;omega
  have o3:decide (op=3)=false:=decide_eq_false (by omega)
  have u3:(op==3)=false:=by simp;omega
  have o4:decide (op=4)=false:=decide_eq_false (by omega)
  have u4:(op==4)=false:=by simp;omega
  have o5:decide (op=5)=false:=decide_eq_false (by omega)
  have u5:(op==5)=false:=by simp;omega
  have o6:decide (op=6)=false:=decide_eq_false (by omega)
  have u6:(op==6)=false:=by simp;omega
  have o7:decide (op=7)=false:=decide_eq_false (by omega)
  have u7:(op==7)=false:=by simp;omega
  have o8:decide (op=8)=false:=decide_eq_false (by omega)
  have u8:(op==8)=false:=by simp;omega
  have o9:decide (op=9)=false:=decide_eq_false (by omega)
  have u9:(op==9)=false:=by simp;omega
  have o10:decide (op=10)=false:=decide_eq_false (by omega)
  have u10:(op==10)=false:=by simp;omega
  have o11:decide (op=11)=false:=decide_eq_false (by omega)
  have u11:(op==11)=false:=by simp;omega
  have o12:decide (op=12)=false:=decide_eq_false (by omega)
  have u12:(op==12)=false:=by simp;omega
  have o13:decide (op=13)=false:=decide_eq_false (by omega)
  have u13:(op==13)=false:=by simp;omega
  have o14:decide (op=14)=false:=decide_eq_false (by omega)
  have u14:(op==14)=false:=by simp;omega
  have o15:decide (op=15)=false:=decide_eq_false (by omega)
  have u15:(op==15)=false:=by simp;omega
  have o16:decide (op=16)=false:=decide_eq_false (by omega)
  have u16:(op==16)=false:=by simp;omega
  have o17:decide (op=17)=false:=decide_eq_false (by omega)
  have u17:(op==17)=false:=by simp;omega
  have o18:decide (op=18)=false:=decide_eq_false (by omega)
  have u18:(op==18)=false:=by simp;omega
  have o19:decide (op=19)=false:=decide_eq_false (by omega)
  have u19:(op==19)=false:=by simp;omega
  have o20:decide (op=20)=false:=decide_eq_false (by omega)
  have u20:(op==20)=false:=by simp;omega
  have o21:decide (op=21)=false:=decide_eq_false (by omega)
  have u21:(op==21)=false:=by simp;omega
  have o22:decide (op=22)=false:=decide_eq_false (by omega)
  have u22:(op==22)=false:=by simp;omega
  have o23:decide (op=23)=false:=decide_eq_false (by omega)
  have u23:(op==23)=false:=by simp;omega
  have o24:decide (op=24)=false:=decide_eq_false (by omega)
  have u24:(op==24)=false:=by simp;omega
  have o25:decide (op=25)=false:=decide_eq_false (by omega)
  have u25:(op==25)=false:=by simp;omega
  have o26:decide (op=26)=false:=decide_eq_false (by omega)
  have u26:(op==26)=false:=by simp;omega
  have o27:decide (op=27)=false:=decide_eq_false (by omega)
  have u27:(op==27)=false:=by simp;omega
  have o28:decide (op=28)=false:=decide_eq_false (by omega)
  have u28:(op==28)=false:=by simp;omega
  have o29:decide (op=29)=false:=decide_eq_false (by omega)
  have u29:(op==29)=false:=by simp;omega
  have o30:decide (op=30)=false:=decide_eq_false (by omega)
  have u30:(op==30)=false:=by simp;omega
  have g1:decide (5≤op)=true:=decide_eq_true (by omega)
  have g2:decide (op ≥ 5)=true:=decide_eq_true (by omega)
  have g3:decide (op≤21)=false:=decide_eq_false (by omega)
  have E:kidsN op= -1:=by unfold kidsN;rw [if_neg (by omega),if_neg (by omega),if_neg (by omega),if_neg (by omega)]
  rw [E]
  clear E
  clear h h0
  go_enter Tryz.func89,Tryz.ntmps89
  go_wp2_with fail
  go_ret
  exact ⟨rfl,rfl⟩
theorem level_is (op:Int) (h0:0≤op) (w:World):Calls Tryz.prog 94 #[.int .u8 op] w fun e w'=>(∃ z:Int,e=.returned (.int .i64 z))∧w'=w:=by
 by_cases h:op≤30
 ·have:op=0∨op=1∨op=2∨op=3∨op=4∨op=5∨op=6∨op=7∨op=8∨op=9∨op=10∨op=11∨op=12∨op=13∨op=14∨op=15∨op=16∨op=17∨op=18∨op=19∨op=20∨op=21∨op=22∨op=23∨op=24∨op=25∨op=26∨op=27∨op=28∨op=29∨op=30:=by omega
  clear h h0
  rcases this with rfl | rfl | rfl | rfl | rfl | rfl | rfl | rfl | rfl | rfl | rfl | rfl | rfl | rfl | rfl | rfl | rfl | rfl | rfl | rfl | rfl | rfl | rfl | rfl | rfl | rfl | rfl | rfl | rfl | rfl | rfl
  all_goals
   go_enter Tryz.func94,Tryz.ntmps94
   go_wp2_with fail
   go_ret
   exact ⟨⟨_,rfl⟩,rfl⟩
 ·skip
  have o1:decide (op=1)=false:=decide_eq_false (by omega)
  have u1:(op==1)=false:=by simp;omega
  have o2:decide (op=2)=false:=decide_eq_false (by omega)
  have u2:(op==2)=false:=by simp;omega
  have o3:decide (op=3)=false:=decide_eq_false (by omega)
  have u3:(op==3)=false:=by simp;omega
  have o4:decide (op=4)=false:=decide_eq_false (by omega)
  have u4:(op==4)=false:=by simp;omega
  have o5:decide (op=5)=false:=decide_eq_false (by omega)
  have u5:(op==5)=false:=by simp;omega
  have o6:decide (op=6)=false:=decide_eq_false (by omega)
  have u6:(op==6)=false:=by simp;omega
  have o7:decide (op=7)=false:=decide_eq_false (by omega)
  have u7:(op==7)=false:=by simp;omega
  have o8:decide (op=8)=false:=decide_eq_false (by omega)
  have u8:(op==8)=false:=by simp;omega
  have o9:decide (op=9)=false:=decide_eq_false (by omega)
  have u9:(op==9)=false:=by simp;omega
  have o10:decide (op=10)=false:=decide_eq_false (by omega)
  have u10:(op==10)=false:=by simp;omega
  have o11:decide (op=11)=false:=decide_eq_false (by omega)
  have u11:(op==11)=false:=by simp;omega
  have o12:decide (op=12)=false:=decide_eq_false (by omega)
  have u12:(op==12)=false:=by simp;omega
  have o13:decide (op=13)=false:=decide_eq_false (by omega)
  have u13:(op==13)=false:=by simp;omega
  have o14:decide (op=14)=false:=decide_eq_false (by omega)
  have u14:(op==14)=false:=by simp;omega
  have o15:decide (op=15)=false:=decide_eq_false (by omega)
  have u15:(op==15)=false:=by simp;omega
  have o16:decide (op=16)=false:=decide_eq_false (by omega)
  have u16:(op==16)=false:=by simp;omega
  have o17:decide (op=17)=false:=decide_eq_false (by omega)
  have u17:(op==17)=false:=by simp;omega
  have o18:decide (op=18)=false:=decide_eq_false (by omega)
  have u18:(op==18)=false:=by simp;omega
  have o19:decide (op=19)=false:=decide_eq_false (by omega)
  have u19:(op==19)=false:=by simp;omega
  have o20:decide (op=20)=false:=decide_eq_false (by omega)
  have u20:(op==20)=false:=by simp;omega
  have o21:decide (op=21)=false:=decide_eq_false (by omega)
  have u21:(op==21)=false:=by simp;omega
  have o22:decide (op=22)=false:=decide_eq_false (by omega)
  have u22:(op==22)=false:=by simp;omega
  have o23:decide (op=23)=false:=decide_eq_false (by omega)
  have u23:(op==23)=false:=by simp;omega
  have o24:decide (op=24)=false:=decide_eq_false (by omega)
  have u24:(op==24)=false:=by simp;omega
  have o25:decide (op=25)=false:=decide_eq_false (by omega)
  have u25:(op==25)=false:=by simp;omega
  have o26:decide (op=26)=false:=decide_eq_false (by omega)
  have u26:(op==26)=false:=by simp;omega
  have o27:decide (op=27)=false:=decide_eq_false (by omega)
  have u27:(op==27)=false:=by simp;omega
  have o28:decide (op=28)=false:=decide_eq_false (by omega)
  have u28:(op==28)=false:=by simp;omega
  have o29:decide (op=29)=false:=decide_eq_false (by omega)
  have u29:(op==29)=false:=by simp;omega
  have o30:decide (op=30)=false:=decide_eq_false (by omega)
  have u30:(op==30)=false:=by simp;omega
  have g1:decide (5≤op)=true:=decide_eq_true (by omega)
  have g2:decide (op ≥ 5)=true:=decide_eq_true (by omega)
  have g3:decide (op≤21)=false:=decide_eq_false (by omega)
  clear h h0
  go_enter Tryz.func94,Tryz.ntmps94
  go_wp2_with fail
  go_ret
  exact ⟨⟨_,rfl⟩,rfl⟩
theorem infix_is (op:Int) (h0:0≤op) (w:World):Calls Tryz.prog 95 #[.int .u8 op] w fun e w'=>(∃ S:ByteArray,e=.returned (.string S)∧S.size≤10)∧w'=w:=by
 by_cases h:op≤30
 ·have:op=0∨op=1∨op=2∨op=3∨op=4∨op=5∨op=6∨op=7∨op=8∨op=9∨op=10∨op=11∨op=12∨op=13∨op=14∨op=15∨op=16∨op=17∨op=18∨op=19∨op=20∨op=21∨op=22∨op=23∨op=24∨op=25∨op=26∨op=27∨op=28∨op=29∨op=30:=by omega
  clear h h0
  rcases this with rfl | rfl | rfl | rfl | rfl | rfl | rfl | rfl | rfl | rfl | rfl | rfl | rfl | rfl | rfl | rfl | rfl | rfl | rfl | rfl | rfl | rfl | rfl | rfl | rfl | rfl | rfl | rfl | rfl | rfl | rfl
  all_goals
   go_enter Tryz.func95,Tryz.ntmps95
   go_wp2_with fail
   go_ret
   exact ⟨⟨_,rfl,by decide⟩,rfl⟩
 ·skip
  have o1:decide (op=1)=false:=decide_eq_false (by omega)
  have u1:(op==1)=false:=by simp;omega
  have o2:decide (op=2)=false:=decide_eq_false (by omega)
  have u2:(op==2)=false:=by simp;omega
  have o3:decide (op=3)=false:=decide_eq_false (by omega)
  have u3:(op==3)=false:=by simp;omega
  have o4:decide (op=4)=false:=decide_eq_false (by omega)
  have u4:(op==4)=false:=by simp;omega
  have o5:decide (op=5)=false:=decide_eq_false (by omega)
  have u5:(op==5)=false:=by simp;omega
  have o6:decide (op=6)=false:=decide_eq_false (by omega)
  have u6:(op==6)=false:=by simp;omega
  have o7:decide (op=7)=false:=decide_eq_false (by omega)
  have u7:(op==7)=false:=by simp;omega
  have o8:decide (op=8)=false:=decide_eq_false (by omega)
  have u8:(op==8)=false:=by simp;omega
  have o9:decide (op=9)=false:=decide_eq_false (by omega)
  have u9:(op==9)=false:=by simp;omega
  have o10:decide (op=10)=false:=decide_eq_false (by omega)
  have u10:(op==10)=false:=by simp;omega
  have o11:decide (op=11)=false:=decide_eq_false (by omega)
  have u11:(op==11)=false:=by simp;omega
  have o12:decide (op=12)=false:=decide_eq_false (by omega)
  have u12:(op==12)=false:=by simp;omega
  have o13:decide (op=13)=false:=decide_eq_false (by omega)
  have u13:(op==13)=false:=by simp;omega
  have o14:decide (op=14)=false:=decide_eq_false (by omega)
  have u14:(op==14)=false:=by simp;omega
  have o15:decide (op=15)=false:=decide_eq_false (by omega)
  have u15:(op==15)=false:=by simp;omega
  have o16:decide (op=16)=false:=decide_eq_false (by omega)
  have u16:(op==16)=false:=by simp;omega
  have o17:decide (op=17)=false:=decide_eq_false (by omega)
  have u17:(op==17)=false:=by simp;omega
  have o18:decide (op=18)=false:=decide_eq_false (by omega)
  have u18:(op==18)=false:=by simp;omega
  have o19:decide (op=19)=false:=decide_eq_false (by omega)
  have u19:(op==19)=false:=by simp;omega
  have o20:decide (op=20)=false:=decide_eq_false (by omega)
  have u20:(op==20)=false:=by simp;omega
  have o21:decide (op=21)=false:=decide_eq_false (by omega)
  have u21:(op==21)=false:=by simp;omega
  have o22:decide (op=22)=false:=decide_eq_false (by omega)
  have u22:(op==22)=false:=by simp;omega
  have o23:decide (op=23)=false:=decide_eq_false (by omega)
  have u23:(op==23)=false:=by simp;omega
  have o24:decide (op=24)=false:=decide_eq_false (by omega)
  have u24:(op==24)=false:=by simp;omega
  have o25:decide (op=25)=false:=decide_eq_false (by omega)
  have u25:(op==25)=false:=by simp;omega
  have o26:decide (op=26)=false:=decide_eq_false (by omega)
  have u26:(op==26)=false:=by simp;omega
  have o27:decide (op=27)=false:=decide_eq_false (by omega)
  have u27:(op==27)=false:=by simp;omega
  have o28:decide (op=28)=false:=decide_eq_false (by omega)
  have u28:(op==28)=false:=by simp;omega
  have o29:decide (op=29)=false:=decide_eq_false (by omega)
  have u29:(op==29)=false:=by simp;omega
  have o30:decide (op=30)=false:=decide_eq_false (by omega)
  have u30:(op==30)=false:=by simp;omega
  have g1:decide (5≤op)=true:=decide_eq_true (by omega)
  have g2:decide (op ≥ 5)=true:=decide_eq_true (by omega)
  have g3:decide (op≤21)=false:=decide_eq_false (by omega)
  clear h h0
  go_enter Tryz.func95,Tryz.ntmps95
  go_wp2_with fail
  go_ret
  exact ⟨⟨_,rfl,by decide⟩,rfl⟩
theorem window_is (op:Int) (h0:0≤op) (w:World):Calls Tryz.prog 93 #[.int .u8 op] w fun e w'=>(∃ S:ByteArray,e=.returned (.string S)∧S.size≤10)∧w'=w:=by
 by_cases h:op≤30
 ·have:op=0∨op=1∨op=2∨op=3∨op=4∨op=5∨op=6∨op=7∨op=8∨op=9∨op=10∨op=11∨op=12∨op=13∨op=14∨op=15∨op=16∨op=17∨op=18∨op=19∨op=20∨op=21∨op=22∨op=23∨op=24∨op=25∨op=26∨op=27∨op=28∨op=29∨op=30:=by omega
  clear h h0
  rcases this with rfl | rfl | rfl | rfl | rfl | rfl | rfl | rfl | rfl | rfl | rfl | rfl | rfl | rfl | rfl | rfl | rfl | rfl | rfl | rfl | rfl | rfl | rfl | rfl | rfl | rfl | rfl | rfl | rfl | rfl | rfl
  all_goals
   go_enter Tryz.func93,Tryz.ntmps93
   go_wp2_with fail
   go_ret
   exact ⟨⟨_,rfl,by decide⟩,rfl⟩
 ·skip
  have o1:decide (op=1)=false:=decide_eq_false (by omega)
  have u1:(op==1)=false:=by simp;omega
  have o2:decide (op=2)=false:=decide_eq_false (by omega)
  have u2:(op==2)=false:=by simp;omega
  have o3:decide (op=3)=false:=decide_eq_false (by omega)
  have u3:(op==3)=false:=by simp;omega
  have o4:decide (op=4)=false:=decide_eq_false (by omega)
  have u4:(op==4)=false:=by simp;omega
  have o5:decide (op=5)=false:=decide_eq_false (by omega)
  have u5:(op==5)=false:=by simp;omega
  have o6:decide (op=6)=false:=decide_eq_false (by omega)
  have u6:(op==6)=false:=by simp;omega
  have o7:decide (op=7)=false:=decide_eq_false (by omega)
  have u7:(op==7)=false:=by simp;omega
  have o8:decide (op=8)=false:=decide_eq_false (by omega)
  have u8:(op==8)=false:=by simp;omega
  have o9:decide (op=9)=false:=decide_eq_false (by omega)
  have u9:(op==9)=false:=by simp;omega
  have o10:decide (op=10)=false:=decide_eq_false (by omega)
  have u10:(op==10)=false:=by simp;omega
  have o11:decide (op=11)=false:=decide_eq_false (by omega)
  have u11:(op==11)=false:=by simp;omega
  have o12:decide (op=12)=false:=decide_eq_false (by omega)
  have u12:(op==12)=false:=by simp;omega
  have o13:decide (op=13)=false:=decide_eq_false (by omega)
  have u13:(op==13)=false:=by simp;omega
  have o14:decide (op=14)=false:=decide_eq_false (by omega)
  have u14:(op==14)=false:=by simp;omega
  have o15:decide (op=15)=false:=decide_eq_false (by omega)
  have u15:(op==15)=false:=by simp;omega
  have o16:decide (op=16)=false:=decide_eq_false (by omega)
  have u16:(op==16)=false:=by simp;omega
  have o17:decide (op=17)=false:=decide_eq_false (by omega)
  have u17:(op==17)=false:=by simp;omega
  have o18:decide (op=18)=false:=decide_eq_false (by omega)
  have u18:(op==18)=false:=by simp;omega
  have o19:decide (op=19)=false:=decide_eq_false (by omega)
  have u19:(op==19)=false:=by simp;omega
  have o20:decide (op=20)=false:=decide_eq_false (by omega)
  have u20:(op==20)=false:=by simp;omega
  have o21:decide (op=21)=false:=decide_eq_false (by omega)
  have u21:(op==21)=false:=by simp;omega
  have o22:decide (op=22)=false:=decide_eq_false (by omega)
  have u22:(op==22)=false:=by simp;omega
  have o23:decide (op=23)=false:=decide_eq_false (by omega)
  have u23:(op==23)=false:=by simp;omega
  have o24:decide (op=24)=false:=decide_eq_false (by omega)
  have u24:(op==24)=false:=by simp;omega
  have o25:decide (op=25)=false:=decide_eq_false (by omega)
  have u25:(op==25)=false:=by simp;omega
  have o26:decide (op=26)=false:=decide_eq_false (by omega)
  have u26:(op==26)=false:=by simp;omega
  have o27:decide (op=27)=false:=decide_eq_false (by omega)
  have u27:(op==27)=false:=by simp;omega
  have o28:decide (op=28)=false:=decide_eq_false (by omega)
  have u28:(op==28)=false:=by simp;omega
  have o29:decide (op=29)=false:=decide_eq_false (by omega)
  have u29:(op==29)=false:=by simp;omega
  have o30:decide (op=30)=false:=decide_eq_false (by omega)
  have u30:(op==30)=false:=by simp;omega
  have g1:decide (5≤op)=true:=decide_eq_true (by omega)
  have g2:decide (op ≥ 5)=true:=decide_eq_true (by omega)
  have g3:decide (op≤21)=false:=decide_eq_false (by omega)
  clear h h0
  go_enter Tryz.func93,Tryz.ntmps93
  go_wp2_with fail
  go_ret
  exact ⟨⟨_,rfl,by decide⟩,rfl⟩
theorem textS_len (c s:Int) (hc:Fit c):(textS c s).length≤100:=by
 unfold textS
 split
 ·rename_i h
  have hS:=canS_le (c:=c) h
  have hC:=trim_fit c s.toNat hc
  unfold dtxt
  rw [List.length_append]
  have h1:=refT_len (canC c s).natAbs (canS c s)
  have h2:lenT (canC c s).natAbs (canS c s)≤20:=by
   unfold lenT
   have:=dd_len_le (a:=(canC c s).natAbs) (by unfold canC;have:=hC.1;have:=hC.2;omega)
   omega
  have h3:(sgn (decide (canC c s<0))).length≤1:=by cases decide (canC c s<0)<;>decide
  omega
 ·decide
theorem bs_size (l:List UInt8):(bs l).size=l.length:=rfl
theorem rtext_any {w:World} (c s:Int) (hc:Fit c):Calls Tryz.prog 90 #[.agg #[.int .i64 c,.int .i64 s]] w (StrP 100 w):=by
 have hl:=textS_len c s hc
 cases hb:isB s
 ·exact (rtext_no c s hb).mono (fun e w' h=>⟨_,h.1,by rw [bs_size];exact hl,h.2⟩)
 ·exact (rtext_yes c s hc hb).mono (fun e w' h=>⟨_,h.1,by rw [bs_size];exact hl,h.2⟩)
theorem digits_any {w:World} (k:Int) (hk:Fit k):Calls Tryz.prog 92 #[.int .i64 k] w (StrP 100 w):=by
 have C:=fun w=>rtext_any (w:=w) k 0 hk
 clear hk
 go_enter Tryz.func92,Tryz.ntmps92
 go_wp2_with (go_at_call 90;(with_reducible refine (C _).mono ?_);rintro e1 w1 ⟨S,rfl,hS,q1⟩)
 go_ret
 exact ⟨_,rfl,hS,q1⟩
end Go.Proofs.YteagpbkbdlmdiaaGreat.Ek
namespace Go.Proofs.YteagpbkbdlmdiaaGreat
open Go Go.RowKit
def intE:Elem Tryz.prog Int where
 sl:=109
 e:=3
 sz:=1
 bytes:=8
 z:=.int .i64 0
 enc:=fun x=>[.int .i64 x]
 und:=Tryz.underlying109
 info:=by kernel_rfl
 zs:=rfl
 pos:=by decide
 len:=fun _=>rfl
 one:=fun x u hu=>by simp only [List.mem_cons,List.not_mem_nil,or_false] at hu;rcases hu with rfl;rfl
end Go.Proofs.YteagpbkbdlmdiaaGreat
namespace Go.Proofs.YteagpbkbdlmdiaaGreat.Ek
open Go Go.RowKit Dt Tx Va Ev
attribute [local go_sem ↓] Go.wp_at_zero Go.wp_at_succ
theorem wrapN (m:Nat) (h:m≤1000000):IntKind.i64.wrap (m:Int)=(m:Int):=by
 have:=wrap1 (m - 1) (by omega)
 by_cases e:m=0
 ·subst e;decide
 ·rw [show ((m - 1:Nat):Int)+1=(m:Int) by omega] at this;exact this
theorem row_at {w:World} {B:Nat} {ao:Option Addr} {len cap:Nat} {xs:List Int} (h:intE.Row w B (.slice ao len cap) xs):∀ a,ao=some a→∃ g,a=⟨g,0,none⟩:=by
 intro a ha
 rcases h.2 with ⟨e,_⟩ | ⟨g,_,_,e,_⟩
 ·cases e;cases ha
 ·cases e;cases ha;exact ⟨g,rfl⟩
theorem argI {w:World} {v:Value} {xs:List Int} (h:intE.Arg w v xs):∃ (ao:Option Addr) (cap:Nat),v=.slice ao xs.length cap∧xs.length≤cap∧∀ (i:Nat) (x:Int),xs[i]?=some x→∃ b o:Nat,ao=some ⟨b,o,none⟩∧b<w.heap.size∧w.cell? ⟨b,o+i,none⟩=some (.int .i64 x):=by
 obtain ⟨ao,cap,e,hc,h⟩:=h
 refine ⟨ao,cap,e,hc.1,fun i x hx=>?_⟩
 obtain ⟨b,o,h1,h2,h3⟩:=h i x hx
 refine ⟨b,o,h1,h2,?_⟩
 have:=h3 0 _ rfl
 simpa [intE] using this
theorem cut_low (ao:Option Addr) (len cap n:Nat) (w:World) (hn:n≤cap) (ha:∀ q,ao=some q→∃ g,q=⟨g,0,none⟩):(Instr.sliceAt 109 (.slice ao len cap) none (some (.int .i64 (n:Int))) none).run Tryz.prog w=.ok (.slice ao n cap) w:=by
 have e:(if cap=0 then ao else Option.map (fun x=>x.add 0) ao)=ao:=by
  cases ao with
  | none=>simp
  | some q=>obtain ⟨g,rfl⟩:=ha q rfl;simp [Addr.add]
 unfold Instr.sliceAt
 simp only [Sem.run_bind,run_underlying Tryz.underlying109 w,Result.andThen]
 unfold Instr.slice
 simp only [Sem.run_bind,run_underlying Tryz.underlying109 w,Result.andThen]
 simp [Instr.sliceBounds,Instr.sliceBound,go_sem,hn,e]
theorem cut_high (ao:Option Addr) (len cap n:Nat) (hn:n≤len) (hl:len≤cap):∃ bo:Option Addr,(∀ w,(Instr.sliceAt 109 (.slice ao len cap) (some (.int .i64 (n:Int))) none none).run Tryz.prog w=.ok (.slice bo (len - n) (cap - n)) w)∧(∀ g,ao=some ⟨g,0,none⟩→n<cap→bo=some ⟨g,n,none⟩):=by
 refine ⟨if cap=n then ao else Option.map (fun x=>x.add n) ao,fun w=>?_,fun g hg hc=>?_⟩
 ·unfold Instr.sliceAt
  simp only [Sem.run_bind,run_underlying Tryz.underlying109 w,Result.andThen]
  unfold Instr.slice
  simp only [Sem.run_bind,run_underlying Tryz.underlying109 w,Result.andThen]
  have e1:n≤cap:=by omega
  simp [Instr.sliceBounds,Instr.sliceBound,go_sem,hn,hl,e1]
 ·subst hg
  rw [if_neg (by omega)]
  show some (Addr.add ⟨g,0,none⟩ n)=_
  rw [add_lit0,Nat.zero_add]
theorem arg_take {w:World} {ao:Option Addr} {cap m:Nat} {op:List Int} (hm:m≤op.length) (h:intE.Arg w (.slice ao op.length cap) op):intE.Arg w (.slice ao m cap) (op.take m):=by
 obtain ⟨ao',cap',e,hc,h⟩:=h
 cases e
 refine ⟨ao,cap,by rw [List.length_take,Nat.min_eq_left hm],⟨by rw [List.length_take];omega,hc.2⟩,fun i x hx=>h i x ?_⟩
 rw [List.getElem?_take] at hx
 split at hx
 ·exact hx
 ·cases hx
def kidT (op:List Int) (m q:Nat) (j:Nat) (x:Int):Prop:=if j<q then op[m+j]?=some x else x= -1
theorem kd_next {n:Nd} {op:List Int} {m q j:Nat} (h:∀ p,p<j→kidT op m q p (kidX n p)) (h2:kidT op m q j (kidX n j)):∀ p,p<j+1→kidT op m q p (kidX n p):=by
 intro p hp
 by_cases e:p<j
 ·exact h p e
 ·obtain rfl:p=j:=by omega
  exact h2
def szs (t:List Nd) (op:List Int):Nat:=(op.map (kidZ t)).sum
def UpT (t:List Nd) (k:Nat) (op:List Int):Prop:=(∀ (i:Nat) (n:Nd),i<k→t[i]?=some n→NodeT n i∧szAt t i≤i+1)∧(∀ x ∈ op,0≤x∧x<(k:Int))∧op.length≤k∧szs t op=k
theorem szs_app (t:List Nd) (a b:List Int):szs t (a++b)=szs t a+szs t b:=by unfold szs;rw [List.map_append,List.sum_append]
theorem node_of {t:List Nd} {n:Nd} {k m q:Nat} {op:List Int} (hU:UpT t k op) (hn:t[k]?=some n) (hq:kidsN n.op=(q:Int)) (hm:op.length=m+q) (h:∀ j,j<3→kidT op m q j (kidX n j)):NodeT n k∧szAt t k=1+szs t (op.drop m):=by
 have h0:=h 0 (by omega);have h1:=h 1 (by omega);have h2:=h 2 (by omega)
 have q3:q≤3:=by
  have:kidsN n.op≤3:=by unfold kidsN;split;decide;split;decide;split;decide;split;decide;decide
  omega
 change (if 0<q then op[m]?=some n.x else n.x= -1) at h0
 change (if 1<q then op[m+1]?=some n.y else n.y= -1) at h1
 change (if 2<q then op[m+2]?=some n.z else n.z= -1) at h2
 have bd:∀ {i:Nat} {x:Int},op[i]?=some x→0≤x∧x<(k:Int):=fun e=>hU.2.1 _ (List.mem_of_getElem? e)
 have mn:∀ {x:Int},x= -1→x<(k:Int):=fun e=>by omega
 have zm:kidZ t (-1)=0:=rfl
 have dr:op.drop m=(List.range q).map (fun j=>(op[m+j]?).getD 0):=by
  apply List.ext_getElem?
  intro j
  rw [List.getElem?_drop,List.getElem?_map]
  by_cases hj:j<q
  ·rw [List.getElem?_range hj]
   simp [List.getElem?_eq_getElem (show m+j<op.length by omega)]
  ·rw [List.getElem?_eq_none (by omega),List.getElem?_eq_none (by rw [List.length_range];omega)];rfl
 unfold NodeT
 rw [hq,dr]
 have:q=0∨q=1∨q=2∨q=3:=by omega
 rcases this with rfl | rfl | rfl | rfl
 ·rw [if_neg (by decide)] at h0 h1 h2
  refine ⟨⟨by decide,h0,h1,h2⟩,?_⟩
  rw [szAt_step hn (mn h0) (mn h1) (mn h2),h0,h1,h2];rfl
 ·rw [if_pos (by decide)] at h0;rw [if_neg (by decide)] at h1 h2
  refine ⟨⟨by decide,bd h0,h1,h2⟩,?_⟩
  rw [szAt_step hn (bd h0).2 (mn h1) (mn h2),h1,h2,zm]
  simp [szs,List.range_succ,h0]
 ·rw [if_pos (by decide)] at h0 h1;rw [if_neg (by decide)] at h2
  refine ⟨⟨by decide,bd h0,bd h1,h2⟩,?_⟩
  rw [szAt_step hn (bd h0).2 (bd h1).2 (mn h2),h2,zm]
  simp [szs,List.range_succ,h0,h1];omega
 ·rw [if_pos (by decide)] at h0 h1 h2
  refine ⟨⟨by decide,bd h0,bd h1,bd h2⟩,?_⟩
  rw [szAt_step hn (bd h0).2 (bd h1).2 (bd h2).2]
  simp [szs,List.range_succ,h0,h1,h2];omega
theorem UpT.next {t:List Nd} {k:Nat} {op:List Int} (h:UpT t k op) {n:Nd} (hn:t[k]?=some n) (m:Nat) (hN:NodeT n k∧szAt t k=1+szs t (op.drop m)):UpT t (k+1) (op.take m++[(k:Int)]):=by
 obtain ⟨h1,h2,h3,h4⟩:=h
 have e:szs t op=szs t (op.take m)+szs t (op.drop m):=by rw [←szs_app,List.take_append_drop]
 have ek:szs t [(k:Int)]=szAt t k:=by simp [szs,kidZ]
 refine ⟨fun i x hi hx=>?_,fun x hx=>?_,?_,?_⟩
 ·by_cases e2:i<k
  ·exact h1 i x e2 hx
  ·obtain rfl:i=k:=by omega
   rw [hn] at hx;cases hx;exact ⟨hN.1,by have:=hN.2;omega⟩
 ·rcases List.mem_append.1 hx with h | h
  ·have:=h2 x (List.mem_of_mem_take h);omega
  ·rw [List.mem_singleton] at h;omega
 ·rw [List.length_append,List.length_take];show _+1≤_;omega
 ·rw [szs_app,ek];have:=hN.2;omega
def WhP (t:List Nd) (w:World) (e:Ending) (w':World):Prop:=∃ b:Bool,e=.returned (.bool b)∧(b=true→WholeT t)∧Below w.heap.size w w'
set_option maxRecDepth 100000 in
set_option maxHeartbeats 4000000 in
theorem whole_is {w:World} {vt:Value} {t:List Nd} (ht:ndE.Arg w vt t) (hl:t.length≤300) (hno:∀ n ∈ t,n.ok):Calls Tryz.prog 44 #[vt] w (WhP t w):=by
 obtain ⟨aa,ca,rfl,h1⟩:=argN ht
 have HA:=Lib.hid h1;have HL:=Lib.hid hl;have HNO:=Lib.hid hno
 obtain ⟨N,hN⟩:∃ N,Hid (t.length=N):=⟨_,Lib.hid rfl⟩
 rw [hN.out]
 clear ht h1 hl hno
 go_enter Tryz.func44,Tryz.ntmps44
 go_wp2_with fail
 go_loopw [3,4] (fun u i wr=>∃ (k:Nat) (op:List Int),i=.int .i64 (k:Int)∧k≤N∧Hid (UpT t k op)∧Hid (intE.Row wr w.heap.size u op)∧Hid (Below w.heap.size w wr)) (fun _ i _=>N - (intOf i).toNat)
 case atStart=>exact ⟨0,[],rfl,by omega,⟨fun i n h=>absurd h (by omega),(fun x h=>by cases h),Nat.le_refl _,rfl⟩,Elem.Row.nil _ _,Below.refl _ _⟩
 case round=>
  obtain ⟨wo,rfl⟩:∃ wo:World,wo=wr:=⟨_,rfl⟩
  obtain ⟨k,op,rfl,hk,HU,RR,B⟩:=hrel
  obtain ⟨ao,cap,rfl,hcap,hao⟩:=RR.out.form
  obtain ⟨_,_,e3,_,hcell⟩:=argI RR.out.arg
  cases e3
  have HAQ:Hid (∀ a,ao=some a→∃ g,a=⟨g,0,none⟩):=Lib.hid (row_at RR.out)
  have HAO:=Lib.hid hao;have HCELL:=Lib.hid hcell;have HCAP:=Lib.hid hcap
  clear hao hcell hcap
  obtain ⟨M,hM⟩:∃ M,Hid (op.length=M):=⟨_,Lib.hid rfl⟩
  have RM:Hid (intE.Row wo w.heap.size (.slice ao M cap) op):=by rw [←hM.out];exact RR
  rw [hM.out] at HCAP HAO⊢
  clear RR
  by_cases hkl:k<N
  ·obtain ⟨n,hn⟩:∃ n,t[k]?=some n:=⟨_,List.getElem?_eq_getElem (by rw [hN.out];exact hkl)⟩
   obtain ⟨ba',oa,rfl,l1,c0,c1,c2,c3,c4,c5,c6,c7,c8⟩:=HA.out k n hn
   have i0:(0:Int)≤(k:Int):=by omega
   have i1:(k:Int)<(N:Int):=by omega
   have i2:decide ((k:Int)<(N:Int))=true:=by simp;omega
   have i3:decide (k<N)=true:=by simpa using hkl
   have kc:=fun {o:Nat} {u:Value} (h:w.cell? ⟨ba',o,none⟩=some u)=>(B.out.cell (p:=⟨ba',o,none⟩) l1).trans h
   replace c0:=kc c0
   have CK:Hid (∀ j,j<3→wo.cell? ⟨ba',oa+k*9+5+j,none⟩=some (.int .i64 (kidX n j))):=Lib.hid (fun j hj=>by
    match j,hj with
    | 0,_=>exact kc c5
    | 1,_=>exact kc c6
    | 2,_=>exact kc c7)
   have kw:IntKind.i64.wrap ((k:Int)+1)=(k:Int)+1:=wrap1 k (by have:=HL.out;have:=hN.out;omega)
   have NOK:=Lib.hid (HNO.out n (List.mem_of_getElem? hn))
   have HK:=Lib.hid hkl;have HNN:=Lib.hid hn
   have KC:=fun w=>kids_is n.op NOK.out.1.1 w
   obtain ⟨z,hz⟩:∃ z,Hid (kidsN n.op=z):=⟨_,Lib.hid rfl⟩
   rw [hz.out] at KC
   clear hk hkl hn kc c1 c2 c3 c4 c5 c6 c7 c8
   go_upto_region 6 with (go_at_call 89;(with_reducible refine (KC _).mono ?_);rintro e1 w1 ⟨rfl,hq⟩;obtain rfl:=hq.symm;clear KC)
   by_cases hz0:z<0
   ·have z1:decide (z<0)=true:=decide_eq_true hz0
    clear hz0
    go_wp2_with fail
    go_ret
    exact ⟨false,rfl,(fun e=>by cases e),B.out⟩
   ·have z1:decide (z<0)=false:=decide_eq_false hz0
    by_cases hzm:z>(M:Int)
    ·have z2:decide (z>(M:Int))=true:=decide_eq_true hzm
     have z3:decide ((M:Int)<z)=true:=decide_eq_true hzm
     clear hz0 hzm
     go_wp2_with fail
     go_ret
     exact ⟨false,rfl,(fun e=>by cases e),B.out⟩
    ·have z2:decide (z>(M:Int))=false:=decide_eq_false hzm
     have z3:decide ((M:Int)<z)=false:=decide_eq_false hzm
     obtain ⟨q,rfl⟩:∃ q:Nat,z=(q:Int):=⟨z.toNat,by omega⟩
     have z4:decide (M<q)=false:=decide_eq_false (by omega)
     obtain ⟨m,hm⟩:∃ m:Nat,Hid (M=m+q):=⟨M - q,Lib.hid (by omega)⟩
     have HM0:M≤400:=by have:=HU.out.2.2.1;have:=hM.out;have:=HK.out;have:=HL.out;have:=hN.out;omega
     have kz:IntKind.i64.wrap ((M:Int) - (q:Int))=(m:Int):=by have:=hm.out;rw [show (M:Int) - (q:Int)=(m:Int) by omega];exact wrapN m (by omega)
     obtain ⟨bo,CUT,CUTA⟩:=cut_high ao M cap m (by have:=hm.out;omega) HCAP.out
     have CUTB:Hid (∀ g,ao=some ⟨g,0,none⟩→m<cap→bo=some ⟨g,m,none⟩):=Lib.hid CUTA
     have e5:M - m=q:=by have:=hm.out;omega
     rw [e5] at CUT
     have CLO:=fun w'=>cut_low ao M cap m w' (by have:=hm.out;have:=HCAP.out;omega) HAQ.out
     have HMM:=Lib.hid HM0
     clear hz0 hzm e5 CUTA HM0
     go_wp2_with fail
     go_loopw [7] (fun i wr=>∃ (j:Nat),i=.int .i64 (j:Int)∧j≤3∧wo=wr∧Hid (∀ p,p<j→kidT op m q p (kidX n p))) (fun i _=>3 - (intOf i).toNat)
     case atStart=>exact ⟨0,rfl,by omega,rfl,fun p h=>absurd h (by omega)⟩
     case round=>
      obtain ⟨j,rfl,hj,rfl,KD⟩:=hrel
      by_cases hj3:j<3
      ·obtain ⟨xj,hxj⟩:∃ x,Hid (kidX n j=x):=⟨_,Lib.hid rfl⟩
       have cj:=CK.out j hj3
       rw [hxj.out] at cj
       have y0:(0:Int)≤(j:Int):=by omega
       have y1:(j:Int)<3:=by omega
       have y2:decide ((j:Int)<3)=true:=by simp;omega
       have y3:decide (j<3)=true:=by simpa using hj3
       have yw:IntKind.i64.wrap ((j:Int)+1)=(j:Int)+1:=wrap1 j (by omega)
       have HJ:=Lib.hid hj3
       clear hj3 hj
       by_cases hjq:j<q
       ·have s0:decide ((j:Int)<(q:Int))=true:=by simp;omega
        have s1:decide (j<q)=true:=by simpa using hjq
        have s2:(j:Int)<(q:Int):=by omega
        obtain ⟨x,hx⟩:∃ x,op[m+j]?=some x:=⟨_,List.getElem?_eq_getElem (by rw [hM.out,hm.out];omega)⟩
        obtain ⟨g,og,hg,lg,cg⟩:=HCELL.out _ x hx
        obtain ⟨g',hg'⟩:=HAQ.out _ hg
        cases hg'
        obtain rfl:=CUTB.out g hg (by have:=hm.out;have:=HCAP.out;omega)
        rw [Nat.zero_add] at cg
        have XB:=Lib.hid hx
        have HJQ:=Lib.hid hjq
        clear hx hg lg hjq
        by_cases e:xj=x
        ·subst e
         have t1:(xj !=xj)=false:=by simp
         have t2:decide (xj=xj)=true:=by simp
         have t3:(xj==xj)=true:=by simp
         have KS:Hid (∀ p,p<j+1→kidT op m q p (kidX n p)):=Lib.hid (kd_next KD.out (by rw [hxj.out];unfold kidT;rw [if_pos HJQ.out];exact XB.out))
         go_wp2_with fail
         refine ⟨⟨j+1,rfl,HJ.out,trivial,KS.out⟩,?_⟩
         show 3 - ((j:Int)+1).toNat<3 - (j:Int).toNat;have:=HJ.out;omega
        ·have t1:(xj !=x)=true:=by simpa using e
         have t2:decide (xj=x)=false:=decide_eq_false e
         have t3:(xj==x)=false:=by simpa using e
         clear e
         go_wp2_with fail
         go_ret
         exact ⟨false,rfl,(fun e=>by cases e),B.out⟩
       ·have s0:decide ((j:Int)<(q:Int))=false:=by simp;omega
        have s1:decide (j<q)=false:=by simpa using hjq
        have HJQ:=Lib.hid hjq
        clear hjq
        by_cases e:xj= -1
        ·subst e
         have KS:Hid (∀ p,p<j+1→kidT op m q p (kidX n p)):=Lib.hid (kd_next KD.out (by rw [hxj.out];unfold kidT;rw [if_neg HJQ.out]))
         go_wp2_with fail
         refine ⟨⟨j+1,rfl,HJ.out,trivial,KS.out⟩,?_⟩
         show 3 - ((j:Int)+1).toNat<3 - (j:Int).toNat;have:=HJ.out;omega
        ·have t1:(xj != -1)=true:=by simpa using e
         have t2:decide (xj= -1)=false:=decide_eq_false e
         have t3:(xj== -1)=false:=by simpa using e
         clear e
         go_wp2_with fail
         go_ret
         exact ⟨false,rfl,(fun e=>by cases e),B.out⟩
      ·have y2:decide ((j:Int)<3)=false:=by simp;omega
       have y3:decide (j<3)=false:=by simpa using hj3
       have HU2:=Lib.hid (HU.out.next HNN.out m (node_of HU.out HNN.out hz.out (by rw [hM.out,hm.out]) (fun p hp=>KD.out p (by omega))))
       clear hj3 hj KD
       have B1:=Lib.hid (bt B.out (ba wo (.cells #[] 3)))
       have RE:=Lib.hid ((Elem.row_empty (E:=intE) (w:=wo) 3 rfl).low B.out.size)
       have R1:=Lib.hid (Elem.Row.below RM.out (ba wo (.cells #[] 3)))
       have SRC:Hid (intE.Arg (wo.alloc (.cells #[] 3)) (.slice ao m cap) (op.take m)):=Lib.hid (arg_take (by have:=hm.out;have:=hM.out;omega) (by rw [hM.out];exact R1.out.arg))
       have HTL:Hid ((op.take m).length=m):=Lib.hid (by rw [List.length_take,hM.out];have:=hm.out;omega)
       have HFL:Hid (([]:List Int).length+(op.take m).length≤1000001):=Lib.hid (by rw [HTL.out];have:=hm.out;have:=HMM.out;show 0+m≤_;omega)
       have HFM:Hid (([]++op.take m).length+1≤1000001):=Lib.hid (by rw [List.nil_append,HTL.out];have:=hm.out;have:=HMM.out;omega)
       go_wp2_with (first
        | (at_builtin;go_loud (refine Elem.app (E:=intE) rfl _ _ rfl w.heap.size (.slice (some ⟨wo.heap.size,0,none⟩) 0 0) [] (.slice ao m cap) (op.take m) rfl rfl RE.out SRC.out HFL.out (by decide) B1.out.size ?_;intro v6 w6 r6 q6 _;have R6:=Lib.hid r6;have B6:=Lib.hid (B1.out.grown q6 B1.out.size (fun z hz=>(RE.out.lt z hz).1));have SRC2:=Lib.hid (Elem.arg_one (E:=intE) (w:=w6) (k:Int) 3);have RA:=Lib.hid (Elem.Row.below R6.out (ba w6 (.cells #[.int .i64 (k:Int)] 3)));have BA:=Lib.hid (bt B6.out (ba w6 (.cells #[.int .i64 (k:Int)] 3)));clear r6 q6 RE SRC))
        | (at_builtin;go_loud (refine Elem.app (E:=intE) rfl _ _ rfl w.heap.size v6 ([]++op.take m) (.slice (some ⟨w6.heap.size,0,none⟩) 1 1) [(k:Int)] rfl rfl RA.out SRC2.out HFM.out (by decide) BA.out.size ?_;intro v7 w7 r7 q7 _;have R7:=Lib.hid r7;have B7:=Lib.hid (BA.out.grown q7 BA.out.size (fun z hz=>(RA.out.lt z hz).1));clear r7 q7)))
       refine ⟨⟨k+1,op.take m++[(k:Int)],rfl,HK.out,HU2.out,R7,B7⟩,?_⟩
       show N - ((k:Int)+1).toNat<N - (k:Int).toNat;have:=HK.out;omega
  ·have hkN:k=N:=by omega
   subst hkN
   have i2:decide ((k:Int)<(k:Int))=false:=by simp
   have HUN:=Lib.hid HU.out.1
   have HE:Hid (0<M→t ≠ []):=Lib.hid (fun h e=>by subst e;have h1:=hN.out;have:=HU.out.2.2.1;have:=hM.out;simp at h1;omega)
   have HWH:Hid (M=1→WholeT t):=Lib.hid (fun e=>⟨fun i n hi=>HUN.out i n (by have:=(List.getElem?_eq_some_iff.1 hi).1;have:=hN.out;omega) hi,HE.out (by omega)⟩)
   clear hk hkl HUN HE
   go_wp2_with fail
   go_ret
   refine ⟨_,rfl,fun e=>HWH.out ?_,B.out⟩
   have e2:(M:Int)=1:=by simpa using e
   omega
end Go.Proofs.YteagpbkbdlmdiaaGreat.Ek
namespace Go.Proofs.YteagpbkbdlmdiaaGreat.Ek
open Go Go.RowKit Dt Tx Va Ev
attribute [local go_sem ↓] Go.wp_at_zero Go.wp_at_succ
theorem str_of {w:World} {f:Nat} {xs:Array Value} (h:Calls Tryz.prog f xs w fun e w'=>(∃ S:ByteArray,e=.returned (.string S)∧S.size≤10)∧w'=w):Calls Tryz.prog f xs w (StrP 10 w):=
 h.mono (fun e w' ⟨⟨S,hS,hl⟩,hw⟩=>⟨S,hS,hl,by rw [hw];exact Below.refl _ _⟩)
theorem size_app (a b:ByteArray):(a++b).size=a.size+b.size:=ByteArray.size_append
set_option maxRecDepth 100000 in
set_option maxHeartbeats 2000000 in
theorem at_is {w:World} {vt:Value} {t:List Nd} (ht:ndE.Arg w vt t) (hno:∀ n ∈ t,n.ok) {j M:Nat} (hj:j<t.length) (hM:M≤1000000) (TX:Calls Tryz.prog 45 #[vt,.int .i64 (j:Int)] w (StrP M w)) (least:Int):Calls Tryz.prog 91 #[vt,.int .i64 (j:Int),.int .i64 least] w (StrP (M+2) w):=by
 obtain ⟨aa,ca,rfl,h1⟩:=argN ht
 obtain ⟨n,hn⟩:∃ n,t[j]?=some n:=⟨_,List.getElem?_eq_getElem hj⟩
 obtain ⟨ba',oa,rfl,lb,c0,_⟩:=h1 j n hn
 have LC:=fun w=>level_is n.op (hno n (List.mem_of_getElem? hn)).1.1 w
 obtain ⟨N,hN⟩:∃ N,Hid (t.length=N):=⟨_,Lib.hid rfl⟩
 rw [hN.out] at TX⊢
 have i1:(j:Int)<(N:Int):=by have:=hN.out;omega
 have i0:(0:Int)≤(j:Int):=by omega
 have HC:=Lib.hid c0;have HL:=Lib.hid lb
 clear ht hno hj h1 hn c0 lb hN
 go_enter Tryz.func91,Tryz.ntmps91
 go_upto_region 2 with (go_at_call 45;(with_reducible refine TX.mono ?_);rintro e1 w1 ⟨S1,rfl,l1,q1⟩;clear TX)
 have c0:=(q1.cell (p:=⟨ba',_,none⟩) HL.out).trans HC.out
 have B1:=Lib.hid q1
 clear q1 HC HL
 have f1:¬9223372036854775807<1+S1.size:=by omega
 have f2:¬9223372036854775807<1+S1.size+1:=by omega
 have HM:=Lib.hid hM;have HS:=Lib.hid l1
 clear hM l1
 go_wp2_with (go_at_call 94;(with_reducible refine (LC _).mono ?_);rintro e2 w2 ⟨⟨z,rfl⟩,hq⟩;obtain rfl:=hq.symm;clear LC)
 ·go_ret
  refine ⟨_,rfl,?_,B1.out⟩
  rw [size_app,size_app]
  have h1:ByteArray.size ⟨#[40]⟩=1:=rfl
  have h2:ByteArray.size ⟨#[41]⟩=1:=rfl
  rw [h1,h2];have:=HS.out;omega
 ·go_ret
  exact ⟨_,rfl,by have:=HS.out;omega,B1.out⟩
end Go.Proofs.YteagpbkbdlmdiaaGreat.Ek
namespace Go.Proofs.YteagpbkbdlmdiaaGreat.Ek
open Go Go.RowKit Dt Tx Va Ev
attribute [local go_sem ↓] Go.wp_at_zero Go.wp_at_succ
def fdE:Elem Tryz.prog Fd where
 sl:=36
 e:=116
 sz:=2
 bytes:=24
 z:=.agg #[.string ⟨#[]⟩,.int .u8 0]
 enc:=fun x=>[.string (bs x.n),.int .u8 x.k]
 und:=Tryz.underlying36
 info:=by kernel_rfl
 zs:=rfl
 pos:=by decide
 len:=fun _=>rfl
 one:=fun x u hu=>by simp only [List.mem_cons,List.not_mem_nil,or_false] at hu;rcases hu with rfl | rfl<;>rfl
theorem argF {w:World} {v:Value} {xs:List Fd} (h:fdE.Arg w v xs):∃ (ao:Option Addr) (cap:Nat),v=.slice ao xs.length cap∧∀ (i:Nat) (x:Fd),xs[i]?=some x→∃ b o:Nat,ao=some ⟨b,o,none⟩∧b<w.heap.size∧
  w.cell? ⟨b,o+i*2,none⟩=some (.string (bs x.n))∧w.cell? ⟨b,o+i*2+1,none⟩=some (.int .u8 x.k):=by
 obtain ⟨ao,cap,e,_,h⟩:=h
 refine ⟨ao,cap,e,fun i x hx=>?_⟩
 obtain ⟨b,o,h1,h2,h3⟩:=h i x hx
 exact ⟨b,o,h1,h2,h3 0 _ rfl,h3 1 _ rfl⟩
theorem find_at {nm:List UInt8}:∀ {fs:List Fd} {k:Nat} {x:Fd},fs[k]?=some x→x.n=nm→(∀ j (y:Fd),j<k→fs[j]?=some y→y.n ≠ nm)→findF fs nm=(x.k,true)
 | f :: r,0,x,h,e,_=>by cases h;unfold findF;rw [if_pos e]
 | f :: r,k+1,x,h,e,hn=>by
  unfold findF
  rw [if_neg (hn 0 f (by omega) rfl)]
  exact find_at (fs:=r) h e (fun j y hj hy=>hn (j+1) y (by omega) hy)
 | [],k,x,h,_,_=>by simp at h
theorem find_no {nm:List UInt8}:∀ {fs:List Fd},(∀ (j:Nat) (y:Fd),fs[j]?=some y→y.n ≠ nm)→findF fs nm=(0,false)
 | [],_=>rfl
 | f :: r,hn=>by
  unfold findF
  rw [if_neg (hn 0 f rfl)]
  exact find_no (fun j y hy=>hn (j+1) y hy)
def FiP (r:Int × Bool) (w:World) (e:Ending) (w':World):Prop:=e=.returned (.tuple #[.int .u8 r.1,.bool r.2])∧w'=w
set_option maxRecDepth 100000 in
set_option maxHeartbeats 2000000 in
theorem find_is {w:World} {vf:Value} {fs:List Fd} (hf:fdE.Arg w vf fs) (hl:fs.length≤1000) (nm:List UInt8):Calls Tryz.prog 47 #[vf,.string (bs nm)] w (FiP (findF fs nm) w):=by
 obtain ⟨aa,ca,rfl,h1⟩:=argF hf
 have HA:=Lib.hid h1;have HL:=Lib.hid hl
 obtain ⟨N,hN⟩:∃ N,Hid (fs.length=N):=⟨_,Lib.hid rfl⟩
 rw [hN.out]
 obtain ⟨S,hS⟩:∃ S,Hid (bs nm=S):=⟨_,Lib.hid rfl⟩
 rw [hS.out]
 obtain ⟨res,hr⟩:∃ r,Hid (findF fs nm=r):=⟨_,Lib.hid rfl⟩
 rw [hr.out]
 clear hf h1 hl
 go_enter Tryz.func47,Tryz.ntmps47
 go_wp2_with fail
 go_loopw [6] (fun i wr=>∃ (k:Nat),i=.int .i64 (k:Int)∧k≤N∧w=wr∧Hid (∀ (j:Nat) (y:Fd),j<k→fs[j]?=some y→y.n ≠ nm)) (fun i _=>N - (intOf i).toNat)
 case atStart=>exact ⟨0,rfl,by omega,rfl,fun j y h=>absurd h (Nat.not_lt_zero j)⟩
 case round=>
  obtain ⟨k,rfl,hk,rfl,NB⟩:=hrel
  by_cases hkl:k<N
  ·obtain ⟨x,hx⟩:∃ n,fs[k]?=some n:=⟨_,List.getElem?_eq_getElem (by rw [hN.out];exact hkl)⟩
   obtain ⟨ba,oa,rfl,la,c0,c1⟩:=HA.out k x hx
   have i0:(0:Int)≤(k:Int):=by omega
   have i1:(k:Int)<(N:Int):=by omega
   have i2:decide ((k:Int)<(N:Int))=true:=by simp;omega
   have i3:decide (k<N)=true:=by simpa using hkl
   have kw:IntKind.i64.wrap ((k:Int)+1)=(k:Int)+1:=wrap1 k (by have:=HL.out;have:=hN.out;omega)
   have HK:=Lib.hid hkl
   by_cases hn:x.n=nm
   ·have E:=find_at hx hn NB.out
    rw [hn,hS.out] at c0
    have ss:(S.toList==S.toList)=true:=by simp
    rw [hr.out] at E
    subst E
    clear hkl hk hx hn NB hr la
    go_wp2_with fail
    go_ret2
    exact ⟨rfl,rfl⟩
   ·obtain ⟨T,hT⟩:∃ S,Hid (bs x.n=S):=⟨_,Lib.hid rfl⟩
    have ss:(T.toList==S.toList)=false:=by rw [←hT.out,←hS.out,bs_toList,bs_toList];simpa using hn
    rw [hT.out] at c0
    have NB2:Hid (∀ (j:Nat) (y:Fd),j<k+1→fs[j]?=some y→y.n ≠ nm):=Lib.hid (fun j y hj hy=>by
     by_cases e:j<k
     ·exact NB.out j y e hy
     ·obtain rfl:j=k:=by omega
      rw [hx] at hy;cases hy;exact hn)
    clear hkl hk hx hn NB hT la
    go_wp2_with fail
    go_roundw
    case rel=>exact ⟨k+1,rfl,by have:=HK.out;omega,trivial,NB2⟩
    case measure=>show N - ((k:Int)+1).toNat<N - ((k:Int)).toNat;have:=HK.out;omega
  ·have hke:k=N:=by omega
   subst hke
   have i2:decide ((k:Int)<(k:Int))=false:=by simp
   have E:=find_no (fs:=fs) (nm:=nm) (fun j y hy=>NB.out j y (by have:=(List.getElem?_eq_some_iff.1 hy).1;have:=hN.out;omega) hy)
   rw [hr.out] at E
   subst E
   clear hkl hk NB hr
   go_wp2_with fail
   go_ret2
   exact ⟨rfl,rfl⟩
end Go.Proofs.YteagpbkbdlmdiaaGreat.Ek
