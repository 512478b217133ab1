/-
  THE WALK of the reference's plus; THE WALKS of the reference's minus and against; THE WALKS of the reference's Add, Neg, Sub, Cmp; THE WALKS of the reference's Sub, Cmp.
-/
import Derived.Test.YteagpbkbdlmdiaaGreatQ5
import Derived.Test.YteagpbkbdlmdiaaGreatQ6
import Derived.Deep.QuietTactic
import Derived.BigQuiet
import Derived.Deep.RegionHeld3
import Derived.Deep.DrawnRows
set_option linter.unusedSimpArgs false
set_option linter.unusedVariables false
namespace Go.Proofs.YteagpbkbdlmdiaaGreat
open Go.RowKit
theorem rowW_gd {w:World} {a:Option Addr} {n cap:Nat} {ds:List Nat} (h:RowW w (.slice a n cap) ds) (i:Nat) (hi:i<ds.length):∃ g,a=some ⟨g,0,none⟩∧w.cell? ⟨g,i,none⟩=some (.int .i64 ((Nm.gd ds i:Nat):Int)):=by
 obtain ⟨g,rfl,_⟩:=rowW_some h (by omega)
 obtain ⟨d,h1,h2⟩:=rowW_at' h i hi
 exact ⟨g,rfl,by rw [Nm.gd_some ds i d h1];exact h2⟩
def PlusPost (xs ys cs:List Nat):Prop:=Nm.Digs cs∧Nm.val cs=Nm.val xs+Nm.val ys∧cs.length≤max xs.length ys.length+1∧(Nm.Canon xs→Nm.Canon ys→Nm.Canon cs)
theorem plus_rel {xs ys es:List Nat} {j k B:Nat} {w1:World} {v':Value} {s:Nat} (hi:Nm.PlusInv xs ys j k es) (hown:RowB w1 B v' (es++[s % 1000])) (da:Nm.Digs xs) (db:Nm.Digs ys)
  (hgo:j<xs.length∨j<ys.length∨0<k) (hs:s=k+Nm.gd xs j+Nm.gd ys j) :
  ∃ a' cap',v'=.slice a' (j+1) cap'∧Hid (RowB w1 B v' (es++[s % 1000])∧Nm.PlusInv xs ys (j+1) (s / 1000) (es++[s % 1000]))∧s / 1000≤1:=by
 obtain ⟨a',cap',rfl,_⟩:=rowW_form hown.row
 have h:=Nm.plus_round xs ys j k es hi da db hgo s hs
 refine ⟨a',cap',?_,⟨hown,h⟩,h.2.2.1⟩
 rw [h.1]
set_option maxHeartbeats 2000000 in
theorem plus_any (va vb:Value) (xs ys:List Nat) (w:World) (ha:RowW w va xs) (hb:RowW w vb ys) (da:Nm.Digs xs) (db:Nm.Digs ys) (la:xs.length≤10000) (lb:ys.length≤10000) :
  Calls Tryz.prog 159 #[va,vb] w (RowPost (PlusPost xs ys) w):=by
 obtain ⟨aa,ca,rfl,_⟩:=rowW_form ha
 obtain ⟨ab,cb,rfl,_⟩:=rowW_form hb
 obtain ⟨na,hna⟩:∃ n,xs.length=n:=⟨_,rfl⟩
 obtain ⟨nb,hnb⟩:∃ n,ys.length=n:=⟨_,rfl⟩
 rw [hna] at ha la
 rw [hnb] at hb lb
 rw [hna,hnb]
 have HA:Hid (RowW w (.slice aa na ca) xs∧Nm.Digs xs∧xs.length=na):=⟨ha,da,hna⟩
 have HB:Hid (RowW w (.slice ab nb cb) ys∧Nm.Digs ys∧ys.length=nb):=⟨hb,db,hnb⟩
 clear ha hb da db hna hnb
 go_enter Tryz.func159,Tryz.ntmps159
 go_wp2
 go_loopw [5,6,7] (fun o c i wr=>∃ (j k:Nat) (es:List Nat) (a:Option Addr) (cap:Nat),i=.int .i64 (j:Int)∧c=.int .i64 (k:Int)∧o=.slice a j cap∧j≤20000∧k≤1∧Hid (RowB wr w.heap.size o es∧Nm.PlusInv xs ys j k es)∧Below w.heap.size w wr) (fun _ _ i _=>20001 - (intOf i).toNat)
 case atStart=>exact ⟨0,0,[],none,0,rfl,rfl,rfl,by omega,by omega,⟨rowB_nil _ _,Nm.plus_start xs ys⟩,Below.refl _ _⟩
 case round=>
  rename_i wr
  obtain ⟨j,k,es,a,cap,rfl,rfl,rfl,hj,hk,hr,hbl⟩:=hrel
  have hsz:w.heap.size≤wr.heap.size:=hbl.size
  have hjl:j≤10001:=by have:=Nm.plus_len _ _ _ _ _ hr.out.2;have q1:=HA.out.2.2;have q2:=HB.out.2.2;omega
  by_cases h1:j<na
  ·obtain ⟨g,rfl,hc⟩:=rowW_gd (rowW_below HA.out.1 hbl) j (by rw [HA.out.2.2];exact h1)
   have gl:=Nm.gd_lt xs j HA.out.2.1
   obtain ⟨x,HX⟩:∃ x,Hid (Nm.gd xs j=x):=⟨_,rfl⟩
   rw [HX.out] at hc gl
   by_cases h2:j<nb
   ·obtain ⟨g',rfl,hc'⟩:=rowW_gd (rowW_below HB.out.1 hbl) j (by rw [HB.out.2.2];exact h2)
    have gl':=Nm.gd_lt ys j HB.out.2.1
    obtain ⟨y,HY⟩:∃ y,Hid (Nm.gd ys j=y):=⟨_,rfl⟩
    rw [HY.out] at hc' gl'
    go_wp2_with (at_builtin;refine append1 rfl _ _ rfl w.heap.size _ es rfl (rowB_below hr.out.1 (ba _ _)) wr.heap.size ((k+x+y) % 1000) rfl (cell_new1 _ _ _ _ (by omega)) (by have:=hr.out.2.1;omega) (by simp;omega) ?_)
    intro v' w1 hown1 hb1
    obtain ⟨a',cap',rfl,HN,hk'⟩:=plus_rel hr.out.2 hown1 HA.out.2.1 HB.out.2.1 (.inl (by rw [HA.out.2.2];exact h1)) (by rw [HX.out,HY.out])
    have HBL:Hid (Below w.heap.size w w1):=hbl.trans (((Below.refl _ _).alloc hsz _).trans hb1)
    clear hown1 hb1 hsz
    go_wp2
    go_roundw
    case rel=>exact ⟨j+1,(k+x+y) / 1000,_,a',cap',by go_num,by simp,rfl,by omega,by omega,HN,HBL.out⟩
    case measure=>simp [intOf];omega
   ·have HY:Hid (Nm.gd ys j=0):=Nm.gd_none ys j (by rw [HB.out.2.2];omega)
    go_wp2_with (at_builtin;refine append1 rfl _ _ rfl w.heap.size _ es rfl (rowB_below hr.out.1 (ba _ _)) wr.heap.size ((k+x) % 1000) rfl (cell_new1 _ _ _ _ (by omega)) (by have:=hr.out.2.1;omega) (by simp;omega) ?_)
    intro v' w1 hown1 hb1
    obtain ⟨a',cap',rfl,HN,hk'⟩:=plus_rel hr.out.2 hown1 HA.out.2.1 HB.out.2.1 (.inl (by rw [HA.out.2.2];exact h1)) (by rw [HX.out,HY.out];rfl)
    have HBL:Hid (Below w.heap.size w w1):=hbl.trans (((Below.refl _ _).alloc hsz _).trans hb1)
    clear hown1 hb1 hsz
    go_wp2
    go_roundw
    case rel=>exact ⟨j+1,(k+x) / 1000,_,a',cap',by go_num,by simp,rfl,by omega,by omega,HN,HBL.out⟩
    case measure=>simp [intOf];omega
  ·have HX:Hid (Nm.gd xs j=0):=Nm.gd_none xs j (by rw [HA.out.2.2];omega)
   by_cases h2:j<nb
   ·obtain ⟨g',rfl,hc'⟩:=rowW_gd (rowW_below HB.out.1 hbl) j (by rw [HB.out.2.2];exact h2)
    have gl':=Nm.gd_lt ys j HB.out.2.1
    obtain ⟨y,HY⟩:∃ y,Hid (Nm.gd ys j=y):=⟨_,rfl⟩
    rw [HY.out] at hc' gl'
    go_wp2_with (at_builtin;refine append1 rfl _ _ rfl w.heap.size _ es rfl (rowB_below hr.out.1 (ba _ _)) wr.heap.size ((k+y) % 1000) rfl (cell_new1 _ _ _ _ (by omega)) (by have:=hr.out.2.1;omega) (by simp;omega) ?_)
    intro v' w1 hown1 hb1
    obtain ⟨a',cap',rfl,HN,hk'⟩:=plus_rel hr.out.2 hown1 HA.out.2.1 HB.out.2.1 (.inr (.inl (by rw [HB.out.2.2];exact h2))) (by rw [HX.out,HY.out];rfl)
    have HBL:Hid (Below w.heap.size w w1):=hbl.trans (((Below.refl _ _).alloc hsz _).trans hb1)
    clear hown1 hb1 hsz
    go_wp2
    go_roundw
    case rel=>exact ⟨j+1,(k+y) / 1000,_,a',cap',by go_num,by simp,rfl,by omega,by omega,HN,HBL.out⟩
    case measure=>simp [intOf];omega
   ·have HY:Hid (Nm.gd ys j=0):=Nm.gd_none ys j (by rw [HB.out.2.2];omega)
    by_cases hk0:0<k
    ·go_wp2_with (at_builtin;refine append1 rfl _ _ rfl w.heap.size _ es rfl (rowB_below hr.out.1 (ba _ _)) wr.heap.size ((k) % 1000) rfl (cell_new1 _ _ _ _ (by omega)) (by have:=hr.out.2.1;omega) (by simp;omega) ?_)
     intro v' w1 hown1 hb1
     obtain ⟨a',cap',rfl,HN,hk'⟩:=plus_rel hr.out.2 hown1 HA.out.2.1 HB.out.2.1 (.inr (.inr hk0)) (by rw [HX.out,HY.out];rfl)
     have HBL:Hid (Below w.heap.size w w1):=hbl.trans (((Below.refl _ _).alloc hsz _).trans hb1)
     clear hown1 hb1 hsz
     go_wp2
     go_roundw
     case rel=>exact ⟨j+1,(k) / 1000,_,a',cap',by go_num,by simp,rfl,by omega,by omega,HN,HBL.out⟩
     case measure=>simp [intOf];omega
    ·obtain rfl:k=0:=by omega
     have HE:=Lib.hid (Nm.plus_end xs ys j 0 es hr.out.2 (by rw [HA.out.2.2];exact h1) (by rw [HB.out.2.2];exact h2) (by omega))
     go_wp2_with fail
     go_ret
     refine ⟨_,es,hr.out.1.row,?_,rfl,hbl⟩
     exact HE.out
end Go.Proofs.YteagpbkbdlmdiaaGreat
namespace Go.Proofs.YteagpbkbdlmdiaaGreat
set_option maxHeartbeats 2000000
open Go.RowKit
def MinusPost (xs ys cs:List Nat):Prop:=Nm.Digs cs∧Nm.val cs=Nm.val xs - Nm.val ys∧cs.length=xs.length
theorem minus_rel {xs ys es:List Nat} {j due due' r B:Nat} {w1:World} {v':Value} (hi:Nm.MinusInv xs ys j due es) (hown:RowB w1 B v' (es++[r])) (hj:j<xs.length)
  (hr:r+Nm.gd ys j+due=Nm.gd xs j+1000*due') (hr1:r<1000) (hd:due'≤1) :
  ∃ a' cap',v'=.slice a' (j+1) cap'∧Hid (RowB w1 B v' (es++[r])∧Nm.MinusInv xs ys (j+1) due' (es++[r])):=by
 obtain ⟨a',cap',rfl,_⟩:=rowW_form hown.row
 have h:=Nm.minus_round xs ys j due es hi hj r due' hr hr1 hd
 exact ⟨a',cap',by rw [h.1],hown,h⟩
theorem minus_any (va vb:Value) (xs ys:List Nat) (w:World) (ha:RowW w va xs) (hb:RowW w vb ys) (da:Nm.Digs xs) (db:Nm.Digs ys) (la:xs.length≤10001) (lb:ys.length≤xs.length) (hv:Nm.val ys≤Nm.val xs) :
  Calls Tryz.prog 161 #[va,vb] w (RowPost (MinusPost xs ys) w):=by
 obtain ⟨aa,ca,rfl,_⟩:=rowW_form ha
 obtain ⟨ab,cb,rfl,_⟩:=rowW_form hb
 have HV:=Lib.hid hv
 obtain ⟨na,hna⟩:∃ n,xs.length=n:=⟨_,rfl⟩
 obtain ⟨nb,hnb⟩:∃ n,ys.length=n:=⟨_,rfl⟩
 rw [hna] at ha la lb
 rw [hnb] at hb lb
 rw [hna,hnb]
 have HA:Hid (RowW w (.slice aa na ca) xs∧Nm.Digs xs∧xs.length=na):=⟨ha,da,hna⟩
 have HB:Hid (RowW w (.slice ab nb cb) ys∧Nm.Digs ys∧ys.length=nb):=⟨hb,db,hnb⟩
 clear ha hb da db hna hnb hv
 go_enter Tryz.func161,Tryz.ntmps161
 go_wp2
 go_loopw [5,6,7] (fun o c i wr=>∃ (j k:Nat) (es:List Nat) (a:Option Addr) (cap:Nat),i=.int .i64 (j:Int)∧c=.int .i64 (k:Int)∧o=.slice a j cap∧j≤na∧k≤1∧Hid (RowB wr w.heap.size o es∧Nm.MinusInv xs ys j k es)∧Below w.heap.size w wr) (fun _ _ i _=>20001 - (intOf i).toNat)
 case atStart=>exact ⟨0,0,[],none,0,rfl,rfl,rfl,by omega,by omega,⟨rowB_nil _ _,Nm.minus_start xs ys⟩,Below.refl _ _⟩
 case round=>
  rename_i wr
  obtain ⟨j,k,es,a,cap,rfl,rfl,rfl,hj,hk,hr,hbl⟩:=hrel
  have hsz:w.heap.size≤wr.heap.size:=hbl.size
  by_cases h1:j<na
  ·obtain ⟨g,rfl,hc⟩:=rowW_gd (rowW_below HA.out.1 hbl) j (by rw [HA.out.2.2];exact h1)
   have gl:=Nm.gd_lt xs j HA.out.2.1
   obtain ⟨x,HX⟩:∃ x,Hid (Nm.gd xs j=x):=⟨_,rfl⟩
   rw [HX.out] at hc gl
   by_cases h2:j<nb
   ·obtain ⟨g',rfl,hc'⟩:=rowW_gd (rowW_below HB.out.1 hbl) j (by rw [HB.out.2.2];exact h2)
    have gl':=Nm.gd_lt ys j HB.out.2.1
    obtain ⟨y,HY⟩:∃ y,Hid (Nm.gd ys j=y):=⟨_,rfl⟩
    rw [HY.out] at hc' gl'
    by_cases hx:x<k+y
    ·go_wp2_with (at_builtin;refine append1 rfl _ _ rfl w.heap.size _ es rfl (rowB_below hr.out.1 (ba _ _)) wr.heap.size (x+1000 - k - y) rfl (cell_new1 _ _ _ _ (by omega)) (by have:=hr.out.2.1;omega) (by simp;omega) ?_)
     intro v' w1 hown1 hb1
     obtain ⟨a',cap',rfl,HN⟩:=minus_rel (due':=1) hr.out.2 hown1 (by rw [HA.out.2.2];exact h1) (by rw [HX.out,HY.out];omega) (by omega) (by omega)
     have HBL:Hid (Below w.heap.size w w1):=hbl.trans (((Below.refl _ _).alloc hsz _).trans hb1)
     clear hown1 hb1 hsz
     go_wp2
     go_roundw
     case rel=>exact ⟨j+1,1,_,a',cap',by go_num,rfl,rfl,by omega,by omega,HN,HBL.out⟩
     case measure=>simp [intOf];omega
    ·go_wp2_with (at_builtin;refine append1 rfl _ _ rfl w.heap.size _ es rfl (rowB_below hr.out.1 (ba _ _)) wr.heap.size (x - k - y) rfl (cell_new1 _ _ _ _ (by omega)) (by have:=hr.out.2.1;omega) (by simp;omega) ?_)
     intro v' w1 hown1 hb1
     obtain ⟨a',cap',rfl,HN⟩:=minus_rel (due':=0) hr.out.2 hown1 (by rw [HA.out.2.2];exact h1) (by rw [HX.out,HY.out];omega) (by omega) (by omega)
     have HBL:Hid (Below w.heap.size w w1):=hbl.trans (((Below.refl _ _).alloc hsz _).trans hb1)
     clear hown1 hb1 hsz
     go_wp2
     go_roundw
     case rel=>exact ⟨j+1,0,_,a',cap',by go_num,rfl,rfl,by omega,by omega,HN,HBL.out⟩
     case measure=>simp [intOf];omega
   ·have HY:Hid (Nm.gd ys j=0):=Nm.gd_none ys j (by rw [HB.out.2.2];omega)
    by_cases hx:x<k
    ·go_wp2_with (at_builtin;refine append1 rfl _ _ rfl w.heap.size _ es rfl (rowB_below hr.out.1 (ba _ _)) wr.heap.size (x+1000 - k) rfl (cell_new1 _ _ _ _ (by omega)) (by have:=hr.out.2.1;omega) (by simp;omega) ?_)
     intro v' w1 hown1 hb1
     obtain ⟨a',cap',rfl,HN⟩:=minus_rel (due':=1) hr.out.2 hown1 (by rw [HA.out.2.2];exact h1) (by rw [HX.out,HY.out];omega) (by omega) (by omega)
     have HBL:Hid (Below w.heap.size w w1):=hbl.trans (((Below.refl _ _).alloc hsz _).trans hb1)
     clear hown1 hb1 hsz
     go_wp2
     go_roundw
     case rel=>exact ⟨j+1,1,_,a',cap',by go_num,rfl,rfl,by omega,by omega,HN,HBL.out⟩
     case measure=>simp [intOf];omega
    ·go_wp2_with (at_builtin;refine append1 rfl _ _ rfl w.heap.size _ es rfl (rowB_below hr.out.1 (ba _ _)) wr.heap.size (x - k) rfl (cell_new1 _ _ _ _ (by omega)) (by have:=hr.out.2.1;omega) (by simp;omega) ?_)
     intro v' w1 hown1 hb1
     obtain ⟨a',cap',rfl,HN⟩:=minus_rel (due':=0) hr.out.2 hown1 (by rw [HA.out.2.2];exact h1) (by rw [HX.out,HY.out];omega) (by omega) (by omega)
     have HBL:Hid (Below w.heap.size w w1):=hbl.trans (((Below.refl _ _).alloc hsz _).trans hb1)
     clear hown1 hb1 hsz
     go_wp2
     go_roundw
     case rel=>exact ⟨j+1,0,_,a',cap',by go_num,rfl,rfl,by omega,by omega,HN,HBL.out⟩
     case measure=>simp [intOf];omega
  ·have HE:=Lib.hid (Nm.minus_end xs ys j k es hr.out.2 (by rw [HA.out.2.2];exact h1) (by rw [HA.out.2.2,HB.out.2.2];exact lb) HV.out)
   go_wp2_with fail
   go_ret
   exact ⟨_,es,hr.out.1.row,HE.out,rfl,hbl⟩
def IntPost (n:Int) (w:World) (e:Ending) (w':World):Prop:=e=.returned (.int .i64 n)∧Below w.heap.size w w'
theorem against_any (va vb:Value) (xs ys:List Nat) (w:World) (ha:RowW w va xs) (hb:RowW w vb ys) (da:Nm.Canon xs) (db:Nm.Canon ys) (la:xs.length≤10001) (lb:ys.length≤10001) :
  Calls Tryz.prog 160 #[va,vb] w (IntPost (Nm.ag (Nm.val xs) (Nm.val ys)) w):=by
 obtain ⟨aa,ca,rfl,_⟩:=rowW_form ha
 obtain ⟨ab,cb,rfl,_⟩:=rowW_form hb
 obtain ⟨na,hna⟩:∃ n,xs.length=n:=⟨_,rfl⟩
 obtain ⟨nb,hnb⟩:∃ n,ys.length=n:=⟨_,rfl⟩
 rw [hna] at ha la
 rw [hnb] at hb lb
 rw [hna,hnb]
 have HA:Hid (RowW w (.slice aa na ca) xs∧Nm.Canon xs∧xs.length=na):=⟨ha,da,hna⟩
 have HB:Hid (RowW w (.slice ab nb cb) ys∧Nm.Canon ys∧ys.length=nb):=⟨hb,db,hnb⟩
 clear ha hb da db hna hnb
 rcases Nat.lt_trichotomy na nb with hl | hl | hl
 ·have hn:((na:Int) !=(nb:Int))=true:=by rw [bne_iff_ne];omega
  have HG:Hid (Nm.ag (Nm.val xs) (Nm.val ys)= -1):=Nm.ag_len_lt xs ys HA.out.2.1 HB.out.2.1 (by rw [HA.out.2.2,HB.out.2.2];exact hl)
  rw [HG.out]
  go_enter Tryz.func160,Tryz.ntmps160
  go_wp2
  go_ret
  exact ⟨rfl,Below.refl _ _⟩
 ·subst hl
  go_enter Tryz.func160,Tryz.ntmps160
  go_wp2
  go_loopw [5] (fun i wr=>∃ j:Nat,i=.int .i64 ((j:Int) - 1)∧j≤na∧Hid (xs.drop j=ys.drop j)∧Below w.heap.size w wr) (fun i _=>(intOf i+1).toNat)
  case atStart=>exact ⟨na,rfl,Nat.le_refl _,(by show _=_;rw [List.drop_eq_nil_of_le (by rw [HA.out.2.2];exact Nat.le_refl _),List.drop_eq_nil_of_le (by rw [HB.out.2.2];exact Nat.le_refl _)]),Below.refl _ _⟩
  case round=>
   rename_i wr
   obtain ⟨j,rfl,hj,hd,hbl⟩:=hrel
   rcases j with _ | j
   ·have HG:Hid (Nm.ag (Nm.val xs) (Nm.val ys)=0):=Nm.ag_same xs ys hd.out
    rw [show (((0:Nat):Int) - 1)= -1 from rfl]
    go_wp2
    go_ret
    exact ⟨by rw [HG.out];rfl,hbl⟩
   ·rw [show (((j+1:Nat):Int) - 1)=(j:Int) from by omega]
    obtain ⟨g,rfl,hc⟩:=rowW_gd (rowW_below HA.out.1 hbl) j (by rw [HA.out.2.2];omega)
    obtain ⟨g',rfl,hc'⟩:=rowW_gd (rowW_below HB.out.1 hbl) j (by rw [HB.out.2.2];omega)
    obtain ⟨x,HX⟩:∃ x,Hid (xs[j]?=some x∧Nm.gd xs j=x):=⟨_,Nm.gd_at xs j (by rw [HA.out.2.2];omega),rfl⟩
    obtain ⟨y,HY⟩:∃ y,Hid (ys[j]?=some y∧Nm.gd ys j=y):=⟨_,Nm.gd_at ys j (by rw [HB.out.2.2];omega),rfl⟩
    rw [HX.out.2] at hc
    rw [HY.out.2] at hc'
    have b0:(0:Int)≤(j:Int):=by omega
    have b1:(j:Int)<(na:Int):=by omega
    rcases Nat.lt_trichotomy x y with hxy | hxy | hxy
    ·have t1:((x:Int) !=(y:Int))=true:=by rw [bne_iff_ne];omega
     have t2:decide ((x:Int)<(y:Int))=true:=by simp;omega
     have HG:Hid (Nm.ag (Nm.val xs) (Nm.val ys)= -1):=Nm.ag_at_lt xs ys j x y HA.out.2.1.1 hd.out HX.out.1 HY.out.1 hxy
     go_wp2_with fail
     go_quiet (fail)
     go_wp2_with fail
     go_quiet (fail)
     go_wp2_with fail
     go_ret
     exact ⟨by rw [HG.out];rfl,below_drewN (below_drewN hbl _) _⟩
    ·subst hxy
     go_wp2_with fail
     go_quiet (fail)
     go_wp2_with fail
     go_roundw
     case rel=>exact ⟨j,rfl,by omega,Nm.drop_eq_step xs ys j x hd.out HX.out.1 HY.out.1,below_drewN hbl _⟩
     case measure=>simp [intOf]
    ·have t1:((x:Int) !=(y:Int))=true:=by rw [bne_iff_ne];omega
     have t2:decide ((x:Int)<(y:Int))=false:=by simp;omega
     have HG:Hid (Nm.ag (Nm.val xs) (Nm.val ys)=1):=Nm.ag_at_gt xs ys j x y HB.out.2.1.1 hd.out HX.out.1 HY.out.1 hxy
     go_wp2_with fail
     go_quiet (fail)
     go_wp2_with fail
     go_quiet (fail)
     go_wp2_with fail
     go_ret
     exact ⟨by rw [HG.out];rfl,below_drewN (below_drewN hbl _) _⟩
 ·have hn:((na:Int) !=(nb:Int))=true:=by rw [bne_iff_ne];omega
  have HG:Hid (Nm.ag (Nm.val xs) (Nm.val ys)=1):=Nm.ag_len_gt xs ys HA.out.2.1 HB.out.2.1 (by rw [HA.out.2.2,HB.out.2.2];exact hl)
  rw [HG.out]
  go_enter Tryz.func160,Tryz.ntmps160
  go_wp2
  go_ret
  exact ⟨rfl,Below.refl _ _⟩
end Go.Proofs.YteagpbkbdlmdiaaGreat
namespace Go.Proofs.YteagpbkbdlmdiaaGreat
set_option maxHeartbeats 4000000
open Go.RowKit
attribute [local go_sem ↓] Go.wp_at_zero Go.wp_at_succ
theorem num_open {k:Nat} {w:World} {v:Value} {z:Int} (h:Num k w v z):∃ (a:Option Addr) (n cap:Nat) (ds:List Nat),v=.agg #[.bool (decide (z<0)),.slice a n cap]∧RowW w (.slice a n cap) ds∧Nm.Canon ds∧Nm.val ds=z.natAbs∧ds.length≤k∧ds.length=n:=by
 obtain ⟨s,ds,rfl,hr,hc,hv,hk⟩:=h
 obtain ⟨a,cap,rfl,_⟩:=rowW_form hr
 exact ⟨a,_,cap,ds,rfl,hr,hc,hv,hk,rfl⟩
theorem num_agg {k:Nat} {w:World} {v:Value} {z:Int} (h:Num k w v z):∃ (b:Bool) (a:Option Addr) (n cap:Nat),v=.agg #[.bool b,.slice a n cap]:=by
 obtain ⟨a,n,cap,ds,rfl,_⟩:=num_open h
 exact ⟨_,a,n,cap,rfl⟩
theorem neg_any (k:Nat) (v:Value) (z:Int) (w:World) (h:Num k w v z) :
  Calls Tryz.prog 138 #[v] w (NumPost k (-z) w):=by
 obtain ⟨a,n,cap,ds,rfl,hr,hc,hv,hk,hn⟩:=num_open h
 have HR:Hid (RowW w (.slice a n cap) ds∧Nm.Canon ds∧Nm.val ds=z.natAbs∧ds.length≤k):=⟨hr,hc,hv,hk⟩
 obtain ⟨b,hb⟩:∃ b,Hid (decide (z<0)=b):=⟨_,rfl⟩
 rw [hb.out]
 clear h hr hc hv hk hn
 go_enter Tryz.func138,Tryz.ntmps138
 go_wp2_with fail
 refine (short_any (!b) (.slice a n cap) ds _ (rowW_alloc (rowW_alloc HR.out.1 _) _) HR.out.2.1.1).mono ?_
 rintro e w1 ⟨v,hv,rfl,b1⟩
 have hbox:=boxAt_below (boxAt_new (w.alloc (.cells #[.bool b,.slice a n cap] 147)) (.bool false) (.slice none 0 0)) b1
 rw [World.size_alloc] at hbox
 obtain ⟨b',a',n',cap',rfl⟩:=num_agg hv
 have HV:=Lib.hid hv
 have HB:=Lib.hid hbox
 have c0:=hbox.c0;have c1:=hbox.c1;have f0:=hbox.f0;have f1:=hbox.f1
 have HBL:Hid (Below w.heap.size w w1):=(bt (ba _ _) (bt (ba _ _) b1))
 clear hv hbox b1
 go_wp2_with fail
 refine bodyPost_ret (v:=.agg #[.bool b',.slice a' n' cap']) (by simp [results,Tryz.results138,go_sem,c0,c1]) rfl ⟨_,?_,rfl,(HBL.out.setCell (Nat.le_succ _) _).setCell (Nat.le_succ _) _⟩
 have e:sg (!b) (Nm.val ds)= -z:=by
  rw [HR.out.2.2.1,←hb.out];unfold sg
  by_cases h:z<0<;>simp [h]<;>omega
 exact num_mono (num_set2 _ _ (e ▸ HV.out) HB.out) HR.out.2.2.2
theorem add_same (x y:Int) (b:Bool) (n:Nat) (hx:decide (x<0)=b) (hy:decide (y<0)=b) (hn:n=x.natAbs+y.natAbs):sg b n=x+y:=by
 subst hn;unfold sg;cases b<;>simp at hx hy⊢<;>omega
theorem add_big (x y:Int) (b c:Bool) (n:Nat) (hx:decide (x<0)=b) (hy:decide (y<0)=c) (hbc:b ≠ c) (hl:y.natAbs≤x.natAbs) (hn:n=x.natAbs - y.natAbs):sg b n=x+y:=by
 subst hn;unfold sg;cases b<;>cases c<;>simp at hx hy hbc⊢<;>omega
theorem add_any (k1 k2:Nat) (va vb:Value) (x y:Int) (w:World) (ha:Num k1 w va x) (hb:Num k2 w vb y) (l1:k1≤10000) (l2:k2≤10000) :
  Calls Tryz.prog 134 #[va,vb] w (NumPost (max k1 k2+1) (x+y) w):=by
 obtain ⟨aa,na,ca,xs,rfl,hra,hca,hva,hka,hna⟩:=num_open ha
 obtain ⟨ab,nb,cb,ys,rfl,hrb,hcb,hvb,hkb,hnb⟩:=num_open hb
 have HA:Hid (RowW w (.slice aa na ca) xs∧Nm.Canon xs∧Nm.val xs=x.natAbs∧xs.length≤k1):=⟨hra,hca,hva,hka⟩
 have HB:Hid (RowW w (.slice ab nb cb) ys∧Nm.Canon ys∧Nm.val ys=y.natAbs∧ys.length≤k2):=⟨hrb,hcb,hvb,hkb⟩
 obtain ⟨bx,hbx⟩:∃ b,Hid (decide (x<0)=b):=⟨_,rfl⟩
 obtain ⟨by',hby⟩:∃ b,Hid (decide (y<0)=b):=⟨_,rfl⟩
 rw [hbx.out,hby.out]
 clear ha hb hra hca hva hka hna hrb hcb hvb hkb hnb
 by_cases hs:bx=by'
 ·subst hs
  have HT:(bx==bx)=true:=by cases bx<;>rfl
  go_enter Tryz.func134,Tryz.ntmps134
  go_wp2_with fail
  generalize hW:World.alloc (World.alloc (World.alloc _ _) _) _=W
  have c1:BoxAt W w.heap.size (.bool bx) (.slice aa na ca):=by
   rw [←hW];exact boxAt_below (boxAt_below (boxAt_new w _ _) (ba _ _)) (ba _ _)
  have c2:BoxAt W (w.heap.size+1) (.bool bx) (.slice ab nb cb):=by
   have:=boxAt_below (boxAt_new (w.alloc (.cells #[.bool bx,.slice aa na ca] 147)) (.bool bx) (.slice ab nb cb)) (ba _ (.cells #[.bool false,.slice none 0 0] 147))
   rw [World.size_alloc] at this;rw [←hW];exact this
  have c3:BoxAt W (w.heap.size+1+1) (.bool false) (.slice none 0 0):=by
   have:=boxAt_new ((w.alloc (.cells #[.bool bx,.slice aa na ca] 147)).alloc (.cells #[.bool bx,.slice ab nb cb] 147)) (.bool false) (.slice none 0 0)
   rw [World.size_alloc,World.size_alloc] at this;rw [←hW];exact this
  have HBW:Hid (Below w.heap.size w W):=by rw [←hW];exact bt (ba _ _) (bt (ba _ _) (ba _ _))
  clear hW
  have C1:=Lib.hid c1;have C2:=Lib.hid c2;have C3:=Lib.hid c3
  clear c1 c2 c3
  have l1':=C1.out.lt;have l2':=C2.out.lt;have l3':=C3.out.lt
  have d1:=C1.out.c0;have d2:=C1.out.c1;have d3:=C2.out.c1
  go_region_held3 (fun w'=>w'.cell? ⟨w.heap.size,0,none⟩=some (.bool bx)∧w'.cell? ⟨w.heap.size,1,none⟩=some (.slice aa na ca)∧w'.cell? ⟨w.heap.size+1,1,none⟩=some (.slice ab nb cb))
   (first | exact ⟨d1,d2,d3⟩ | exact ⟨h1,h2,h3⟩ | exact ⟨g1,g2,g3⟩ | (simp [go_sem,g1,g2,g3];done) | go_keep)
   (first
    | (go_at_call 159;refine (plus_any _ _ xs ys _ (by exact rowW_below HA.out.1 HBW.out.drew) (by exact rowW_below HB.out.1 HBW.out.drew) HA.out.2.1.1 HB.out.2.1.1 (by have:=HA.out.2.2.2;omega) (by have:=HB.out.2.2.2;omega)).mono ?_;rintro e w1 ⟨vz,zs,hz,hp,rfl,b1⟩;obtain ⟨az,cz,rfl,hmz⟩:=rowW_form hz;have HZ:=Lib.hid hz;have HP:=Lib.hid hp;have B1:=Lib.hid b1;have h1:=(boxAt_below (w:=W.drew) C1.out b1).c0;have h2:=(boxAt_below (w:=W.drew) C1.out b1).c1;have h3:=(boxAt_below (w:=W.drew) C2.out b1).c1;clear hz hp b1 hmz)
    | (go_at_call 158;refine (short_any bx _ zs _ HZ.out HP.out.1).mono ?_;rintro e w2 ⟨vr,hv,rfl,b2⟩;obtain ⟨br,ar,nr,cr,rfl⟩:=num_agg hv;have HV:=Lib.hid hv;have B2:=Lib.hid b2;have g1:=(boxAt_below (boxAt_below (w:=W.drew) C1.out B1.out) b2).c0;have g2:=(boxAt_below (boxAt_below (w:=W.drew) C1.out B1.out) b2).c1;have g3:=(boxAt_below (boxAt_below (w:=W.drew) C2.out B1.out) b2).c1;have HR:=Lib.hid (boxAt_below (boxAt_below (w:=W.drew) C3.out B1.out) b2);have r0:=HR.out.c0;have r1:=HR.out.c1;have r2:=HR.out.f0;have r3:=HR.out.f1;clear hv b2))
  go_wp2_with fail
  refine bodyPost_ret (v:=.agg #[.bool br,.slice ar nr cr]) (by simp [results,Tryz.results134,go_sem,r0,r1]) rfl ⟨_,?_,rfl,((bt HBW.out.drew (bt B1.out B2.out)).setCell (Nat.le_succ_of_le (Nat.le_succ _)) _).setCell (Nat.le_succ_of_le (Nat.le_succ _)) _⟩
  have e:=add_same x y bx (Nm.val zs) hbx.out hby.out (by rw [HP.out.2.1,HA.out.2.2.1,HB.out.2.2.1])
  exact num_mono (num_set2 _ _ (e ▸ HV.out) HR.out) (by have q1:=HP.out.2.2.1;have q2:=HA.out.2.2.2;have q3:=HB.out.2.2.2;omega)
 ·have HT:(bx==by')=false:=by cases bx<;>cases by'<;>simp_all
  have HNE:Hid (bx ≠ by'):=hs
  clear hs
  go_enter Tryz.func134,Tryz.ntmps134
  go_wp2_with fail
  generalize hW:World.alloc (World.alloc (World.alloc _ _) _) _=W
  have c1:BoxAt W w.heap.size (.bool bx) (.slice aa na ca):=by
   rw [←hW];exact boxAt_below (boxAt_below (boxAt_new w _ _) (ba _ _)) (ba _ _)
  have c2:BoxAt W (w.heap.size+1) (.bool by') (.slice ab nb cb):=by
   have:=boxAt_below (boxAt_new (w.alloc (.cells #[.bool bx,.slice aa na ca] 147)) (.bool by') (.slice ab nb cb)) (ba _ (.cells #[.bool false,.slice none 0 0] 147))
   rw [World.size_alloc] at this;rw [←hW];exact this
  have c3:BoxAt W (w.heap.size+1+1) (.bool false) (.slice none 0 0):=by
   have:=boxAt_new ((w.alloc (.cells #[.bool bx,.slice aa na ca] 147)).alloc (.cells #[.bool by',.slice ab nb cb] 147)) (.bool false) (.slice none 0 0)
   rw [World.size_alloc,World.size_alloc] at this;rw [←hW];exact this
  have HBW:Hid (Below w.heap.size w W):=by rw [←hW];exact bt (ba _ _) (bt (ba _ _) (ba _ _))
  clear hW
  have C1:=Lib.hid c1;have C2:=Lib.hid c2;have C3:=Lib.hid c3
  clear c1 c2 c3
  refine (against_any _ _ xs ys _ (rowW_below HA.out.1 HBW.out) (rowW_below HB.out.1 HBW.out) HA.out.2.1 HB.out.2.1 (by have:=HA.out.2.2.2;omega) (by have:=HB.out.2.2.2;omega)).mono ?_
  rintro e V ⟨rfl,b0⟩
  replace C1:=Lib.hid (boxAt_below C1.out b0)
  replace C2:=Lib.hid (boxAt_below C2.out b0)
  replace C3:=Lib.hid (boxAt_below C3.out b0)
  replace HBW:=Lib.hid (bt HBW.out b0)
  clear b0
  by_cases hlt:Nm.val xs<Nm.val ys
  ·rw [Nm.ag_lt _ _ hlt]
   have HLT:=Lib.hid hlt
   clear hlt
   have d1:=C1.out.c0;have d2:=C1.out.c1;have d3:=C2.out.c0;have d4:=C2.out.c1
   have f1:=C1.out.f0;have f2:=C1.out.f1;have f3:=C2.out.f0;have f4:=C2.out.f1
   go_wp2_with fail
   generalize hW:World.setCell (World.setCell (World.setCell (World.setCell V _ _) _ _) _ _) _ _=V2
   replace HBW:Hid (Below w.heap.size w V2):=by
    rw [←hW];exact (((HBW.out.setCell (Nat.le_refl _) _).setCell (Nat.le_refl _) _).setCell (Nat.le_succ _) _).setCell (Nat.le_succ _) _
   have k2:BoxAt (((V.setCell ⟨w.heap.size,0,none⟩ (.bool by')).setCell ⟨w.heap.size,1,none⟩ (.slice ab nb cb))) (w.heap.size+1) _ _:=boxAt_set_other _ _ (boxAt_set_other _ _ C2.out (by omega)) (by omega)
   have k3:BoxAt (((V.setCell ⟨w.heap.size,0,none⟩ (.bool by')).setCell ⟨w.heap.size,1,none⟩ (.slice ab nb cb))) (w.heap.size+1+1) _ _:=boxAt_set_other _ _ (boxAt_set_other _ _ C3.out (by omega)) (by omega)
   replace C1:Hid (BoxAt V2 w.heap.size (.bool by') (.slice ab nb cb)):=by
    rw [←hW];exact boxAt_set_other _ _ (boxAt_set_other _ _ (boxAt_set2 _ _ C1.out) (by omega)) (by omega)
   replace C2:Hid (BoxAt V2 (w.heap.size+1) (.bool bx) (.slice aa na ca)):=by rw [←hW];exact boxAt_set2 _ _ k2
   replace C3:Hid (BoxAt V2 (w.heap.size+1+1) (.bool false) (.slice none 0 0)):=by
    rw [←hW];exact boxAt_set_other _ _ (boxAt_set_other _ _ k3 (by omega)) (by omega)
   clear hW d1 d2 d3 d4 f1 f2 f3 f4 k2 k3
   have l1':=C1.out.lt;have l2':=C2.out.lt;have l3':=C3.out.lt
   have d1:=C1.out.c0;have d2:=C1.out.c1;have d3:=C2.out.c1
   go_region_held3 (fun w'=>w'.cell? ⟨w.heap.size,0,none⟩=some (.bool by')∧w'.cell? ⟨w.heap.size,1,none⟩=some (.slice ab nb cb)∧w'.cell? ⟨w.heap.size+1,1,none⟩=some (.slice aa na ca))
    (first | exact ⟨d1,d2,d3⟩ | exact ⟨h1,h2,h3⟩ | exact ⟨g1,g2,g3⟩ | (simp [go_sem,g1,g2,g3];done) | go_keep)
    (first
     | (go_at_call 161;refine (minus_any _ _ ys xs _ (by exact rowW_below HB.out.1 HBW.out.drew) (by exact rowW_below HA.out.1 HBW.out.drew) HB.out.2.1.1 HA.out.2.1.1 (by have:=HB.out.2.2.2;omega) (Nm.len_le_of_val ys xs HB.out.2.1.1 HA.out.2.1 (Nat.le_of_lt HLT.out)) (Nat.le_of_lt HLT.out)).mono ?_;rintro e w1 ⟨vz,zs,hz,hp,rfl,b1⟩;obtain ⟨az,cz,rfl,hmz⟩:=rowW_form hz;have HZ:=Lib.hid hz;have HP:=Lib.hid hp;have B1:=Lib.hid b1;have h1:=(boxAt_below (w:=V2.drew) C1.out b1).c0;have h2:=(boxAt_below (w:=V2.drew) C1.out b1).c1;have h3:=(boxAt_below (w:=V2.drew) C2.out b1).c1;clear hz hp b1 hmz)
     | (go_at_call 158;refine (short_any by' _ zs _ HZ.out HP.out.1).mono ?_;rintro e w2 ⟨vr,hv,rfl,b2⟩;obtain ⟨br,ar,nr,cr,rfl⟩:=num_agg hv;have HV:=Lib.hid hv;have B2:=Lib.hid b2;have g1:=(boxAt_below (boxAt_below (w:=V2.drew) C1.out B1.out) b2).c0;have g2:=(boxAt_below (boxAt_below (w:=V2.drew) C1.out B1.out) b2).c1;have g3:=(boxAt_below (boxAt_below (w:=V2.drew) C2.out B1.out) b2).c1;have HR:=Lib.hid (boxAt_below (boxAt_below (w:=V2.drew) C3.out B1.out) b2);have r0:=HR.out.c0;have r1:=HR.out.c1;have r2:=HR.out.f0;have r3:=HR.out.f1;clear hv b2))
   go_wp2_with fail
   refine bodyPost_ret (v:=.agg #[.bool br,.slice ar nr cr]) (by simp [results,Tryz.results134,go_sem,r0,r1]) rfl ⟨_,?_,rfl,((bt HBW.out.drew (bt B1.out B2.out)).setCell (Nat.le_succ_of_le (Nat.le_succ _)) _).setCell (Nat.le_succ_of_le (Nat.le_succ _)) _⟩
   have e:=add_big y x by' bx (Nm.val zs) hby.out hbx.out (fun q=>HNE.out q.symm) (by rw [←HA.out.2.2.1,←HB.out.2.2.1];exact Nat.le_of_lt HLT.out) (by rw [HP.out.2.1,HA.out.2.2.1,HB.out.2.2.1])
   rw [Int.add_comm] at e
   exact num_mono (num_set2 _ _ (e ▸ HV.out) HR.out) (by have q1:=HP.out.2.2;have q2:=HA.out.2.2.2;have q3:=HB.out.2.2.2;omega)
  ·have HG:Hid (Nm.val ys≤Nm.val xs):=by show _≤_;omega
   have hag:¬Nm.ag (Nm.val xs) (Nm.val ys)<0:=by unfold Nm.ag;rw [if_neg hlt];split<;>omega
   obtain ⟨q,hq⟩:∃ q,Hid (Nm.ag (Nm.val xs) (Nm.val ys)=q):=⟨_,rfl⟩
   rw [hq.out] at hag⊢
   clear hlt
   go_wp2_with fail
   have l1':=C1.out.lt;have l2':=C2.out.lt;have l3':=C3.out.lt
   have d1:=C1.out.c0;have d2:=C1.out.c1;have d3:=C2.out.c1
   go_region_held3 (fun w'=>w'.cell? ⟨w.heap.size,0,none⟩=some (.bool bx)∧w'.cell? ⟨w.heap.size,1,none⟩=some (.slice aa na ca)∧w'.cell? ⟨w.heap.size+1,1,none⟩=some (.slice ab nb cb))
    (first | exact ⟨d1,d2,d3⟩ | exact ⟨h1,h2,h3⟩ | exact ⟨g1,g2,g3⟩ | (simp [go_sem,g1,g2,g3];done) | go_keep)
    (first
     | (go_at_call 161;refine (minus_any _ _ xs ys _ (by exact rowW_below HA.out.1 HBW.out.drew) (by exact rowW_below HB.out.1 HBW.out.drew) HA.out.2.1.1 HB.out.2.1.1 (by have:=HA.out.2.2.2;omega) (Nm.len_le_of_val xs ys HA.out.2.1.1 HB.out.2.1 HG.out) HG.out).mono ?_;rintro e w1 ⟨vz,zs,hz,hp,rfl,b1⟩;obtain ⟨az,cz,rfl,hmz⟩:=rowW_form hz;have HZ:=Lib.hid hz;have HP:=Lib.hid hp;have B1:=Lib.hid b1;have h1:=(boxAt_below (w:=V.drew) C1.out b1).c0;have h2:=(boxAt_below (w:=V.drew) C1.out b1).c1;have h3:=(boxAt_below (w:=V.drew) C2.out b1).c1;clear hz hp b1 hmz)
     | (go_at_call 158;refine (short_any bx _ zs _ HZ.out HP.out.1).mono ?_;rintro e w2 ⟨vr,hv,rfl,b2⟩;obtain ⟨br,ar,nr,cr,rfl⟩:=num_agg hv;have HV:=Lib.hid hv;have B2:=Lib.hid b2;have g1:=(boxAt_below (boxAt_below (w:=V.drew) C1.out B1.out) b2).c0;have g2:=(boxAt_below (boxAt_below (w:=V.drew) C1.out B1.out) b2).c1;have g3:=(boxAt_below (boxAt_below (w:=V.drew) C2.out B1.out) b2).c1;have HR:=Lib.hid (boxAt_below (boxAt_below (w:=V.drew) C3.out B1.out) b2);have r0:=HR.out.c0;have r1:=HR.out.c1;have r2:=HR.out.f0;have r3:=HR.out.f1;clear hv b2))
   go_wp2_with fail
   refine bodyPost_ret (v:=.agg #[.bool br,.slice ar nr cr]) (by simp [results,Tryz.results134,go_sem,r0,r1]) rfl ⟨_,?_,rfl,((bt HBW.out.drew (bt B1.out B2.out)).setCell (Nat.le_succ_of_le (Nat.le_succ _)) _).setCell (Nat.le_succ_of_le (Nat.le_succ _)) _⟩
   have e:=add_big x y bx by' (Nm.val zs) hbx.out hby.out HNE.out (by rw [←HA.out.2.2.1,←HB.out.2.2.1];exact HG.out) (by rw [HP.out.2.1,HA.out.2.2.1,HB.out.2.2.1])
   exact num_mono (num_set2 _ _ (e ▸ HV.out) HR.out) (by have q1:=HP.out.2.2;have q2:=HA.out.2.2.2;have q3:=HB.out.2.2.2;omega)
end Go.Proofs.YteagpbkbdlmdiaaGreat
namespace Go.Proofs.YteagpbkbdlmdiaaGreat
set_option maxHeartbeats 4000000
open Go.RowKit
attribute [local go_sem ↓] Go.wp_at_zero Go.wp_at_succ
theorem sub_any (k1 k2:Nat) (va vb:Value) (x y:Int) (w:World) (ha:Num k1 w va x) (hb:Num k2 w vb y) (l1:k1≤10000) (l2:k2≤10000) :
  Calls Tryz.prog 133 #[va,vb] w (NumPost (max k1 k2+1) (x - y) w):=by
 obtain ⟨bx,aa,na,ca,rfl⟩:=num_agg ha
 obtain ⟨by',ab,nb,cb,rfl⟩:=num_agg hb
 have HA:=Lib.hid ha
 have HB:=Lib.hid hb
 clear ha hb
 go_enter Tryz.func133,Tryz.ntmps133
 go_wp2_with fail
 generalize hW:World.alloc (World.alloc (World.alloc _ _) _) _=W
 have c1:BoxAt W w.heap.size (.bool bx) (.slice aa na ca):=by
  rw [←hW];exact boxAt_below (boxAt_below (boxAt_new w _ _) (ba _ _)) (ba _ _)
 have c2:BoxAt W (w.heap.size+1) (.bool by') (.slice ab nb cb):=by
  have:=boxAt_below (boxAt_new (w.alloc (.cells #[.bool bx,.slice aa na ca] 147)) (.bool by') (.slice ab nb cb)) (ba _ (.cells #[.bool false,.slice none 0 0] 147))
  rw [World.size_alloc] at this;rw [←hW];exact this
 have c3:BoxAt W (w.heap.size+1+1) (.bool false) (.slice none 0 0):=by
  have:=boxAt_new ((w.alloc (.cells #[.bool bx,.slice aa na ca] 147)).alloc (.cells #[.bool by',.slice ab nb cb] 147)) (.bool false) (.slice none 0 0)
  rw [World.size_alloc,World.size_alloc] at this;rw [←hW];exact this
 have HBW:Hid (Below w.heap.size w W):=by rw [←hW];exact bt (ba _ _) (bt (ba _ _) (ba _ _))
 clear hW
 have C1:=Lib.hid c1;have C2:=Lib.hid c2;have C3:=Lib.hid c3
 clear c1 c2 c3
 have l1':=C1.out.lt;have l2':=C2.out.lt;have l3':=C3.out.lt
 have d1:=C1.out.c0;have d2:=C1.out.c1;have d3:=C2.out.c0;have d4:=C2.out.c1
 go_region_held3 (fun w'=>w'.cell? ⟨w.heap.size,0,none⟩=some (.bool bx)∧w'.cell? ⟨w.heap.size,1,none⟩=some (.slice aa na ca)∧w'.cell? ⟨w.heap.size+1,0,none⟩=some (.bool by')∧w'.cell? ⟨w.heap.size+1,1,none⟩=some (.slice ab nb cb))
  (first | exact ⟨d1,d2,d3,d4⟩ | exact ⟨h1,h2,h3,h4⟩ | exact ⟨g1,g2,g3,g4⟩ | (simp [go_sem,g1,g2,g3,g4];done) | go_keep)
  (first
   | (go_at_call 138;refine (neg_any k2 _ y _ (by exact num_below HB.out HBW.out.drew)).mono ?_;rintro e w1 ⟨vz,hz,rfl,b1⟩;obtain ⟨bz,az,nz,cz,rfl⟩:=num_agg hz;have HZ:=Lib.hid hz;have B1:=Lib.hid b1;have h1:=(boxAt_below (w:=W.drew) C1.out b1).c0;have h2:=(boxAt_below (w:=W.drew) C1.out b1).c1;have h3:=(boxAt_below (w:=W.drew) C2.out b1).c0;have h4:=(boxAt_below (w:=W.drew) C2.out b1).c1;clear hz b1)
   | (go_at_call 134;refine (add_any k1 k2 _ _ x (-y) _ (by exact num_below HA.out (bt HBW.out.drew B1.out)) HZ.out l1 l2).mono ?_;rintro e w2 ⟨vr,hv,rfl,b2⟩;obtain ⟨br,ar,nr,cr,rfl⟩:=num_agg hv;have HV:=Lib.hid hv;have B2:=Lib.hid b2;have g1:=(boxAt_below (boxAt_below (w:=W.drew) C1.out B1.out) b2).c0;have g2:=(boxAt_below (boxAt_below (w:=W.drew) C1.out B1.out) b2).c1;have g3:=(boxAt_below (boxAt_below (w:=W.drew) C2.out B1.out) b2).c0;have g4:=(boxAt_below (boxAt_below (w:=W.drew) C2.out B1.out) b2).c1;have HR:=Lib.hid (boxAt_below (boxAt_below (w:=W.drew) C3.out B1.out) b2);have r0:=HR.out.c0;have r1:=HR.out.c1;have r2:=HR.out.f0;have r3:=HR.out.f1;clear hv b2))
 go_wp2_with fail
 refine bodyPost_ret (v:=.agg #[.bool br,.slice ar nr cr]) (by simp [results,Tryz.results133,go_sem,r0,r1]) rfl ⟨_,?_,rfl,((bt HBW.out.drew (bt B1.out B2.out)).setCell (Nat.le_succ_of_le (Nat.le_succ _)) _).setCell (Nat.le_succ_of_le (Nat.le_succ _)) _⟩
 exact num_set2 _ _ HV.out HR.out
def cmpZ (x y:Int):Int:=if x=y then 0 else if x<y then -1 else 1
theorem cmp_any (k1 k2:Nat) (va vb:Value) (x y:Int) (w:World) (ha:Num k1 w va x) (hb:Num k2 w vb y) (l1:k1≤10000) (l2:k2≤10000) :
  Calls Tryz.prog 132 #[va,vb] w (IntPost (cmpZ x y) w):=by
 obtain ⟨bx,aa,na,ca,rfl⟩:=num_agg ha
 obtain ⟨by',ab,nb,cb,rfl⟩:=num_agg hb
 have HA:=Lib.hid ha
 have HB:=Lib.hid hb
 clear ha hb
 go_enter Tryz.func132,Tryz.ntmps132
 go_wp2_with fail
 refine (sub_any k1 k2 _ _ x y _ (num_below HA.out (bt (ba _ _) (ba _ _))) (num_below HB.out (bt (ba _ _) (ba _ _))) l1 l2).mono ?_
 rintro e w1 ⟨vz,hz,rfl,b1⟩
 obtain ⟨az,nz,cz,ds,rfl,hr,hc,hv,hk,hn⟩:=num_open hz
 have HBL:Hid (Below w.heap.size w w1):=bt (ba _ _) (bt (ba _ _) b1)
 have HZ:Hid (nz=0↔x=y):=by
  have:=Nm.canon_zero ds hc
  show _↔_
  rw [←hn]
  constructor
  ·intro h;have h2:=this.2 (List.eq_nil_of_length_eq_zero h);omega
  ·intro h;have h2:=this.1 (by omega);rw [h2];rfl
 have HLN:Hid (ds.length≤max k1 k2+1∧ds.length=nz):=⟨hk,hn⟩
 have hnz:nz≤10001:=by omega
 clear hz hr hc hv hk hn b1
 obtain ⟨bz,hbz⟩:∃ b,Hid (decide (x - y<0)=b):=⟨_,rfl⟩
 rw [hbz.out]
 rcases Int.lt_trichotomy x y with h | h | h
 ·have e0:((nz:Int)==0)=false:=by
   rw [beq_eq_false_iff_ne];intro q;have:=HZ.out.1 (by omega);omega
  have e1:bz=true:=by rw [←hbz.out];simp;omega
  subst e1
  have HG:Hid (cmpZ x y= -1):=by show _=_;unfold cmpZ;rw [if_neg (by omega),if_pos h]
  clear h
  go_wp2_with fail
  go_ret
  exact ⟨by rw [HG.out];rfl,bt HBL.out (by first | exact ba _ _ | exact Below.refl _ _)⟩
 ·have e0:nz=0:=HZ.out.2 h
  subst e0
  have HG:Hid (cmpZ x y=0):=by show _=_;unfold cmpZ;rw [if_pos h]
  clear h
  go_wp2_with fail
  go_ret
  exact ⟨by rw [HG.out];rfl,bt HBL.out (by first | exact ba _ _ | exact Below.refl _ _)⟩
 ·have e0:((nz:Int)==0)=false:=by
   rw [beq_eq_false_iff_ne];intro q;have:=HZ.out.1 (by omega);omega
  have e1:bz=false:=by rw [←hbz.out];simp;omega
  subst e1
  have HG:Hid (cmpZ x y=1):=by show _=_;unfold cmpZ;rw [if_neg (by omega),if_neg (by omega)]
  clear h
  go_wp2_with fail
  go_ret
  exact ⟨by rw [HG.out];rfl,bt HBL.out (by first | exact ba _ _ | exact Below.refl _ _)⟩
end Go.Proofs.YteagpbkbdlmdiaaGreat
