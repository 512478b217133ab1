/-
  THE WALK of the reference's Even.
-/
import Derived.Test.YteagpbkbdlmdiaaGreatQ10
import Derived.Test.YteagpbkbdlmdiaaGreatQ11
set_option linter.unusedSimpArgs false
set_option linter.unusedVariables false
namespace Go.Proofs.YteagpbkbdlmdiaaGreat
open Go.RowKit
attribute [local go_sem ↓] Go.wp_at_zero Go.wp_at_succ
def evenZ (x:Int) (Y:Nat):Int:=x / (Y:Int)+(if (Y:Int)<x % (Y:Int)+x % (Y:Int)∨(x % (Y:Int)+x % (Y:Int)=(Y:Int)∧(x / (Y:Int)) % 2 ≠ 0) then 1 else 0)
def EvenUp (w2:World) (b k:Nat) (q:Int) (wx:World):Prop:=
 ∃ (bo:Bool) (ao:Option Addr) (no co:Nat),BoxAt wx b (.bool bo) (.slice ao no co)∧Num k wx (.agg #[.bool bo,.slice ao no co]) q∧Below b w2 wx
theorem even_pp {x:Int} {Y no:Nat} {c:Int} {pp:Bool} (h1:pp=decide (0<c∨(c=0∧no ≠ 0))) (h2:cmpZ (x % (Y:Int)+x % (Y:Int)) (Y:Int)=c) (h3:no=0↔x / (Y:Int) % 2=0) :
  evenZ x Y=x / (Y:Int)+(if pp=true then 1 else 0):=by
 unfold cmpZ at h2
 unfold evenZ
 generalize x % (Y:Int)=r at h2⊢
 have key:((Y:Int)<r+r∨(r+r=(Y:Int)∧x / (Y:Int) % 2 ≠ 0))↔pp=true:=by
  rw [h1,decide_eq_true_eq]
  split at h2
  ·rename_i e1;subst h2;simp [e1,h3]
  ·split at h2
   ·subst h2;omega
   ·subst h2;omega
 simp only [key]
def EvenOdd (w4:World) (z:Int) (s9:Value) (wx:World):Prop:=
 ∃ (b9:Nat) (ao:Option Addr) (no co:Nat),s9=.pointer (some ⟨b9,0,none⟩)∧wx.cell? ⟨b9,1,none⟩=some (.slice ao no co)∧(no=0↔z=0)∧no≤8∧Below w4.heap.size w4 wx
theorem hdrew (w:World):w.drew.heap=w.heap:=rfl
theorem undrew {w w':World} (h:Below w.drew.heap.size w.drew w'):Below w.heap.size w w':=bt ((Below.refl _ _).drew) h
theorem held_alloc {w4 w':World} {b:Nat} {v0 v1:Value} (h:Below w4.heap.size w4 w'∧w'.cell? ⟨b,0,none⟩=some v0∧w'.cell? ⟨b,1,none⟩=some v1) (hb:b<w4.heap.size) (o:Obj) :
  Below w4.heap.size w4 (w'.alloc o)∧(w'.alloc o).cell? ⟨b,0,none⟩=some v0∧(w'.alloc o).cell? ⟨b,1,none⟩=some v1:=by
 have hs:=h.1.size
 exact ⟨h.1.alloc hs o,((ba w' o).cell (p:=⟨b,0,none⟩) (by simp;omega)).trans h.2.1,((ba w' o).cell (p:=⟨b,1,none⟩) (by simp;omega)).trans h.2.2⟩
theorem held_set {w4 w':World} {b:Nat} {v0 v1:Value} (h:Below w4.heap.size w4 w'∧w'.cell? ⟨b,0,none⟩=some v0∧w'.cell? ⟨b,1,none⟩=some v1) (hb:b<w4.heap.size) (q:Nat) (u0 u1:Value) (hq:w4.heap.size≤q) :
  Below w4.heap.size w4 ((w'.setCell ⟨q,0,none⟩ u0).setCell ⟨q,1,none⟩ u1)∧((w'.setCell ⟨q,0,none⟩ u0).setCell ⟨q,1,none⟩ u1).cell? ⟨b,0,none⟩=some v0∧((w'.setCell ⟨q,0,none⟩ u0).setCell ⟨q,1,none⟩ u1).cell? ⟨b,1,none⟩=some v1:=by
 have k:Below w4.heap.size w' ((w'.setCell ⟨q,0,none⟩ u0).setCell ⟨q,1,none⟩ u1):=((Below.refl _ _).setCell hq _).setCell hq _
 exact ⟨(h.1.setCell hq _).setCell hq _,(k.cell (p:=⟨b,0,none⟩) hb).trans h.2.1,(k.cell (p:=⟨b,1,none⟩) hb).trans h.2.2⟩
theorem held_call {w4 w' w'':World} {b:Nat} {v0 v1:Value} (h:Below w4.heap.size w4 w'∧w'.cell? ⟨b,0,none⟩=some v0∧w'.cell? ⟨b,1,none⟩=some v1) (hb:b<w4.heap.size) (k:Below w'.heap.size w' w'') :
  Below w4.heap.size w4 w''∧w''.cell? ⟨b,0,none⟩=some v0∧w''.cell? ⟨b,1,none⟩=some v1:=by
 have hs:=h.1.size
 exact ⟨bt h.1 k,(k.cell (p:=⟨b,0,none⟩) (by simp;omega)).trans h.2.1,(k.cell (p:=⟨b,1,none⟩) (by simp;omega)).trans h.2.2⟩
theorem odd_len {k:Nat} {w:World} {b:Bool} {a:Option Addr} {n cap:Nat} {z:Int} (h:Num k w (.agg #[.bool b,.slice a n cap]) z):(n=0↔z=0)∧n≤k:=by
 obtain ⟨ds,_,h2,h3,h4,h5,_⟩:=num_row h
 have:=Nm.canon_zero ds h2
 refine ⟨?_,by omega⟩
 rw [←h5]
 constructor
 ·intro q;have h6:=this.2 (List.eq_nil_of_length_eq_zero q);omega
 ·intro q;have h6:=this.1 (by omega);rw [h6];rfl
set_option maxRecDepth 100000 in
set_option maxHeartbeats 4000000 in
theorem even_any (k1 k2:Nat) (va vb:Value) (x:Int) (Y:Nat) (w:World) (ha:Num k1 w va x) (hb:Num k2 w vb (Y:Int)) (hY:0<Y) (l1:k1≤8000) (l2:k2≤8000) :
  Calls Tryz.prog 136 #[va,vb] w (NumPost (k1+9) (evenZ x Y) w):=by
 obtain ⟨bx,aa,na,ca,rfl⟩:=num_agg ha
 obtain ⟨by',ab,nb,cb,rfl⟩:=num_agg hb
 have HA:=Lib.hid ha
 have HB:=Lib.hid hb
 clear ha hb
 go_enter Tryz.func136,Tryz.ntmps136
 go_wp2_with fail
 refine (down_any k1 k2 _ _ x Y _ (num_below HA.out (bt (ba _ _) (bt (ba _ _) (ba _ _)))) (num_below HB.out (bt (ba _ _) (bt (ba _ _) (ba _ _)))) hY (by omega) (by omega)).mono ?_
 rintro e w1 ⟨vq,vr,hq,hr,rfl,b1⟩
 obtain ⟨bq,aq,nq,cq,rfl⟩:=num_agg hq
 obtain ⟨br,ar,nr,cr,rfl⟩:=num_agg hr
 have C2:Hid (BoxAt w1 (w.heap.size+1) (.bool by') (.slice ab nb cb)):=by
  have:=boxAt_below (boxAt_below (boxAt_new (w.alloc (.cells #[.bool bx,.slice aa na ca] 147)) (.bool by') (.slice ab nb cb)) (ba _ (.cells #[.bool false,.slice none 0 0] 147))) b1
  rw [World.size_alloc] at this;exact this
 have C3:Hid (BoxAt w1 (w.heap.size+1+1) (.bool false) (.slice none 0 0)):=by
  have:=boxAt_below (boxAt_new ((w.alloc (.cells #[.bool bx,.slice aa na ca] 147)).alloc (.cells #[.bool by',.slice ab nb cb] 147)) (.bool false) (.slice none 0 0)) b1
  rw [World.size_alloc,World.size_alloc] at this;exact this
 have HBW:Hid (Below w.heap.size w w1):=bt (ba _ _) (bt (ba _ _) (bt (ba _ _) b1))
 have NQ:=Lib.hid hq;have NR:=Lib.hid hr
 have l2':=C2.out.lt;have l3':=C3.out.lt
 clear hq hr b1
 go_wp2_with fail
 generalize hW:World.alloc (World.alloc w1 _) _=W2
 have B12:Hid (Below w1.heap.size w1 W2):=by rw [←hW];exact bt (ba _ _) (ba _ _)
 have T5:Hid (BoxAt W2 w1.heap.size (.bool bq) (.slice aq nq cq)):=by rw [←hW];exact boxAt_below (boxAt_new w1 _ _) (ba _ _)
 have T6:Hid (BoxAt W2 (w1.heap.size+1) (.bool br) (.slice ar nr cr)):=by
  have:=boxAt_new (w1.alloc (.cells #[.bool bq,.slice aq nq cq] 147)) (.bool br) (.slice ar nr cr)
  rw [World.size_alloc] at this;rw [←hW];exact this
 have C22:=Lib.hid (boxAt_below C2.out B12.out);have C32:=Lib.hid (boxAt_below C3.out B12.out)
 have NQ2:=Lib.hid (num_below NQ.out B12.out);have NR2:=Lib.hid (num_below NR.out B12.out)
 have HB2:=Lib.hid (bt HBW.out B12.out)
 clear hW l2' l3'
 obtain ⟨c,hc⟩:∃ c,Hid (cmpZ (x % (Y:Int)+x % (Y:Int)) (Y:Int)=c):=⟨_,rfl⟩
 have l2':=C22.out.lt;have l3':=C32.out.lt;have l5':=T5.out.lt;have l6':=T6.out.lt
 have d1:=T6.out.c0;have d2:=T6.out.c1;have d3:=C22.out.c0;have d4:=C22.out.c1
 go_region_held3 (fun w'=>w'.cell? ⟨w1.heap.size+1,0,none⟩=some (.bool br)∧w'.cell? ⟨w1.heap.size+1,1,none⟩=some (.slice ar nr cr)∧w'.cell? ⟨w.heap.size+1,0,none⟩=some (.bool by')∧w'.cell? ⟨w.heap.size+1,1,none⟩=some (.slice ab nb cb))
  (first | exact ⟨d1,d2,d3,d4⟩ | exact ⟨e1,e2,e3,e4⟩ | exact ⟨g1,g2,g3,g4⟩ | go_keep)
  (first
   | (go_at_call 134;refine (add_any (k2+1) (k2+1) _ _ (x % (Y:Int)) (x % (Y:Int)) _ (by exact num_drew NR2.out) (by exact num_drew NR2.out) (by omega) (by omega)).mono ?_;rintro e w3 ⟨vz,hz,rfl,b3⟩;obtain ⟨bz,az,nz,cz,rfl⟩:=num_agg hz;have HZ:=Lib.hid hz;have B3:=Lib.hid (show Below W2.heap.size W2 w3 from bt ((Below.refl _ _).drew) b3);have e1:=(boxAt_below T6.out B3.out).c0;have e2:=(boxAt_below T6.out B3.out).c1;have e3:=(boxAt_below C22.out B3.out).c0;have e4:=(boxAt_below C22.out B3.out).c1;clear hz b3)
   | (go_at_call 132;refine (cmp_c (max (k2+1) (k2+1)+1) k2 _ _ _ _ c _ HZ.out (num_below HB.out (bt HB2.out B3.out)) (by omega) (by omega) hc.out).mono ?_;rintro e w4 ⟨rfl,b4⟩;have B4:=Lib.hid (bt B3.out b4);have g1:=(boxAt_below T6.out B4.out).c0;have g2:=(boxAt_below T6.out B4.out).c1;have g3:=(boxAt_below C22.out B4.out).c0;have g4:=(boxAt_below C22.out B4.out).c1;clear b4))
 have T54:=Lib.hid (boxAt_below T5.out B4.out);have C34:=Lib.hid (boxAt_below C32.out B4.out)
 have NQ4:=Lib.hid (num_below NQ2.out B4.out)
 have HB4:=Lib.hid (bt HB2.out B4.out)
 clear d1 d2 d3 d4 e1 e2 e3 e4 g1 g2 g3 g4 l2' l3' l5' l6'
 go_upto_region 3 with fail
 have d1:=T54.out.c0;have d2:=T54.out.c1
 have l5':=T54.out.lt
 go_cut [8,9] (fun _s8 s9 wx=>EvenOdd w4 ((x / (Y:Int)) % 2) s9 wx)
 case first=>
  have HS0:Below w4.heap.size w4 w4.drew∧w4.drew.cell? ⟨w1.heap.size,0,none⟩=some (.bool bq)∧w4.drew.cell? ⟨w1.heap.size,1,none⟩=some (.slice aq nq cq):=⟨(Below.refl _ _).drew,d1,d2⟩
  go_region_held3 (fun w'=>Below w4.heap.size w4 w'∧w'.cell? ⟨w1.heap.size,0,none⟩=some (.bool bq)∧w'.cell? ⟨w1.heap.size,1,none⟩=some (.slice aq nq cq))
   (first | exact HS0 | exact HS5.out | exact HS6.out | exact held_alloc (by assumption) l5' _ | exact held_alloc (held_alloc HS6.out l5' _) l5' _ | exact held_set (by assumption) l5' _ _ _ (by first | omega | (simp only [World.size_alloc,hdrew];omega) | (simp;omega)) | exact held_alloc (held_set HS6.out l5' _ _ _ (by first | omega | (simp only [World.size_alloc,hdrew];omega) | (simp;omega))) l5' _)
   (first
    | (go_at_call 141;refine (word_any 2 _ (by omega) (by omega)).mono ?_;rintro e w5 ⟨vz,hz,rfl,b5⟩;obtain ⟨bz2,az2,nz2,cz2,rfl⟩:=num_agg hz;have HW2:=Lib.hid hz;have HS5:=Lib.hid (held_call (by assumption) l5' b5);have z5:=HS5.out.1.size;((try replace b5:=undrew b5);first | (have QA5:=boxAt_below (boxAt_below (boxAt_new _ _ _) (ba _ _)) b5;(try simp only [World.size_alloc] at QA5);(try simp only [hdrew] at QA5);have QA5:=Lib.hid QA5;have QB5:=boxAt_below (boxAt_new (World.alloc _ _) _ _) b5;(try simp only [World.size_alloc] at QB5);(try simp only [hdrew] at QB5);have QB5:=Lib.hid QB5;(have QA50:=BoxAt.c0 (Hid.out QA5);have QA51:=BoxAt.c1 (Hid.out QA5);have QA52:=BoxAt.f0 (Hid.out QA5);have QA53:=BoxAt.f1 (Hid.out QA5);have QA5l:=BoxAt.lt (Hid.out QA5));(have QB50:=BoxAt.c0 (Hid.out QB5);have QB51:=BoxAt.c1 (Hid.out QB5);have QB52:=BoxAt.f0 (Hid.out QB5);have QB53:=BoxAt.f1 (Hid.out QB5);have QB5l:=BoxAt.lt (Hid.out QB5))) | (have QA5:=boxAt_below (boxAt_new _ _ _) b5;(try simp only [World.size_alloc] at QA5);(try simp only [hdrew] at QA5);have QA5:=Lib.hid QA5;(have QA50:=BoxAt.c0 (Hid.out QA5);have QA51:=BoxAt.c1 (Hid.out QA5);have QA52:=BoxAt.f0 (Hid.out QA5);have QA53:=BoxAt.f1 (Hid.out QA5);have QA5l:=BoxAt.lt (Hid.out QA5))) | skip);clear hz b5)
    | (go_at_call 140;refine (down_any (k1+8) 7 _ _ (x / (Y:Int)) 2 _ (num_below NQ4.out (And.left (by assumption))) (by first | exact HW2.out | exact num_below HW2.out (ba _ _) | exact num_below HW2.out (bt (ba _ _) (ba _ _))) (by omega) (by omega) (by omega)).mono ?_;rintro e w6 ⟨vq6,vr6,hq6,hr6,rfl,b6⟩;obtain ⟨bq6,aq6,nq6,cq6,rfl⟩:=num_agg hq6;obtain ⟨br6,ar6,nr6,cr6,rfl⟩:=num_agg hr6;have HO6:=Lib.hid (odd_len hr6);have HS6:=Lib.hid (held_call (by assumption) l5' b6);have z6:=HS6.out.1.size;(try (have QA56:=Lib.hid (boxAt_below (boxAt_below QA5.out (by first | exact ba _ _ | exact (Below.refl _ _).drew)) b6);(have QA560:=BoxAt.c0 (Hid.out QA56);have QA561:=BoxAt.c1 (Hid.out QA56);have QA562:=BoxAt.f0 (Hid.out QA56);have QA563:=BoxAt.f1 (Hid.out QA56);have QA56l:=BoxAt.lt (Hid.out QA56))));(try (have QA56:=Lib.hid (boxAt_below QA5.out b6);(have QA560:=BoxAt.c0 (Hid.out QA56);have QA561:=BoxAt.c1 (Hid.out QA56);have QA562:=BoxAt.f0 (Hid.out QA56);have QA563:=BoxAt.f1 (Hid.out QA56);have QA56l:=BoxAt.lt (Hid.out QA56))));(try (have QB56:=Lib.hid (boxAt_below QB5.out b6);(have QB560:=BoxAt.c0 (Hid.out QB56);have QB561:=BoxAt.c1 (Hid.out QB56);have QB562:=BoxAt.f0 (Hid.out QB56);have QB563:=BoxAt.f1 (Hid.out QB56);have QB56l:=BoxAt.lt (Hid.out QB56))));((try replace b6:=undrew b6);first | (have QA6:=boxAt_below (boxAt_below (boxAt_new _ _ _) (ba _ _)) b6;(try simp only [World.size_alloc] at QA6);(try simp only [hdrew] at QA6);have QA6:=Lib.hid QA6;have QB6:=boxAt_below (boxAt_new (World.alloc _ _) _ _) b6;(try simp only [World.size_alloc] at QB6);(try simp only [hdrew] at QB6);have QB6:=Lib.hid QB6;(have QA60:=BoxAt.c0 (Hid.out QA6);have QA61:=BoxAt.c1 (Hid.out QA6);have QA62:=BoxAt.f0 (Hid.out QA6);have QA63:=BoxAt.f1 (Hid.out QA6);have QA6l:=BoxAt.lt (Hid.out QA6));(have QB60:=BoxAt.c0 (Hid.out QB6);have QB61:=BoxAt.c1 (Hid.out QB6);have QB62:=BoxAt.f0 (Hid.out QB6);have QB63:=BoxAt.f1 (Hid.out QB6);have QB6l:=BoxAt.lt (Hid.out QB6))) | (have QA6:=boxAt_below (boxAt_new _ _ _) b6;(try simp only [World.size_alloc] at QA6);(try simp only [hdrew] at QA6);have QA6:=Lib.hid QA6;(have QA60:=BoxAt.c0 (Hid.out QA6);have QA61:=BoxAt.c1 (Hid.out QA6);have QA62:=BoxAt.f0 (Hid.out QA6);have QA63:=BoxAt.f1 (Hid.out QA6);have QA6l:=BoxAt.lt (Hid.out QA6))) | skip);clear hq6 hr6 b6))
  all_goals
   dsimp only [Exit.then]
   refine ‹∀ (a':Act) (w':World),Met _ a' w'→_› _ _ ?_
   go_meet
   case rel=>
    refine ⟨_,ar6,nr6,cr6,rfl,?_,HO6.out.1,HO6.out.2,?_⟩
    ·go_simp
    ·first | exact And.left (by assumption) | (repeat (first | exact HS6.out.1 | refine Below.setCell ?_ (by first | omega | (simp only [World.size_alloc,hdrew];omega) | (simp;omega)) _ | refine Below.alloc ?_ (by first | omega | (simp only [World.size_alloc,hdrew];omega) | (simp;omega)) _ | refine Below.drew ?_))
 case rest=>
  obtain ⟨b9,ao,no,co,rfl,hcell,hno,hno8,hbl⟩:=hcut
  have T5c:=Lib.hid (boxAt_below T54.out hbl);have C3c:=Lib.hid (boxAt_below C34.out hbl)
  have NQc:=Lib.hid (num_below NQ4.out hbl)
  have HBc:=Lib.hid (bt HB4.out hbl)
  have hc3:c= -1∨c=0∨c=1:=by
   have:=hc.out;unfold cmpZ at this;split at this
   ·omega
   ·split at this<;>omega
  clear hbl d1 d2 l5'
  obtain ⟨pp,hpp⟩:∃ pp:Bool,Hid (pp=decide (0<c∨(c=0∧no ≠ 0))):=⟨_,rfl⟩
  go_upto_region 4 with fail
  go_cut [38] (fun s38 wx=>s38=.bool pp∧wx=wc)
  case first=>
   rcases hc3 with rfl | rfl | rfl
   ·obtain rfl:pp=false:=by rw [hpp.out];simp
    go_wp2_with fail
    go_meet
    case rel=>exact ⟨rfl,rfl⟩
   ·by_cases hn:no=0
    ·subst hn
     obtain rfl:pp=false:=by rw [hpp.out];simp
     go_wp2_with fail
     go_meet
     case rel=>exact ⟨rfl,rfl⟩
    ·obtain rfl:pp=true:=by rw [hpp.out];simp [hn]
     go_wp2_with fail
     go_meet
     case rel=>exact ⟨by simp;omega,rfl⟩
   ·obtain rfl:pp=true:=by rw [hpp.out];simp
    go_wp2_with fail
    go_meet
    case rel=>exact ⟨rfl,rfl⟩
  case rest=>
   obtain ⟨rfl,rfl⟩:=hcut
   have hev:=Lib.hid (even_pp hpp.out hc.out hno)
   have HBc':=HBc
   have d1:=T5c.out.c0;have d2:=T5c.out.c1
   have r0:=C3c.out.c0;have r1:=C3c.out.c1;have r2:=C3c.out.f0;have r3:=C3c.out.f1
   have l3:=C3.out.lt
   clear hcell hno hno8 hpp hc hc3
   cases pp
   ·have hq:Hid (evenZ x Y=x / (Y:Int)):=by show _=_;rw [hev.out];simp
    clear hev
    go_wp2_with fail
    refine bodyPost_ret (v:=.agg #[.bool bq,.slice aq nq cq]) (by simp [results,Tryz.results136,go_sem,r0,r1]) rfl ⟨_,num_mono (num_set2 _ _ (hq.out ▸ NQc.out) C3c.out) (by omega),rfl,(HBc.out.setCell (by simp;omega) _).setCell (by simp;omega) _⟩
   ·have hq:Hid (x / (Y:Int)+1=evenZ x Y):=by show _=_;rw [hev.out];simp
    clear hev
    go_upto_region 5 with fail
    have l5:=T5c.out.lt
    go_cut [] (fun wx=>EvenUp wc w1.heap.size (k1+9) (evenZ x Y) wx)
    case first=>
     go_region_law (first
      | (go_simp;go_at_call 141;refine (word_any 1 _ (by omega) (by omega)).mono ?_;rintro e w5 ⟨vz,hz,rfl,b5⟩;obtain ⟨bz,az,nz,cz,rfl⟩:=num_agg hz;have HZ:=Lib.hid hz;have B5:=Lib.hid (show Below wc.heap.size wc w5 from bt ((Below.refl _ _).drew) b5);have e1:=(boxAt_below T5c.out B5.out).c0;have e2:=(boxAt_below T5c.out B5.out).c1;clear hz b5)
      | (go_simp;go_at_call 134;refine (add_any (k1+8) 7 _ _ (x / (Y:Int)) 1 _ (num_below NQc.out B5.out) HZ.out (by omega) (by omega)).mono ?_;rintro e w6 ⟨vs,hz,rfl,b6⟩;obtain ⟨bs2,as2,ns2,cs2,rfl⟩:=num_agg hz;have HS:=Lib.hid hz;have B6:=Lib.hid (bt B5.out b6);have HR6:=Lib.hid (boxAt_below T5c.out B6.out);have r0:=HR6.out.c0;have r1:=HR6.out.c1;have r2:=HR6.out.f0;have r3:=HR6.out.f1;clear hz b6))
     all_goals
      dsimp only [Exit.then]
      refine ‹∀ (a':Act) (w':World),Met _ a' w'→_› _ _ ?_
      go_meet
      case rel=>
       refine ⟨_,_,_,_,boxAt_set2 _ _ HR6.out,num_mono (num_set2 _ _ (hq.out ▸ HS.out) HR6.out) (by omega),?_⟩
       exact ((B6.out.mono (show w1.heap.size≤wc.heap.size by omega)).setCell (Nat.le_refl _) _).setCell (Nat.le_refl _) _
    case rest=>
     obtain ⟨bo,ao,no,co,hbox,hnum,hbl⟩:=hcut
     clear d1 d2 r0 r1 r2 r3
     have T5x:=Lib.hid hbox;have NX:=Lib.hid hnum
     have C3x:=Lib.hid (boxAt_belowB C3c.out hbl (by omega))
     have HBx:=Lib.hid (HBc.out.trans (hbl.mono (by omega)))
     have d1:=T5x.out.c0;have d2:=T5x.out.c1
     have r0:=C3x.out.c0;have r1:=C3x.out.c1;have r2:=C3x.out.f0;have r3:=C3x.out.f1
     clear hbox hnum hbl
     go_wp2_with fail
     refine bodyPost_ret (v:=.agg #[.bool bo,.slice ao no co]) (by simp [results,Tryz.results136,go_sem,r0,r1]) rfl ⟨_,num_set2 _ _ NX.out C3x.out,rfl,(HBx.out.setCell (by simp;omega) _).setCell (by simp;omega) _⟩
end Go.Proofs.YteagpbkbdlmdiaaGreat
