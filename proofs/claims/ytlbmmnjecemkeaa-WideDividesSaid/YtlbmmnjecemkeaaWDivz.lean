/-
  THE WALK of corrodylaw01's WideDivides at divisor 0, and both joined.
-/
import Derived.Test.YtlbmmnjecemkeaaWDivs
namespace Go.Proofs.Ytlbmmnjecemkeaa
open Go.RowKit
attribute [local go_sem ↓] Go.wp_at_zero Go.wp_at_succ

set_option maxRecDepth 100000 in
set_option maxHeartbeats 4000000 in
theorem wideDivides_zero (n1 : Bool) (h1 l1 : Nat) (n : Int) (w : World) 
    (n0 : -9223372036854775808 ≤ n) (n9 : n ≤ 9223372036854775807) :
    Calls Try.prog 3 #[.agg #[.bool n1, .int .u64 (h1 : Int), .int .u64 (l1 : Int)], .int .u64 0, .int .i64 n] w fun e w' => e = .returned (.bool true) ∧ Below w.heap.size w w' := by
  have HN : Hid (-9223372036854775808 ≤ n ∧ n ≤ 9223372036854775807) := ⟨n0, n9⟩
  obtain ⟨t, HW⟩ : ∃ t : Int, Hid (tenI n = t) := ⟨_, rfl⟩
  obtain ⟨cb, HT⟩ := tenT n t HW
  clear n0 n9
  go_enter Try.func3, Try.ntmps3
  have X1 := Lib.hid (wAt_new w n1 h1 l1); have B1 := Lib.hid (ba w (.cells #[.bool n1, .int .u64 (h1 : Int), .int .u64 (l1 : Int)] 24))
  go_upto_region 1 with fail
  generalize World.alloc w _ = w1 at X1 B1 ⊢
  have x0 := X1.out.c0; have x1 := X1.out.c1; have x2 := X1.out.c2
  go_wp2_with fail
  refine (wDiv_zero n1 h1 l1 _).mono ?_
  rintro e w2 ⟨rfl, b2⟩
  have X2 := Lib.hid (WAt.below X1.out b2)
  have B2 := Lib.hid (bt B1.out b2)
  clear x0 x1 x2
  clear b2
  clear X1  B1
  go_upto_region 2 with fail
  generalize hW : World.alloc w2 _ = W3
  obtain ⟨iq, hiiq⟩ : ∃ x, Hid (w2.heap.size = x) := ⟨_, rfl⟩
  have Q3 : Hid (WAt W3 iq false 0 0) := by rw [← hW, ← hiiq.out]; exact wAt_new _ _ _ _
  have bW : Below w2.heap.size w2 W3 := by rw [← hW]; exact ba _ _
  rw [hiiq.out]
  clear hW
  have X3 := Lib.hid (WAt.below X2.out bW)
  have B3 := Lib.hid (bt B2.out bW)
  clear bW hiiq
  clear X2  B2
  have x0 := X3.out.c0; have x1 := X3.out.c1; have x2 := X3.out.c2
  go_wp2_with fail
  refine (wEven_zero n1 h1 l1 _).mono ?_
  rintro e w4 ⟨rfl, b2⟩
  have X4 := Lib.hid (WAt.below X3.out b2)
  have Q4 := Lib.hid (WAt.below Q3.out b2)
  have B4 := Lib.hid (bt B3.out b2)
  clear x0 x1 x2
  clear b2
  clear X3 Q3  B3
  go_upto_region 3 with fail
  generalize hW : World.alloc w4 _ = W5
  obtain ⟨ie, hiie⟩ : ∃ x, Hid (w4.heap.size = x) := ⟨_, rfl⟩
  have E5 : Hid (WAt W5 ie false 0 0) := by rw [← hW, ← hiie.out]; exact wAt_new _ _ _ _
  have bW : Below w4.heap.size w4 W5 := by rw [← hW]; exact ba _ _
  rw [hiie.out]
  clear hW
  have X5 := Lib.hid (WAt.below X4.out bW)
  have Q5 := Lib.hid (WAt.below Q4.out bW)
  have B5 := Lib.hid (bt B4.out bW)
  clear bW hiie
  clear X4 Q4  B4
  have x0 := X5.out.c0; have x1 := X5.out.c1; have x2 := X5.out.c2
  go_wp2_with fail
  refine (wFloor_zero n1 h1 l1 _).mono ?_
  rintro e w6 ⟨rfl, b2⟩
  have X6 := Lib.hid (WAt.below X5.out b2)
  have Q6 := Lib.hid (WAt.below Q5.out b2)
  have E6 := Lib.hid (WAt.below E5.out b2)
  have B6 := Lib.hid (bt B5.out b2)
  clear x0 x1 x2
  clear b2
  clear X5 Q5 E5  B5
  go_upto_region 4 with fail
  generalize hW : World.alloc w6 _ = W7
  obtain ⟨jf, hijf⟩ : ∃ x, Hid (w6.heap.size = x) := ⟨_, rfl⟩
  have F7 : Hid (WAt W7 jf false 0 0) := by rw [← hW, ← hijf.out]; exact wAt_new _ _ _ _
  have bW : Below w6.heap.size w6 W7 := by rw [← hW]; exact ba _ _
  rw [hijf.out]
  clear hW
  have X7 := Lib.hid (WAt.below X6.out bW)
  have Q7 := Lib.hid (WAt.below Q6.out bW)
  have E7 := Lib.hid (WAt.below E6.out bW)
  have B7 := Lib.hid (bt B6.out bW)
  clear bW hijf
  clear X6 Q6 E6  B6
  go_upto_region 5 with fail
  go_cut [48] (fun s48 wx => s48 = .bool cb ∧ wx = W7)
  case first =>
    rcases HT.out with ⟨d1, d2, hT, hc⟩ | ⟨d1, hT, hc⟩ | ⟨d1, d2, hT, hc⟩
    all_goals (go_wp2_with fail; go_meet; case rel => exact ⟨by rw [hc], rfl⟩)
  case rest =>
    obtain ⟨rfl, e7⟩ := hcut; replace e7 := e7.symm; subst e7
    go_upto_if 48 with fail
    go_cut [14] (fun s14 wx => s14 = .int .u64 t ∧ Below W7.heap.size W7 wx)
    case first =>
      rcases HT.out with ⟨d1, d2, hT, hc⟩ | ⟨d1, hT, hc⟩ | ⟨d1, d2, hT, hc⟩
      · subst hc
        go_wp2_with fail
        refine (ten_any n _ (by have := d2; simp at this; omega)).mono ?_
        rintro e w2 ⟨vt, hz, rfl, b2⟩
        have NT := Lib.hid hz; have BT := Lib.hid b2; clear hz b2
        go_wp2_with fail
        refine (as_c (n.toNat + 1) vt _ _ _ NT.out (by have := d2; simp at this; omega) hT).mono ?_
        rintro e w3 ⟨rfl, b3⟩
        have BU := Lib.hid (bt BT.out b3); clear b3 BT NT
        go_wp2_with fail
        go_meet
        case rel => exact ⟨rfl, bt BU.out (ba _ _)⟩
      · subst hc; subst hT; go_wp2_with fail; go_meet; case rel => exact ⟨rfl, Below.refl _ _⟩
      · subst hc; subst hT; go_wp2_with fail; go_meet; case rel => exact ⟨rfl, Below.refl _ _⟩
    case rest =>
      rename_i w8
      obtain ⟨rfl, b2⟩ := hcut
      have X8 := Lib.hid (WAt.below X7.out b2)
      have Q8 := Lib.hid (WAt.below Q7.out b2)
      have E8 := Lib.hid (WAt.below E7.out b2)
      have F8 := Lib.hid (WAt.below F7.out b2)
      have B8 := Lib.hid (bt B7.out b2)
      clear b2
      clear X7 Q7 E7 F7  B7
      go_wp2_with fail
      refine (wTen_c n t _ HN.out.1 HN.out.2 HW.out).mono ?_
      rintro e w9 ⟨rfl, rfl⟩
      have q0 := Q8.out.c0; have q1 := Q8.out.c1; have q2 := Q8.out.c2
      have e0 := E8.out.c0; have e1 := E8.out.c1; have e2 := E8.out.c2
      have f0 := F8.out.c0; have f1 := F8.out.c1; have f2 := F8.out.c2
      go_wp2_with fail
      refine (known_any _).mono ?_
      rintro e w10 ⟨rfl, b2⟩
      have B10 := bt B8.out b2; clear b2
      go_wp2_with fail
      go_ret
      exact ⟨rfl, B10⟩

theorem wideDivides_law (n1 : Bool) (h1 l1 : Nat) (m n : Int) (b1 : h1 < 18446744073709551616) (b2 : l1 < 18446744073709551616) (wm : (Lit.int .u64 m).wf = true) (wn : (Lit.int .i64 n).wf = true) (w : World) :
    Calls Try.prog 3 #[.agg #[.bool n1, .int .u64 (h1 : Int), .int .u64 (l1 : Int)], .int .u64 m, .int .i64 n] w fun e w' => e = .returned (.bool true) ∧ Below w.heap.size w w' := by
  have bn := bounds_i64 wn; have bm := bounds_u64 wm
  obtain ⟨d, rfl⟩ := Int.eq_ofNat_of_zero_le bm.1
  by_cases hd : d = 0
  · subst hd; exact wideDivides_zero n1 h1 l1 n w bn.1 bn.2
  · exact wideDivides_pos n1 h1 l1 d n w b1 b2 (by omega) (by omega) bn.1 bn.2
end Go.Proofs.Ytlbmmnjecemkeaa
