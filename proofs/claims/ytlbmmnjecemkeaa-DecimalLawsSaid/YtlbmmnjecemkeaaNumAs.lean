/-
  THE WALK of the reference's As.
-/
import Derived.Test.YtlbmmnjecemkeaaNumWide
namespace Go.Proofs.Ytlbmmnjecemkeaa
open Go.RowKit
attribute [local go_sem ↓] Go.wp_at_zero Go.wp_at_succ

def asV (z : Int) : Value := if z.natAbs < 340282366920938463463374607431768211456 then .tuple #[.agg #[.bool (decide (z < 0)), .int .u64 ((z.natAbs / 18446744073709551616 : Nat) : Int), .int .u64 ((z.natAbs % 18446744073709551616 : Nat) : Int)], .bool true] else .tuple #[.agg #[.bool false, .int .u64 0, .int .u64 0], .bool false]
theorem num_abs {k : Nat} {w : World} {b : Bool} {a : Option Addr} {n cap : Nat} {z : Int} (h : Num k w (.agg #[.bool b, .slice a n cap]) z) : Num k w (.agg #[.bool false, .slice a n cap]) (z.natAbs : Int) := by
  obtain ⟨ds, h1, h2, h3, h4, h5, h6⟩ := num_row h
  refine ⟨_, ds, ?_, h1, h2, by simpa using h3, h4⟩
  have : ¬ ((z.natAbs : Int) < 0) := by omega
  simp [this]
theorem num_sign {k : Nat} {w : World} {b : Bool} {a : Option Addr} {n cap : Nat} {z : Int} (h : Num k w (.agg #[.bool b, .slice a n cap]) z) : decide (z < 0) = b := (num_row h).choose_spec.2.2.2.2.2
theorem num_cast {k : Nat} {w : World} {v : Value} {z z' : Int} (h : Num k w v z) (e : z = z') : Num k w v z' := e ▸ h
theorem cell_set_ne {w : World} {b o : Nat} {v : Value} (d : w.cell? ⟨b, o, none⟩ = some v) {b' o' : Nat} (u : Value) (h : b ≠ b') : (w.setCell ⟨b', o', none⟩ u).cell? ⟨b, o, none⟩ = some v := by
  rw [World.cell?_of_block (w := w) (w' := w.setCell ⟨b', o', none⟩ u) (a := ⟨b, o, none⟩) (Below.heap_setCell _ _ _ _ h)]; exact d
theorem cell_set3 {w : World} {b o : Nat} {v : Value} (d : w.cell? ⟨b, o, none⟩ = some v) {b' : Nat} (u0 u1 u2 : Value) (h : b ≠ b') : (((w.setCell ⟨b', 0, none⟩ u0).setCell ⟨b', 1, none⟩ u1).setCell ⟨b', 2, none⟩ u2).cell? ⟨b, o, none⟩ = some v :=
  cell_set_ne (cell_set_ne (cell_set_ne d u0 h) u1 h) u2 h

set_option maxRecDepth 100000 in
set_option maxHeartbeats 4000000 in
theorem as_any (k : Nat) (v : Value) (z : Int) (w : World) (h : Num k w v z) (hk : k ≤ 8000) :
    Calls Try.prog 12 #[v] w fun e w' => e = .returned (asV z) ∧ Below w.heap.size w w' := by
  obtain ⟨bx, aa, na, ca, rfl⟩ := num_agg h
  have HA := Lib.hid h
  have HS : Hid (decide (z < 0) = bx) := num_sign h
  clear h
  go_enter Try.func12, Try.ntmps12
  go_wp2_with fail
  refine (word_any 4294967296 _ (by omega) (by omega)).mono ?_
  rintro e w1 ⟨v1, hv1, rfl, b1⟩
  have V1 := Lib.hid hv1
  have X1 := Lib.hid (boxAt_below (boxAt_below (boxAt_new w (.bool bx) (.slice aa na ca)) (ba _ (.cells #[.bool false, .int .u64 0, .int .u64 0] 24))) b1)
  have Y1 : Hid (WAt w1 (w.heap.size + 1) false 0 0) := by
    have := WAt.below (wAt_new (w.alloc (.cells #[.bool bx, .slice aa na ca] 34)) false 0 0) b1
    rw [World.size_alloc] at this; exact this
  have B1 := Lib.hid (bt (ba _ _) (bt (ba _ _) b1))
  clear hv1 b1
  go_wp2_with fail
  refine (word_any 4294967296 _ (by omega) (by omega)).mono ?_
  rintro e w2 ⟨v2, hv2, rfl, b2⟩
  have V2 := Lib.hid hv2
  have B2 := Lib.hid b2
  clear hv2 b2
  go_wp2_with fail
  refine (mul_any 7 7 v1 v2 4294967296 4294967296 _ (num_below V1.out B2.out) V2.out (by omega) (by omega)).mono ?_
  rintro e w3 ⟨v3, hv3, rfl, b3⟩
  obtain ⟨q3, a3, n3, c3, rfl⟩ := num_agg hv3
  obtain ⟨Y, hY⟩ : ∃ Y : Nat, Hid (Y = 18446744073709551616) := ⟨_, rfl⟩
  have V3 : Hid (Num 14 w3 (.agg #[.bool q3, .slice a3 n3 c3]) (Y : Int)) := by rw [hY.out]; exact hv3
  have B3 := Lib.hid (bt B2.out b3)
  clear hv3 b3
  go_upto_region 2 with fail
  generalize hW : World.alloc w3 _ = W4
  have T3 : Hid (BoxAt W4 w3.heap.size (.bool q3) (.slice a3 n3 c3)) := by rw [← hW]; exact boxAt_new w3 _ _
  have B4 : Hid (Below w1.heap.size w1 W4) := by rw [← hW]; exact bt B3.out (ba _ _)
  have V4 : Hid (Num 14 W4 (.agg #[.bool q3, .slice a3 n3 c3]) (Y : Int)) := by rw [← hW]; exact num_below V3.out (ba _ _)
  have X4 := Lib.hid (boxAt_below X1.out B4.out)
  have Y4 := Lib.hid (WAt.below Y1.out B4.out)
  have BW := Lib.hid (bt B1.out B4.out)
  have A4 := Lib.hid (num_abs (num_below HA.out BW.out))
  clear hW
  have d1 := X4.out.c1; have d3 := T3.out.c0; have d4 := T3.out.c1
  go_wp2_with fail
  refine (down_any k 14 _ _ (z.natAbs : Int) Y _ A4.out V4.out (by rw [hY.out]; omega) (by omega) (by omega)).mono ?_
  rintro e w5 ⟨vq, vr, hq, hr, rfl, b5⟩
  obtain ⟨bq, aq, nq, cq, rfl⟩ := num_agg hq
  obtain ⟨br, ar, nr, cr, rfl⟩ := num_agg hr
  have Q5 : Hid (Num (k + 8) w5 (.agg #[.bool bq, .slice aq nq cq]) ((z.natAbs / Y : Nat) : Int)) := num_cast hq (Int.natCast_ediv _ _).symm
  have R5 : Hid (Num 15 w5 (.agg #[.bool br, .slice ar nr cr]) ((z.natAbs % Y : Nat) : Int)) := num_cast hr (Int.natCast_emod _ _).symm
  obtain ⟨Q, hQ⟩ : ∃ Q : Nat, Hid (Q = z.natAbs / Y) := ⟨_, rfl⟩
  obtain ⟨R, hR⟩ : ∃ R : Nat, Hid (R = z.natAbs % Y) := ⟨_, rfl⟩
  rw [← hQ.out] at Q5; rw [← hR.out] at R5
  have T5 := Lib.hid (boxAt_below T3.out b5)
  have X5 := Lib.hid (boxAt_below X4.out b5)
  have Y5 := Lib.hid (WAt.below Y4.out b5)
  have V5 := Lib.hid (num_below V4.out b5)
  have BX := Lib.hid (bt BW.out b5)
  clear hq hr b5 d1 d3 d4
  go_upto_region 3 with fail
  generalize hW : World.alloc (World.alloc w5 _) _ = W6
  have B6 : Hid (Below w5.heap.size w5 W6) := by rw [← hW]; exact bt (ba _ _) (ba _ _)
  have P5 : Hid (BoxAt W6 w5.heap.size (.bool bq) (.slice aq nq cq)) := by rw [← hW]; exact boxAt_below (boxAt_new w5 _ _) (ba _ _)
  have P6 : Hid (BoxAt W6 (w5.heap.size + 1) (.bool br) (.slice ar nr cr)) := by
    have := boxAt_new (w5.alloc (.cells #[.bool bq, .slice aq nq cq] 34)) (.bool br) (.slice ar nr cr)
    rw [World.size_alloc] at this; rw [← hW]; exact this
  have T6 := Lib.hid (boxAt_below T5.out B6.out)
  have X6 := Lib.hid (boxAt_below X5.out B6.out)
  have Y6 := Lib.hid (WAt.below Y5.out B6.out)
  have V6 := Lib.hid (num_below V5.out B6.out)
  have Q6 := Lib.hid (num_below Q5.out B6.out)
  have R6 := Lib.hid (num_below R5.out B6.out)
  have BY := Lib.hid (bt BX.out B6.out)
  clear hW
  have d1 := P5.out.c0; have d2 := P5.out.c1; have d3 := T6.out.c0; have d4 := T6.out.c1
  obtain ⟨c, hc⟩ : ∃ c, Hid (cmpZ (Q : Int) (Y : Int) = c) := ⟨_, rfl⟩
  go_wp2_with fail
  refine (cmp_c (k + 8) 14 _ _ _ _ c _ Q6.out V6.out (by omega) (by omega) hc.out).mono ?_
  rintro e w7 ⟨rfl, b7⟩
  have P57 := Lib.hid (boxAt_below P5.out b7)
  have P67 := Lib.hid (boxAt_below P6.out b7)
  have X7 := Lib.hid (boxAt_below X6.out b7)
  have Y7 := Lib.hid (WAt.below Y6.out b7)
  have Q7 := Lib.hid (num_below Q6.out b7)
  have R7 := Lib.hid (num_below R6.out b7)
  have BZ := Lib.hid (bt BY.out b7)
  clear b7 d1 d2 d3 d4
  by_cases hlt : z.natAbs < 340282366920938463463374607431768211456
  · have HQ : Hid (Q < Y) := by
      show Q < Y; rw [hQ.out, hY.out]; omega
    have HR : Hid (R < Y) := by
      show R < Y; rw [hR.out, hY.out]; omega
    obtain rfl : c = -1 := by
      rw [← hc.out]; have := HQ.out; unfold cmpZ; rw [if_neg (by omega), if_pos (by omega)]
    have HL : Hid (asV z = .tuple #[.agg #[.bool bx, .int .u64 (Q : Int), .int .u64 (R : Int)], .bool true]) := by
      show _ = _
      unfold asV; rw [if_pos hlt, HS.out, hQ.out, hR.out, hY.out]
    clear hlt
    go_upto_region 5 with fail
    have d0 := X7.out.c0; have d1 := P57.out.c0; have d2 := P57.out.c1; have d3 := P67.out.c0; have d4 := P67.out.c1
    have r0 := Y7.out.c0; have r1 := Y7.out.c1; have r2 := Y7.out.c2; have f0 := Y7.out.f0; have f1 := Y7.out.f1; have f2 := Y7.out.f2
    have ly := Y5.out.lt
    go_region_held3 (fun w' => w'.cell? ⟨w.heap.size, 0, none⟩ = some (.bool bx) ∧ w'.cell? ⟨w5.heap.size, 0, none⟩ = some (.bool bq) ∧ w'.cell? ⟨w5.heap.size, 1, none⟩ = some (.slice aq nq cq) ∧ w'.cell? ⟨w5.heap.size + 1, 0, none⟩ = some (.bool br) ∧ w'.cell? ⟨w5.heap.size + 1, 1, none⟩ = some (.slice ar nr cr))
      (first | exact ⟨d0, d1, d2, d3, d4⟩ | exact ⟨g0, g1, g2, g3, g4⟩ | exact ⟨cell_set3 g0 _ _ _ (by omega), cell_set3 g1 _ _ _ (by omega), cell_set3 g2 _ _ _ (by omega), cell_set3 g3 _ _ _ (by omega), cell_set3 g4 _ _ _ (by omega)⟩ | go_keep)
      (first
        | (go_at_call 60; refine (wordOf_any (k + 8) _ Q _ (by exact num_drew Q7.out) (by omega) (by have := HQ.out; rw [hY.out] at this; exact this)).mono ?_; rintro e w8 ⟨rfl, b8⟩; have B8 := Lib.hid (undrew b8); have g0 := cell_keep B8.out d0 X7.out.lt; have g1 := cell_keep B8.out d1 P57.out.lt; have g2 := cell_keep B8.out d2 P57.out.lt; have g3 := cell_keep B8.out d3 P67.out.lt; have g4 := cell_keep B8.out d4 P67.out.lt; clear b8)
        | (go_at_call 60; refine (wordOf_any 15 _ R _ (num_below R7.out B8.out) (by omega) (by have := HR.out; rw [hY.out] at this; exact this)).mono ?_; rintro e w9 ⟨rfl, b9⟩; have B9 := Lib.hid (bt B8.out b9); have g0 := cell_keep B9.out d0 X7.out.lt; have g1 := cell_keep B9.out d1 P57.out.lt; have g2 := cell_keep B9.out d2 P57.out.lt; have g3 := cell_keep B9.out d3 P67.out.lt; have g4 := cell_keep B9.out d4 P67.out.lt; have r0 := (WAt.below Y7.out B9.out).c0; have r1 := (WAt.below Y7.out B9.out).c1; have r2 := (WAt.below Y7.out B9.out).c2; have f0 := (WAt.below Y7.out B9.out).f0; have f1 := (WAt.below Y7.out B9.out).f1; have f2 := (WAt.below Y7.out B9.out).f2; clear b9))
    go_wp2_with fail
    refine bodyPost_ret (v := .tuple #[.agg #[.bool bx, .int .u64 (Q : Int), .int .u64 (R : Int)], .bool true]) (by simp [results, Try.results12, go_sem, r0, r1, r2]) rfl ⟨by rw [HL.out], (((bt BZ.out B9.out).setCell (by simp) _).setCell (by simp) _).setCell (by simp) _⟩
  · have HL : Hid (asV z = .tuple #[.agg #[.bool false, .int .u64 0, .int .u64 0], .bool false]) := by
      show _ = _
      unfold asV; rw [if_neg hlt]
    have hc3 : c = 0 ∨ c = 1 := by
      rw [← hc.out]; unfold cmpZ
      have : Y ≤ Q := by rw [hQ.out, hY.out]; omega
      split
      · exact .inl rfl
      · rw [if_neg (by omega)]; exact .inr rfl
    clear hlt hc
    have r0 := Y7.out.c0; have r1 := Y7.out.c1; have r2 := Y7.out.c2; have f0 := Y7.out.f0; have f1 := Y7.out.f1; have f2 := Y7.out.f2
    rcases hc3 with rfl | rfl
    all_goals
      go_wp2_with fail
      refine bodyPost_ret (v := .tuple #[.agg #[.bool false, .int .u64 0, .int .u64 0], .bool false]) (by simp [results, Try.results12, go_sem, r0, r1, r2]) rfl ⟨by rw [HL.out], ((BZ.out.setCell (by simp) _).setCell (by simp) _).setCell (by simp) _⟩
end Go.Proofs.Ytlbmmnjecemkeaa
