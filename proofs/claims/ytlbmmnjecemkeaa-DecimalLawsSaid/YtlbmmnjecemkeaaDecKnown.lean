/-
  corrodylaw02's known.
-/
import Derived.Test.YtlbmmnjecemkeaaDecThree
namespace Go.Proofs.Ytlbmmnjecemkeaa
open Go.RowKit
set_option linter.unusedSimpArgs false
attribute [local go_sem ↓] Go.wp_at_zero Go.wp_at_succ

set_option maxRecDepth 100000 in
set_option maxHeartbeats 2000000 in
theorem dknown_any (w : World) : Calls Try.prog 42 #[] w fun e w' => e = .returned (.bool true) ∧ Below w.heap.size w w' := by
  have hA : ansV 1 1 9 1 (un 1 (1 : Int).toNat + un 9 (1 : Int).toNat) = .tuple #[.agg #[.int .i64 1, .int .i64 0], .int .i64 0] := by kernel_rfl
  have hB : dvdV 2 0 3 0 = .tuple #[.agg #[.int .i64 666666667, .int .i64 9], .int .i64 0] := by kernel_rfl
  have hC : roundV 125 3 2 = .tuple #[.agg #[.int .i64 12, .int .i64 2], .int .i64 0] := by kernel_rfl
  have hD : roundV 135 3 2 = .tuple #[.agg #[.int .i64 14, .int .i64 2], .int .i64 0] := by kernel_rfl
  have hE : mulV 10000000000 0 1000000000 0 = .tuple #[.agg #[.int .i64 0, .int .i64 0], .int .i64 11] := by kernel_rfl
  have HA := Lib.hid hA; have HB := Lib.hid hB; have HC := Lib.hid hC; have HD := Lib.hid hD; have HE := Lib.hid hE; clear hA hB hC hD hE
  go_enter Try.func42, Try.ntmps42
  go_wp2_with fail
  refine (dAdd_any 1 1 9 1 _ _ (by unfold fits; omega) (by unfold fits; omega) HA.out).mono ?_
  rintro e w1 ⟨rfl, b2⟩
  have B1 := Lib.hid b2; clear b2
  go_upto_region 2 with fail
  generalize hW : World.alloc w1 _ = W2
  obtain ⟨ip, hiip⟩ : ∃ x, Hid (w1.heap.size = x) := ⟨_, rfl⟩
  have P2 : Hid (DAt W2 ip 1 0) := by rw [← hW, ← hiip.out]; exact dAt_new _ _ _
  have bW : Below w1.heap.size w1 W2 := by rw [← hW]; exact ba _ _
  rw [hiip.out]; clear hW
  have B2 := Lib.hid (bt B1.out bW)
  clear bW hiip
  clear   B1
  obtain ⟨w2, hw2⟩ : ∃ x, x = W2 := ⟨_, rfl⟩; subst hw2
  go_wp2_with fail
  refine (dOf_any 2 _).mono ?_
  rintro e w3 ⟨rfl, b2⟩
  have P3 := Lib.hid (DAt.below P2.out b2)
  have B3 := Lib.hid (bt B2.out b2)
  clear b2
  clear P2  B2
  go_wp2_with fail
  refine (dOf_any 3 _).mono ?_
  rintro e w4 ⟨rfl, b2⟩
  have P4 := Lib.hid (DAt.below P3.out b2)
  have B4 := Lib.hid (bt B3.out b2)
  clear b2
  clear P3  B3
  go_wp2_with fail
  refine (dDiv_any 2 0 3 0 _ _ (by unfold fits; omega) (by unfold fits; omega) HB.out).mono ?_
  rintro e w5 ⟨rfl, b2⟩
  have P5 := Lib.hid (DAt.below P4.out b2)
  have B5 := Lib.hid (bt B4.out b2)
  clear b2
  clear P4  B4
  go_upto_region 3 with fail
  generalize hW : World.alloc w5 _ = W6
  obtain ⟨iq, hiiq⟩ : ∃ x, Hid (w5.heap.size = x) := ⟨_, rfl⟩
  have Q6 : Hid (DAt W6 iq 666666667 9) := by rw [← hW, ← hiiq.out]; exact dAt_new _ _ _
  have bW : Below w5.heap.size w5 W6 := by rw [← hW]; exact ba _ _
  rw [hiiq.out]; clear hW
  have P6 := Lib.hid (DAt.below P5.out bW)
  have B6 := Lib.hid (bt B5.out bW)
  clear bW hiiq
  clear P5  B5
  obtain ⟨w6, hw2⟩ : ∃ x, x = W6 := ⟨_, rfl⟩; subst hw2
  go_wp2_with fail
  refine (dRound_any 125 3 2 _ _ (by unfold fits; omega) HC.out).mono ?_
  rintro e w7 ⟨rfl, b2⟩
  have P7 := Lib.hid (DAt.below P6.out b2)
  have Q7 := Lib.hid (DAt.below Q6.out b2)
  have B7 := Lib.hid (bt B6.out b2)
  clear b2
  clear P6 Q6  B6
  go_upto_region 4 with fail
  generalize hW : World.alloc w7 _ = W8
  obtain ⟨is, hiis⟩ : ∃ x, Hid (w7.heap.size = x) := ⟨_, rfl⟩
  have S8 : Hid (DAt W8 is 12 2) := by rw [← hW, ← hiis.out]; exact dAt_new _ _ _
  have bW : Below w7.heap.size w7 W8 := by rw [← hW]; exact ba _ _
  rw [hiis.out]; clear hW
  have P8 := Lib.hid (DAt.below P7.out bW)
  have Q8 := Lib.hid (DAt.below Q7.out bW)
  have B8 := Lib.hid (bt B7.out bW)
  clear bW hiis
  clear P7 Q7  B7
  obtain ⟨w8, hw2⟩ : ∃ x, x = W8 := ⟨_, rfl⟩; subst hw2
  go_wp2_with fail
  refine (dRound_any 135 3 2 _ _ (by unfold fits; omega) HD.out).mono ?_
  rintro e w9 ⟨rfl, b2⟩
  have P9 := Lib.hid (DAt.below P8.out b2)
  have Q9 := Lib.hid (DAt.below Q8.out b2)
  have S9 := Lib.hid (DAt.below S8.out b2)
  have B9 := Lib.hid (bt B8.out b2)
  clear b2
  clear P8 Q8 S8  B8
  go_upto_region 5 with fail
  generalize hW : World.alloc w9 _ = W10
  obtain ⟨jt, hijt⟩ : ∃ x, Hid (w9.heap.size = x) := ⟨_, rfl⟩
  have T10 : Hid (DAt W10 jt 14 2) := by rw [← hW, ← hijt.out]; exact dAt_new _ _ _
  have bW : Below w9.heap.size w9 W10 := by rw [← hW]; exact ba _ _
  rw [hijt.out]; clear hW
  have P10 := Lib.hid (DAt.below P9.out bW)
  have Q10 := Lib.hid (DAt.below Q9.out bW)
  have S10 := Lib.hid (DAt.below S9.out bW)
  have B10 := Lib.hid (bt B9.out bW)
  clear bW hijt
  clear P9 Q9 S9  B9
  obtain ⟨w10, hw2⟩ : ∃ x, x = W10 := ⟨_, rfl⟩; subst hw2
  go_wp2_with fail
  refine (dOf_any 10000000000 _).mono ?_
  rintro e w11 ⟨rfl, b2⟩
  have P11 := Lib.hid (DAt.below P10.out b2)
  have Q11 := Lib.hid (DAt.below Q10.out b2)
  have S11 := Lib.hid (DAt.below S10.out b2)
  have T11 := Lib.hid (DAt.below T10.out b2)
  have B11 := Lib.hid (bt B10.out b2)
  clear b2
  clear P10 Q10 S10 T10  B10
  go_wp2_with fail
  refine (dOf_any 1000000000 _).mono ?_
  rintro e w12 ⟨rfl, b2⟩
  have P12 := Lib.hid (DAt.below P11.out b2)
  have Q12 := Lib.hid (DAt.below Q11.out b2)
  have S12 := Lib.hid (DAt.below S11.out b2)
  have T12 := Lib.hid (DAt.below T11.out b2)
  have B12 := Lib.hid (bt B11.out b2)
  clear b2
  clear P11 Q11 S11 T11  B11
  go_wp2_with fail
  refine (dMul_any 10000000000 0 1000000000 0 _ _ (by unfold fits; omega) (by unfold fits; omega) HE.out).mono ?_
  rintro e w13 ⟨rfl, b2⟩
  have P13 := Lib.hid (DAt.below P12.out b2)
  have Q13 := Lib.hid (DAt.below Q12.out b2)
  have S13 := Lib.hid (DAt.below S12.out b2)
  have T13 := Lib.hid (DAt.below T12.out b2)
  have B13 := Lib.hid (bt B12.out b2)
  clear b2
  clear P12 Q12 S12 T12  B12
  go_upto_region 6 with fail
  generalize hW : World.alloc w13 _ = W14
  obtain ⟨iu, hiiu⟩ : ∃ x, Hid (w13.heap.size = x) := ⟨_, rfl⟩
  have U14 : Hid (DAt W14 iu 0 0) := by rw [← hW, ← hiiu.out]; exact dAt_new _ _ _
  have bW : Below w13.heap.size w13 W14 := by rw [← hW]; exact ba _ _
  rw [hiiu.out]; clear hW
  have P14 := Lib.hid (DAt.below P13.out bW)
  have Q14 := Lib.hid (DAt.below Q13.out bW)
  have S14 := Lib.hid (DAt.below S13.out bW)
  have T14 := Lib.hid (DAt.below T13.out bW)
  have B14 := Lib.hid (bt B13.out bW)
  clear bW hiiu
  clear P13 Q13 S13 T13  B13
  have p0 := P14.out.c0
  have p1 := P14.out.c1
  have q0 := Q14.out.c0
  have q1 := Q14.out.c1
  have s0 := S14.out.c0
  have s1 := S14.out.c1
  have t0 := T14.out.c0
  have t1 := T14.out.c1
  go_wp2_with fail
  go_ret
  exact ⟨rfl, B14.out⟩
end Go.Proofs.Ytlbmmnjecemkeaa
