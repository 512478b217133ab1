/-
  THE WALK of corrodylaw02's DecimalLaws.
-/
import Derived.Test.YtlbmmnjecemkeaaDecKnown
namespace Go.Proofs.Ytlbmmnjecemkeaa
open Go.RowKit
set_option linter.unusedSimpArgs false
set_option linter.unusedVariables false
attribute [local go_sem ↓] Go.wp_at_zero Go.wp_at_succ

theorem trim_fits (u : Int) (s : Nat) (h : fits u) : fits (trim u s).1 := by
  induction s generalizing u with
  | zero => exact h
  | succ s ih =>
    rw [trim_succ]
    split
    · refine ih _ ?_
      have h1 : -9223372036854775808 ≤ u ∧ u ≤ 9223372036854775807 := h
      show -9223372036854775808 ≤ u / 10 ∧ u / 10 ≤ 9223372036854775807
      omega
    · exact h
theorem put_ok (c : Int) (n : Nat) (hc : fits c) : ∃ (p : Int) (q : Nat), Hid (decV c n = .tuple #[.agg #[.int .i64 p, .int .i64 (q : Int)], .int .i64 0]) := by
  refine ⟨(trim c n).1, (trim c n).2, ?_⟩
  show _ = _; unfold decV; rw [if_pos (trim_fits c n hc)]
theorem isB_le {s : Nat} (h : s ≤ 9) : isB (s : Int) = true := by unfold isB; simp; omega
theorem isD_may {u c : Int} {s : Nat} (h : IsD u c s) : mayB c (s : Int) = true := by
  unfold mayB; rw [isB_le h.le]
  rcases h.can with k | k
  · subst k; simp
  · simp [k]
theorem ans_ok (c c' u : Int) (s s' : Nat) (h : s ≤ 9) (h' : s' ≤ 9) : ansV c (s : Int) c' (s' : Int) u = decV u 9 := by
  unfold ansV; rw [isB_le h, isB_le h', if_pos (by rfl)]
theorem dMay_c' (c s : Int) (w : World) (hc : fits c) (hb : mayB c s = true) : Calls Try.prog 38 #[.agg #[.int .i64 c, .int .i64 s]] w fun e w' => e = .returned (.bool true) ∧ Below w.heap.size w w' := by rw [← hb]; exact dMay_any c s w hc
theorem back_sub {c c' a : Int} {n n' k : Nat} (h : IsD (un c n + un c' n') a k) (hn : n ≤ 9) (hn' : n' ≤ 9) :
    ansV a (k : Int) c' (n' : Int) (un a (k : Int).toNat - un c' (n' : Int).toNat) = decV c n := by
  rw [ans_ok _ _ _ _ _ h.le hn', show ((k : Nat) : Int).toNat = k from rfl, show ((n' : Nat) : Int).toNat = n' from rfl, h.val, show un c n + un c' n' - un c' n' = un c n by omega, decV_un c n hn]
theorem cmp_sub {x y b : Int} {k : Nat} (h : IsD (x - y) b k) : (cmpZ x y < 0 ↔ b < 0) ∧ (cmpZ x y = 0 ↔ b = 0) := by
  have e := h.val
  unfold un at e
  have p : (0 : Int) < (10 : Int) ^ (9 - k) := by have := ten_pos (9 - k); rw [← pow_int]; omega
  have hs : (b < 0 ↔ x - y < 0) ∧ (b = 0 ↔ x - y = 0) := by
    rw [← e]
    rcases Int.lt_trichotomy b 0 with h1 | h1 | h1
    · have := Int.mul_neg_of_neg_of_pos h1 p; constructor <;> constructor <;> intro <;> omega
    · subst h1; simp
    · have := Int.mul_pos h1 p; constructor <;> constructor <;> intro <;> omega
  rw [hs.1, hs.2]
  unfold cmpZ
  split
  · omega
  · split <;> omega
theorem back_div {c c' a : Int} {n n' k : Nat} (h : IsD (evenZ (un c n * un c' n') (10 ^ 9)) a k) (hn : n ≤ 9) (hn' : n' ≤ 9) (hs : n + n' ≤ 9) (hc : c' ≠ 0) :
    dvdV a (k : Int) c' (n' : Int) = decV c n := by
  unfold dvdV
  rw [isB_le h.le, isB_le hn', if_pos (by rfl), if_neg hc, show ((k : Nat) : Int).toNat = k from rfl, show ((n' : Nat) : Int).toNat = n' from rfl, h.val, ← decV_un c n hn]
  have e1 : un c n * un c' n' = c * c' * ((10 ^ (9 - (n + n')) : Nat) : Int) * ((10 ^ 9 : Nat) : Int) := by
    unfold un
    rw [Int.mul_assoc (c * c'), ← Int.natCast_mul, ← Nat.pow_add, pow_int, show 9 - (n + n') + 9 = (9 - n) + (9 - n') by omega, Int.pow_add, Int.mul_assoc, Int.mul_assoc]
    congr 1
    rw [Int.mul_left_comm]
  have e2 : evenZ (un c n * un c' n') (10 ^ 9) = c * c' * ((10 ^ (9 - (n + n')) : Nat) : Int) := by rw [e1, evenZ_exact _ _ (ten_pos 9)]
  have e3 : evenZ (un c n * un c' n') (10 ^ 9) * ((10 ^ 9 : Nat) : Int) = un c n * un c' n' := by rw [e2, e1]
  have hsgn : (un c' n' < 0 ↔ c' < 0) ∧ un c' n' ≠ 0 := by
    unfold un
    have p : (0 : Int) < (10 : Int) ^ (9 - n') := by have := ten_pos (9 - n'); rw [← pow_int]; omega
    rcases Int.lt_trichotomy c' 0 with h1 | h1 | h1
    · have := Int.mul_neg_of_neg_of_pos h1 p; constructor; constructor <;> intro <;> omega; omega
    · exact absurd h1 hc
    · have := Int.mul_pos h1 p; constructor; constructor <;> intro <;> omega; omega
  have e4 : (if c' < 0 then -(evenZ (un c n * un c' n') (10 ^ 9)) else evenZ (un c n * un c' n') (10 ^ 9)) * ((10 ^ 9 : Nat) : Int) = un c n * (((un c' n').natAbs : Nat) : Int) := by
    by_cases hneg : c' < 0
    · rw [if_pos hneg, Int.neg_mul, e3]
      have := hsgn.1.2 hneg
      rw [show (((un c' n').natAbs : Nat) : Int) = -(un c' n') by omega, Int.mul_neg]
    · rw [if_neg hneg, e3]
      have : ¬ un c' n' < 0 := fun k => hneg (hsgn.1.1 k)
      rw [show (((un c' n').natAbs : Nat) : Int) = un c' n' by omega]
  rw [e4, evenZ_exact _ _ (by have := hsgn.2; omega)]

set_option maxRecDepth 100000 in
set_option maxHeartbeats 8000000 in
theorem decLaws_bad (c s c' s' : Int) (w : World) (hc : fits c) (hc' : fits c') (hb : (isB s && isB s') = false) :
    Calls Try.prog 8 #[.agg #[.int .i64 c, .int .i64 s], .agg #[.int .i64 c', .int .i64 s']] w fun e w' => e = .returned (.bool true) ∧ Below w.heap.size w w' := by
  have hb' : (isB s' && isB s) = false := by rw [Bool.and_comm]; exact hb
  have ha : ∀ u, ansV c s c' s' u = .tuple #[.agg #[.int .i64 0, .int .i64 0], .int .i64 2] := fun u => by unfold ansV; rw [hb, if_neg (by simp)]; rfl
  have ha' : ∀ u, ansV c' s' c s u = .tuple #[.agg #[.int .i64 0, .int .i64 0], .int .i64 2] := fun u => by unfold ansV; rw [hb', if_neg (by simp)]; rfl
  have h1 := Lib.hid (ha (un c s.toNat + un c' s'.toNat)); have h2 := Lib.hid (ha' (un c' s'.toNat + un c s.toNat)); have h6 := Lib.hid (ha (un c s.toNat - un c' s'.toNat))
  have h3 : Hid (mulV c s c' s' = .tuple #[.agg #[.int .i64 0, .int .i64 0], .int .i64 2]) := ha _
  have h4 : Hid (mulV c' s' c s = .tuple #[.agg #[.int .i64 0, .int .i64 0], .int .i64 2]) := ha' _
  have h5 : Hid (cmpV c s c' s' = .tuple #[.int .i64 0, .int .i64 2]) := by show _ = _; unfold cmpV; rw [hb, if_neg (by simp)]
  obtain ⟨pc, ps, pe, hpp⟩ := putV_form c s; have hp := Lib.hid hpp; clear hpp
  have HF : Hid (fits c ∧ fits c') := ⟨hc, hc'⟩; clear hc hc' hb hb' ha ha'
  go_enter Try.func8, Try.ntmps8
  go_upto_region 1 with fail
  obtain ⟨hX, hY, hB⟩ := two_dec w c s c' s'
  have X0 := Lib.hid hX; have Y0 := Lib.hid hY; have B0 := Lib.hid hB; clear hX hY hB
  generalize World.alloc (World.alloc w _) _ = w0 at X0 Y0 B0 ⊢
  have x0 := X0.out.c0
  have x1 := X0.out.c1
  have y0 := Y0.out.c0
  have y1 := Y0.out.c1
  go_wp2_with fail
  refine (dAdd_any c s c' s' _ _ HF.out.1 HF.out.2 h1.out).mono ?_
  rintro e w1 ⟨rfl, b2⟩
  have X1 := Lib.hid (DAt.below X0.out b2)
  have Y1 := Lib.hid (DAt.below Y0.out b2)
  have B1 := Lib.hid (bt B0.out b2)
  clear x0 x1 y0 y1
  clear b2
  clear X0 Y0  B0
  go_upto_region 2 with fail
  generalize hW : World.alloc w1 _ = W2
  obtain ⟨ia, hiia⟩ : ∃ x, Hid (w1.heap.size = x) := ⟨_, rfl⟩
  have A2 : Hid (DAt W2 ia 0 0) := by rw [← hW, ← hiia.out]; exact dAt_new _ _ _
  have bW : Below w1.heap.size w1 W2 := by rw [← hW]; exact ba _ _
  rw [hiia.out]; clear hW
  have X2 := Lib.hid (DAt.below X1.out bW)
  have Y2 := Lib.hid (DAt.below Y1.out bW)
  have B2 := Lib.hid (bt B1.out bW)
  clear bW hiia
  clear X1 Y1  B1
  obtain ⟨w2, hw2⟩ : ∃ x, x = W2 := ⟨_, rfl⟩; subst hw2
  have x0 := X2.out.c0
  have x1 := X2.out.c1
  have y0 := Y2.out.c0
  have y1 := Y2.out.c1
  go_wp2_with fail
  refine (dAdd_any c' s' c s _ _ HF.out.2 HF.out.1 h2.out).mono ?_
  rintro e w3 ⟨rfl, b2⟩
  have X3 := Lib.hid (DAt.below X2.out b2)
  have Y3 := Lib.hid (DAt.below Y2.out b2)
  have A3 := Lib.hid (DAt.below A2.out b2)
  have B3 := Lib.hid (bt B2.out b2)
  clear x0 x1 y0 y1
  clear b2
  clear X2 Y2 A2  B2
  go_upto_region 3 with fail
  generalize hW : World.alloc w3 _ = W4
  obtain ⟨ie, hiie⟩ : ∃ x, Hid (w3.heap.size = x) := ⟨_, rfl⟩
  have E4 : Hid (DAt W4 ie 0 0) := by rw [← hW, ← hiie.out]; exact dAt_new _ _ _
  have bW : Below w3.heap.size w3 W4 := by rw [← hW]; exact ba _ _
  rw [hiie.out]; clear hW
  have X4 := Lib.hid (DAt.below X3.out bW)
  have Y4 := Lib.hid (DAt.below Y3.out bW)
  have A4 := Lib.hid (DAt.below A3.out bW)
  have B4 := Lib.hid (bt B3.out bW)
  clear bW hiie
  clear X3 Y3 A3  B3
  obtain ⟨w4, hw2⟩ : ∃ x, x = W4 := ⟨_, rfl⟩; subst hw2
  have x0 := X4.out.c0
  have x1 := X4.out.c1
  have y0 := Y4.out.c0
  have y1 := Y4.out.c1
  go_wp2_with fail
  refine (dMul_any c s c' s' _ _ HF.out.1 HF.out.2 h3.out).mono ?_
  rintro e w5 ⟨rfl, b2⟩
  have X5 := Lib.hid (DAt.below X4.out b2)
  have Y5 := Lib.hid (DAt.below Y4.out b2)
  have A5 := Lib.hid (DAt.below A4.out b2)
  have E5 := Lib.hid (DAt.below E4.out b2)
  have B5 := Lib.hid (bt B4.out b2)
  clear x0 x1 y0 y1
  clear b2
  clear X4 Y4 A4 E4  B4
  go_upto_region 4 with fail
  generalize hW : World.alloc w5 _ = W6
  obtain ⟨jf, hijf⟩ : ∃ x, Hid (w5.heap.size = x) := ⟨_, rfl⟩
  have F6 : Hid (DAt W6 jf 0 0) := by rw [← hW, ← hijf.out]; exact dAt_new _ _ _
  have bW : Below w5.heap.size w5 W6 := by rw [← hW]; exact ba _ _
  rw [hijf.out]; clear hW
  have X6 := Lib.hid (DAt.below X5.out bW)
  have Y6 := Lib.hid (DAt.below Y5.out bW)
  have A6 := Lib.hid (DAt.below A5.out bW)
  have E6 := Lib.hid (DAt.below E5.out bW)
  have B6 := Lib.hid (bt B5.out bW)
  clear bW hijf
  clear X5 Y5 A5 E5  B5
  obtain ⟨w6, hw2⟩ : ∃ x, x = W6 := ⟨_, rfl⟩; subst hw2
  have x0 := X6.out.c0
  have x1 := X6.out.c1
  have y0 := Y6.out.c0
  have y1 := Y6.out.c1
  go_wp2_with fail
  refine (dMul_any c' s' c s _ _ HF.out.2 HF.out.1 h4.out).mono ?_
  rintro e w7 ⟨rfl, b2⟩
  have X7 := Lib.hid (DAt.below X6.out b2)
  have Y7 := Lib.hid (DAt.below Y6.out b2)
  have A7 := Lib.hid (DAt.below A6.out b2)
  have E7 := Lib.hid (DAt.below E6.out b2)
  have F7 := Lib.hid (DAt.below F6.out b2)
  have B7 := Lib.hid (bt B6.out b2)
  clear x0 x1 y0 y1
  clear b2
  clear X6 Y6 A6 E6 F6  B6
  go_upto_region 5 with fail
  generalize hW : World.alloc w7 _ = W8
  obtain ⟨ig, hiig⟩ : ∃ x, Hid (w7.heap.size = x) := ⟨_, rfl⟩
  have G8 : Hid (DAt W8 ig 0 0) := by rw [← hW, ← hiig.out]; exact dAt_new _ _ _
  have bW : Below w7.heap.size w7 W8 := by rw [← hW]; exact ba _ _
  rw [hiig.out]; clear hW
  have X8 := Lib.hid (DAt.below X7.out bW)
  have Y8 := Lib.hid (DAt.below Y7.out bW)
  have A8 := Lib.hid (DAt.below A7.out bW)
  have E8 := Lib.hid (DAt.below E7.out bW)
  have F8 := Lib.hid (DAt.below F7.out bW)
  have B8 := Lib.hid (bt B7.out bW)
  clear bW hiig
  clear X7 Y7 A7 E7 F7  B7
  obtain ⟨w8, hw2⟩ : ∃ x, x = W8 := ⟨_, rfl⟩; subst hw2
  have a0 := A8.out.c0
  have a1 := A8.out.c1
  have e0 := E8.out.c0
  have e1 := E8.out.c1
  have f0 := F8.out.c0
  have f1 := F8.out.c1
  have g0 := G8.out.c0
  have g1 := G8.out.c1
  have x0 := X8.out.c0
  have x1 := X8.out.c1
  go_wp2_with fail
  refine (dPut_any c s _ _ HF.out.1 hp.out).mono ?_
  rintro e w9 ⟨rfl, b2⟩
  have X9 := Lib.hid (DAt.below X8.out b2)
  have Y9 := Lib.hid (DAt.below Y8.out b2)
  have A9 := Lib.hid (DAt.below A8.out b2)
  have E9 := Lib.hid (DAt.below E8.out b2)
  have F9 := Lib.hid (DAt.below F8.out b2)
  have G9 := Lib.hid (DAt.below G8.out b2)
  have B9 := Lib.hid (bt B8.out b2)
  clear a0 a1 e0 e1 f0 f1 g0 g1 x0 x1
  clear b2
  clear X8 Y8 A8 E8 F8 G8  B8
  go_upto_region 8 with fail
  generalize hW : World.alloc w9 _ = W10
  obtain ⟨ip, hiip⟩ : ∃ x, Hid (w9.heap.size = x) := ⟨_, rfl⟩
  have P10 : Hid (DAt W10 ip pc ps) := by rw [← hW, ← hiip.out]; exact dAt_new _ _ _
  have bW : Below w9.heap.size w9 W10 := by rw [← hW]; exact ba _ _
  rw [hiip.out]; clear hW
  have X10 := Lib.hid (DAt.below X9.out bW)
  have Y10 := Lib.hid (DAt.below Y9.out bW)
  have A10 := Lib.hid (DAt.below A9.out bW)
  have E10 := Lib.hid (DAt.below E9.out bW)
  have F10 := Lib.hid (DAt.below F9.out bW)
  have G10 := Lib.hid (DAt.below G9.out bW)
  have B10 := Lib.hid (bt B9.out bW)
  clear bW hiip
  clear X9 Y9 A9 E9 F9 G9  B9
  obtain ⟨w10, hw2⟩ : ∃ x, x = W10 := ⟨_, rfl⟩; subst hw2
  have x0 := X10.out.c0
  have x1 := X10.out.c1
  have y0 := Y10.out.c0
  have y1 := Y10.out.c1
  go_wp2_with fail
  refine (dCmp_any c s c' s' _ _ HF.out.1 HF.out.2 h5.out).mono ?_
  rintro e w11 ⟨rfl, b2⟩
  have X11 := Lib.hid (DAt.below X10.out b2)
  have Y11 := Lib.hid (DAt.below Y10.out b2)
  have A11 := Lib.hid (DAt.below A10.out b2)
  have E11 := Lib.hid (DAt.below E10.out b2)
  have F11 := Lib.hid (DAt.below F10.out b2)
  have G11 := Lib.hid (DAt.below G10.out b2)
  have P11 := Lib.hid (DAt.below P10.out b2)
  have B11 := Lib.hid (bt B10.out b2)
  clear x0 x1 y0 y1
  clear b2
  clear X10 Y10 A10 E10 F10 G10 P10  B10
  have x0 := X11.out.c0
  have x1 := X11.out.c1
  have y0 := Y11.out.c0
  have y1 := Y11.out.c1
  go_wp2_with fail
  refine (dSub_any c s c' s' _ _ HF.out.1 HF.out.2 h6.out).mono ?_
  rintro e w12 ⟨rfl, b2⟩
  have X12 := Lib.hid (DAt.below X11.out b2)
  have Y12 := Lib.hid (DAt.below Y11.out b2)
  have A12 := Lib.hid (DAt.below A11.out b2)
  have E12 := Lib.hid (DAt.below E11.out b2)
  have F12 := Lib.hid (DAt.below F11.out b2)
  have G12 := Lib.hid (DAt.below G11.out b2)
  have P12 := Lib.hid (DAt.below P11.out b2)
  have B12 := Lib.hid (bt B11.out b2)
  clear x0 x1 y0 y1
  clear b2
  clear X11 Y11 A11 E11 F11 G11 P11  B11
  go_upto_region 14 with fail
  generalize hW : World.alloc w12 _ = W13
  obtain ⟨is, hiis⟩ : ∃ x, Hid (w12.heap.size = x) := ⟨_, rfl⟩
  have S13 : Hid (DAt W13 is 0 0) := by rw [← hW, ← hiis.out]; exact dAt_new _ _ _
  have bW : Below w12.heap.size w12 W13 := by rw [← hW]; exact ba _ _
  rw [hiis.out]; clear hW
  have X13 := Lib.hid (DAt.below X12.out bW)
  have Y13 := Lib.hid (DAt.below Y12.out bW)
  have A13 := Lib.hid (DAt.below A12.out bW)
  have E13 := Lib.hid (DAt.below E12.out bW)
  have F13 := Lib.hid (DAt.below F12.out bW)
  have G13 := Lib.hid (DAt.below G12.out bW)
  have P13 := Lib.hid (DAt.below P12.out bW)
  have B13 := Lib.hid (bt B12.out bW)
  clear bW hiis
  clear X12 Y12 A12 E12 F12 G12 P12  B12
  go_wp2_with fail
  refine (dknown_any _).mono ?_
  rintro e w14 ⟨rfl, b2⟩
  have B14 := bt B13.out b2; clear b2
  go_wp2_with fail
  go_ret
  exact ⟨rfl, B14⟩

set_option maxRecDepth 100000 in
set_option maxHeartbeats 8000000 in
theorem decLaws_good (c c' : Int) (n n' : Nat) (w : World) (hc : fits c) (hc' : fits c') (hn : n ≤ 9) (hn' : n' ≤ 9) :
    Calls Try.prog 8 #[.agg #[.int .i64 c, .int .i64 (n : Int)], .agg #[.int .i64 c', .int .i64 (n' : Int)]] w fun e w' => e = .returned (.bool true) ∧ Below w.heap.size w w' := by
  obtain ⟨ac, as_, ae, hA, HA⟩ := decV_any (un c n + un c' n')
  obtain ⟨bc, bs, be, hB, HB⟩ := decV_any (un c n - un c' n')
  obtain ⟨dc, ds, de, hD, HD⟩ := decV_any (evenZ (un c n * un c' n') (10 ^ 9))
  obtain ⟨pc, ps, hP⟩ := put_ok c n hc
  obtain ⟨z, hz⟩ : ∃ z, Hid (cmpZ (un c n) (un c' n') = z) := ⟨_, rfl⟩
  have et : ((n : Nat) : Int).toNat = n := rfl; have et' : ((n' : Nat) : Int).toNat = n' := rfl
  have h1 : Hid (ansV c (n : Int) c' (n' : Int) (un c (n : Int).toNat + un c' (n' : Int).toNat) = .tuple #[.agg #[.int .i64 ac, .int .i64 (as_ : Int)], .int .i64 ae]) := (ans_ok _ _ _ _ _ hn hn').trans hA.out
  have h2 : Hid (ansV c' (n' : Int) c (n : Int) (un c' (n' : Int).toNat + un c (n : Int).toNat) = .tuple #[.agg #[.int .i64 ac, .int .i64 (as_ : Int)], .int .i64 ae]) := (ans_ok _ _ _ _ _ hn' hn).trans (by rw [et, et', Int.add_comm]; exact hA.out)
  have h3 : Hid (mulV c (n : Int) c' (n' : Int) = .tuple #[.agg #[.int .i64 dc, .int .i64 (ds : Int)], .int .i64 de]) := (ans_ok _ _ _ _ _ hn hn').trans hD.out
  have h4 : Hid (mulV c' (n' : Int) c (n : Int) = .tuple #[.agg #[.int .i64 dc, .int .i64 (ds : Int)], .int .i64 de]) := (ans_ok _ _ _ _ _ hn' hn).trans (by rw [et, et', Int.mul_comm (un c' n')]; exact hD.out)
  have h6 : Hid (ansV c (n : Int) c' (n' : Int) (un c (n : Int).toNat - un c' (n' : Int).toNat) = .tuple #[.agg #[.int .i64 bc, .int .i64 (bs : Int)], .int .i64 be]) := (ans_ok _ _ _ _ _ hn hn').trans hB.out
  have h5 : Hid (cmpV c (n : Int) c' (n' : Int) = .tuple #[.int .i64 z, .int .i64 0]) := by show _ = _; unfold cmpV; rw [isB_le hn, isB_le hn', if_pos (by rfl), et, et', hz.out]
  have hp : Hid (putV c (n : Int) = .tuple #[.agg #[.int .i64 pc, .int .i64 (ps : Int)], .int .i64 0]) := by show _ = _; unfold putV; rw [isB_le hn, if_pos rfl, et, decV_un c n hn]; exact hP.out
  have HF : Hid (fits c ∧ fits c' ∧ n ≤ 9 ∧ n' ≤ 9) := ⟨hc, hc', hn, hn'⟩; clear hc hc' hn hn' et et' hA hB hD
  go_enter Try.func8, Try.ntmps8
  go_upto_region 1 with fail
  obtain ⟨hX, hY, hB⟩ := two_dec w c (n : Int) c' (n' : Int)
  have X0 := Lib.hid hX; have Y0 := Lib.hid hY; have B0 := Lib.hid hB; clear hX hY hB
  generalize World.alloc (World.alloc w _) _ = w0 at X0 Y0 B0 ⊢
  have x0 := X0.out.c0
  have x1 := X0.out.c1
  have y0 := Y0.out.c0
  have y1 := Y0.out.c1
  go_wp2_with fail
  refine (dAdd_any c (n : Int) c' (n' : Int) _ _ HF.out.1 HF.out.2.1 h1.out).mono ?_
  rintro e w1 ⟨rfl, b2⟩
  have X1 := Lib.hid (DAt.below X0.out b2)
  have Y1 := Lib.hid (DAt.below Y0.out b2)
  have B1 := Lib.hid (bt B0.out b2)
  clear x0 x1 y0 y1
  clear b2
  clear X0 Y0  B0
  go_upto_region 2 with fail
  generalize hW : World.alloc w1 _ = W2
  obtain ⟨ia, hiia⟩ : ∃ x, Hid (w1.heap.size = x) := ⟨_, rfl⟩
  have A2 : Hid (DAt W2 ia ac (as_ : Int)) := by rw [← hW, ← hiia.out]; exact dAt_new _ _ _
  have bW : Below w1.heap.size w1 W2 := by rw [← hW]; exact ba _ _
  rw [hiia.out]; clear hW
  have X2 := Lib.hid (DAt.below X1.out bW)
  have Y2 := Lib.hid (DAt.below Y1.out bW)
  have B2 := Lib.hid (bt B1.out bW)
  clear bW hiia
  clear X1 Y1  B1
  obtain ⟨w2, hw2⟩ : ∃ x, x = W2 := ⟨_, rfl⟩; subst hw2
  have x0 := X2.out.c0
  have x1 := X2.out.c1
  have y0 := Y2.out.c0
  have y1 := Y2.out.c1
  go_wp2_with fail
  refine (dAdd_any c' (n' : Int) c (n : Int) _ _ HF.out.2.1 HF.out.1 h2.out).mono ?_
  rintro e w3 ⟨rfl, b2⟩
  have X3 := Lib.hid (DAt.below X2.out b2)
  have Y3 := Lib.hid (DAt.below Y2.out b2)
  have A3 := Lib.hid (DAt.below A2.out b2)
  have B3 := Lib.hid (bt B2.out b2)
  clear x0 x1 y0 y1
  clear b2
  clear X2 Y2 A2  B2
  go_upto_region 3 with fail
  generalize hW : World.alloc w3 _ = W4
  obtain ⟨ie, hiie⟩ : ∃ x, Hid (w3.heap.size = x) := ⟨_, rfl⟩
  have E4 : Hid (DAt W4 ie ac (as_ : Int)) := by rw [← hW, ← hiie.out]; exact dAt_new _ _ _
  have bW : Below w3.heap.size w3 W4 := by rw [← hW]; exact ba _ _
  rw [hiie.out]; clear hW
  have X4 := Lib.hid (DAt.below X3.out bW)
  have Y4 := Lib.hid (DAt.below Y3.out bW)
  have A4 := Lib.hid (DAt.below A3.out bW)
  have B4 := Lib.hid (bt B3.out bW)
  clear bW hiie
  clear X3 Y3 A3  B3
  obtain ⟨w4, hw2⟩ : ∃ x, x = W4 := ⟨_, rfl⟩; subst hw2
  have x0 := X4.out.c0
  have x1 := X4.out.c1
  have y0 := Y4.out.c0
  have y1 := Y4.out.c1
  go_wp2_with fail
  refine (dMul_any c (n : Int) c' (n' : Int) _ _ HF.out.1 HF.out.2.1 h3.out).mono ?_
  rintro e w5 ⟨rfl, b2⟩
  have X5 := Lib.hid (DAt.below X4.out b2)
  have Y5 := Lib.hid (DAt.below Y4.out b2)
  have A5 := Lib.hid (DAt.below A4.out b2)
  have E5 := Lib.hid (DAt.below E4.out b2)
  have B5 := Lib.hid (bt B4.out b2)
  clear x0 x1 y0 y1
  clear b2
  clear X4 Y4 A4 E4  B4
  go_upto_region 4 with fail
  generalize hW : World.alloc w5 _ = W6
  obtain ⟨jf, hijf⟩ : ∃ x, Hid (w5.heap.size = x) := ⟨_, rfl⟩
  have F6 : Hid (DAt W6 jf dc (ds : Int)) := by rw [← hW, ← hijf.out]; exact dAt_new _ _ _
  have bW : Below w5.heap.size w5 W6 := by rw [← hW]; exact ba _ _
  rw [hijf.out]; clear hW
  have X6 := Lib.hid (DAt.below X5.out bW)
  have Y6 := Lib.hid (DAt.below Y5.out bW)
  have A6 := Lib.hid (DAt.below A5.out bW)
  have E6 := Lib.hid (DAt.below E5.out bW)
  have B6 := Lib.hid (bt B5.out bW)
  clear bW hijf
  clear X5 Y5 A5 E5  B5
  obtain ⟨w6, hw2⟩ : ∃ x, x = W6 := ⟨_, rfl⟩; subst hw2
  have x0 := X6.out.c0
  have x1 := X6.out.c1
  have y0 := Y6.out.c0
  have y1 := Y6.out.c1
  go_wp2_with fail
  refine (dMul_any c' (n' : Int) c (n : Int) _ _ HF.out.2.1 HF.out.1 h4.out).mono ?_
  rintro e w7 ⟨rfl, b2⟩
  have X7 := Lib.hid (DAt.below X6.out b2)
  have Y7 := Lib.hid (DAt.below Y6.out b2)
  have A7 := Lib.hid (DAt.below A6.out b2)
  have E7 := Lib.hid (DAt.below E6.out b2)
  have F7 := Lib.hid (DAt.below F6.out b2)
  have B7 := Lib.hid (bt B6.out b2)
  clear x0 x1 y0 y1
  clear b2
  clear X6 Y6 A6 E6 F6  B6
  go_upto_region 5 with fail
  generalize hW : World.alloc w7 _ = W8
  obtain ⟨ig, hiig⟩ : ∃ x, Hid (w7.heap.size = x) := ⟨_, rfl⟩
  have G8 : Hid (DAt W8 ig dc (ds : Int)) := by rw [← hW, ← hiig.out]; exact dAt_new _ _ _
  have bW : Below w7.heap.size w7 W8 := by rw [← hW]; exact ba _ _
  rw [hiig.out]; clear hW
  have X8 := Lib.hid (DAt.below X7.out bW)
  have Y8 := Lib.hid (DAt.below Y7.out bW)
  have A8 := Lib.hid (DAt.below A7.out bW)
  have E8 := Lib.hid (DAt.below E7.out bW)
  have F8 := Lib.hid (DAt.below F7.out bW)
  have B8 := Lib.hid (bt B7.out bW)
  clear bW hiig
  clear X7 Y7 A7 E7 F7  B7
  obtain ⟨w8, hw2⟩ : ∃ x, x = W8 := ⟨_, rfl⟩; subst hw2
  go_cut [82] (fun s82 wx => s82 = .bool false ∧ Below w8.heap.size w8 wx)
  case first =>
    rcases HA.out with ⟨rfl, ia_⟩ | ⟨rfl, rfl, rfl, _⟩
    all_goals rcases HD.out with ⟨rfl, id_⟩ | ⟨rfl, rfl, rfl, _⟩
    ·
      have HMa := Lib.hid (isD_may ia_); have HIaf := Lib.hid ia_.fit; clear ia_
      have HMd := Lib.hid (isD_may id_); have HIdf := Lib.hid id_.fit; clear id_
      have a0 := A8.out.c0
      have a1 := A8.out.c1
      have e0 := E8.out.c0
      have e1 := E8.out.c1
      have f0 := F8.out.c0
      have f1 := F8.out.c1
      have g0 := G8.out.c0
      have g1 := G8.out.c1
      go_wp2_with fail
      refine (dMay_c' ac (as_ : Int) _ HIaf.out HMa.out).mono ?_
      rintro e w81 ⟨rfl, b2⟩
      have F81 := Lib.hid (DAt.below F8.out b2); have G81 := Lib.hid (DAt.below G8.out b2); have T81 := Lib.hid b2; clear b2
      clear a0 a1 e0 e1 f0 f1 g0 g1
      have f0 := F81.out.c0; have f1 := F81.out.c1; have g0 := G81.out.c0; have g1 := G81.out.c1
      go_wp2_with fail
      refine (dMay_c' dc (ds : Int) _ HIdf.out HMd.out).mono ?_
      rintro e w82 ⟨rfl, b2⟩
      have T82 := Lib.hid (bt T81.out b2); clear b2
      go_wp2_with fail
      go_meet
      case rel => exact ⟨rfl, T82.out⟩
    ·
      have HMa := Lib.hid (isD_may ia_); have HIaf := Lib.hid ia_.fit; clear ia_
      have a0 := A8.out.c0
      have a1 := A8.out.c1
      have e0 := E8.out.c0
      have e1 := E8.out.c1
      have f0 := F8.out.c0
      have f1 := F8.out.c1
      have g0 := G8.out.c0
      have g1 := G8.out.c1
      go_wp2_with fail
      refine (dMay_c' ac (as_ : Int) _ HIaf.out HMa.out).mono ?_
      rintro e w81 ⟨rfl, b2⟩
      have F81 := Lib.hid (DAt.below F8.out b2); have G81 := Lib.hid (DAt.below G8.out b2); have T81 := Lib.hid b2; clear b2
      clear a0 a1 e0 e1 f0 f1 g0 g1
      have f0 := F81.out.c0; have f1 := F81.out.c1; have g0 := G81.out.c0; have g1 := G81.out.c1
      go_wp2_with fail
      go_meet
      case rel => exact ⟨rfl, T81.out⟩
    ·
      have HMd := Lib.hid (isD_may id_); have HIdf := Lib.hid id_.fit; clear id_
      have a0 := A8.out.c0
      have a1 := A8.out.c1
      have e0 := E8.out.c0
      have e1 := E8.out.c1
      have f0 := F8.out.c0
      have f1 := F8.out.c1
      have g0 := G8.out.c0
      have g1 := G8.out.c1
      go_wp2_with fail
      refine (dMay_c' dc (ds : Int) _ HIdf.out HMd.out).mono ?_
      rintro e w82 ⟨rfl, b2⟩
      have T82 := Lib.hid (b2); clear b2
      go_wp2_with fail
      go_meet
      case rel => exact ⟨rfl, T82.out⟩
    ·
      have a0 := A8.out.c0
      have a1 := A8.out.c1
      have e0 := E8.out.c0
      have e1 := E8.out.c1
      have f0 := F8.out.c0
      have f1 := F8.out.c1
      have g0 := G8.out.c0
      have g1 := G8.out.c1
      go_wp2_with fail
      go_meet
      case rel => exact ⟨rfl, Below.refl _ _⟩
  case rest =>
    obtain ⟨rfl, b2⟩ := hcut
    obtain ⟨w9, hwc⟩ : ∃ x, x = wc := ⟨_, rfl⟩; subst hwc
    have X9 := Lib.hid (DAt.below X8.out b2)
    have Y9 := Lib.hid (DAt.below Y8.out b2)
    have A9 := Lib.hid (DAt.below A8.out b2)
    have E9 := Lib.hid (DAt.below E8.out b2)
    have F9 := Lib.hid (DAt.below F8.out b2)
    have G9 := Lib.hid (DAt.below G8.out b2)
    have B9 := Lib.hid (bt B8.out b2)
    clear b2
    clear X8 Y8 A8 E8 F8 G8  B8
    have x0 := X9.out.c0
    have x1 := X9.out.c1
    go_wp2_with fail
    refine (dPut_any c (n : Int) _ _ HF.out.1 hp.out).mono ?_
    rintro e w10 ⟨rfl, b2⟩
    have X10 := Lib.hid (DAt.below X9.out b2)
    have Y10 := Lib.hid (DAt.below Y9.out b2)
    have A10 := Lib.hid (DAt.below A9.out b2)
    have E10 := Lib.hid (DAt.below E9.out b2)
    have F10 := Lib.hid (DAt.below F9.out b2)
    have G10 := Lib.hid (DAt.below G9.out b2)
    have B10 := Lib.hid (bt B9.out b2)
    clear x0 x1
    clear b2
    clear X9 Y9 A9 E9 F9 G9  B9
    go_upto_region 8 with fail
    generalize hW : World.alloc w10 _ = W11
    obtain ⟨ip, hiip⟩ : ∃ x, Hid (w10.heap.size = x) := ⟨_, rfl⟩
    have P11 : Hid (DAt W11 ip pc (ps : Int)) := by rw [← hW, ← hiip.out]; exact dAt_new _ _ _
    have bW : Below w10.heap.size w10 W11 := by rw [← hW]; exact ba _ _
    rw [hiip.out]; clear hW
    have X11 := Lib.hid (DAt.below X10.out bW)
    have Y11 := Lib.hid (DAt.below Y10.out bW)
    have A11 := Lib.hid (DAt.below A10.out bW)
    have E11 := Lib.hid (DAt.below E10.out bW)
    have F11 := Lib.hid (DAt.below F10.out bW)
    have G11 := Lib.hid (DAt.below G10.out bW)
    have B11 := Lib.hid (bt B10.out bW)
    clear bW hiip
    clear X10 Y10 A10 E10 F10 G10  B10
    obtain ⟨w11, hw2⟩ : ∃ x, x = W11 := ⟨_, rfl⟩; subst hw2
    go_cut [93] (fun s93 wx => s93 = .bool (decide (ae = 0)) ∧ wx = w11)
    case first =>
      rcases HA.out with ⟨rfl, _⟩ | ⟨rfl, rfl, rfl, _⟩
      all_goals
        go_wp2_with fail
        go_meet
        case rel => exact ⟨rfl, rfl⟩
    case rest =>
      obtain ⟨rfl, hwc⟩ := hcut; replace hwc := hwc.symm; subst hwc
      go_upto_if 93 with fail
      go_cut [] (fun wx => Below w11.heap.size w11 wx)
      case first =>
        rcases HA.out with ⟨rfl, ia_⟩ | ⟨rfl, rfl, rfl, _⟩
        ·
          have HS := Lib.hid ((back_sub ia_ HF.out.2.2.1 HF.out.2.2.2).trans hP.out); have HIaf := Lib.hid ia_.fit; clear ia_
          have a0 := A11.out.c0
          have a1 := A11.out.c1
          have y0 := Y11.out.c0
          have y1 := Y11.out.c1
          go_wp2_with fail
          refine (dSub_any ac (as_ : Int) c' (n' : Int) _ _ HIaf.out HF.out.2.1 HS.out).mono ?_
          rintro e w12 ⟨rfl, b2⟩
          have T12 := Lib.hid b2; have P12 := Lib.hid (DAt.below P11.out b2); clear b2
          clear a0 a1 y0 y1
          go_upto_region 10 with fail
          generalize hW : World.alloc w12 _ = W13
          have Q13 : Hid (DAt W13 w12.heap.size pc (ps : Int)) := by rw [← hW]; exact dAt_new _ _ _
          have bW : Below w12.heap.size w12 W13 := by rw [← hW]; exact ba _ _
          have P13 := Lib.hid (DAt.below P12.out bW); have T13 := Lib.hid (bt T12.out bW); clear bW hW
          have p0 := P13.out.c0; have p1 := P13.out.c1; have q0 := Q13.out.c0; have q1 := Q13.out.c1
          go_wp2_with fail
          go_meet
          case rel => exact T13.out
        ·
          go_wp2_with fail
          go_meet
          case rel => exact Below.refl _ _
      case rest =>
        have b2 := hcut; clear hcut
        obtain ⟨w14, hwc⟩ : ∃ x, x = wc := ⟨_, rfl⟩; subst hwc
        have X14 := Lib.hid (DAt.below X11.out b2)
        have Y14 := Lib.hid (DAt.below Y11.out b2)
        have A14 := Lib.hid (DAt.below A11.out b2)
        have E14 := Lib.hid (DAt.below E11.out b2)
        have F14 := Lib.hid (DAt.below F11.out b2)
        have G14 := Lib.hid (DAt.below G11.out b2)
        have P14 := Lib.hid (DAt.below P11.out b2)
        have B14 := Lib.hid (bt B11.out b2)
        clear b2
        clear X11 Y11 A11 E11 F11 G11 P11  B11
        have x0 := X14.out.c0
        have x1 := X14.out.c1
        have y0 := Y14.out.c0
        have y1 := Y14.out.c1
        go_wp2_with fail
        refine (dCmp_any c (n : Int) c' (n' : Int) _ _ HF.out.1 HF.out.2.1 h5.out).mono ?_
        rintro e w15 ⟨rfl, b2⟩
        have X15 := Lib.hid (DAt.below X14.out b2)
        have Y15 := Lib.hid (DAt.below Y14.out b2)
        have A15 := Lib.hid (DAt.below A14.out b2)
        have E15 := Lib.hid (DAt.below E14.out b2)
        have F15 := Lib.hid (DAt.below F14.out b2)
        have G15 := Lib.hid (DAt.below G14.out b2)
        have P15 := Lib.hid (DAt.below P14.out b2)
        have B15 := Lib.hid (bt B14.out b2)
        clear x0 x1 y0 y1
        clear b2
        clear X14 Y14 A14 E14 F14 G14 P14  B14
        have x0 := X15.out.c0
        have x1 := X15.out.c1
        have y0 := Y15.out.c0
        have y1 := Y15.out.c1
        go_wp2_with fail
        refine (dSub_any c (n : Int) c' (n' : Int) _ _ HF.out.1 HF.out.2.1 h6.out).mono ?_
        rintro e w16 ⟨rfl, b2⟩
        have X16 := Lib.hid (DAt.below X15.out b2)
        have Y16 := Lib.hid (DAt.below Y15.out b2)
        have A16 := Lib.hid (DAt.below A15.out b2)
        have E16 := Lib.hid (DAt.below E15.out b2)
        have F16 := Lib.hid (DAt.below F15.out b2)
        have G16 := Lib.hid (DAt.below G15.out b2)
        have P16 := Lib.hid (DAt.below P15.out b2)
        have B16 := Lib.hid (bt B15.out b2)
        clear x0 x1 y0 y1
        clear b2
        clear X15 Y15 A15 E15 F15 G15 P15  B15
        go_upto_region 14 with fail
        generalize hW : World.alloc w16 _ = W17
        obtain ⟨is, hiis⟩ : ∃ x, Hid (w16.heap.size = x) := ⟨_, rfl⟩
        have S17 : Hid (DAt W17 is bc (bs : Int)) := by rw [← hW, ← hiis.out]; exact dAt_new _ _ _
        have bW : Below w16.heap.size w16 W17 := by rw [← hW]; exact ba _ _
        rw [hiis.out]; clear hW
        have X17 := Lib.hid (DAt.below X16.out bW)
        have Y17 := Lib.hid (DAt.below Y16.out bW)
        have A17 := Lib.hid (DAt.below A16.out bW)
        have E17 := Lib.hid (DAt.below E16.out bW)
        have F17 := Lib.hid (DAt.below F16.out bW)
        have G17 := Lib.hid (DAt.below G16.out bW)
        have P17 := Lib.hid (DAt.below P16.out bW)
        have B17 := Lib.hid (bt B16.out bW)
        clear bW hiis
        clear X16 Y16 A16 E16 F16 G16 P16  B16
        obtain ⟨w17, hw2⟩ : ∃ x, x = W17 := ⟨_, rfl⟩; subst hw2
        go_cut [140] (fun s140 wx => s140 = .bool false ∧ wx = w17)
        case first =>
          rcases HB.out with ⟨rfl, ib_⟩ | ⟨rfl, rfl, rfl, _⟩
          ·
            have hcs := cmp_sub ib_; rw [hz.out] at hcs; clear ib_
            obtain ⟨u1, e1⟩ : ∃ u, decide (z < 0) = u := ⟨_, rfl⟩; have e2 : decide (bc < 0) = u1 := by rw [← e1]; simp only [hcs.1]
            obtain ⟨u2, e3⟩ : ∃ u, (z == 0) = u := ⟨_, rfl⟩; have e4 : (bc == 0) = u2 := by rw [← e3, Bool.eq_iff_iff]; simp only [beq_iff_eq]; exact hcs.2.symm
            clear hcs
            have s0 := S17.out.c0
            have s1 := S17.out.c1
            cases u1 <;> cases u2
            all_goals
              go_wp2_with fail
              go_meet
              case rel => exact ⟨rfl, rfl⟩
          ·
            go_wp2_with fail
            go_meet
            case rel => exact ⟨rfl, rfl⟩
        case rest =>
          obtain ⟨rfl, hwc⟩ := hcut; replace hwc := hwc.symm; subst hwc
          obtain ⟨q, hq⟩ : ∃ q, Hid (n + n' = q) := ⟨_, rfl⟩
          obtain ⟨vb, hvb⟩ : ∃ vb, Hid (decide (de = 0 ∧ q ≤ 9 ∧ c' ≠ 0) = vb) := ⟨_, rfl⟩
          go_upto_region 16 with fail
          go_cut [155] (fun s155 wx => s155 = .bool vb ∧ wx = w17)
          case first =>
            have hw : IntKind.i64.wrap ((n : Int) + (n' : Int)) = (q : Int) := by have := hq.out; have := HF.out; rw [IntKind.wrap_i64]; omega
            rcases HD.out with ⟨rfl, _⟩ | ⟨rfl, rfl, rfl, _⟩
            ·
              by_cases h9 : q ≤ 9
              ·
                have d9 : decide ((q : Int) ≤ 9) = true := by simp; omega
                by_cases h0 : c' = 0
                ·
                  obtain rfl : vb = false := by rw [← hvb.out]; simp [h0]
                  have d0 : (c' != 0) = false := by simpa using h0
                  clear h0
                  have x0 := X17.out.c0
                  have x1 := X17.out.c1
                  have y0 := Y17.out.c0
                  have y1 := Y17.out.c1
                  go_wp2_with fail
                  go_meet
                  case rel => exact ⟨rfl, rfl⟩
                ·
                  obtain rfl : vb = true := by rw [← hvb.out]; simp [h0, h9]
                  have d0 : (c' != 0) = true := by simpa using h0
                  clear h0
                  have x0 := X17.out.c0
                  have x1 := X17.out.c1
                  have y0 := Y17.out.c0
                  have y1 := Y17.out.c1
                  go_wp2_with fail
                  go_meet
                  case rel => exact ⟨rfl, rfl⟩
              ·
                obtain rfl : vb = false := by rw [← hvb.out]; simp [h9]
                have d9 : decide ((q : Int) ≤ 9) = false := by simp; omega
                have x0 := X17.out.c0
                have x1 := X17.out.c1
                have y0 := Y17.out.c0
                have y1 := Y17.out.c1
                go_wp2_with fail
                go_meet
                case rel => exact ⟨rfl, rfl⟩
            ·
              obtain rfl : vb = false := by rw [← hvb.out]; simp
              go_wp2_with fail
              go_meet
              case rel => exact ⟨rfl, rfl⟩
          case rest =>
            obtain ⟨rfl, hwc⟩ := hcut; replace hwc := hwc.symm; subst hwc
            go_upto_if 155 with fail
            go_cut [] (fun wx => Below w17.heap.size w17 wx)
            case first =>
              cases vb
              ·
                go_wp2_with fail
                go_meet
                case rel => exact Below.refl _ _
              ·
                have hv := of_decide_eq_true hvb.out
                rcases HD.out with ⟨rfl, id_⟩ | ⟨rfl, rfl, rfl, _⟩
                ·
                  have HS := Lib.hid ((back_div id_ HF.out.2.2.1 HF.out.2.2.2 (by have := hq.out; omega) hv.2.2).trans hP.out); have HIdf := Lib.hid id_.fit; clear id_ hv
                  have x0 := X17.out.c0
                  have x1 := X17.out.c1
                  have y0 := Y17.out.c0
                  have y1 := Y17.out.c1
                  have f0 := F17.out.c0
                  have f1 := F17.out.c1
                  go_wp2_with fail
                  refine (dDiv_any dc (ds : Int) c' (n' : Int) _ _ HIdf.out HF.out.2.1 HS.out).mono ?_
                  rintro e w19 ⟨rfl, b2⟩
                  have T19 := Lib.hid b2; have P19 := Lib.hid (DAt.below P17.out b2); clear b2
                  clear x0 x1 y0 y1 f0 f1
                  go_upto_region 18 with fail
                  generalize hW : World.alloc w19 _ = W20
                  have Q20 : Hid (DAt W20 w19.heap.size pc (ps : Int)) := by rw [← hW]; exact dAt_new _ _ _
                  have bW : Below w19.heap.size w19 W20 := by rw [← hW]; exact ba _ _
                  have P20 := Lib.hid (DAt.below P19.out bW); have T20 := Lib.hid (bt T19.out bW); clear bW hW
                  have p0 := P20.out.c0; have p1 := P20.out.c1; have q0 := Q20.out.c0; have q1 := Q20.out.c1
                  go_wp2_with fail
                  go_meet
                  case rel => exact T20.out
                ·
                  exact absurd hv.1 (by omega)
            case rest =>
              have b2 := hcut; clear hcut
              obtain ⟨w21, hwc⟩ : ∃ x, x = wc := ⟨_, rfl⟩; subst hwc
              have X21 := Lib.hid (DAt.below X17.out b2)
              have Y21 := Lib.hid (DAt.below Y17.out b2)
              have A21 := Lib.hid (DAt.below A17.out b2)
              have E21 := Lib.hid (DAt.below E17.out b2)
              have F21 := Lib.hid (DAt.below F17.out b2)
              have G21 := Lib.hid (DAt.below G17.out b2)
              have P21 := Lib.hid (DAt.below P17.out b2)
              have S21 := Lib.hid (DAt.below S17.out b2)
              have B21 := Lib.hid (bt B17.out b2)
              clear b2
              clear X17 Y17 A17 E17 F17 G17 P17 S17  B17
              go_wp2_with fail
              refine (dknown_any _).mono ?_
              rintro e w22 ⟨rfl, b2⟩
              have B22 := bt B21.out b2; clear b2
              go_wp2_with fail
              go_ret
              exact ⟨rfl, B22⟩

theorem decimalLaws_law (c s c' s' : Int) (hc : fits c) (_ : fits s) (hc' : fits c') (_ : fits s') (w : World) :
    Calls Try.prog 8 #[.agg #[.int .i64 c, .int .i64 s], .agg #[.int .i64 c', .int .i64 s']] w fun e w' => e = .returned (.bool true) ∧ Below w.heap.size w w' := by
  cases hb : (isB s && isB s') with
  | false => exact decLaws_bad c s c' s' w hc hc' hb
  | true =>
    rcases both_bools hb with ⟨h, _⟩ | ⟨_, n, n', rfl, rfl, hn, hn'⟩
    · cases h
    · exact decLaws_good c c' n n' w hc hc' hn hn'
end Go.Proofs.Ytlbmmnjecemkeaa
