/-
  decimal's functions, walked: Cmp, Add, Sub; decimal's functions, walked: Mul, Div, Neg, Abs, Round, Of, May; The document's decimals (corrodyref02), walked.
-/
import Derived.Test.YtfonpegkaajnkaaDoorM31
import Derived.Test.YtfonpegkaajnkaaDoorM22
/-
  decimal's functions, walked: Cmp, Add, Sub.
-/
namespace Go.Proofs.YtfonpegkaajnkaaDoor
open Go.RowKit
set_option linter.unusedSimpArgs false
attribute [local go_sem ↓] Go.wp_at_zero Go.wp_at_succ

theorem cmpZ_scale (x y k : Int) (hk : 0 < k) : cmpZ (x * k) (y * k) = cmpZ x y := by
  unfold cmpZ
  have e1 : (x * k = y * k) ↔ x = y := Int.mul_eq_mul_right_iff (by omega)
  have e2 : (x * k < y * k) ↔ x < y := Int.mul_lt_mul_right hk
  simp only [e1, e2]
theorem un_scale (c : Int) (s m : Nat) (h1 : s ≤ m) (h2 : m ≤ 9) : un c s = c * ((10 ^ (m - s) : Nat) : Int) * ((10 ^ (9 - m) : Nat) : Int) := by
  unfold un
  rw [Int.mul_assoc, ← Int.natCast_mul, ← Nat.pow_add, show m - s + (9 - m) = 9 - s by omega]
  simp
theorem both_bools {s s' : Int} {a : Bool} (h : (isB s && isB s') = a) : (a = false ∧ ¬ (isB s = true ∧ isB s' = true)) ∨ (a = true ∧ ∃ n n' : Nat, s = (n : Int) ∧ s' = (n' : Int) ∧ n ≤ 9 ∧ n' ≤ 9) := by
  cases a
  · left; refine ⟨rfl, fun k => ?_⟩; rw [k.1, k.2] at h; simp at h
  · right; simp only [Bool.and_eq_true] at h
    obtain ⟨n, e, hn⟩ := isB_nat h.1; obtain ⟨n', e', hn'⟩ := isB_nat h.2
    exact ⟨rfl, n, n', e, e', hn, hn'⟩
/-- what Cmp answers -/
def cmpV (c s c' s' : Int) : Value := if (isB s && isB s') = true then .tuple #[.int .i64 (cmpZ (un c s.toNat) (un c' s'.toNat)), .int .i64 0] else .tuple #[.int .i64 0, .int .i64 2]
/-- what an answer of a number is -/
def ansV (c s c' s' u : Int) : Value := if (isB s && isB s') = true then decV u 9 else noneV 2
theorem max_raised (c : Int) (s m : Nat) (hc : fits c) (h1 : s ≤ m) (h2 : m ≤ 9) : ∃ (b : Bool) (h l : Nat), Hid (wv (c * ((10 ^ (m - s) : Nat) : Int)) = .agg #[.bool b, .int .u64 (h : Int), .int .u64 (l : Int)]) ∧ Hid (IsW (c * ((10 ^ (m - s) : Nat) : Int)) b h l) :=
  isW_wv _ (raised_lt c (m - s) hc (by omega))
theorem raised_abs (c : Int) (j : Nat) (hc : fits c) (hj : j ≤ 9) : (c * ((10 ^ j : Nat) : Int)).natAbs ≤ 9223372036854775808000000000 := by
  have h1 : -9223372036854775808 ≤ c ∧ c ≤ 9223372036854775807 := hc
  have hp : 10 ^ j ≤ 10 ^ 9 := Nat.pow_le_pow_right (by omega) hj
  rw [Int.natAbs_mul, Int.natAbs_natCast]
  have := Nat.mul_le_mul (show c.natAbs ≤ 9223372036854775808 by omega) hp
  omega

end Go.Proofs.YtfonpegkaajnkaaDoor
/-
  decimal's functions, walked: Mul, Div, Neg, Abs, Round, Of, May.
-/
namespace Go.Proofs.YtfonpegkaajnkaaDoor
set_option linter.unusedSimpArgs false
set_option linter.unusedVariables false
open Go.RowKit
set_option linter.unusedSimpArgs false
attribute [local go_sem ↓] Go.wp_at_zero Go.wp_at_succ

theorem pow_split (a b c : Nat) (h : a + b = c) : (10 ^ c : Nat) = 10 ^ a * 10 ^ b := by rw [← h, Nat.pow_add]
theorem pow_int (a : Nat) : ((10 ^ a : Nat) : Int) = (10 : Int) ^ a := by simp
theorem ten_pos (a : Nat) : 0 < 10 ^ a := Nat.pow_pos (by omega)
/-- a product, as made makes it, is the even one of units -/
theorem mul_dec (c c' : Int) (n n' : Nat) (hn : n ≤ 9) (hn' : n' ≤ 9) :
    (if 9 < n + n' then decV (evenZ (c * c') (10 ^ (n + n' - 9))) 9 else decV (c * c') (n + n')) = decV (evenZ (un c n * un c' n') (10 ^ 9)) 9 := by
  have e : un c n * un c' n' = c * c' * ((10 ^ (18 - (n + n')) : Nat) : Int) := by
    unfold un
    rw [pow_int, show 18 - (n + n') = (9 - n) + (9 - n') by omega, Int.pow_add]
    rw [Int.mul_assoc, Int.mul_assoc]; congr 1
    rw [Int.mul_left_comm]
  rw [e]
  by_cases h : 9 < n + n'
  · rw [if_pos h, pow_split (n + n' - 9) (18 - (n + n')) 9 (by omega), evenZ_scale _ _ _ (ten_pos _)]
  · rw [if_neg h, pow_split (9 - (n + n')) 9 (18 - (n + n')) (by omega), Int.natCast_mul, ← Int.mul_assoc, evenZ_exact _ _ (ten_pos _)]
    have := decV_up (c * c') (n + n') (9 - (n + n'))
    rw [show n + n' + (9 - (n + n')) = 9 by omega] at this
    rw [← this, pow_int]
/-- what Mul answers -/
def mulV (c s c' s' : Int) : Value := ansV c s c' s' (evenZ (un c s.toNat * un c' s'.toNat) (10 ^ 9))
theorem ansV_form (c s c' s' u : Int) : ∃ p q e : Int, ansV c s c' s' u = .tuple #[.agg #[.int .i64 p, .int .i64 q], .int .i64 e] := by
  unfold ansV; split
  · exact decV_form _ _
  · exact ⟨_, _, _, rfl⟩
theorem mul_lt (a b : Int) (ha : fits a) (hb : fits b) : (a * b).natAbs < 340282366920938463463374607431768211456 := wMul_nat a b ha.1 ha.2 hb.1 hb.2

/-- what Neg answers -/
def negV (c s : Int) : Value := ansV 0 0 c s (un 0 0 - un c s.toNat)
/-- what Abs answers -/
def absV (c s : Int) : Value := if c < 0 then negV c s else putV c s
theorem putV_form (c s : Int) : ∃ p q e : Int, putV c s = .tuple #[.agg #[.int .i64 p, .int .i64 q], .int .i64 e] := by
  unfold putV; split
  · exact decV_form _ _
  · exact ⟨_, _, _, rfl⟩
theorem fits0 : fits 0 := by unfold fits; omega

/-- what May answers -/
def mayB (c s : Int) : Bool := isB s && (decide (s = 0) || !decide (c % 10 = 0))
theorem tmod10 (c : Int) : (c.tmod 10 = 0) ↔ (c % 10 = 0) := by
  rw [← Int.dvd_iff_tmod_eq_zero, ← Int.dvd_iff_emod_eq_zero]
set_option maxRecDepth 100000 in
set_option maxHeartbeats 1000000 in
theorem dMay_any (c s : Int) (w : World) (hc : fits c) : Calls Tryd.prog 32 #[.agg #[.int .i64 c, .int .i64 s]] w fun e w' => e = .returned (.bool (mayB c s)) ∧ Below w.heap.size w w' := by
  have hw : IntKind.i64.wrap (c.tmod 10) = c.tmod 10 := by
    have h1 : -9223372036854775808 ≤ c ∧ c ≤ 9223372036854775807 := hc
    have h2 := Int.natAbs_tmod c 10
    have h3 : c.natAbs % (10 : Int).natAbs < 10 := Nat.mod_lt _ (by decide)
    rw [IntKind.wrap_i64]; omega
  cases hs : isB s with
  | false =>
    have hm : mayB c s = false := by unfold mayB; rw [hs]; rfl
    rw [hm]
    go_enter Tryd.func32, Tryd.ntmps32
    go_wp2_with fail
    refine (is1_any _ c s _ (by simp) (by simp) (by simp)).mono ?_
    rintro e w1 ⟨rfl, b1⟩
    rw [hs]
    have B1 := Lib.hid (bt (ba _ _) (bt (ba _ _) b1)); clear b1
    go_wp2_with fail
    go_ret
    exact ⟨rfl, B1.out⟩
  | true =>
    by_cases h0 : s = 0
    · subst h0
      have hm : mayB c 0 = true := by unfold mayB; rw [hs]; rfl
      rw [hm]
      go_enter Tryd.func32, Tryd.ntmps32
      go_wp2_with fail
      refine (is1_any _ c 0 _ (by simp) (by simp) (by simp)).mono ?_
      rintro e w1 ⟨rfl, b1⟩
      rw [hs]
      have X1 := Lib.hid (DAt.below (dAt_new w c 0) (bt (ba _ _) b1))
      have B1 := Lib.hid (bt (ba _ _) (bt (ba _ _) b1)); clear b1
      have x0 := X1.out.c0; have x1 := X1.out.c1
      go_wp2_with fail
      go_ret
      exact ⟨rfl, B1.out⟩
    · have h1 : (s == 0) = false := by simpa using h0
      by_cases k0 : c.tmod 10 = 0
      · have hm : mayB c s = false := by unfold mayB; rw [hs]; have := (tmod10 c).1 k0; simp [h0, this]
        rw [hm]
        clear h0
        go_enter Tryd.func32, Tryd.ntmps32
        go_wp2_with fail
        refine (is1_any _ c s _ (by simp) (by simp) (by simp)).mono ?_
        rintro e w1 ⟨rfl, b1⟩
        rw [hs]
        have X1 := Lib.hid (DAt.below (dAt_new w c s) (bt (ba _ _) b1))
        have B1 := Lib.hid (bt (ba _ _) (bt (ba _ _) b1)); clear b1
        have x0 := X1.out.c0; have x1 := X1.out.c1
        go_wp2_with fail
        go_ret
        exact ⟨rfl, B1.out⟩
      · have k1 : (c.tmod 10 != 0) = true := by simpa using k0
        have hm : mayB c s = true := by unfold mayB; rw [hs]; have : ¬ c % 10 = 0 := fun h => k0 ((tmod10 c).2 h); simp [this]
        rw [hm]
        clear h0 
        go_enter Tryd.func32, Tryd.ntmps32
        go_wp2_with fail
        refine (is1_any _ c s _ (by simp) (by simp) (by simp)).mono ?_
        rintro e w1 ⟨rfl, b1⟩
        rw [hs]
        have X1 := Lib.hid (DAt.below (dAt_new w c s) (bt (ba _ _) b1))
        have B1 := Lib.hid (bt (ba _ _) (bt (ba _ _) b1)); clear b1
        have x0 := X1.out.c0; have x1 := X1.out.c1
        go_wp2_with fail
        go_ret
        exact ⟨rfl, B1.out⟩

/-- what Round answers -/
def roundV (c s t : Int) : Value := if (isB s && isB t) = true then decV (evenZ (un c s.toNat) (10 ^ (9 - t.toNat))) t.toNat else noneV 2
theorem round_lo (c : Int) (n t : Nat) (h : n ≤ t) (ht : t ≤ 9) : decV (evenZ (un c n) (10 ^ (9 - t))) t = decV c n := by
  have e : un c n = c * (10 : Int) ^ (t - n) * ((10 ^ (9 - t) : Nat) : Int) := by
    unfold un; rw [pow_int, Int.mul_assoc, ← Int.pow_add, show t - n + (9 - t) = 9 - n by omega]
  rw [e, evenZ_exact _ _ (ten_pos _)]
  have := decV_up c n (t - n)
  rw [show n + (t - n) = t by omega] at this
  exact this
theorem round_hi (c : Int) (n t : Nat) (h : t ≤ n) (hn : n ≤ 9) : evenZ (un c n) (10 ^ (9 - t)) = evenZ c (10 ^ (n - t)) := by
  unfold un
  rw [← pow_int, pow_split (n - t) (9 - n) (9 - t) (by omega), evenZ_scale _ _ _ (ten_pos _)]
theorem even_w0 {x : Int} {n1 : Bool} {l1 : Nat} (d : Nat) (h0 : 0 < d) (hd : d < 18446744073709551616) (v : Value) (w : World) (X : IsW x n1 0 l1) (hv : wv (evenZ x d) = v) :
    Calls Tryd.prog 99 #[.agg #[.bool n1, .int .u64 0, .int .u64 (l1 : Int)], .int .u64 (d : Int)] w fun e w' => e = .returned (.tuple #[v, .int .i64 0]) ∧ Below w.heap.size w w' := even_w d h0 hd v w X hv
theorem even_fits (c : Int) (d : Nat) (hc : fits c) (hd : 0 < d) : (evenZ c d).natAbs < 340282366920938463463374607431768211456 := by
  have h1 : -9223372036854775808 ≤ c ∧ c ≤ 9223372036854775807 := hc
  have := (evenZ_abs c d hd).1
  omega

/-- what Div answers -/
def dvdV (c s c' s' : Int) : Value := if (isB s && isB s') = true then (if c' = 0 then noneV 12 else decV (evenZ ((if c' < 0 then -(un c s.toNat) else un c s.toNat) * ((10 ^ 9 : Nat) : Int)) (un c' s'.toNat).natAbs) 9) else noneV 2
theorem div_dec (c c' : Int) (n n' : Nat) (hn' : n' ≤ 9) (hc' : c' ≠ 0) (u : Int) (hu : u = (if c' < 0 then -(c * ((10 ^ (9 - n) : Nat) : Int) * ((10 ^ n' : Nat) : Int)) else c * ((10 ^ (9 - n) : Nat) : Int) * ((10 ^ n' : Nat) : Int))) :
    evenZ ((if c' < 0 then -(un c n) else un c n) * ((10 ^ 9 : Nat) : Int)) (un c' n').natAbs = evenZ u c'.natAbs := by
  have e1 : (un c' n').natAbs = c'.natAbs * 10 ^ (9 - n') := by unfold un; rw [← pow_int, Int.natAbs_mul, Int.natAbs_natCast]
  have e2 : (if c' < 0 then -(un c n) else un c n) * ((10 ^ 9 : Nat) : Int) = u * ((10 ^ (9 - n') : Nat) : Int) := by
    rw [hu, pow_split n' (9 - n') 9 (by omega), Int.natCast_mul, ← Int.mul_assoc]
    unfold un
    rw [pow_int (9 - n)]
    split
    · rw [Int.neg_mul, Int.neg_mul]
    · rfl
  rw [e1, e2, evenZ_scale _ _ _ (ten_pos _)]
theorem div_abs (c : Int) (n n' : Nat) (hc : fits c) (hn' : n' ≤ 9) : (c * ((10 ^ (9 - n) : Nat) : Int) * ((10 ^ n' : Nat) : Int)).natAbs < 340282366920938463463374607431768211456 := by
  have h1 := raised_abs c (9 - n) hc (by omega)
  have hp : 10 ^ n' ≤ 10 ^ 9 := Nat.pow_le_pow_right (by omega) hn'
  rw [Int.natAbs_mul, Int.natAbs_natCast]
  have := Nat.mul_le_mul h1 hp
  omega
/-- the box of a number, kept; a variable that is not it, kept -/
def DivMid (W : World) (z : Int) (iX iY iR iA : Nat) (c s c' s' : Int) (w : World) (wx : World) : Prop :=
  ∃ (b : Bool) (h l : Nat), Hid (WAt wx iA b h l) ∧ Hid (IsW z b h l) ∧ Hid (DAt wx iX c s) ∧ Hid (DAt wx iY c' s') ∧ Hid (DAt wx iR 0 0) ∧ Hid (Below w.heap.size w wx)

end Go.Proofs.YtfonpegkaajnkaaDoor
/-
  The document's decimals (corrodyref02), walked.
-/
namespace Go.Proofs.YtfonpegkaajnkaaDoor
open Go.RowKit
set_option linter.unusedSimpArgs false
attribute [local go_sem ↓] Go.wp_at_zero Go.wp_at_succ

theorem dec_num (w : World) (c s : Int) : ∃ W : World, W = ((w.alloc (.cells #[.int .i64 c, .int .i64 s] 24)).alloc (.cells #[.bool false, .slice none 0 0] 87)) ∧
    DAt W w.heap.size c s ∧ BoxAt W (w.heap.size + 1) (.bool false) (.slice none 0 0) ∧ Below w.heap.size w W := by
  have := boxAt_new (w.alloc (.cells #[.int .i64 c, .int .i64 s] 24)) (.bool false) (.slice none 0 0)
  rw [World.size_alloc] at this
  exact ⟨_, rfl, DAt.below (dAt_new w c s) (ba _ _), this, bt (ba _ _) (ba _ _)⟩
theorem num_num (w : World) (v0 v1 u0 u1 : Value) : ∃ W : World, W = ((w.alloc (.cells #[v0, v1] 87)).alloc (.cells #[u0, u1] 87)) ∧
    BoxAt W w.heap.size v0 v1 ∧ BoxAt W (w.heap.size + 1) u0 u1 ∧ Below w.heap.size w W := by
  have := boxAt_new (w.alloc (.cells #[v0, v1] 87)) u0 u1
  rw [World.size_alloc] at this
  exact ⟨_, rfl, boxAt_below (boxAt_new w v0 v1) (ba _ _), this, bt (ba _ _) (ba _ _)⟩
theorem num_dec (w : World) (v0 v1 : Value) (c s : Int) : ∃ W : World, W = ((w.alloc (.cells #[v0, v1] 87)).alloc (.cells #[.int .i64 c, .int .i64 s] 24)) ∧
    BoxAt W w.heap.size v0 v1 ∧ DAt W (w.heap.size + 1) c s ∧ Below w.heap.size w W := by
  have := dAt_new (w.alloc (.cells #[v0, v1] 87)) c s
  rw [World.size_alloc] at this
  exact ⟨_, rfl, boxAt_below (boxAt_new w v0 v1) (ba _ _), this, bt (ba _ _) (ba _ _)⟩
theorem of_f (c : Int) (w : World) (hc : fits c) : Calls Tryd.prog 67 #[.int .i64 c] w (NumPost 8 c w) := of_any c w hc.1 hc.2
theorem ten_f (j : Nat) (w : World) (hj : j ≤ 27) : Calls Tryd.prog 106 #[.int .i64 (j : Int)] w (NumPost 28 ((10 ^ j : Nat) : Int) w) := by
  refine (ten_any (j : Int) w (by omega)).mono ?_
  rintro e w' ⟨v, hv, he, hb⟩
  refine ⟨v, num_mono (num_cast hv ?_) (by show j + 1 ≤ 28; omega), he, hb⟩
  rw [show ((j : Nat) : Int).toNat = j from rfl, pow_int]
theorem units_val (c : Int) (n : Nat) (hn : n ≤ 9) : c * ((10 ^ (18 - n) : Nat) : Int) = un c n * ((10 ^ 9 : Nat) : Int) := by
  unfold un
  rw [pow_split (9 - n) 9 (18 - n) (by omega), Int.natCast_mul, ← Int.mul_assoc, pow_int (9 - n)]

set_option maxRecDepth 100000 in
set_option maxHeartbeats 1000000 in
theorem units_any (c : Int) (n : Nat) (w : World) (hc : fits c) (hn : n ≤ 9) :
    Calls Tryd.prog 73 #[.agg #[.int .i64 c, .int .i64 (n : Int)]] w (NumPost 36 (un c n * ((10 ^ 9 : Nat) : Int)) w) := by
  obtain ⟨j, hj⟩ : ∃ j, Hid (18 - n = j) := ⟨_, rfl⟩
  have hw : IntKind.i64.wrap (18 - (n : Int)) = (j : Int) := by have := hj.out; rw [IntKind.wrap_i64]; omega
  have HJ : Hid (j ≤ 27) := by have := hj.out; show _ ≤ _; omega
  have HV : Hid (c * ((10 ^ j : Nat) : Int) = un c n * ((10 ^ 9 : Nat) : Int)) := by rw [← hj.out]; exact units_val c n hn
  have HC := Lib.hid hc
  clear hc hn
  go_enter Tryd.func73, Tryd.ntmps73
  go_upto_region 1 with fail
  obtain ⟨W0, hW, hX, hR, hBB⟩ := dec_num w c (n : Int)
  rw [← hW]
  have X0 := Lib.hid hX; have R0 := Lib.hid hR; have B0 := Lib.hid hBB; clear hX hR hBB hW
  have HS0 : (fun w' : World => w'.cell? ⟨w.heap.size, 0, none⟩ = some (.int .i64 c) ∧ w'.cell? ⟨w.heap.size, 1, none⟩ = some (.int .i64 (n : Int))) W0.drew := ⟨(DAt.below X0.out ((Below.refl _ _).drew)).c0, (DAt.below X0.out ((Below.refl _ _).drew)).c1⟩
  go_region_held3 (fun w' => w'.cell? ⟨w.heap.size, 0, none⟩ = some (.int .i64 c) ∧ w'.cell? ⟨w.heap.size, 1, none⟩ = some (.int .i64 (n : Int)))
    (first | with_reducible exact HS0 | with_reducible assumption | with_reducible exact ⟨((dAt_other _ _ (dAt_other _ _ (DAt.below X0.out T22.out) (by omega)) (by omega))).c0, ((dAt_other _ _ (dAt_other _ _ (DAt.below X0.out T22.out) (by omega)) (by omega))).c1⟩)
    (first
      | (go_at_call 67; (with_reducible refine (of_f c _ HC.out).mono ?_); rintro e w20 ⟨v20, hz, rfl, b20⟩; have T20 : Hid (Below W0.heap.size W0 w20) := bt ((Below.refl _ _).drew) b20; have HS20 : w20.cell? ⟨w.heap.size, 0, none⟩ = some (.int .i64 c) ∧ w20.cell? ⟨w.heap.size, 1, none⟩ = some (.int .i64 (n : Int)) := ⟨(DAt.below X0.out T20.out).c0, (DAt.below X0.out T20.out).c1⟩; have N20 := Lib.hid hz; clear hz; clear b20)
      | (go_at_call 106; (with_reducible refine (ten_f j _ HJ.out).mono ?_); rintro e w21 ⟨v21, hz, rfl, b21⟩; have T21 : Hid (Below W0.heap.size W0 w21) := bt T20.out b21; have HS21 : w21.cell? ⟨w.heap.size, 0, none⟩ = some (.int .i64 c) ∧ w21.cell? ⟨w.heap.size, 1, none⟩ = some (.int .i64 (n : Int)) := ⟨(DAt.below X0.out T21.out).c0, (DAt.below X0.out T21.out).c1⟩; have N21 := Lib.hid hz; clear hz; have b21h := Lib.hid b21; clear b21)
      | (go_at_call 62; (with_reducible refine (mul_any 8 28 _ _ c ((10 ^ j : Nat) : Int) _ (num_below N20.out b21h.out) N21.out (by omega) (by omega)).mono ?_); rintro e w22 ⟨v22, hz, rfl, b22⟩; have T22 : Hid (Below W0.heap.size W0 w22) := bt T21.out b22; have HS22 : w22.cell? ⟨w.heap.size, 0, none⟩ = some (.int .i64 c) ∧ w22.cell? ⟨w.heap.size, 1, none⟩ = some (.int .i64 (n : Int)) := ⟨(DAt.below X0.out T22.out).c0, (DAt.below X0.out T22.out).c1⟩; obtain ⟨q22, a22, m22, c22, rfl⟩ := num_agg hz; have N22 := Lib.hid hz; clear hz; have B9 := Lib.hid (bt B0.out T22.out); have R9 := Lib.hid (boxAt_below R0.out T22.out); have r0 := R9.out.c0; have rf0 := R9.out.f0; have r1 := R9.out.c1; have rf1 := R9.out.f1; clear b22))
  all_goals
    go_wp2_with fail
    refine bodyPost_ret (v := .agg #[.bool q22, .slice a22 m22 c22]) (by simp [results, Tryd.results73, go_sem, r0, r1]) rfl ⟨_, num_set2 _ _ (num_cast N22.out HV.out) R9.out, rfl, (B9.out.setCell (by simp) _).setCell (by simp) _⟩

theorem even_f (k : Nat) (va vb : Value) (x : Int) (Y : Nat) (w : World) (ha : Num k w va x) (hb : Num 28 w vb (Y : Int)) (hY : 0 < Y) (l1 : k ≤ 8000) :
    Calls Tryd.prog 105 #[va, vb] w (NumPost (k + 9) (evenZ x Y) w) := even_any k 28 va vb x Y w ha hb hY l1 (by omega)
set_option maxRecDepth 100000 in
set_option maxHeartbeats 1000000 in
theorem near_any (k : Nat) (v : Value) (u : Int) (t : Nat) (w : World) (hv : Num k w v u) (hk : k ≤ 8000) (ht : t ≤ 9) :
    Calls Tryd.prog 72 #[v, .int .i64 (t : Int)] w (NumPost (k + 9) (evenZ u (10 ^ (18 - t))) w) := by
  obtain ⟨j, hj⟩ : ∃ j, Hid (18 - t = j) := ⟨_, rfl⟩
  have hw : IntKind.i64.wrap (18 - (t : Int)) = (j : Int) := by have := hj.out; rw [IntKind.wrap_i64]; omega
  have HJ : Hid (j ≤ 27) := by have := hj.out; show _ ≤ _; omega
  rw [hj.out]
  obtain ⟨bv, av, mv, cv, rfl⟩ := num_agg hv
  have HN := Lib.hid hv
  clear hv ht
  go_enter Tryd.func72, Tryd.ntmps72
  go_upto_region 1 with fail
  obtain ⟨W0, hW, hX, hR, hBB⟩ := num_num w (.bool bv) (.slice av mv cv) (.bool false) (.slice none 0 0)
  rw [← hW]
  have X0 := Lib.hid hX; have R0 := Lib.hid hR; have B0 := Lib.hid hBB; have NX0 := Lib.hid (num_below HN.out hBB); clear hX hR hBB hW
  have HS0 : (fun w' : World => w'.cell? ⟨w.heap.size, 0, none⟩ = some (.bool bv) ∧ w'.cell? ⟨w.heap.size, 1, none⟩ = some (.slice av mv cv)) W0.drew := ⟨(boxAt_below X0.out ((Below.refl _ _).drew)).c0, (boxAt_below X0.out ((Below.refl _ _).drew)).c1⟩
  go_region_held3 (fun w' => w'.cell? ⟨w.heap.size, 0, none⟩ = some (.bool bv) ∧ w'.cell? ⟨w.heap.size, 1, none⟩ = some (.slice av mv cv))
    (first | with_reducible exact HS0 | with_reducible assumption | with_reducible exact ⟨((boxAt_set_other _ _ (boxAt_set_other _ _ (boxAt_below X0.out T21.out) (by omega)) (by omega))).c0, ((boxAt_set_other _ _ (boxAt_set_other _ _ (boxAt_below X0.out T21.out) (by omega)) (by omega))).c1⟩)
    (first
      | (go_at_call 106; (with_reducible refine (ten_f j _ HJ.out).mono ?_); rintro e w20 ⟨v20, hz, rfl, b20⟩; have T20 : Hid (Below W0.heap.size W0 w20) := bt ((Below.refl _ _).drew) b20; have HS20 : w20.cell? ⟨w.heap.size, 0, none⟩ = some (.bool bv) ∧ w20.cell? ⟨w.heap.size, 1, none⟩ = some (.slice av mv cv) := ⟨(boxAt_below X0.out T20.out).c0, (boxAt_below X0.out T20.out).c1⟩; have N20 := Lib.hid hz; clear hz; clear b20)
      | (go_at_call 105; (with_reducible refine (even_f k _ _ u (10 ^ j) _ (num_below NX0.out T20.out) N20.out (ten_pos j) (by omega)).mono ?_); rintro e w21 ⟨v21, hz, rfl, b21⟩; have T21 : Hid (Below W0.heap.size W0 w21) := bt T20.out b21; have HS21 : w21.cell? ⟨w.heap.size, 0, none⟩ = some (.bool bv) ∧ w21.cell? ⟨w.heap.size, 1, none⟩ = some (.slice av mv cv) := ⟨(boxAt_below X0.out T21.out).c0, (boxAt_below X0.out T21.out).c1⟩; obtain ⟨q21, a21, m21, c21, rfl⟩ := num_agg hz; have N21 := Lib.hid hz; clear hz; have B9 := Lib.hid (bt B0.out T21.out); have R9 := Lib.hid (boxAt_below R0.out T21.out); have r0 := R9.out.c0; have rf0 := R9.out.f0; have r1 := R9.out.c1; have rf1 := R9.out.f1; clear b21))
  all_goals
    go_wp2_with fail
    refine bodyPost_ret (v := .agg #[.bool q21, .slice a21 m21 c21]) (by simp [results, Tryd.results72, go_sem, r0, r1]) rfl ⟨_, num_set2 _ _ N21.out R9.out, rfl, (B9.out.setCell (by simp) _).setCell (by simp) _⟩
end Go.Proofs.YtfonpegkaajnkaaDoor
