/-
  THE WALKS of wide's put, size, Of, Neg, Ten; THE WALKS of wide's size, Of, Neg, Mul, Small, Ten, parts, Div.
-/
import Derived.Test.YtfonpegkaajnkaaDoorM23
/-
  THE WALKS of wide's put, size, Of, Neg, Ten.
-/
namespace Go.Proofs.YtfonpegkaajnkaaDoor
set_option linter.unusedSimpArgs false
set_option linter.unusedVariables false
open Go.RowKit
attribute [local go_sem ↓] Go.wp_at_zero Go.wp_at_succ

/-- a number of a sign and two words -/
def wr (n : Bool) (hi lo : Nat) : Value := .agg #[.bool n, .int .u64 (hi : Int), .int .u64 (lo : Int)]
/-- the integer's number, the canonical one -/
def wv (z : Int) : Value := wr (decide (z < 0)) (z.natAbs / 18446744073709551616) (z.natAbs % 18446744073709551616)
theorem wz_abs (n : Bool) (hi lo : Nat) : (wz n hi lo).natAbs = hi * 18446744073709551616 + lo := by
  unfold wz; cases n <;> simp <;> omega
theorem wz_neg (n : Bool) (hi lo : Nat) : decide (wz n hi lo < 0) = (n && decide (0 < hi ∨ 0 < lo)) := by
  unfold wz
  cases n
  · rw [if_neg (by decide), Bool.false_and, decide_eq_false_iff_not]; omega
  · rw [if_pos rfl, Bool.true_and, decide_eq_decide]; omega
theorem wv_wz (n : Bool) (hi lo : Nat) (hl : lo < 18446744073709551616) : wv (wz n hi lo) = wr (n && decide (0 < hi ∨ 0 < lo)) hi lo := by
  unfold wv
  rw [wz_abs, wz_neg, show (hi * 18446744073709551616 + lo) / 18446744073709551616 = hi by omega, show (hi * 18446744073709551616 + lo) % 18446744073709551616 = lo by omega]
theorem or_ne (hi lo : Nat) (h1 : hi < 18446744073709551616) (h2 : lo < 18446744073709551616) : (bits .or .u64 (hi : Int) (lo : Int) = 0) ↔ ¬ (0 < hi ∨ 0 < lo) := by
  rw [bits_or_u64_nat hi lo h1 h2]
  have a : hi ||| lo = 0 ↔ hi = 0 ∧ lo = 0 := Nat.or_eq_zero_iff
  omega

set_option maxRecDepth 100000 in
theorem put_any (n : Bool) (hi lo : Nat) (w : World) (h1 : hi < 18446744073709551616) (h2 : lo < 18446744073709551616) :
    Calls Tryd.prog 103 #[.bool n, .int .u64 (hi : Int), .int .u64 (lo : Int)] w fun e w' => e = .returned (wv (wz n hi lo)) ∧ Below w.heap.size w w' := by
  rw [wv_wz n hi lo h2]
  have hor := or_ne hi lo h1 h2
  have r0 := (wAt_new w false 0 0).c0; have r1 := (wAt_new w false 0 0).c1; have r2 := (wAt_new w false 0 0).c2
  have f0 := (wAt_new w false 0 0).f0; have f1 := (wAt_new w false 0 0).f1; have f2 := (wAt_new w false 0 0).f2
  clear h1 h2
  cases n
  · go_enter Tryd.func103, Tryd.ntmps103
    go_wp2_with fail
    refine bodyPost_ret (v := wr false hi lo) (by simp [results, Tryd.results103, go_sem, r0, r1, r2, wr]) rfl ⟨rfl, ba _ _⟩
  · by_cases hz : 0 < hi ∨ 0 < lo
    · have hb : ¬ (bits .or .u64 (hi : Int) (lo : Int) = 0) := fun h => hor.1 h hz
      go_enter Tryd.func103, Tryd.ntmps103
      go_wp2_with fail
      refine bodyPost_ret (v := wr true hi lo) (by simp [results, Tryd.results103, go_sem, r0, r1, r2, wr, hb]) rfl ⟨by simp [hz], ba _ _⟩
    · have hb : bits .or .u64 (hi : Int) (lo : Int) = 0 := hor.2 hz
      go_enter Tryd.func103, Tryd.ntmps103
      go_wp2_with fail
      refine bodyPost_ret (v := wr false hi lo) (by simp [results, Tryd.results103, go_sem, r0, r1, r2, wr, hb]) rfl ⟨by simp [hz], ba _ _⟩
end Go.Proofs.YtfonpegkaajnkaaDoor
/-
  THE WALKS of wide's size, Of, Neg, Mul, Small, Ten, parts, Div.
-/
namespace Go.Proofs.YtfonpegkaajnkaaDoor
open Go.RowKit
attribute [local go_sem ↓] Go.wp_at_zero Go.wp_at_succ

theorem wv_agg (z : Int) : ∃ (nb : Bool) (nh nl : Nat), Hid (wv z = .agg #[.bool nb, .int .u64 (nh : Int), .int .u64 (nl : Int)]) := ⟨_, _, _, rfl⟩
def WvPost (z : Int) (w : World) (e : Ending) (w' : World) : Prop := e = .returned (wv z) ∧ Below w.heap.size w w'

set_option maxRecDepth 100000 in
theorem size_any (n : Int) (w : World) (h0 : -9223372036854775808 ≤ n) (h1 : n ≤ 9223372036854775807) :
    Calls Tryd.prog 104 #[.int .i64 n] w fun e w' => e = .returned (.int .u64 (n.natAbs : Int)) ∧ w' = w := by
  by_cases hn : n < 0
  · have e1 : IntKind.u64.wrap n = n + 18446744073709551616 := by rw [IntKind.wrap_u64]; omega
    have e2 : IntKind.u64.wrap (-(n + 18446744073709551616)) = (n.natAbs : Int) := by rw [IntKind.wrap_u64]; omega
    go_enter Tryd.func104, Tryd.ntmps104
    go_wp2_with fail
    go_ret
    exact ⟨by first | rfl | (simp only [e1, e2]), rfl⟩
  · have e1 : IntKind.u64.wrap n = (n.natAbs : Int) := by rw [IntKind.wrap_u64]; omega
    go_enter Tryd.func104, Tryd.ntmps104
    go_wp2_with fail
    go_ret
    exact ⟨by first | rfl | (simp only [e1]), rfl⟩

theorem wz_of (n : Int) : wz (decide (n < 0)) (0 : Nat) (n.natAbs : Nat) = n := by
  unfold wz
  by_cases h : n < 0
  · rw [if_pos (by simpa using h)]; omega
  · rw [if_neg (by simpa using h)]; omega

set_option maxRecDepth 100000 in
theorem wOf_any (n : Int) (w : World) (h0 : -9223372036854775808 ≤ n) (h1 : n ≤ 9223372036854775807) :
    Calls Tryd.prog 70 #[.int .i64 n] w (WvPost n w) := by
  obtain ⟨b, hb⟩ : ∃ b : Bool, Hid (decide (n < 0) = b) := ⟨_, rfl⟩
  have hb' := hb.out
  go_enter Tryd.func70, Tryd.ntmps70
  go_wp2_with fail
  refine (size_any n _ h0 h1).mono ?_
  rintro e w1 ⟨rfl, rfl⟩
  go_wp2_with fail
  refine (put_any b 0 n.natAbs _ (by omega) (by omega)).mono ?_
  rintro e w2 ⟨rfl, b2⟩
  rw [show wz b (0 : Nat) (n.natAbs : Nat) = n from by rw [← hb.out]; exact wz_of n]
  obtain ⟨nb, nh, nl, hv⟩ := wv_agg n
  rw [hv.out]
  have Y := Lib.hid (WAt.below (wAt_new w false 0 0) b2)
  have r0 := Y.out.c0; have r1 := Y.out.c1; have r2 := Y.out.c2; have f0 := Y.out.f0; have f1 := Y.out.f1; have f2 := Y.out.f2
  have B := Lib.hid (bt (ba _ _) b2)
  clear hb hb' h0 h1 b2
  go_wp2_with fail
  refine bodyPost_ret (v := .agg #[.bool nb, .int .u64 (nh : Int), .int .u64 (nl : Int)]) (by simp [results, Tryd.results70, go_sem, r0, r1, r2]) rfl ⟨by rw [hv.out], ((B.out.setCell (Nat.le_refl _) _).setCell (Nat.le_refl _) _).setCell (Nat.le_refl _) _⟩

theorem wz_mul (a b : Int) : wz (decide (a < 0) != decide (b < 0)) (a.natAbs * b.natAbs / 18446744073709551616 : Nat) (a.natAbs * b.natAbs % 18446744073709551616 : Nat) = a * b := by
  have e : ((a.natAbs * b.natAbs / 18446744073709551616 : Nat) : Int) * 18446744073709551616 + ((a.natAbs * b.natAbs % 18446744073709551616 : Nat) : Int) = (a.natAbs : Int) * (b.natAbs : Int) := by
    rw [← Int.natCast_mul]; omega
  unfold wz
  rw [e]
  by_cases ha : a < 0 <;> by_cases hb : b < 0 <;> simp only [ha, hb, decide_true, decide_false] <;> simp
  · rw [show (a.natAbs : Int) = -a by omega, show (b.natAbs : Int) = -b by omega, Int.neg_mul_neg]
  · rw [show (a.natAbs : Int) = -a by omega, show (b.natAbs : Int) = b by omega, Int.neg_mul, Int.neg_neg]
  · rw [show (a.natAbs : Int) = a by omega, show (b.natAbs : Int) = -b by omega, Int.mul_neg, Int.neg_neg]
  · rw [show (a.natAbs : Int) = a by omega, show (b.natAbs : Int) = b by omega]

/-- the value's number, as an int64 -/
def smV (n : Bool) (hi lo : Nat) : Value := smallV (wz n hi lo)
set_option maxRecDepth 100000 in
theorem wSmall_any (n : Bool) (hi lo : Nat) (w : World) (h1 : hi < 18446744073709551616) (h2 : lo < 18446744073709551616) :
    Calls Tryd.prog 102 #[.agg #[.bool n, .int .u64 (hi : Int), .int .u64 (lo : Int)]] w fun e w' => e = .returned (smallV (wz n hi lo)) ∧ Below w.heap.size w w' := by
  by_cases g : -9223372036854775808 ≤ wz n hi lo ∧ wz n hi lo ≤ 9223372036854775807
  · have HS : Hid (smallV (wz n hi lo) = .tuple #[.int .i64 (wz n hi lo), .bool true]) := by show _ = _; unfold smallV; rw [if_pos g]
    unfold wz at g
    have hh : hi = 0 := by cases n <;> simp at g <;> omega
    subst hh
    have t1 : decide ((0 : Int) < ((0 : Nat) : Int)) = false := by simp
    have t2 : decide ((9223372036854775808 : Int) < (lo : Int)) = false := by rw [decide_eq_false_iff_not]; cases n <;> simp at g <;> omega
    rw [HS.out]
    cases n
    · have t3 : ((lo : Int) == 9223372036854775808) = false := by simp at g ⊢; omega
      have t3' : decide ((lo : Int) = 9223372036854775808) = false := by simp at g ⊢; omega
      have t4 : ¬ (9223372036854775808 < lo) := by simp at g; omega
      have t5 : ¬ (lo = 9223372036854775808) := by simp at g; omega
      have t6 : IntKind.i64.wrap (lo : Int) = (lo : Int) := by simp at g; rw [IntKind.wrap_i64]; omega
      have ez : Hid (wz false (0 : Nat) lo = (lo : Int)) := by show _ = _; unfold wz; simp
      rw [ez.out]
      clear g h1 h2
      go_enter Tryd.func102, Tryd.ntmps102
      go_wp2_with fail
      go_ret2
      exact ⟨rfl, ba _ _⟩
    · have ez : Hid (wz true (0 : Nat) lo = -(lo : Int)) := by show _ = _; unfold wz; simp
      rw [ez.out]
      have t4 : ¬ (9223372036854775808 < lo) := by simp at g; omega
      by_cases e : lo = 9223372036854775808
      · subst e
        clear g h1 h2
        go_enter Tryd.func102, Tryd.ntmps102
        go_wp2_with fail
        go_ret2
        have t : wrap64 (-wrap64 9223372036854775808) = -((9223372036854775808 : Nat) : Int) := by unfold wrap64; omega
        exact ⟨by rw [← t]; rfl, ba _ _⟩
      · have t3 : ((lo : Int) == 9223372036854775808) = false := by simp; omega
        have t3' : decide ((lo : Int) = 9223372036854775808) = false := by simp; omega
        have t6 : IntKind.i64.wrap (lo : Int) = (lo : Int) := by simp at g; rw [IntKind.wrap_i64]; omega
        have t7 : IntKind.i64.wrap (-(lo : Int)) = -(lo : Int) := by simp at g; rw [IntKind.wrap_i64]; omega
        clear g h1 h2
        go_enter Tryd.func102, Tryd.ntmps102
        go_wp2_with fail
        go_ret2
        exact ⟨rfl, ba _ _⟩
  · have HS : Hid (smallV (wz n hi lo) = .tuple #[.int .i64 0, .bool false]) := by show _ = _; unfold smallV; rw [if_neg g]
    unfold wz at g
    rw [HS.out]
    by_cases hh : hi = 0
    · subst hh
      by_cases hg : 9223372036854775808 < lo
      · have t2 : decide ((9223372036854775808 : Int) < (lo : Int)) = true := by rw [decide_eq_true_eq]; omega
        clear g h1 h2
        go_enter Tryd.func102, Tryd.ntmps102
        go_wp2_with fail
        go_ret2
        exact ⟨rfl, ba _ _⟩
      · have e : lo = 9223372036854775808 ∧ n = false := by cases n <;> simp at g <;> simp <;> omega
        obtain ⟨rfl, rfl⟩ := e
        clear g h1 h2
        go_enter Tryd.func102, Tryd.ntmps102
        go_wp2_with fail
        go_ret2
        exact ⟨rfl, ba _ _⟩
    · have t1 : decide ((0 : Int) < (hi : Int)) = true := by rw [decide_eq_true_eq]; omega
      have t1' : 0 < hi := by omega
      clear g h1 h2
      go_enter Tryd.func102, Tryd.ntmps102
      go_wp2_with fail
      go_ret2
      exact ⟨rfl, ba _ _⟩

set_option maxRecDepth 100000 in
theorem wTen_any (n : Int) (w : World) (h0 : -9223372036854775808 ≤ n) (h1 : n ≤ 9223372036854775807) :
    Calls Tryd.prog 100 #[.int .i64 n] w fun e w' => e = .returned (.int .u64 (if 0 ≤ n ∧ n ≤ 19 then ((10 ^ n.toNat : Nat) : Int) else 0)) ∧ w' = w := by
  by_cases g0 : n < 0
  · rw [if_neg (by omega)]
    have d1 : decide (n < 0) = true := by simpa using g0
    go_enter Tryd.func100, Tryd.ntmps100
    go_wp2_with fail
    go_ret
    exact ⟨rfl, rfl⟩
  · by_cases g1 : 19 < n
    · rw [if_neg (by omega)]
      have d1 : decide (n < 0) = false := by simpa using g0
      have d2 : decide (19 < n) = true := by simpa using g1
      go_enter Tryd.func100, Tryd.ntmps100
      go_wp2_with fail
      go_ret
      exact ⟨rfl, rfl⟩
    · rw [if_pos (by omega)]
      have d1 : decide (n < 0) = false := by simpa using g0
      have d2 : decide (19 < n) = false := by simpa using g1
      obtain ⟨m, rfl⟩ := Int.eq_ofNat_of_zero_le (show 0 ≤ n by omega)
      have hm : m ≤ 19 := by omega
      rw [show ((m : Nat) : Int).toNat = m from rfl]
      obtain ⟨T, hT⟩ : ∃ T : Nat, Hid (T = 10 ^ m) := ⟨_, rfl⟩
      rw [← hT.out]
      clear h0 h1 g0 g1
      go_enter Tryd.func100, Tryd.ntmps100
      go_wp2_with fail
      go_loop [3, 11] (fun p i => ∃ k P : Nat, p = .int .u64 (P : Int) ∧ i = .int .i64 (k : Int) ∧ k ≤ m ∧ Hid (P = 10 ^ k)) (fun _ i => m - (intOf i).toNat)
      case atStart => exact ⟨0, 1, rfl, rfl, Nat.zero_le _, rfl⟩
      case round =>
        obtain ⟨k, P, rfl, rfl, hk, hP⟩ := hrel
        by_cases hlt : k < m
        · have e1 : IntKind.u64.wrap ((P : Int) * 10) = (P : Int) * 10 := by
            have a : 10 ^ k ≤ 10 ^ 18 := Nat.pow_le_pow_right (by decide) (by omega)
            have b := hP.out
            rw [IntKind.wrap_u64]; omega
          have e2 : IntKind.i64.wrap ((k : Int) + 1) = (k : Int) + 1 := by rw [IntKind.wrap_i64]; omega
          go_wp2_with fail
          go_round
          case rel => exact ⟨k + 1, P * 10, by simp, by simp, by omega, by show _ = _; rw [hP.out, Nat.pow_succ]⟩
          case measure => simp [intOf]; omega
        · have e : k = m := by omega
          have hP2 : Hid (P = T) := by show P = T; rw [hP.out, hT.out, e]
          clear e
          go_wp2_with fail
          go_ret
          exact ⟨by rw [hP2.out]; rfl, rfl⟩
end Go.Proofs.YtfonpegkaajnkaaDoor
