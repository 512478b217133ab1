/-
  package wide's CONTRACTS by the numbers that the values stand for.
-/
import Derived.Test.YtlbmmnjecemkeaaWDivs
namespace Go.Proofs.Ytlbmmnjecemkeaa
open Go.RowKit

/-- three fields stand for a number -/
structure IsW (z : Int) (b : Bool) (h l : Nat) : Prop where
  v : wz b h l = z
  h : h < 18446744073709551616
  l : l < 18446744073709551616
theorem isW_wv (z : Int) (hz : z.natAbs < 340282366920938463463374607431768211456) : ∃ (b : Bool) (h l : Nat), Hid (wv z = .agg #[.bool b, .int .u64 (h : Int), .int .u64 (l : Int)]) ∧ Hid (IsW z b h l) := by
  refine ⟨decide (z < 0), z.natAbs / 18446744073709551616, z.natAbs % 18446744073709551616, rfl, ⟨?_, by omega, by omega⟩⟩
  unfold wz
  by_cases hn : z < 0
  · rw [if_pos (by simpa using hn)]; omega
  · rw [if_neg (by simpa using hn)]; omega
theorem isW_ov (z : Int) (hz : z.natAbs < 340282366920938463463374607431768211456) : ∃ (b : Bool) (h l : Nat), Hid (ovV z = .tuple #[.agg #[.bool b, .int .u64 (h : Int), .int .u64 (l : Int)], .int .i64 0]) ∧ Hid (IsW z b h l) := by
  obtain ⟨b, h, l, h1, h2⟩ := isW_wv z hz
  exact ⟨b, h, l, ovV_small z _ hz h1.out, h2⟩
theorem isW_any (z : Int) : ∃ (b : Bool) (h l : Nat) (e : Int), Hid (ovV z = .tuple #[.agg #[.bool b, .int .u64 (h : Int), .int .u64 (l : Int)], .int .i64 e]) ∧ Hid ((e = 0 ∧ IsW z b h l ∧ z.natAbs < 340282366920938463463374607431768211456) ∨ e = 11) := by
  by_cases hz : z.natAbs < 340282366920938463463374607431768211456
  · obtain ⟨b, h, l, h1, h2⟩ := isW_ov z hz
    exact ⟨b, h, l, 0, h1, .inl ⟨rfl, h2.out, hz⟩⟩
  · refine ⟨false, 0, 0, 11, ?_, .inr rfl⟩
    show _ = _
    unfold ovV; rw [if_neg hz]; rfl
theorem isW_lo (r : Nat) (h : r < 18446744073709551616) : Hid (ovV (r : Int) = .tuple #[.agg #[.bool false, .int .u64 0, .int .u64 (r : Int)], .int .i64 0]) := by
  show _ = _
  unfold ovV
  rw [if_pos (by simp; omega)]
  unfold wv wr
  rw [show ((r : Nat) : Int).natAbs = r from rfl, Nat.div_eq_of_lt h, Nat.mod_eq_of_lt h]
  simp
theorem ov_lo (z : Int) (o : Nat) (hz : z.natAbs = o) (h : o < 18446744073709551616) : ∃ b, Hid (ovV z = .tuple #[.agg #[.bool b, .int .u64 0, .int .u64 (o : Int)], .int .i64 0]) := by
  refine ⟨decide (z < 0), ?_⟩
  show _ = _
  unfold ovV
  rw [if_pos (by omega)]
  unfold wv wr
  rw [hz, Nat.div_eq_of_lt h, Nat.mod_eq_of_lt h]
  rfl
theorem add_w {x y : Int} {n1 n2 : Bool} {h1 l1 h2 l2 : Nat} (v : Value) (w : World) (X : IsW x n1 h1 l1) (Y : IsW y n2 h2 l2) (hv : ovV (x + y) = v) :
    Calls Try.prog 24 #[.agg #[.bool n1, .int .u64 (h1 : Int), .int .u64 (l1 : Int)], .agg #[.bool n2, .int .u64 (h2 : Int), .int .u64 (l2 : Int)]] w fun e w' => e = .returned v ∧ Below w.heap.size w w' := by
  rw [← hv, ← X.v, ← Y.v]; exact wAdd_any n1 n2 h1 l1 h2 l2 w X.h X.l Y.h Y.l
theorem times_w {x : Int} {n1 : Bool} {h1 l1 : Nat} (d : Nat) (hd : d < 18446744073709551616) (v : Value) (w : World) (X : IsW x n1 h1 l1) (hv : ovV (x * (d : Int)) = v) :
    Calls Try.prog 23 #[.agg #[.bool n1, .int .u64 (h1 : Int), .int .u64 (l1 : Int)], .int .u64 (d : Int)] w fun e w' => e = .returned v ∧ Below w.heap.size w w' := by
  rw [← hv, ← X.v]; exact wTimes_any n1 h1 l1 d w X.h X.l hd
theorem neg_w {x : Int} {n1 : Bool} {h1 l1 : Nat} (v : Value) (w : World) (X : IsW x n1 h1 l1) (hv : wv (-x) = v) :
    Calls Try.prog 30 #[.agg #[.bool n1, .int .u64 (h1 : Int), .int .u64 (l1 : Int)]] w fun e w' => e = .returned v ∧ Below w.heap.size w w' := by
  rw [← hv, ← X.v]; exact wNeg_any n1 h1 l1 w X.h X.l
theorem cmp_w {x y : Int} {n1 n2 : Bool} {h1 l1 h2 l2 : Nat} (c : Int) (w : World) (X : IsW x n1 h1 l1) (Y : IsW y n2 h2 l2) (hc : cmpZ x y = c) :
    Calls Try.prog 31 #[.agg #[.bool n1, .int .u64 (h1 : Int), .int .u64 (l1 : Int)], .agg #[.bool n2, .int .u64 (h2 : Int), .int .u64 (l2 : Int)]] w fun e w' => e = .returned (.int .i64 c) ∧ Below w.heap.size w w' := by
  rw [← hc, ← X.v, ← Y.v]; exact wCmp_any n1 n2 h1 l1 h2 l2 w X.h X.l Y.h Y.l
theorem div_w {x : Int} {n1 : Bool} {h1 l1 : Nat} (d : Nat) (h0 : 0 < d) (hd : d < 18446744073709551616) (v : Value) (w : World) (X : IsW x n1 h1 l1) (hv : divV x d = v) :
    Calls Try.prog 9 #[.agg #[.bool n1, .int .u64 (h1 : Int), .int .u64 (l1 : Int)], .int .u64 (d : Int)] w fun e w' => e = .returned v ∧ Below w.heap.size w w' := by
  rw [← hv, ← X.v]; exact wDiv_any n1 h1 l1 d w X.h X.l h0 hd
theorem even_w {x : Int} {n1 : Bool} {h1 l1 : Nat} (d : Nat) (h0 : 0 < d) (hd : d < 18446744073709551616) (v : Value) (w : World) (X : IsW x n1 h1 l1) (hv : wv (evenZ x d) = v) :
    Calls Try.prog 10 #[.agg #[.bool n1, .int .u64 (h1 : Int), .int .u64 (l1 : Int)], .int .u64 (d : Int)] w fun e w' => e = .returned (.tuple #[v, .int .i64 0]) ∧ Below w.heap.size w w' := by
  rw [← hv, ← X.v]; exact wEven_any n1 h1 l1 d w X.h X.l h0 hd
theorem floor_w {x : Int} {n1 : Bool} {h1 l1 : Nat} (d : Nat) (h0 : 0 < d) (hd : d < 18446744073709551616) (v : Value) (w : World) (X : IsW x n1 h1 l1) (hv : wv (x / (d : Int)) = v) :
    Calls Try.prog 11 #[.agg #[.bool n1, .int .u64 (h1 : Int), .int .u64 (l1 : Int)], .int .u64 (d : Int)] w fun e w' => e = .returned (.tuple #[v, .int .i64 0]) ∧ Below w.heap.size w w' := by
  rw [← hv, ← X.v]; exact wFloor_any n1 h1 l1 d w X.h X.l h0 hd
/-- what is left has the number's sign -/
theorem left_w (z : Int) (n : Bool) (hi lo d : Nat) (X : IsW z n hi lo) (h0 : 0 < d) (hd : d < 18446744073709551616) :
    IsW (z - z.tdiv (d : Int) * (d : Int)) n 0 (z.natAbs % d) := by
  have hr := Nat.mod_lt z.natAbs h0
  refine ⟨?_, by omega, by omega⟩
  have e := Int.tmod_add_mul_tdiv z (d : Int)
  have e1 : z - z.tdiv (d : Int) * (d : Int) = z.tmod (d : Int) := by rw [Int.mul_comm]; omega
  rw [e1]
  have ha := X.v
  have hab := wz_abs n hi lo
  rw [ha] at hab
  unfold wz at ha ⊢
  cases n
  · simp only [Bool.false_eq_true, if_false] at ha ⊢
    have hz : z = (z.natAbs : Int) := by omega
    rw [hz, show (((z.natAbs : Nat) : Int)).natAbs = z.natAbs from rfl, ← Int.ofNat_tmod]; simp
  · simp only [if_true] at ha ⊢
    have hz : z = -(z.natAbs : Int) := by omega
    have e2 : (-(z.natAbs : Int)).tmod (d : Int) = -((z.natAbs % d : Nat) : Int) := by rw [Int.neg_tmod, ← Int.ofNat_tmod]
    rw [← hz] at e2; rw [e2]; simp
theorem even_off (z : Int) (d : Nat) (h0 : 0 < d) : 2 * (z + -(evenZ z d * (d : Int))).natAbs ≤ d := by
  have e := Int.emod_add_mul_ediv z (d : Int)
  have r0 := Int.emod_nonneg z (show (d : Int) ≠ 0 by omega)
  have r1 := Int.emod_lt_of_pos z (show (0 : Int) < d by omega)
  unfold evenZ
  rw [Int.add_mul, Int.mul_comm (z / (d : Int))]
  split
  · rename_i h; omega
  · rename_i h; omega
theorem floor_off (z : Int) (d : Nat) (h0 : 0 < d) : z + -(z / (d : Int) * (d : Int)) = ((z % (d : Int)).toNat : Int) ∧ (z % (d : Int)).toNat < d := by
  have e := Int.emod_add_mul_ediv z (d : Int)
  have r0 := Int.emod_nonneg z (show (d : Int) ≠ 0 by omega)
  have r1 := Int.emod_lt_of_pos z (show (0 : Int) < d by omega)
  rw [Int.mul_comm] at e
  constructor <;> omega
end Go.Proofs.Ytlbmmnjecemkeaa
