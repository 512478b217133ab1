/-
  package wide's CONTRACTS by the numbers that the values stand for; DECIMALS, plain: the canonical number of a whole one and its places; all numbers as units of the place 9; VARIABLES of type api.Dec; decimal.is.
-/
import Derived.Test.YtfonpegkaajnkaaDoorM29
import Derived.Test.YtfonpegkaajnkaaDoorM21
import Derived.Test.YtfonpegkaajnkaaDoorM25
import Derived.Test.YtfonpegkaajnkaaDoorM22
/-
  package wide's CONTRACTS by the numbers that the values stand for.
-/
namespace Go.Proofs.YtfonpegkaajnkaaDoor
open Go.RowKit

/-- three fields stand for a number -/
structure IsW (z : Int) (b : Bool) (h l : Nat) : Prop where
  v : wz b h l = z
  h : h < 18446744073709551616
  l : l < 18446744073709551616
theorem isW_wv (z : Int) (hz : z.natAbs < 340282366920938463463374607431768211456) : ∃ (b : Bool) (h l : Nat), Hid (wv z = .agg #[.bool b, .int .u64 (h : Int), .int .u64 (l : Int)]) ∧ Hid (IsW z b h l) := by
  refine ⟨decide (z < 0), z.natAbs / 18446744073709551616, z.natAbs % 18446744073709551616, rfl, ⟨?_, by omega, by omega⟩⟩
  unfold wz
  by_cases hn : z < 0
  · rw [if_pos (by simpa using hn)]; omega
  · rw [if_neg (by simpa using hn)]; omega
theorem isW_ov (z : Int) (hz : z.natAbs < 340282366920938463463374607431768211456) : ∃ (b : Bool) (h l : Nat), Hid (ovV z = .tuple #[.agg #[.bool b, .int .u64 (h : Int), .int .u64 (l : Int)], .int .i64 0]) ∧ Hid (IsW z b h l) := by
  obtain ⟨b, h, l, h1, h2⟩ := isW_wv z hz
  exact ⟨b, h, l, ovV_small z _ hz h1.out, h2⟩
theorem isW_any (z : Int) : ∃ (b : Bool) (h l : Nat) (e : Int), Hid (ovV z = .tuple #[.agg #[.bool b, .int .u64 (h : Int), .int .u64 (l : Int)], .int .i64 e]) ∧ Hid ((e = 0 ∧ IsW z b h l ∧ z.natAbs < 340282366920938463463374607431768211456) ∨ e = 11) := by
  by_cases hz : z.natAbs < 340282366920938463463374607431768211456
  · obtain ⟨b, h, l, h1, h2⟩ := isW_ov z hz
    exact ⟨b, h, l, 0, h1, .inl ⟨rfl, h2.out, hz⟩⟩
  · refine ⟨false, 0, 0, 11, ?_, .inr rfl⟩
    show _ = _
    unfold ovV; rw [if_neg hz]; rfl
theorem isW_lo (r : Nat) (h : r < 18446744073709551616) : Hid (ovV (r : Int) = .tuple #[.agg #[.bool false, .int .u64 0, .int .u64 (r : Int)], .int .i64 0]) := by
  show _ = _
  unfold ovV
  rw [if_pos (by simp; omega)]
  unfold wv wr
  rw [show ((r : Nat) : Int).natAbs = r from rfl, Nat.div_eq_of_lt h, Nat.mod_eq_of_lt h]
  simp
theorem ov_lo (z : Int) (o : Nat) (hz : z.natAbs = o) (h : o < 18446744073709551616) : ∃ b, Hid (ovV z = .tuple #[.agg #[.bool b, .int .u64 0, .int .u64 (o : Int)], .int .i64 0]) := by
  refine ⟨decide (z < 0), ?_⟩
  show _ = _
  unfold ovV
  rw [if_pos (by omega)]
  unfold wv wr
  rw [hz, Nat.div_eq_of_lt h, Nat.mod_eq_of_lt h]
  rfl
theorem div_w {x : Int} {n1 : Bool} {h1 l1 : Nat} (d : Nat) (h0 : 0 < d) (hd : d < 18446744073709551616) (v : Value) (w : World) (X : IsW x n1 h1 l1) (hv : divV x d = v) :
    Calls Tryd.prog 101 #[.agg #[.bool n1, .int .u64 (h1 : Int), .int .u64 (l1 : Int)], .int .u64 (d : Int)] w fun e w' => e = .returned v ∧ Below w.heap.size w w' := by
  rw [← hv, ← X.v]; exact wDiv_any n1 h1 l1 d w X.h X.l h0 hd
theorem even_w {x : Int} {n1 : Bool} {h1 l1 : Nat} (d : Nat) (h0 : 0 < d) (hd : d < 18446744073709551616) (v : Value) (w : World) (X : IsW x n1 h1 l1) (hv : wv (evenZ x d) = v) :
    Calls Tryd.prog 99 #[.agg #[.bool n1, .int .u64 (h1 : Int), .int .u64 (l1 : Int)], .int .u64 (d : Int)] w fun e w' => e = .returned (.tuple #[v, .int .i64 0]) ∧ Below w.heap.size w w' := by
  rw [← hv, ← X.v]; exact wEven_any n1 h1 l1 d w X.h X.l h0 hd
/-- what is left has the number's sign -/
theorem left_w (z : Int) (n : Bool) (hi lo d : Nat) (X : IsW z n hi lo) (h0 : 0 < d) (hd : d < 18446744073709551616) :
    IsW (z - z.tdiv (d : Int) * (d : Int)) n 0 (z.natAbs % d) := by
  have hr := Nat.mod_lt z.natAbs h0
  refine ⟨?_, by omega, by omega⟩
  have e := Int.tmod_add_mul_tdiv z (d : Int)
  have e1 : z - z.tdiv (d : Int) * (d : Int) = z.tmod (d : Int) := by rw [Int.mul_comm]; omega
  rw [e1]
  have ha := X.v
  have hab := wz_abs n hi lo
  rw [ha] at hab
  unfold wz at ha ⊢
  cases n
  · simp only [Bool.false_eq_true, if_false] at ha ⊢
    have hz : z = (z.natAbs : Int) := by omega
    rw [hz, show (((z.natAbs : Nat) : Int)).natAbs = z.natAbs from rfl, ← Int.ofNat_tmod]; simp
  · simp only [if_true] at ha ⊢
    have hz : z = -(z.natAbs : Int) := by omega
    have e2 : (-(z.natAbs : Int)).tmod (d : Int) = -((z.natAbs % d : Nat) : Int) := by rw [Int.neg_tmod, ← Int.ofNat_tmod]
    rw [← hz] at e2; rw [e2]; simp
theorem even_off (z : Int) (d : Nat) (h0 : 0 < d) : 2 * (z + -(evenZ z d * (d : Int))).natAbs ≤ d := by
  have e := Int.emod_add_mul_ediv z (d : Int)
  have r0 := Int.emod_nonneg z (show (d : Int) ≠ 0 by omega)
  have r1 := Int.emod_lt_of_pos z (show (0 : Int) < d by omega)
  unfold evenZ
  rw [Int.add_mul, Int.mul_comm (z / (d : Int))]
  split
  · rename_i h; omega
  · rename_i h; omega
theorem floor_off (z : Int) (d : Nat) (h0 : 0 < d) : z + -(z / (d : Int) * (d : Int)) = ((z % (d : Int)).toNat : Int) ∧ (z % (d : Int)).toNat < d := by
  have e := Int.emod_add_mul_ediv z (d : Int)
  have r0 := Int.emod_nonneg z (show (d : Int) ≠ 0 by omega)
  have r1 := Int.emod_lt_of_pos z (show (0 : Int) < d by omega)
  rw [Int.mul_comm] at e
  constructor <;> omega
end Go.Proofs.YtfonpegkaajnkaaDoor
/-
  DECIMALS, plain: the canonical number of a whole one and its places; all numbers as units of the place 9.
-/
namespace Go.Proofs.YtfonpegkaajnkaaDoor
open Go.RowKit

/-- a whole number and its places, with no nought at its end that the places allow to strike -/
def trim : Int → Nat → Int × Nat
  | u, 0 => (u, 0)
  | u, s + 1 => if u % 10 = 0 then trim (u / 10) s else (u, s + 1)
theorem trim_succ (u : Int) (s : Nat) : trim u (s + 1) = if u % 10 = 0 then trim (u / 10) s else (u, s + 1) := rfl
theorem trim_up (u : Int) (s k : Nat) : trim (u * 10 ^ k) (s + k) = trim u s := by
  induction k with
  | zero => simp
  | succ k ih =>
    have e : u * 10 ^ (k + 1) = u * 10 ^ k * 10 := by rw [Int.pow_succ, Int.mul_assoc]
    rw [e, ← Nat.add_assoc, trim_succ, if_pos (by omega), show u * 10 ^ k * 10 / 10 = u * 10 ^ k by omega]
    exact ih
theorem trim_le (u : Int) (s : Nat) : (trim u s).2 ≤ s := by
  induction s generalizing u with
  | zero => simp [trim]
  | succ s ih => unfold trim; split; exact Nat.le_succ_of_le (ih _); exact Nat.le_refl _
theorem trim_val (u : Int) (s : Nat) : (trim u s).1 * 10 ^ (s - (trim u s).2) = u := by
  induction s generalizing u with
  | zero => simp [trim]
  | succ s ih =>
    unfold trim
    split
    · rename_i h
      have l := trim_le (u / 10) s
      rw [show s + 1 - (trim (u / 10) s).2 = s - (trim (u / 10) s).2 + 1 by omega, Int.pow_succ, ← Int.mul_assoc, ih]
      omega
    · simp
theorem trim_canon (u : Int) (s : Nat) : (trim u s).2 = 0 ∨ (trim u s).1 % 10 ≠ 0 := by
  induction s generalizing u with
  | zero => simp [trim]
  | succ s ih =>
    unfold trim
    split
    · exact ih _
    · rename_i h; exact .inr h
theorem trim_self (c : Int) (s : Nat) (h : s = 0 ∨ c % 10 ≠ 0) : trim c s = (c, s) := by
  cases s with
  | zero => rfl
  | succ s => unfold trim; rw [if_neg (by omega)]
/-- small enough for a number of 64 bits -/
def fits (u : Int) : Prop := -9223372036854775808 ≤ u ∧ u ≤ 9223372036854775807
instance (u : Int) : Decidable (fits u) := by unfold fits; exact inferInstance
/-- a whole number of so many places, as it is told -/
def decV (u : Int) (s : Nat) : Value :=
  if fits (trim u s).1 then .tuple #[.agg #[.int .i64 (trim u s).1, .int .i64 ((trim u s).2 : Int)], .int .i64 0] else .tuple #[.agg #[.int .i64 0, .int .i64 0], .int .i64 11]
theorem decV_up (u : Int) (s k : Nat) : decV (u * 10 ^ k) (s + k) = decV u s := by unfold decV; rw [trim_up]
theorem decV_form (u : Int) (s : Nat) : ∃ c p e : Int, decV u s = .tuple #[.agg #[.int .i64 c, .int .i64 p], .int .i64 e] := by
  unfold decV; split
  · exact ⟨_, _, _, rfl⟩
  · exact ⟨_, _, _, rfl⟩
/-- units of the place 9 -/
def un (c : Int) (s : Nat) : Int := c * 10 ^ (9 - s)
theorem decV_un (c : Int) (s : Nat) (h : s ≤ 9) : decV (un c s) 9 = decV c s := by
  have := decV_up c s (9 - s)
  rw [show s + (9 - s) = 9 by omega] at this
  exact this
/-- what such an answer is -/
structure IsD (u c : Int) (s : Nat) : Prop where
  val : un c s = u
  le : s ≤ 9
  fit : fits c
  can : s = 0 ∨ c % 10 ≠ 0
theorem decV_any (u : Int) : ∃ (c : Int) (s : Nat) (e : Int), Hid (decV u 9 = .tuple #[.agg #[.int .i64 c, .int .i64 (s : Int)], .int .i64 e]) ∧ Hid ((e = 0 ∧ IsD u c s) ∨ (e = 11 ∧ c = 0 ∧ s = 0 ∧ ¬ fits (trim u 9).1)) := by
  by_cases h : fits (trim u 9).1
  · refine ⟨(trim u 9).1, (trim u 9).2, 0, ?_, .inl ⟨rfl, trim_val u 9, trim_le u 9, h, trim_canon u 9⟩⟩
    show _ = _; unfold decV; rw [if_pos h]
  · refine ⟨0, 0, 11, ?_, .inr ⟨rfl, rfl, rfl, h⟩⟩
    show _ = _; unfold decV; rw [if_neg h]; rfl
theorem isD_trim {u c : Int} {s : Nat} (h : IsD u c s) : trim u 9 = (c, s) := by
  have := trim_up c s (9 - s)
  rw [show s + (9 - s) = 9 by have := h.le; omega] at this
  rw [← h.val]; unfold un; rw [this, trim_self c s h.can]
/-- the even number hangs on no common factor -/
theorem evenZ_scale (x : Int) (Y m : Nat) (hm : 0 < m) : evenZ (x * (m : Int)) (Y * m) = evenZ x Y := by
  have hm' : (0 : Int) < (m : Int) := by omega
  unfold evenZ
  have em : x * (m : Int) % ((Y : Int) * (m : Int)) = x % (Y : Int) * (m : Int) := by
    rw [Int.mul_comm x, Int.mul_comm (Y : Int), Int.mul_emod_mul_of_pos _ _ hm', Int.mul_comm]
  rw [Int.natCast_mul, Int.mul_ediv_mul_of_pos_left _ _ hm', em]
  have e : (((Y : Int) * (m : Int) < x % (Y : Int) * (m : Int) + x % (Y : Int) * (m : Int)) ↔ ((Y : Int) < x % (Y : Int) + x % (Y : Int))) := by
    rw [← Int.add_mul]; exact Int.mul_lt_mul_right hm'
  have e2 : ((x % (Y : Int) * (m : Int) + x % (Y : Int) * (m : Int) = (Y : Int) * (m : Int)) ↔ (x % (Y : Int) + x % (Y : Int) = (Y : Int))) := by
    rw [← Int.add_mul]; exact Int.mul_eq_mul_right_iff (by omega)
  simp only [e, e2]
theorem evenZ_one (x : Int) : evenZ x 1 = x := by unfold evenZ; omega
theorem evenZ_exact (x : Int) (m : Nat) (hm : 0 < m) : evenZ (x * (m : Int)) m = x := by
  have := evenZ_scale x 1 m hm
  rw [Nat.one_mul, evenZ_one] at this; exact this
end Go.Proofs.YtfonpegkaajnkaaDoor
/-
  VARIABLES of type api.Dec; decimal.is.
-/
namespace Go.Proofs.YtfonpegkaajnkaaDoor
open Go.RowKit

/-- a variable of type api.Dec -/
def DAt (w : World) (b : Nat) (c s : Int) : Prop := w.heap[b]? = some (.cells #[.int .i64 c, .int .i64 s] 24 (0, 0))
theorem dAt_new (w : World) (c s : Int) : DAt (w.alloc (.cells #[.int .i64 c, .int .i64 s] 24)) w.heap.size c s := heap_alloc_new w _
section
variable {w : World} {b : Nat} {c s : Int}
theorem DAt.lt (h : DAt w b c s) : b < w.heap.size := (Array.getElem?_eq_some_iff.1 h).1
theorem DAt.below {w' : World} (h : DAt w b c s) (hb : Below w.heap.size w w') : DAt w' b c s := by
  unfold DAt; rw [hb.block b h.lt]; exact h
theorem DAt.c0 (h : DAt w b c s) : w.cell? ⟨b, 0, none⟩ = some (.int .i64 c) := by rw [cell_of_row w _ _ _ _ (0, 0) h]; rfl
theorem DAt.c1 (h : DAt w b c s) : w.cell? ⟨b, 1, none⟩ = some (.int .i64 s) := by rw [cell_of_row w _ _ _ _ (0, 0) h]; rfl
theorem DAt.f0 (h : DAt w b c s) : w.frozen? ⟨b, 0, none⟩ = false := frozen_of_row w _ _ _ _ h
theorem DAt.f1 (h : DAt w b c s) : w.frozen? ⟨b, 1, none⟩ = false := frozen_of_row w _ _ _ _ h
theorem dAt_set2 (x y : Int) (h : DAt w b c s) : DAt ((w.setCell ⟨b, 0, none⟩ (.int .i64 x)).setCell ⟨b, 1, none⟩ (.int .i64 y)) b x y := heap_set (.int .i64 y) (heap_set (.int .i64 x) h)
theorem dAt_other {b' : Nat} (o : Nat) (u : Value) (h : DAt w b c s) (hb : b ≠ b') : DAt (w.setCell ⟨b', o, none⟩ u) b c s := by
  unfold DAt; rw [Below.heap_setCell _ _ _ _ hb]; exact h
end
theorem wAt_other {w : World} {b b' : Nat} {n : Bool} {h l : Int} (o : Nat) (u : Value) (H : WAt w b n h l) (hb : b ≠ b') : WAt (w.setCell ⟨b', o, none⟩ u) b n h l := by
  unfold WAt; rw [Below.heap_setCell _ _ _ _ hb]; exact H
/-- are the places those of a number? -/
def isB (s : Int) : Bool := decide (0 ≤ s ∧ s ≤ 9)
theorem isB_nat {s : Int} (h : isB s = true) : ∃ n : Nat, s = (n : Int) ∧ n ≤ 9 := by
  unfold isB at h
  have := of_decide_eq_true h
  exact ⟨s.toNat, by omega, by omega⟩

set_option maxRecDepth 100000 in
theorem is1_any (g : Nat) (c s : Int) (w : World) (h0 : w.cell? ⟨g, 0, none⟩ = some (.int .i64 c)) (h1 : w.cell? ⟨g, 1, none⟩ = some (.int .i64 s)) (hg : g < w.heap.size) :
    Calls Tryd.prog 66 #[.slice (some ⟨g, 0, none⟩) 1 1] w fun e w' => e = .returned (.bool (isB s)) ∧ Below w.heap.size w w' := by
  have hz : w.heap.size ≠ g := by omega
  by_cases g0 : s < 0
  · have d1 : decide (s < 0) = true := by simpa using g0
    have e : isB s = false := by unfold isB; simp; omega
    rw [e]
    clear g0 e
    go_enter Tryd.func66, Tryd.ntmps66
    go_wp2_with fail
    refine wp_loop_rounds 1 ?_
    rw [rounds_succ]
    go_wp2_with fail
    go_ret
    exact ⟨rfl, ba _ _⟩
  · by_cases g1 : 9 < s
    · have d1 : decide (s < 0) = false := by simpa using g0
      have d2 : decide (9 < s) = true := by simpa using g1
      have e : isB s = false := by unfold isB; simp; omega
      rw [e]
      clear g0 g1 e
      go_enter Tryd.func66, Tryd.ntmps66
      go_wp2_with fail
      refine wp_loop_rounds 1 ?_
      rw [rounds_succ]
      go_wp2_with fail
      go_ret
      exact ⟨rfl, ba _ _⟩
    · have d1 : decide (s < 0) = false := by simpa using g0
      have d2 : decide (9 < s) = false := by simpa using g1
      have e : isB s = true := by unfold isB; simp; omega
      rw [e]
      clear g0 g1 e
      go_enter Tryd.func66, Tryd.ntmps66
      go_wp2_with fail
      refine wp_loop_rounds 2 ?_
      rw [rounds_succ]
      go_wp2_with fail
      rw [rounds_succ]
      go_wp2_with fail
      go_ret
      exact ⟨rfl, ba _ _⟩

set_option maxRecDepth 100000 in
theorem is2_any (g : Nat) (c s c' s' : Int) (w : World) (h0 : w.cell? ⟨g, 0, none⟩ = some (.int .i64 c)) (h1 : w.cell? ⟨g, 1, none⟩ = some (.int .i64 s))
    (h2 : w.cell? ⟨g, 2, none⟩ = some (.int .i64 c')) (h3 : w.cell? ⟨g, 3, none⟩ = some (.int .i64 s')) (hg : g < w.heap.size) :
    Calls Tryd.prog 66 #[.slice (some ⟨g, 0, none⟩) 2 2] w fun e w' => e = .returned (.bool (isB s && isB s')) ∧ Below w.heap.size w w' := by
  have hz : w.heap.size ≠ g := by omega
  by_cases g0 : isB s = true
  · obtain ⟨n, rfl, hn⟩ := isB_nat g0
    have d1 : decide ((n : Int) < 0) = false := by simp
    have d2 : decide (9 < (n : Int)) = false := by simp; omega
    rw [g0, Bool.true_and]
    clear g0 hn
    by_cases k0 : s' < 0
    · have q1 : decide (s' < 0) = true := by simpa using k0
      have e : isB s' = false := by unfold isB; simp; omega
      rw [e]
      clear k0 e
      go_enter Tryd.func66, Tryd.ntmps66
      go_wp2_with fail
      refine wp_loop_rounds 2 ?_
      rw [rounds_succ]
      go_wp2_with fail
      rw [rounds_succ]
      go_wp2_with fail
      go_ret
      exact ⟨rfl, bt (ba _ _) (ba _ _)⟩
    · by_cases k1 : 9 < s'
      · have q1 : decide (s' < 0) = false := by simpa using k0
        have q2 : decide (9 < s') = true := by simpa using k1
        have e : isB s' = false := by unfold isB; simp; omega
        rw [e]
        clear k0 k1 e
        go_enter Tryd.func66, Tryd.ntmps66
        go_wp2_with fail
        refine wp_loop_rounds 2 ?_
        rw [rounds_succ]
        go_wp2_with fail
        rw [rounds_succ]
        go_wp2_with fail
        go_ret
        exact ⟨rfl, bt (ba _ _) (ba _ _)⟩
      · have q1 : decide (s' < 0) = false := by simpa using k0
        have q2 : decide (9 < s') = false := by simpa using k1
        have e : isB s' = true := by unfold isB; simp; omega
        rw [e]
        clear k0 k1 e
        go_enter Tryd.func66, Tryd.ntmps66
        go_wp2_with fail
        refine wp_loop_rounds 3 ?_
        rw [rounds_succ]
        go_wp2_with fail
        rw [rounds_succ]
        go_wp2_with fail
        rw [rounds_succ]
        go_wp2_with fail
        go_ret
        exact ⟨rfl, bt (ba _ _) (ba _ _)⟩
  · have g0 : isB s = false := by simpa using g0
    rw [g0, Bool.false_and]
    by_cases k0 : s < 0
    · have q1 : decide (s < 0) = true := by simpa using k0
      clear k0 g0
      go_enter Tryd.func66, Tryd.ntmps66
      go_wp2_with fail
      refine wp_loop_rounds 1 ?_
      rw [rounds_succ]
      go_wp2_with fail
      go_ret
      exact ⟨rfl, ba _ _⟩
    · have q1 : decide (s < 0) = false := by simpa using k0
      have q2 : decide (9 < s) = true := by unfold isB at g0; simp at g0; simp; omega
      clear k0 g0
      go_enter Tryd.func66, Tryd.ntmps66
      go_wp2_with fail
      refine wp_loop_rounds 1 ?_
      rw [rounds_succ]
      go_wp2_with fail
      go_ret
      exact ⟨rfl, ba _ _⟩
end Go.Proofs.YtfonpegkaajnkaaDoor
