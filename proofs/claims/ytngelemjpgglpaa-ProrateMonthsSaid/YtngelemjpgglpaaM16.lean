/-
  PLAIN LAWS of math/bits.Div64 (no Go in sight): the school method by halves of a word; THE WALK of the reference's Wide; THE WALK of the reference's As; THE WALK of the reference's Ten.
-/
import Derived.Test.YtngelemjpgglpaaM15
import Derived.Test.YtngelemjpgglpaaM11
/-
  PLAIN LAWS of math/bits.Div64 (no Go in sight): the school method by halves of a word.
-/
namespace Go.Proofs.Ytngelemjpgglpaa
open Go.RowKit

namespace Dv
/-- one half word of a quotient: q is tried, r is what q leaves of U beside the divisor's upper half -/
structure Inv (U u Y y1 y0 q r : Nat) : Prop where
  split : q * y1 + r = U
  above : U * 4294967296 + u < (q + 1) * Y
  small : q ≤ 4294967297
structure Div (U u Y y1 y0 : Nat) : Prop where
  y : Y = y1 * 4294967296 + y0
  l1 : y1 < 4294967296
  h1 : 2147483648 ≤ y1
  l0 : y0 < 4294967296
  lu : U < Y
  l : u < 4294967296
variable {U u Y y1 y0 q r : Nat}
theorem mulY (D : Div U u Y y1 y0) : q * Y = q * y1 * 4294967296 + q * y0 := by
  rw [D.y, Nat.mul_add, Nat.mul_assoc]
theorem mulY1 (D : Div U u Y y1 y0) : (q + 1) * Y = q * y1 * 4294967296 + q * y0 + Y := by
  rw [Nat.add_mul, Nat.one_mul, mulY D]
theorem init (D : Div U u Y y1 y0) : Inv U u Y y1 y0 (U / y1) (U % y1) := by
  have hy := D.h1
  have e := Nat.div_add_mod U y1
  have l := Nat.mod_lt U (show 0 < y1 by omega)
  have c := Nat.mul_comm y1 (U / y1)
  generalize U / y1 = Q at *
  generalize U % y1 = R at *
  refine ⟨by omega, ?_, ?_⟩
  · rw [mulY1 D, D.y]
    have := D.l
    have : U = Q * y1 + R := by omega
    rw [this]
    generalize Q * y1 = P
    omega
  · have hu := D.lu; rw [D.y] at hu
    have h0 := D.l0
    rcases Nat.lt_or_ge 4294967297 Q with h | h
    · have := Nat.mul_le_mul_right y1 h
      have e2 : (4294967297 + 1) * y1 = 4294967298 * y1 := rfl
      omega
    · exact h
theorem step (D : Div U u Y y1 y0) (h : Inv U u Y y1 y0 q r) (t : 4294967296 ≤ q ∨ 4294967296 * r + u < q * y0) :
    1 ≤ q ∧ Inv U u Y y1 y0 (q - 1) (r + y1) ∧ q - 1 ≤ 4294967296 := by
  have hq : 1 ≤ q := by
    rcases t with t | t
    · omega
    · rcases Nat.eq_zero_or_pos q with e | e
      · subst e; simp at t
      · exact e
  obtain ⟨p, rfl⟩ : ∃ p, q = p + 1 := ⟨q - 1, by omega⟩
  have a := h.split; have b := h.small
  refine ⟨hq, ⟨?_, ?_, by omega⟩, by omega⟩
  · rw [Nat.add_sub_cancel, ← a, Nat.add_mul]; omega
  · rw [Nat.add_sub_cancel]
    rcases t with t | t
    · have h1 : 4294967296 * Y ≤ (p + 1) * Y := Nat.mul_le_mul_right _ t
      have := D.lu; have := D.l
      omega
    · rw [mulY D, ← a]
      generalize (p + 1) * y1 = P at *
      generalize (p + 1) * y0 = S at *
      omega
theorem found (D : Div U u Y y1 y0) (h : Inv U u Y y1 y0 q r) (t : q * y0 ≤ 4294967296 * r + u) : q = (U * 4294967296 + u) / Y := by
  have h1 : q * Y ≤ U * 4294967296 + u := by
    rw [mulY D, ← h.split]
    generalize q * y1 = P
    generalize q * y0 = S at *
    omega
  have hy : 0 < Y := by have := D.lu; omega
  have a := (Nat.le_div_iff_mul_le hy).2 h1
  have b := (Nat.div_lt_iff_lt_mul hy).2 h.above
  omega
theorem broke (D : Div U u Y y1 y0) (hq : q ≤ 4294967296) (hr : 4294967296 ≤ r) : q * y0 ≤ 4294967296 * r + u := by
  have h1 : q * y0 ≤ 4294967296 * y0 := Nat.mul_le_mul_right _ hq
  have := D.l0
  omega
theorem bothB (B U u1 u0 Y : Nat) (hY : 0 < Y) :
    ((U * B + u1) * B + u0) / Y = (U * B + u1) / Y * B + ((U * B + u1) % Y * B + u0) / Y ∧
    ((U * B + u1) * B + u0) % Y = ((U * B + u1) % Y * B + u0) % Y := by
  have e1 := Nat.div_add_mod (U * B + u1) Y
  have e2 := Nat.div_add_mod ((U * B + u1) % Y * B + u0) Y
  have l2 := Nat.mod_lt ((U * B + u1) % Y * B + u0) hY
  generalize (U * B + u1) / Y = Q1 at *
  generalize (U * B + u1) % Y = R1 at *
  generalize (R1 * B + u0) / Y = Q0 at *
  generalize (R1 * B + u0) % Y = R0 at *
  have key : (U * B + u1) * B + u0 = Y * (Q1 * B + Q0) + R0 := by
    rw [← e1, Nat.mul_add, Nat.add_mul, ← Nat.mul_assoc, Nat.add_assoc, ← e2]
    generalize Y * Q1 * B = A
    generalize Y * Q0 = C
    omega
  rw [key]
  refine ⟨?_, ?_⟩
  · rw [Nat.mul_add_div hY, Nat.div_eq_of_lt l2, Nat.add_zero]
  · rw [Nat.mul_add_mod, Nat.mod_eq_of_lt l2]
/-- the two halves together -/
theorem both (U u1 u0 Y : Nat) (hY : 0 < Y) :
    ((U * 4294967296 + u1) * 4294967296 + u0) / Y = (U * 4294967296 + u1) / Y * 4294967296 + ((U * 4294967296 + u1) % Y * 4294967296 + u0) / Y ∧
    ((U * 4294967296 + u1) * 4294967296 + u0) % Y = ((U * 4294967296 + u1) % Y * 4294967296 + u0) % Y := bothB 4294967296 U u1 u0 Y hY
/-- the shift ahead of it -/
theorem shifted (N y s : Nat) : (N * 2 ^ s) / (y * 2 ^ s) = N / y ∧ (N * 2 ^ s) % (y * 2 ^ s) / 2 ^ s = N % y := by
  have hp : 0 < 2 ^ s := Nat.two_pow_pos s
  refine ⟨Nat.mul_div_mul_right _ _ hp, ?_⟩
  rw [Nat.mul_mod_mul_right, Nat.mul_div_cancel _ hp]
theorem upperW (W hi lo y s t : Nat) (hq : 2 ^ s * 2 ^ t = W) (hy : hi < y) (hl : lo < W) (hY : y * 2 ^ s < W) :
    hi * 2 ^ s < W ∧ lo / 2 ^ t < 2 ^ s ∧ hi * 2 ^ s + lo / 2 ^ t < y * 2 ^ s ∧
    (hi * W + lo) * 2 ^ s = (hi * 2 ^ s + lo / 2 ^ t) * W + lo * 2 ^ s % W := by
  have hp : 0 < 2 ^ s := Nat.two_pow_pos s
  have hr : 0 < 2 ^ t := Nat.two_pow_pos _
  have h1 : (hi + 1) * 2 ^ s ≤ y * 2 ^ s := Nat.mul_le_mul_right _ hy
  have h2 : lo / 2 ^ t < 2 ^ s := by
    rw [Nat.div_lt_iff_lt_mul hr, hq]; exact hl
  rw [Nat.add_mul, Nat.one_mul] at h1
  refine ⟨by omega, h2, by omega, ?_⟩
  have e := Nat.div_add_mod lo (2 ^ t)
  have l := Nat.mod_lt lo hr
  have e3 : lo * 2 ^ s = W * (lo / 2 ^ t) + lo % 2 ^ t * 2 ^ s := by
    conv => lhs; rw [← e]
    rw [Nat.add_mul, Nat.mul_right_comm, Nat.mul_comm (2 ^ t) (2 ^ s), hq]
  have l2 : lo % 2 ^ t * 2 ^ s < W := by
    rw [← hq, Nat.mul_comm (2 ^ s)]; exact Nat.mul_lt_mul_of_pos_right l hp
  have e4 : lo * 2 ^ s % W = lo % 2 ^ t * 2 ^ s := by
    rw [e3, Nat.mul_add_mod, Nat.mod_eq_of_lt l2]
  rw [e4, Nat.add_mul, Nat.add_mul, e3, Nat.mul_right_comm, Nat.mul_comm (lo / 2 ^ t) W, Nat.add_assoc]
/-- the number's upper word, shifted -/
theorem upper (hi lo y s : Nat) (hs : s ≤ 63) (hy : hi < y) (hl : lo < 18446744073709551616) (hY : y * 2 ^ s < 18446744073709551616) :
    hi * 2 ^ s < 18446744073709551616 ∧ lo / 2 ^ (64 - s) < 2 ^ s ∧ hi * 2 ^ s + lo / 2 ^ (64 - s) < y * 2 ^ s ∧
    (hi * 18446744073709551616 + lo) * 2 ^ s = (hi * 2 ^ s + lo / 2 ^ (64 - s)) * 18446744073709551616 + lo * 2 ^ s % 18446744073709551616 :=
  upperW 18446744073709551616 hi lo y s (64 - s) (by rw [← Nat.pow_add, show s + (64 - s) = 64 by omega]) hy hl hY
/-- 'or' of two parts that do not meet -/
theorem or_parts (a s b : Nat) (hb : b < 2 ^ s) : a * 2 ^ s ||| b = a * 2 ^ s + b := by
  rw [Nat.mul_comm, Nat.two_pow_add_eq_or_of_lt hb]
/-- the divisor, shifted -/
theorem norm (y s : Nat) (h : y < 18446744073709551616) (h0 : y ≠ 0) (hs : s = 64 - Lib.bitLen y) : s ≤ 63 ∧ y * 2 ^ s < 18446744073709551616 ∧ 9223372036854775808 ≤ y * 2 ^ s := by
  have a := Bt.len_spec y h h0
  have b := Bt.len_le y h h0
  have e : 2 ^ Lib.bitLen y * 2 ^ s = 18446744073709551616 := by rw [← Nat.pow_add, show Lib.bitLen y + s = 64 by omega]
  have hp : 0 < 2 ^ s := Nat.two_pow_pos s
  have c1 : y * 2 ^ s < 2 ^ Lib.bitLen y * 2 ^ s := Nat.mul_lt_mul_of_pos_right a.1 hp
  have c2 : 2 ^ Lib.bitLen y * 2 ^ s ≤ 2 * y * 2 ^ s := Nat.mul_le_mul_right _ a.2
  rw [Nat.mul_assoc] at c2
  omega
end Dv
end Go.Proofs.Ytngelemjpgglpaa
/-
  THE WALK of the reference's Wide.
-/
namespace Go.Proofs.Ytngelemjpgglpaa
set_option linter.unusedSimpArgs false
set_option linter.unusedVariables false
open Go.RowKit
attribute [local go_sem ↓] Go.wp_at_zero Go.wp_at_succ

def wz (n : Bool) (hi lo : Int) : Int := if n = true then -(hi * 18446744073709551616 + lo) else hi * 18446744073709551616 + lo
theorem cell_keep {w w' : World} {b o : Nat} {v : Value} (h : Below w.heap.size w w') (d : w.cell? ⟨b, o, none⟩ = some v) (hb : b < w.heap.size) : w'.cell? ⟨b, o, none⟩ = some v := (h.cell (p := ⟨b, o, none⟩) hb).trans d
/-- a variable of type api.Wide in block b -/
def WAt (w : World) (b : Nat) (n : Bool) (hi lo : Int) : Prop := w.heap[b]? = some (.cells #[.bool n, .int .u64 hi, .int .u64 lo] 57 (0, 0))
theorem wAt_new (w : World) (n : Bool) (hi lo : Int) : WAt (w.alloc (.cells #[.bool n, .int .u64 hi, .int .u64 lo] 57)) w.heap.size n hi lo := heap_alloc_new w _
section
variable {w : World} {b : Nat} {n : Bool} {hi lo : Int}
theorem WAt.lt (h : WAt w b n hi lo) : b < w.heap.size := (Array.getElem?_eq_some_iff.1 h).1
theorem WAt.below {w' : World} (h : WAt w b n hi lo) (hb : Below w.heap.size w w') : WAt w' b n hi lo := by
  unfold WAt; rw [hb.block b h.lt]; exact h
theorem WAt.belowB {w' : World} {B : Nat} (h : WAt w b n hi lo) (hb : Below B w w') (hB : b < B) : WAt w' b n hi lo := by
  unfold WAt; rw [hb.block b hB]; exact h
theorem WAt.c0 (h : WAt w b n hi lo) : w.cell? ⟨b, 0, none⟩ = some (.bool n) := by rw [cell_of_row w _ _ _ _ (0, 0) h]; rfl
theorem WAt.c1 (h : WAt w b n hi lo) : w.cell? ⟨b, 1, none⟩ = some (.int .u64 hi) := by rw [cell_of_row w _ _ _ _ (0, 0) h]; rfl
theorem WAt.c2 (h : WAt w b n hi lo) : w.cell? ⟨b, 2, none⟩ = some (.int .u64 lo) := by rw [cell_of_row w _ _ _ _ (0, 0) h]; rfl
theorem WAt.f0 (h : WAt w b n hi lo) : w.frozen? ⟨b, 0, none⟩ = false := frozen_of_row w _ _ _ _ h
theorem WAt.f1 (h : WAt w b n hi lo) : w.frozen? ⟨b, 1, none⟩ = false := frozen_of_row w _ _ _ _ h
theorem WAt.f2 (h : WAt w b n hi lo) : w.frozen? ⟨b, 2, none⟩ = false := frozen_of_row w _ _ _ _ h
theorem wAt_set3 (m : Bool) (x y : Int) (h : WAt w b n hi lo) : WAt (((w.setCell ⟨b, 0, none⟩ (.bool m)).setCell ⟨b, 1, none⟩ (.int .u64 x)).setCell ⟨b, 2, none⟩ (.int .u64 y)) b m x y := heap_set (.int .u64 y) (heap_set (.int .u64 x) (heap_set (.bool m) h))
end
/-- behind 'n := Add(..)' -/
def WideMid (w4 : World) (z : Int) (s4 : Value) (wx : World) : Prop :=
  ∃ (b4 : Nat) (bo : Bool) (ao : Option Addr) (no co : Nat), s4 = .pointer (some ⟨b4, 0, none⟩) ∧ wx.cell? ⟨b4, 1, none⟩ = some (.slice ao no co) ∧ Num 22 wx (.agg #[.bool bo, .slice ao no co]) z ∧ Below w4.heap.size w4 wx

end Go.Proofs.Ytngelemjpgglpaa
/-
  THE WALK of the reference's As.
-/
namespace Go.Proofs.Ytngelemjpgglpaa
open Go.RowKit
attribute [local go_sem ↓] Go.wp_at_zero Go.wp_at_succ

def asV (z : Int) : Value := if z.natAbs < 340282366920938463463374607431768211456 then .tuple #[.agg #[.bool (decide (z < 0)), .int .u64 ((z.natAbs / 18446744073709551616 : Nat) : Int), .int .u64 ((z.natAbs % 18446744073709551616 : Nat) : Int)], .bool true] else .tuple #[.agg #[.bool false, .int .u64 0, .int .u64 0], .bool false]
theorem num_abs {k : Nat} {w : World} {b : Bool} {a : Option Addr} {n cap : Nat} {z : Int} (h : Num k w (.agg #[.bool b, .slice a n cap]) z) : Num k w (.agg #[.bool false, .slice a n cap]) (z.natAbs : Int) := by
  obtain ⟨ds, h1, h2, h3, h4, h5, h6⟩ := num_row h
  refine ⟨_, ds, ?_, h1, h2, by simpa using h3, h4⟩
  have : ¬ ((z.natAbs : Int) < 0) := by omega
  simp [this]
theorem num_sign {k : Nat} {w : World} {b : Bool} {a : Option Addr} {n cap : Nat} {z : Int} (h : Num k w (.agg #[.bool b, .slice a n cap]) z) : decide (z < 0) = b := (num_row h).choose_spec.2.2.2.2.2
theorem num_cast {k : Nat} {w : World} {v : Value} {z z' : Int} (h : Num k w v z) (e : z = z') : Num k w v z' := e ▸ h
theorem cell_set_ne {w : World} {b o : Nat} {v : Value} (d : w.cell? ⟨b, o, none⟩ = some v) {b' o' : Nat} (u : Value) (h : b ≠ b') : (w.setCell ⟨b', o', none⟩ u).cell? ⟨b, o, none⟩ = some v := by
  rw [World.cell?_of_block (w := w) (w' := w.setCell ⟨b', o', none⟩ u) (a := ⟨b, o, none⟩) (Below.heap_setCell _ _ _ _ h)]; exact d
theorem cell_set3 {w : World} {b o : Nat} {v : Value} (d : w.cell? ⟨b, o, none⟩ = some v) {b' : Nat} (u0 u1 u2 : Value) (h : b ≠ b') : (((w.setCell ⟨b', 0, none⟩ u0).setCell ⟨b', 1, none⟩ u1).setCell ⟨b', 2, none⟩ u2).cell? ⟨b, o, none⟩ = some v :=
  cell_set_ne (cell_set_ne (cell_set_ne d u0 h) u1 h) u2 h

end Go.Proofs.Ytngelemjpgglpaa
/-
  THE WALK of the reference's Ten.
-/
namespace Go.Proofs.Ytngelemjpgglpaa
open Go.RowKit
attribute [local go_sem ↓] Go.wp_at_zero Go.wp_at_succ

theorem pow10_lt (j : Nat) : ((10 : Int) ^ j).natAbs < 1000 ^ (j + 1) := by
  have e : ((10 : Int) ^ j) = ((10 ^ j : Nat) : Int) := by simp
  rw [e, Int.natAbs_natCast]
  calc 10 ^ j ≤ 1000 ^ j := Nat.pow_le_pow_left (by omega) _
    _ < 1000 ^ (j + 1) := Nat.pow_lt_pow_right (by omega) (by omega)
/-- a number variable in block b, that stands for z -/
def NumBox (w : World) (b k : Nat) (z : Int) : Prop := ∃ (q : Bool) (a : Option Addr) (n c : Nat), BoxAt w b (.bool q) (.slice a n c) ∧ Num k w (.agg #[.bool q, .slice a n c]) z
theorem numBox_below {w w' : World} {b k : Nat} {z : Int} (h : NumBox w b k z) (hb : Below w.heap.size w w') : NumBox w' b k z := by
  obtain ⟨q, a, n, c, h1, h2⟩ := h
  exact ⟨q, a, n, c, boxAt_below h1 hb, num_below h2 hb⟩

set_option maxRecDepth 100000 in
set_option maxHeartbeats 4000000 in
theorem ten_any (n : Int) (w : World) (hn : n ≤ 3000) :
    Calls Try.prog 38 #[.int .i64 n] w (NumPost (n.toNat + 1) ((10 : Int) ^ n.toNat) w) := by
  go_enter Try.func38, Try.ntmps38
  go_wp2_with fail
  refine (word_any 1 _ (by omega) (by omega)).mono ?_
  rintro e w1 ⟨v1, hv1, rfl, b1⟩
  obtain ⟨q1, a1, n1, c1, rfl⟩ := num_agg hv1
  have Y1 := Lib.hid (boxAt_below (boxAt_new w (.bool false) (.slice none 0 0)) b1)
  have B1 := Lib.hid (bt (ba _ _) b1)
  have N1 : Hid (Num 1 w1 (.agg #[.bool q1, .slice a1 n1 c1]) 1) := num_len hv1 (by decide)
  clear hv1 b1
  go_upto_region 2 with fail
  generalize hW : World.alloc w1 _ = W2
  have T2 : Hid (BoxAt W2 w1.heap.size (.bool q1) (.slice a1 n1 c1)) := by rw [← hW]; exact boxAt_new w1 _ _
  have B2 : Hid (Below w1.heap.size w1 W2) := by rw [← hW]; exact ba _ _
  have Y2 := Lib.hid (boxAt_below Y1.out B2.out)
  have N2 := Lib.hid (num_below N1.out B2.out)
  have BW := Lib.hid (bt B1.out B2.out)
  have ly := Y1.out.lt
  clear hW
  go_wp2_with fail
  go_loopw [4] (fun i wr => ∃ j : Nat, i = .int .i64 (j : Int) ∧ j ≤ n.toNat ∧ Hid (NumBox wr w1.heap.size (j + 1) ((10 : Int) ^ j)) ∧ Hid (Below w1.heap.size W2 wr)) (fun i _ => n.toNat - (intOf i).toNat)
  case atStart => exact ⟨0, rfl, Nat.zero_le _, ⟨_, _, _, _, T2.out, N2.out⟩, (Below.refl _ _)⟩
  case round =>
    rename_i wr
    obtain ⟨wo, rfl⟩ : ∃ wo : World, wo = wr := ⟨_, rfl⟩
    obtain ⟨j, rfl, hj, hnb, hbl⟩ := hrel
    obtain ⟨q, a, m, c, hbox, hnum⟩ := hnb.out
    have Tb := Lib.hid hbox; have Nb := Lib.hid hnum
    have Yo := Lib.hid (boxAt_belowB Y2.out hbl.out ly)
    have BO := Lib.hid ((BW.out).trans (hbl.out.mono (by omega)))
    clear hbox hnum
    by_cases hlt : (j : Int) < n
    · go_upto_region 5 with fail
      have d1 := Tb.out.c0; have d2 := Tb.out.c1
      have f1 := Tb.out.f0; have f2 := Tb.out.f1
      have hw : IntKind.i64.wrap ((j : Int) + 1) = (j : Int) + 1 := by rw [IntKind.wrap_i64]; omega
      go_region_law (first
          | (go_simp; go_at_call 11; refine (word_any 10 _ (by omega) (by omega)).mono ?_; rintro e w5 ⟨vz, hz, rfl, b5⟩; obtain ⟨bz, az, nz, cz, rfl⟩ := num_agg hz; have HZ := Lib.hid hz; have B5 := Lib.hid (show Below wo.heap.size wo w5 from bt ((Below.refl _ _).drew) b5); have e1 := (boxAt_below Tb.out B5.out).c0; have e2 := (boxAt_below Tb.out B5.out).c1; clear hz b5)
          | (go_simp; go_at_call 14; refine (mul_any (j + 1) 7 _ _ ((10 : Int) ^ j) 10 _ (num_below Nb.out B5.out) HZ.out (by omega) (by omega)).mono ?_; rintro e w6 ⟨vs, hz, rfl, b6⟩; obtain ⟨bs2, as2, ns2, cs2, rfl⟩ := num_agg hz; have HS := Lib.hid (num_len (num_cast hz (by rw [Int.pow_succ])) (pow10_lt (j + 1))); have B6 := Lib.hid (bt B5.out b6); have HR6 := Lib.hid (boxAt_below Tb.out B6.out); have r0 := HR6.out.c0; have r1 := HR6.out.c1; have r2 := HR6.out.f0; have r3 := HR6.out.f1; clear hz b6))
      all_goals
        go_wp2_with fail
        go_round
        case rel =>
          refine ⟨j + 1, by go_num, by omega, ⟨_, _, _, _, boxAt_set2 _ _ HR6.out, num_set2 _ _ HS.out HR6.out⟩, ?_⟩
          have := hbl.out.size
          exact hbl.out.trans (((B6.out.mono (show w1.heap.size ≤ wo.heap.size by have := Tb.out.lt; omega)).setCell (Nat.le_refl _) _).setCell (Nat.le_refl _) _)
        case measure => simp [intOf]; omega
    · have hj2 : n.toNat = j := by omega
      subst hj2
      have d1 := Tb.out.c0; have d2 := Tb.out.c1
      have r0 := Yo.out.c0; have r1 := Yo.out.c1; have r2 := Yo.out.f0; have r3 := Yo.out.f1
      go_wp2_with fail
      refine bodyPost_ret (v := .agg #[.bool q, .slice a m c]) (by simp [results, Try.results38, go_sem, r0, r1]) rfl ⟨_, num_set2 _ _ Nb.out Yo.out, rfl, (BO.out.setCell (by simp) _).setCell (by simp) _⟩
end Go.Proofs.Ytngelemjpgglpaa
