/-
  CONTRACTS of math/bits at this program: Add64, Sub64, Mul64, Len64, LeadingZeros64; PLAIN LAWS of math/bits.Div64 (no Go in sight): the school method by halves of a word.
-/
import Derived.Test.YtfonpegkaajnkaaDoorM3
import Derived.Shelf.Spec.BitsCarry
import Derived.Lib.Mul64
import Derived.Laws.Bits64b
import Derived.Lib.Strings
import Derived.Lib.Slices
import Derived.Lib.Small
import Derived.Lib.Walk
import Derived.Lib.BitFns
/-
  CONTRACTS of math/bits at this program: Add64, Sub64, Mul64, Len64, LeadingZeros64.
-/
namespace Go.Proofs.YtfonpegkaajnkaaDoor
open Go.RowKit

def W64 : Int := 18446744073709551616

theorem add64 (x y c : Int) (hx : 0 ≤ x) (hy : 0 ≤ y) (hx' : x < 18446744073709551616) (hy' : y < 18446744073709551616) (hc0 : 0 ≤ c) (hc : c ≤ 1) (w : World) : (callFunc 146 #[.int .u64 x, .int .u64 y, .int .u64 c]).run Tryd.prog w =
    .ok (.value (.tuple #[.int .u64 ((x + y + c) % 18446744073709551616), .int .u64 ((x + y + c) / 18446744073709551616)])) w := by
  obtain ⟨x, rfl⟩ := Int.eq_ofNat_of_zero_le hx
  obtain ⟨y, rfl⟩ := Int.eq_ofNat_of_zero_le hy
  obtain ⟨c, rfl⟩ := Int.eq_ofNat_of_zero_le hc0
  rw [run_callFunc_extern Tryd.func146 (by kernel_rfl) (by kernel_rfl) (by kernel_rfl) (e := add64Entry) (by kernel_rfl), run_add64 x y c (by omega) (by omega) (by omega) (by omega)]
  simp only [Result.andThen]
namespace Bt
theorem maskN (a : Nat) (ha : a < 18446744073709551616) : bits .and .u64 (a : Int) 4294967295 = ((a % 4294967296 : Nat) : Int) := by
  have h := bits_and_u64_nat a 4294967295 ha (by omega)
  have e : a &&& 4294967295 = a % 4294967296 := Nat.and_two_pow_sub_one_eq_mod a 32
  rw [e] at h
  exact h
theorem divN (a : Nat) : (a : Int) / 4294967296 = ((a / 4294967296 : Nat) : Int) := by omega
theorem mulN (a b : Nat) : (a : Int) * (b : Int) = ((a * b : Nat) : Int) := (Int.natCast_mul a b).symm
theorem addN (a b : Nat) : (a : Int) + (b : Int) = ((a + b : Nat) : Int) := (Int.natCast_add a b).symm
theorem wrapN (a : Nat) (ha : a < 18446744073709551616) : IntKind.u64.wrap (a : Int) = (a : Int) := by rw [IntKind.wrap_u64]; omega
theorem wrapM (a : Nat) : IntKind.u64.wrap (a : Int) = ((a % 18446744073709551616 : Nat) : Int) := by rw [IntKind.wrap_u64]; omega
theorem aux_spec : ∀ (f x : Nat), x < 2 ^ f → x < 2 ^ Lib.bitLenAux f x ∧ (x ≠ 0 → 2 ^ Lib.bitLenAux f x ≤ 2 * x)
  | 0, x, h => by simp at h; subst h; simp [Lib.bitLenAux]
  | f + 1, x, h => by
    simp only [Lib.bitLenAux]
    split
    · rename_i e; subst e; simp
    · have ih := aux_spec f (x / 2) (by rw [Nat.pow_succ] at h; omega)
      rw [Nat.add_comm, Nat.pow_succ]
      refine ⟨by omega, fun _ => ?_⟩
      by_cases e : x / 2 = 0
      · have : x = 1 := by omega
        subst this
        cases f <;> simp [Lib.bitLenAux]
      · have := ih.2 e; omega
theorem len_spec (x : Nat) (h : x < 18446744073709551616) (h0 : x ≠ 0) : x < 2 ^ Lib.bitLen x ∧ 2 ^ Lib.bitLen x ≤ 2 * x := ⟨(aux_spec 64 x h).1, (aux_spec 64 x h).2 h0⟩
theorem len_le (x : Nat) (h : x < 18446744073709551616) (h0 : x ≠ 0) : 1 ≤ Lib.bitLen x ∧ Lib.bitLen x ≤ 64 := by
  have s := len_spec x h h0
  constructor
  · rcases Nat.eq_zero_or_pos (Lib.bitLen x) with e | e
    · rw [e] at s; omega
    · exact e
  · have : 2 ^ Lib.bitLen x < 2 ^ 65 := by omega
    have := (Nat.pow_lt_pow_iff_right (by omega : 1 < 2)).1 this
    omega
theorem tab (b : Int) (h0 : 0 ≤ b) (h1 : b < 256) (h : b.toNat < Lib.len8tab.size) : ((Lib.len8tab[b.toNat]'h).toNat : Int) = (Lib.bitLen b.toNat : Int) := by
  have e := Lib.len8_of b h0 (by omega)
  unfold Lib.len8 at e
  rw [getElem?_pos Lib.len8tab b.toNat h] at e
  exact e
theorem wr (K : Int) (k z : Nat) (hK : K = k) (hk : k ≤ 56) (hz : z ≤ 8) : wrap64 (K + wrap64 (z : Int)) = ((k + z : Nat) : Int) := by unfold wrap64; omega
theorem wr0 (z : Nat) (hz : z ≤ 8) : wrap64 (wrap64 (z : Int)) = (z : Int) := by unfold wrap64; omega
end Bt

set_option maxHeartbeats 4000000 in
set_option maxRecDepth 100000 in
theorem len64_any (x : Int) (w : World) (h0 : 0 ≤ x) (h1 : x ≤ 18446744073709551615) :
    Calls Tryd.prog 142 #[.int .u64 x] w fun e w' => e = .returned (.int .i64 (Lib.bitLen x.toNat)) ∧ w' = w := by
  go_enter Tryd.func142, Tryd.ntmps142
  go_wp2
  all_goals have hs := Lib.len8tab_size
  all_goals first
    | (exfalso; omega)
    | (have _g0 := ‹256 ≤ x / 4294967296 / 65536›
       have hb := Bt.tab (x / 4294967296 / 65536 / 256) (by omega) (by omega) (by omega)
       have e : (x / 4294967296 / 65536 / 256).toNat = x.toNat / 72057594037927936 := by omega
       have l := Lib.bitLen_le8' (x / 4294967296 / 65536 / 256) (by omega) (by omega)
       have s := Lib.bitLen_shift56 x.toNat (by omega) (by omega)
       have e2 := congrArg Lib.bitLen e
       refine bodyPost_ret (v := .int .i64 (Lib.bitLen x.toNat)) (by simp [results, Tryd.results142, go_sem, hb]; rw [s, ← e2]; exact Bt.wr 56 56 _ rfl (by decide) l) rfl ⟨rfl, rfl⟩)
    | (have _g0 := ‹65536 ≤ x / 4294967296›; have _g1 := ‹x / 4294967296 / 65536 < 256›
       have hb := Bt.tab (x / 4294967296 / 65536) (by omega) (by omega) (by omega)
       have e : (x / 4294967296 / 65536).toNat = x.toNat / 281474976710656 := by omega
       have l := Lib.bitLen_le8' (x / 4294967296 / 65536) (by omega) (by omega)
       have s := Lib.bitLen_shift48 x.toNat (by omega) (by omega)
       have e2 := congrArg Lib.bitLen e
       refine bodyPost_ret (v := .int .i64 (Lib.bitLen x.toNat)) (by simp [results, Tryd.results142, go_sem, hb]; rw [s, ← e2]; exact Bt.wr 48 48 _ rfl (by decide) l) rfl ⟨rfl, rfl⟩)
    | (have _g0 := ‹x / 4294967296 < 65536›; have _g1 := ‹256 ≤ x / 4294967296›
       have hb := Bt.tab (x / 4294967296 / 256) (by omega) (by omega) (by omega)
       have e : (x / 4294967296 / 256).toNat = x.toNat / 1099511627776 := by omega
       have l := Lib.bitLen_le8' (x / 4294967296 / 256) (by omega) (by omega)
       have s := Lib.bitLen_shift40 x.toNat (by omega) (by omega)
       have e2 := congrArg Lib.bitLen e
       refine bodyPost_ret (v := .int .i64 (Lib.bitLen x.toNat)) (by simp [results, Tryd.results142, go_sem, hb]; rw [s, ← e2]; exact Bt.wr 40 40 _ rfl (by decide) l) rfl ⟨rfl, rfl⟩)
    | (have _g0 := ‹x / 4294967296 < 65536›; have _g1 := ‹x / 4294967296 < 256›
       have hb := Bt.tab (x / 4294967296) (by omega) (by omega) (by omega)
       have e : (x / 4294967296).toNat = x.toNat / 4294967296 := by omega
       have l := Lib.bitLen_le8' (x / 4294967296) (by omega) (by omega)
       have s := Lib.bitLen_shift32 x.toNat (by omega) (by omega)
       have e2 := congrArg Lib.bitLen e
       refine bodyPost_ret (v := .int .i64 (Lib.bitLen x.toNat)) (by simp [results, Tryd.results142, go_sem, hb]; rw [s, ← e2]; exact Bt.wr 32 32 _ rfl (by decide) l) rfl ⟨rfl, rfl⟩)
    | (have _g0 := ‹256 ≤ x / 65536›
       have hb := Bt.tab (x / 65536 / 256) (by omega) (by omega) (by omega)
       have e : (x / 65536 / 256).toNat = x.toNat / 16777216 := by omega
       have l := Lib.bitLen_le8' (x / 65536 / 256) (by omega) (by omega)
       have s := Lib.bitLen_shift24 x.toNat (by omega) (by omega)
       have e2 := congrArg Lib.bitLen e
       refine bodyPost_ret (v := .int .i64 (Lib.bitLen x.toNat)) (by simp [results, Tryd.results142, go_sem, hb]; rw [s, ← e2]; exact Bt.wr 24 24 _ rfl (by decide) l) rfl ⟨rfl, rfl⟩)
    | (have _g0 := ‹x / 65536 < 256›
       have hb := Bt.tab (x / 65536) (by omega) (by omega) (by omega)
       have e : (x / 65536).toNat = x.toNat / 65536 := by omega
       have l := Lib.bitLen_le8' (x / 65536) (by omega) (by omega)
       have s := Lib.bitLen_shift16 x.toNat (by omega) (by omega)
       have e2 := congrArg Lib.bitLen e
       refine bodyPost_ret (v := .int .i64 (Lib.bitLen x.toNat)) (by simp [results, Tryd.results142, go_sem, hb]; rw [s, ← e2]; exact Bt.wr 16 16 _ rfl (by decide) l) rfl ⟨rfl, rfl⟩)
    | (have _g0 := ‹x < 256›
       have hb := Bt.tab x (by omega) (by omega) (by omega)
       have l := Lib.bitLen_le8' x (by omega) (by omega)
       refine bodyPost_ret (v := .int .i64 (Lib.bitLen x.toNat)) (by simp [results, Tryd.results142, go_sem, hb]; exact Bt.wr0 _ l) rfl ⟨rfl, rfl⟩)
    | (have _g0 := ‹x < 65536›; have _g1 := ‹256 ≤ x›
       have hb := Bt.tab (x / 256) (by omega) (by omega) (by omega)
       have e : (x / 256).toNat = x.toNat / 256 := by omega
       have l := Lib.bitLen_le8' (x / 256) (by omega) (by omega)
       have s := Lib.bitLen_shift8 x.toNat (by omega) (by omega)
       have e2 := congrArg Lib.bitLen e
       refine bodyPost_ret (v := .int .i64 (Lib.bitLen x.toNat)) (by simp [results, Tryd.results142, go_sem, hb]; rw [s, ← e2]; exact Bt.wr 8 8 _ rfl (by decide) l) rfl ⟨rfl, rfl⟩)

theorem lz64_any (x : Int) (w : World) (h0 : 0 < x) (h1 : x ≤ 18446744073709551615) :
    Calls Tryd.prog 153 #[.int .u64 x] w fun e w' => e = .returned (.int .i64 (64 - (Lib.bitLen x.toNat : Int))) ∧ w' = w := by
  have hl := Bt.len_le x.toNat (by omega) (by omega)
  have e8 : (64 - (Lib.bitLen x.toNat : Int) + 9223372036854775808) % 18446744073709551616 - 9223372036854775808 = 64 - (Lib.bitLen x.toNat : Int) := by omega
  have e9 : IntKind.i64.wrap (64 - (Lib.bitLen x.toNat : Int)) = 64 - (Lib.bitLen x.toNat : Int) := by rw [IntKind.wrap_i64]; omega
  go_enter Tryd.func153, Tryd.ntmps153
  go_wp2_with (go_at_call 142; refine (len64_any x _ (by omega) h1).mono ?_; rintro e w' ⟨rfl, rfl⟩)
  go_ret
  exact ⟨rfl, rfl⟩
end Go.Proofs.YtfonpegkaajnkaaDoor
/-
  PLAIN LAWS of math/bits.Div64 (no Go in sight): the school method by halves of a word.
-/
namespace Go.Proofs.YtfonpegkaajnkaaDoor
open Go.RowKit

namespace Dv
/-- one half word of a quotient: q is tried, r is what q leaves of U beside the divisor's upper half -/
structure Inv (U u Y y1 y0 q r : Nat) : Prop where
  split : q * y1 + r = U
  above : U * 4294967296 + u < (q + 1) * Y
  small : q ≤ 4294967297
structure Div (U u Y y1 y0 : Nat) : Prop where
  y : Y = y1 * 4294967296 + y0
  l1 : y1 < 4294967296
  h1 : 2147483648 ≤ y1
  l0 : y0 < 4294967296
  lu : U < Y
  l : u < 4294967296
variable {U u Y y1 y0 q r : Nat}
theorem mulY (D : Div U u Y y1 y0) : q * Y = q * y1 * 4294967296 + q * y0 := by
  rw [D.y, Nat.mul_add, Nat.mul_assoc]
theorem mulY1 (D : Div U u Y y1 y0) : (q + 1) * Y = q * y1 * 4294967296 + q * y0 + Y := by
  rw [Nat.add_mul, Nat.one_mul, mulY D]
theorem init (D : Div U u Y y1 y0) : Inv U u Y y1 y0 (U / y1) (U % y1) := by
  have hy := D.h1
  have e := Nat.div_add_mod U y1
  have l := Nat.mod_lt U (show 0 < y1 by omega)
  have c := Nat.mul_comm y1 (U / y1)
  generalize U / y1 = Q at *
  generalize U % y1 = R at *
  refine ⟨by omega, ?_, ?_⟩
  · rw [mulY1 D, D.y]
    have := D.l
    have : U = Q * y1 + R := by omega
    rw [this]
    generalize Q * y1 = P
    omega
  · have hu := D.lu; rw [D.y] at hu
    have h0 := D.l0
    rcases Nat.lt_or_ge 4294967297 Q with h | h
    · have := Nat.mul_le_mul_right y1 h
      have e2 : (4294967297 + 1) * y1 = 4294967298 * y1 := rfl
      omega
    · exact h
theorem step (D : Div U u Y y1 y0) (h : Inv U u Y y1 y0 q r) (t : 4294967296 ≤ q ∨ 4294967296 * r + u < q * y0) :
    1 ≤ q ∧ Inv U u Y y1 y0 (q - 1) (r + y1) ∧ q - 1 ≤ 4294967296 := by
  have hq : 1 ≤ q := by
    rcases t with t | t
    · omega
    · rcases Nat.eq_zero_or_pos q with e | e
      · subst e; simp at t
      · exact e
  obtain ⟨p, rfl⟩ : ∃ p, q = p + 1 := ⟨q - 1, by omega⟩
  have a := h.split; have b := h.small
  refine ⟨hq, ⟨?_, ?_, by omega⟩, by omega⟩
  · rw [Nat.add_sub_cancel, ← a, Nat.add_mul]; omega
  · rw [Nat.add_sub_cancel]
    rcases t with t | t
    · have h1 : 4294967296 * Y ≤ (p + 1) * Y := Nat.mul_le_mul_right _ t
      have := D.lu; have := D.l
      omega
    · rw [mulY D, ← a]
      generalize (p + 1) * y1 = P at *
      generalize (p + 1) * y0 = S at *
      omega
theorem found (D : Div U u Y y1 y0) (h : Inv U u Y y1 y0 q r) (t : q * y0 ≤ 4294967296 * r + u) : q = (U * 4294967296 + u) / Y := by
  have h1 : q * Y ≤ U * 4294967296 + u := by
    rw [mulY D, ← h.split]
    generalize q * y1 = P
    generalize q * y0 = S at *
    omega
  have hy : 0 < Y := by have := D.lu; omega
  have a := (Nat.le_div_iff_mul_le hy).2 h1
  have b := (Nat.div_lt_iff_lt_mul hy).2 h.above
  omega
theorem broke (D : Div U u Y y1 y0) (hq : q ≤ 4294967296) (hr : 4294967296 ≤ r) : q * y0 ≤ 4294967296 * r + u := by
  have h1 : q * y0 ≤ 4294967296 * y0 := Nat.mul_le_mul_right _ hq
  have := D.l0
  omega
theorem bothB (B U u1 u0 Y : Nat) (hY : 0 < Y) :
    ((U * B + u1) * B + u0) / Y = (U * B + u1) / Y * B + ((U * B + u1) % Y * B + u0) / Y ∧
    ((U * B + u1) * B + u0) % Y = ((U * B + u1) % Y * B + u0) % Y := by
  have e1 := Nat.div_add_mod (U * B + u1) Y
  have e2 := Nat.div_add_mod ((U * B + u1) % Y * B + u0) Y
  have l2 := Nat.mod_lt ((U * B + u1) % Y * B + u0) hY
  generalize (U * B + u1) / Y = Q1 at *
  generalize (U * B + u1) % Y = R1 at *
  generalize (R1 * B + u0) / Y = Q0 at *
  generalize (R1 * B + u0) % Y = R0 at *
  have key : (U * B + u1) * B + u0 = Y * (Q1 * B + Q0) + R0 := by
    rw [← e1, Nat.mul_add, Nat.add_mul, ← Nat.mul_assoc, Nat.add_assoc, ← e2]
    generalize Y * Q1 * B = A
    generalize Y * Q0 = C
    omega
  rw [key]
  refine ⟨?_, ?_⟩
  · rw [Nat.mul_add_div hY, Nat.div_eq_of_lt l2, Nat.add_zero]
  · rw [Nat.mul_add_mod, Nat.mod_eq_of_lt l2]
/-- the two halves together -/
theorem both (U u1 u0 Y : Nat) (hY : 0 < Y) :
    ((U * 4294967296 + u1) * 4294967296 + u0) / Y = (U * 4294967296 + u1) / Y * 4294967296 + ((U * 4294967296 + u1) % Y * 4294967296 + u0) / Y ∧
    ((U * 4294967296 + u1) * 4294967296 + u0) % Y = ((U * 4294967296 + u1) % Y * 4294967296 + u0) % Y := bothB 4294967296 U u1 u0 Y hY
/-- the shift ahead of it -/
theorem shifted (N y s : Nat) : (N * 2 ^ s) / (y * 2 ^ s) = N / y ∧ (N * 2 ^ s) % (y * 2 ^ s) / 2 ^ s = N % y := by
  have hp : 0 < 2 ^ s := Nat.two_pow_pos s
  refine ⟨Nat.mul_div_mul_right _ _ hp, ?_⟩
  rw [Nat.mul_mod_mul_right, Nat.mul_div_cancel _ hp]
theorem upperW (W hi lo y s t : Nat) (hq : 2 ^ s * 2 ^ t = W) (hy : hi < y) (hl : lo < W) (hY : y * 2 ^ s < W) :
    hi * 2 ^ s < W ∧ lo / 2 ^ t < 2 ^ s ∧ hi * 2 ^ s + lo / 2 ^ t < y * 2 ^ s ∧
    (hi * W + lo) * 2 ^ s = (hi * 2 ^ s + lo / 2 ^ t) * W + lo * 2 ^ s % W := by
  have hp : 0 < 2 ^ s := Nat.two_pow_pos s
  have hr : 0 < 2 ^ t := Nat.two_pow_pos _
  have h1 : (hi + 1) * 2 ^ s ≤ y * 2 ^ s := Nat.mul_le_mul_right _ hy
  have h2 : lo / 2 ^ t < 2 ^ s := by
    rw [Nat.div_lt_iff_lt_mul hr, hq]; exact hl
  rw [Nat.add_mul, Nat.one_mul] at h1
  refine ⟨by omega, h2, by omega, ?_⟩
  have e := Nat.div_add_mod lo (2 ^ t)
  have l := Nat.mod_lt lo hr
  have e3 : lo * 2 ^ s = W * (lo / 2 ^ t) + lo % 2 ^ t * 2 ^ s := by
    conv => lhs; rw [← e]
    rw [Nat.add_mul, Nat.mul_right_comm, Nat.mul_comm (2 ^ t) (2 ^ s), hq]
  have l2 : lo % 2 ^ t * 2 ^ s < W := by
    rw [← hq, Nat.mul_comm (2 ^ s)]; exact Nat.mul_lt_mul_of_pos_right l hp
  have e4 : lo * 2 ^ s % W = lo % 2 ^ t * 2 ^ s := by
    rw [e3, Nat.mul_add_mod, Nat.mod_eq_of_lt l2]
  rw [e4, Nat.add_mul, Nat.add_mul, e3, Nat.mul_right_comm, Nat.mul_comm (lo / 2 ^ t) W, Nat.add_assoc]
/-- the number's upper word, shifted -/
theorem upper (hi lo y s : Nat) (hs : s ≤ 63) (hy : hi < y) (hl : lo < 18446744073709551616) (hY : y * 2 ^ s < 18446744073709551616) :
    hi * 2 ^ s < 18446744073709551616 ∧ lo / 2 ^ (64 - s) < 2 ^ s ∧ hi * 2 ^ s + lo / 2 ^ (64 - s) < y * 2 ^ s ∧
    (hi * 18446744073709551616 + lo) * 2 ^ s = (hi * 2 ^ s + lo / 2 ^ (64 - s)) * 18446744073709551616 + lo * 2 ^ s % 18446744073709551616 :=
  upperW 18446744073709551616 hi lo y s (64 - s) (by rw [← Nat.pow_add, show s + (64 - s) = 64 by omega]) hy hl hY
/-- 'or' of two parts that do not meet -/
theorem or_parts (a s b : Nat) (hb : b < 2 ^ s) : a * 2 ^ s ||| b = a * 2 ^ s + b := by
  rw [Nat.mul_comm, Nat.two_pow_add_eq_or_of_lt hb]
/-- the divisor, shifted -/
theorem norm (y s : Nat) (h : y < 18446744073709551616) (h0 : y ≠ 0) (hs : s = 64 - Lib.bitLen y) : s ≤ 63 ∧ y * 2 ^ s < 18446744073709551616 ∧ 9223372036854775808 ≤ y * 2 ^ s := by
  have a := Bt.len_spec y h h0
  have b := Bt.len_le y h h0
  have e : 2 ^ Lib.bitLen y * 2 ^ s = 18446744073709551616 := by rw [← Nat.pow_add, show Lib.bitLen y + s = 64 by omega]
  have hp : 0 < 2 ^ s := Nat.two_pow_pos s
  have c1 : y * 2 ^ s < 2 ^ Lib.bitLen y * 2 ^ s := Nat.mul_lt_mul_of_pos_right a.1 hp
  have c2 : 2 ^ Lib.bitLen y * 2 ^ s ≤ 2 * y * 2 ^ s := Nat.mul_le_mul_right _ a.2
  rw [Nat.mul_assoc] at c2
  omega
end Dv
end Go.Proofs.YtfonpegkaajnkaaDoor
