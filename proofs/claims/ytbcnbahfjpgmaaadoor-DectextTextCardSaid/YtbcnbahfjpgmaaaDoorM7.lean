/-
  CONTRACTS of math/bits at this program: Add64, Sub64, Mul64, Len64, LeadingZeros64.
-/
import Derived.Test.YtbcnbahfjpgmaaaDoorM4
import Derived.Shelf.Spec.BitsCarry
import Derived.Lib.Mul64
import Derived.Laws.Bits64b
import Derived.Lib.Strings
import Derived.Lib.Slices
import Derived.Lib.Small
import Derived.Lib.Walk
import Derived.Lib.BitFns
/-
  CONTRACTS of math/bits at this program: Add64, Sub64, Mul64, Len64, LeadingZeros64.
-/
namespace Go.Proofs.YtbcnbahfjpgmaaaDoor
open Go.RowKit

def W64 : Int := 18446744073709551616

theorem add64 (x y c : Int) (hx : 0 ≤ x) (hy : 0 ≤ y) (hx' : x < 18446744073709551616) (hy' : y < 18446744073709551616) (hc0 : 0 ≤ c) (hc : c ≤ 1) (w : World) : (callFunc 80 #[.int .u64 x, .int .u64 y, .int .u64 c]).run Tryd.prog w =
    .ok (.value (.tuple #[.int .u64 ((x + y + c) % 18446744073709551616), .int .u64 ((x + y + c) / 18446744073709551616)])) w := by
  obtain ⟨x, rfl⟩ := Int.eq_ofNat_of_zero_le hx
  obtain ⟨y, rfl⟩ := Int.eq_ofNat_of_zero_le hy
  obtain ⟨c, rfl⟩ := Int.eq_ofNat_of_zero_le hc0
  rw [run_callFunc_extern Tryd.func80 (by kernel_rfl) (by kernel_rfl) (by kernel_rfl) (e := add64Entry) (by kernel_rfl), run_add64 x y c (by omega) (by omega) (by omega) (by omega)]
  simp only [Result.andThen]
namespace Bt
theorem maskN (a : Nat) (ha : a < 18446744073709551616) : bits .and .u64 (a : Int) 4294967295 = ((a % 4294967296 : Nat) : Int) := by
  have h := bits_and_u64_nat a 4294967295 ha (by omega)
  have e : a &&& 4294967295 = a % 4294967296 := Nat.and_two_pow_sub_one_eq_mod a 32
  rw [e] at h
  exact h
theorem divN (a : Nat) : (a : Int) / 4294967296 = ((a / 4294967296 : Nat) : Int) := by omega
theorem mulN (a b : Nat) : (a : Int) * (b : Int) = ((a * b : Nat) : Int) := (Int.natCast_mul a b).symm
theorem addN (a b : Nat) : (a : Int) + (b : Int) = ((a + b : Nat) : Int) := (Int.natCast_add a b).symm
theorem wrapN (a : Nat) (ha : a < 18446744073709551616) : IntKind.u64.wrap (a : Int) = (a : Int) := by rw [IntKind.wrap_u64]; omega
theorem wrapM (a : Nat) : IntKind.u64.wrap (a : Int) = ((a % 18446744073709551616 : Nat) : Int) := by rw [IntKind.wrap_u64]; omega
theorem aux_spec : ∀ (f x : Nat), x < 2 ^ f → x < 2 ^ Lib.bitLenAux f x ∧ (x ≠ 0 → 2 ^ Lib.bitLenAux f x ≤ 2 * x)
  | 0, x, h => by simp at h; subst h; simp [Lib.bitLenAux]
  | f + 1, x, h => by
    simp only [Lib.bitLenAux]
    split
    · rename_i e; subst e; simp
    · have ih := aux_spec f (x / 2) (by rw [Nat.pow_succ] at h; omega)
      rw [Nat.add_comm, Nat.pow_succ]
      refine ⟨by omega, fun _ => ?_⟩
      by_cases e : x / 2 = 0
      · have : x = 1 := by omega
        subst this
        cases f <;> simp [Lib.bitLenAux]
      · have := ih.2 e; omega
theorem len_spec (x : Nat) (h : x < 18446744073709551616) (h0 : x ≠ 0) : x < 2 ^ Lib.bitLen x ∧ 2 ^ Lib.bitLen x ≤ 2 * x := ⟨(aux_spec 64 x h).1, (aux_spec 64 x h).2 h0⟩
theorem len_le (x : Nat) (h : x < 18446744073709551616) (h0 : x ≠ 0) : 1 ≤ Lib.bitLen x ∧ Lib.bitLen x ≤ 64 := by
  have s := len_spec x h h0
  constructor
  · rcases Nat.eq_zero_or_pos (Lib.bitLen x) with e | e
    · rw [e] at s; omega
    · exact e
  · have : 2 ^ Lib.bitLen x < 2 ^ 65 := by omega
    have := (Nat.pow_lt_pow_iff_right (by omega : 1 < 2)).1 this
    omega
theorem tab (b : Int) (h0 : 0 ≤ b) (h1 : b < 256) (h : b.toNat < Lib.len8tab.size) : ((Lib.len8tab[b.toNat]'h).toNat : Int) = (Lib.bitLen b.toNat : Int) := by
  have e := Lib.len8_of b h0 (by omega)
  unfold Lib.len8 at e
  rw [getElem?_pos Lib.len8tab b.toNat h] at e
  exact e
theorem wr (K : Int) (k z : Nat) (hK : K = k) (hk : k ≤ 56) (hz : z ≤ 8) : wrap64 (K + wrap64 (z : Int)) = ((k + z : Nat) : Int) := by unfold wrap64; omega
theorem wr0 (z : Nat) (hz : z ≤ 8) : wrap64 (wrap64 (z : Int)) = (z : Int) := by unfold wrap64; omega
end Bt

set_option maxHeartbeats 4000000 in
set_option maxRecDepth 100000 in
theorem len64_any (x : Int) (w : World) (h0 : 0 ≤ x) (h1 : x ≤ 18446744073709551615) :
    Calls Tryd.prog 67 #[.int .u64 x] w fun e w' => e = .returned (.int .i64 (Lib.bitLen x.toNat)) ∧ w' = w := by
  go_enter Tryd.func67, Tryd.ntmps67
  go_wp2
  all_goals have hs := Lib.len8tab_size
  all_goals first
    | (exfalso; omega)
    | (have _g0 := ‹256 ≤ x / 4294967296 / 65536›
       have hb := Bt.tab (x / 4294967296 / 65536 / 256) (by omega) (by omega) (by omega)
       have e : (x / 4294967296 / 65536 / 256).toNat = x.toNat / 72057594037927936 := by omega
       have l := Lib.bitLen_le8' (x / 4294967296 / 65536 / 256) (by omega) (by omega)
       have s := Lib.bitLen_shift56 x.toNat (by omega) (by omega)
       have e2 := congrArg Lib.bitLen e
       refine bodyPost_ret (v := .int .i64 (Lib.bitLen x.toNat)) (by simp [results, Tryd.results67, go_sem, hb]; rw [s, ← e2]; exact Bt.wr 56 56 _ rfl (by decide) l) rfl ⟨rfl, rfl⟩)
    | (have _g0 := ‹65536 ≤ x / 4294967296›; have _g1 := ‹x / 4294967296 / 65536 < 256›
       have hb := Bt.tab (x / 4294967296 / 65536) (by omega) (by omega) (by omega)
       have e : (x / 4294967296 / 65536).toNat = x.toNat / 281474976710656 := by omega
       have l := Lib.bitLen_le8' (x / 4294967296 / 65536) (by omega) (by omega)
       have s := Lib.bitLen_shift48 x.toNat (by omega) (by omega)
       have e2 := congrArg Lib.bitLen e
       refine bodyPost_ret (v := .int .i64 (Lib.bitLen x.toNat)) (by simp [results, Tryd.results67, go_sem, hb]; rw [s, ← e2]; exact Bt.wr 48 48 _ rfl (by decide) l) rfl ⟨rfl, rfl⟩)
    | (have _g0 := ‹x / 4294967296 < 65536›; have _g1 := ‹256 ≤ x / 4294967296›
       have hb := Bt.tab (x / 4294967296 / 256) (by omega) (by omega) (by omega)
       have e : (x / 4294967296 / 256).toNat = x.toNat / 1099511627776 := by omega
       have l := Lib.bitLen_le8' (x / 4294967296 / 256) (by omega) (by omega)
       have s := Lib.bitLen_shift40 x.toNat (by omega) (by omega)
       have e2 := congrArg Lib.bitLen e
       refine bodyPost_ret (v := .int .i64 (Lib.bitLen x.toNat)) (by simp [results, Tryd.results67, go_sem, hb]; rw [s, ← e2]; exact Bt.wr 40 40 _ rfl (by decide) l) rfl ⟨rfl, rfl⟩)
    | (have _g0 := ‹x / 4294967296 < 65536›; have _g1 := ‹x / 4294967296 < 256›
       have hb := Bt.tab (x / 4294967296) (by omega) (by omega) (by omega)
       have e : (x / 4294967296).toNat = x.toNat / 4294967296 := by omega
       have l := Lib.bitLen_le8' (x / 4294967296) (by omega) (by omega)
       have s := Lib.bitLen_shift32 x.toNat (by omega) (by omega)
       have e2 := congrArg Lib.bitLen e
       refine bodyPost_ret (v := .int .i64 (Lib.bitLen x.toNat)) (by simp [results, Tryd.results67, go_sem, hb]; rw [s, ← e2]; exact Bt.wr 32 32 _ rfl (by decide) l) rfl ⟨rfl, rfl⟩)
    | (have _g0 := ‹256 ≤ x / 65536›
       have hb := Bt.tab (x / 65536 / 256) (by omega) (by omega) (by omega)
       have e : (x / 65536 / 256).toNat = x.toNat / 16777216 := by omega
       have l := Lib.bitLen_le8' (x / 65536 / 256) (by omega) (by omega)
       have s := Lib.bitLen_shift24 x.toNat (by omega) (by omega)
       have e2 := congrArg Lib.bitLen e
       refine bodyPost_ret (v := .int .i64 (Lib.bitLen x.toNat)) (by simp [results, Tryd.results67, go_sem, hb]; rw [s, ← e2]; exact Bt.wr 24 24 _ rfl (by decide) l) rfl ⟨rfl, rfl⟩)
    | (have _g0 := ‹x / 65536 < 256›
       have hb := Bt.tab (x / 65536) (by omega) (by omega) (by omega)
       have e : (x / 65536).toNat = x.toNat / 65536 := by omega
       have l := Lib.bitLen_le8' (x / 65536) (by omega) (by omega)
       have s := Lib.bitLen_shift16 x.toNat (by omega) (by omega)
       have e2 := congrArg Lib.bitLen e
       refine bodyPost_ret (v := .int .i64 (Lib.bitLen x.toNat)) (by simp [results, Tryd.results67, go_sem, hb]; rw [s, ← e2]; exact Bt.wr 16 16 _ rfl (by decide) l) rfl ⟨rfl, rfl⟩)
    | (have _g0 := ‹x < 256›
       have hb := Bt.tab x (by omega) (by omega) (by omega)
       have l := Lib.bitLen_le8' x (by omega) (by omega)
       refine bodyPost_ret (v := .int .i64 (Lib.bitLen x.toNat)) (by simp [results, Tryd.results67, go_sem, hb]; exact Bt.wr0 _ l) rfl ⟨rfl, rfl⟩)
    | (have _g0 := ‹x < 65536›; have _g1 := ‹256 ≤ x›
       have hb := Bt.tab (x / 256) (by omega) (by omega) (by omega)
       have e : (x / 256).toNat = x.toNat / 256 := by omega
       have l := Lib.bitLen_le8' (x / 256) (by omega) (by omega)
       have s := Lib.bitLen_shift8 x.toNat (by omega) (by omega)
       have e2 := congrArg Lib.bitLen e
       refine bodyPost_ret (v := .int .i64 (Lib.bitLen x.toNat)) (by simp [results, Tryd.results67, go_sem, hb]; rw [s, ← e2]; exact Bt.wr 8 8 _ rfl (by decide) l) rfl ⟨rfl, rfl⟩)

theorem lz64_any (x : Int) (w : World) (h0 : 0 < x) (h1 : x ≤ 18446744073709551615) :
    Calls Tryd.prog 87 #[.int .u64 x] w fun e w' => e = .returned (.int .i64 (64 - (Lib.bitLen x.toNat : Int))) ∧ w' = w := by
  have hl := Bt.len_le x.toNat (by omega) (by omega)
  have e8 : (64 - (Lib.bitLen x.toNat : Int) + 9223372036854775808) % 18446744073709551616 - 9223372036854775808 = 64 - (Lib.bitLen x.toNat : Int) := by omega
  have e9 : IntKind.i64.wrap (64 - (Lib.bitLen x.toNat : Int)) = 64 - (Lib.bitLen x.toNat : Int) := by rw [IntKind.wrap_i64]; omega
  go_enter Tryd.func87, Tryd.ntmps87
  go_wp2_with (go_at_call 67; refine (len64_any x _ (by omega) h1).mono ?_; rintro e w' ⟨rfl, rfl⟩)
  go_ret
  exact ⟨rfl, rfl⟩
end Go.Proofs.YtbcnbahfjpgmaaaDoor
