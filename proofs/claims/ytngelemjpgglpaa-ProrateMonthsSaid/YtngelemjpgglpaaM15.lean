/-
  prorate: wrong; slices.IndexFunc, slices.ContainsFunc of it, walked; CONTRACTS of math/bits at this program: Add64, Sub64, Mul64, Len64, LeadingZeros64.
-/
import Derived.Test.YtngelemjpgglpaaM14
import Derived.Test.YtngelemjpgglpaaM0
import Derived.Shelf.Spec.BitsCarry
import Derived.Lib.Mul64
import Derived.Laws.Bits64b
import Derived.Lib.Strings
import Derived.Lib.Slices
import Derived.Lib.Small
import Derived.Lib.Walk
import Derived.Lib.BitFns
/-
  prorate: wrong; slices.IndexFunc, slices.ContainsFunc of it, walked.
-/
namespace Go.Proofs.Ytngelemjpgglpaa.Pro
open Go Go.RowKit
set_option linter.unusedSimpArgs false
set_option linter.unusedVariables false
attribute [local go_sem ↓] Go.wp_at_zero Go.wp_at_succ

def badW (ws : List Int) : Prop := ∃ x ∈ ws, ¬ okW x
instance (ws : List Int) : Decidable (badW ws) := by unfold badW; exact inferInstance
def wrongV : Value := .func (.func 23) #[] #[]
set_option maxRecDepth 100000 in
theorem wrong_is (x : Int) (w : World) : Calls Try.prog 23 #[.int .i64 x] w fun e w' => e = .returned (.bool (decide (¬ okW x))) ∧ w' = w := by
  by_cases h0 : x < 0
  · have d1 : decide (x < 0) = true := by simpa using h0
    have r : decide (¬ okW x) = true := by simp [okW]; omega
    rw [r]
    go_enter Try.func23, Try.ntmps23
    go_wp2
    go_ret
    exact ⟨rfl, rfl⟩
  · have d1 : decide (x < 0) = false := by simpa using h0
    by_cases h1 : 3652059 < x
    · have d2 : decide (3652059 < x) = true := by simpa using h1
      have r : decide (¬ okW x) = true := by simp [okW]; omega
      rw [r]
      go_enter Try.func23, Try.ntmps23
      go_wp2
      go_ret
      exact ⟨rfl, rfl⟩
    · have d2 : decide (3652059 < x) = false := by simpa using h1
      have r : decide (¬ okW x) = false := by simp [okW]; omega
      rw [r]
      go_enter Try.func23, Try.ntmps23
      go_wp2
      go_ret
      exact ⟨rfl, rfl⟩
set_option maxRecDepth 100000 in
set_option maxHeartbeats 1000000 in
theorem index_is {w : World} {v : Value} {ws : List Int} (ha : ArgI w v ws) (hl : ws.length ≤ 1000000) :
    Calls Try.prog 49 #[v, wrongV] w fun e w' => (∃ i : Int, e = .returned (.int .i64 i) ∧ decide (0 ≤ i) = decide (badW ws)) ∧ w' = w := by
  obtain ⟨ao, cap, rfl, hcap, hcell⟩ := id ha
  have HA := Lib.hid ha
  have HL := Lib.hid hl
  clear ha hl hcell
  unfold wrongV
  go_enter Try.func49, Try.ntmps49
  go_wp2_with fail
  go_loopw [8] (fun i wr => ∃ (k : Nat), i = .int .i64 (k : Int) ∧ k ≤ ws.length ∧ Hid (∀ j x, j < k → ws[j]? = some x → okW x) ∧ Hid (wr = w)) (fun i _ => ws.length - (intOf i).toNat)
  case atStart => exact ⟨0, rfl, by omega, fun j x hj => by omega, rfl⟩
  case round =>
    obtain ⟨wo, rfl⟩ : ∃ wo : World, wo = wr := ⟨_, rfl⟩
    obtain ⟨k, rfl, hk, OK, EW⟩ := hrel
    by_cases hkl : k < ws.length
    · obtain ⟨x, hx⟩ : ∃ x, ws[k]? = some x := ⟨_, List.getElem?_eq_getElem hkl⟩
      obtain ⟨_, _, e, _, hcell⟩ := HA.out
      cases e
      obtain ⟨bl, ol, rfl, hbl, c0⟩ := hcell k x hx
      rw [← EW.out] at c0
      have i0 : (0 : Int) ≤ (k : Int) := by omega
      have i1 : (k : Int) < ((ws.length : Nat) : Int) := by omega
      have HK := Lib.hid hkl
      have HX := Lib.hid hx
      have kw : IntKind.i64.wrap ((k : Int) + 1) = (k : Int) + 1 := by rw [IntWalk.i64_left]; exact IntWalk.wrap64_in _ (by have := HL.out; omega)
      have A := wrong_is x wo
      clear hx hcell hk
      by_cases hw : okW x
      · rw [show decide (¬ okW x) = false by simpa using hw] at A
        have HW := Lib.hid hw
        clear hw
        go_wp2_with (go_at_call 23; (with_reducible refine A.mono ?_); rintro e w20 ⟨rfl, hq⟩; obtain rfl := hq.symm)
        go_roundw
        case rel =>
          refine ⟨k + 1, rfl, by have := HK.out; omega, fun j y hj hy => ?_, EW.out⟩
          by_cases e : j = k
          · subst e; rw [HX.out] at hy; cases hy; exact HW.out
          · exact OK.out j y (by omega) hy
        case measure => show _ - ((k : Int) + 1).toNat < _ - ((k : Int)).toNat; have := HK.out; omega
      · rw [show decide (¬ okW x) = true by simpa using hw] at A
        have HW := Lib.hid hw
        clear hw
        go_wp2_with (go_at_call 23; (with_reducible refine A.mono ?_); rintro e w20 ⟨rfl, hq⟩; obtain rfl := hq.symm)
        go_ret
        refine ⟨⟨(k : Int), rfl, ?_⟩, EW.out⟩
        have : badW ws := ⟨x, List.mem_of_getElem? HX.out, HW.out⟩
        simp [this]
    · have hke : k = ws.length := by omega
      subst hke
      clear hkl hk
      go_wp2_with fail
      go_ret
      refine ⟨⟨-1, rfl, ?_⟩, EW.out⟩
      have : ¬ badW ws := by
        rintro ⟨x, hx, hn⟩
        obtain ⟨j, hj⟩ := List.getElem?_of_mem hx
        exact hn (OK.out j x (List.getElem?_eq_some_iff.1 hj).1 hj)
      simp [this]
theorem contains_is {w : World} {v : Value} {ws : List Int} (ha : ArgI w v ws) (hl : ws.length ≤ 1000000) :
    Calls Try.prog 22 #[v, wrongV] w fun e w' => e = .returned (.bool (decide (badW ws))) ∧ w' = w := by
  have A := index_is ha hl
  unfold wrongV at A ⊢
  clear ha hl
  go_enter Try.func22, Try.ntmps22
  go_wp2_with (go_at_call 49; go_loud (refine A.mono ?_); rintro e w20 ⟨⟨i, rfl, hi⟩, hq⟩; obtain rfl := hq.symm; clear A)
  go_ret
  exact ⟨rfl, rfl⟩
end Go.Proofs.Ytngelemjpgglpaa.Pro
/-
  CONTRACTS of math/bits at this program: Add64, Sub64, Mul64, Len64, LeadingZeros64.
-/
namespace Go.Proofs.Ytngelemjpgglpaa
open Go.RowKit

def W64 : Int := 18446744073709551616

theorem add64 (x y c : Int) (hx : 0 ≤ x) (hy : 0 ≤ y) (hx' : x < 18446744073709551616) (hy' : y < 18446744073709551616) (hc0 : 0 ≤ c) (hc : c ≤ 1) (w : World) : (callFunc 51 #[.int .u64 x, .int .u64 y, .int .u64 c]).run Try.prog w =
    .ok (.value (.tuple #[.int .u64 ((x + y + c) % 18446744073709551616), .int .u64 ((x + y + c) / 18446744073709551616)])) w := by
  obtain ⟨x, rfl⟩ := Int.eq_ofNat_of_zero_le hx
  obtain ⟨y, rfl⟩ := Int.eq_ofNat_of_zero_le hy
  obtain ⟨c, rfl⟩ := Int.eq_ofNat_of_zero_le hc0
  rw [run_callFunc_extern Try.func51 (by kernel_rfl) (by kernel_rfl) (by kernel_rfl) (e := add64Entry) (by kernel_rfl), run_add64 x y c (by omega) (by omega) (by omega) (by omega)]
  simp only [Result.andThen]
theorem sub64 (x y b : Int) (hx : 0 ≤ x) (hx' : x < 18446744073709551616) (hy : 0 ≤ y) (hy' : y < 18446744073709551616) (hb0 : 0 ≤ b) (hb : b ≤ 1) (w : World) : (callFunc 58 #[.int .u64 x, .int .u64 y, .int .u64 b]).run Try.prog w =
    .ok (.value (.tuple #[.int .u64 ((x - y - b) % 18446744073709551616), .int .u64 (if x < y + b then 1 else 0)])) w := by
  obtain ⟨x, rfl⟩ := Int.eq_ofNat_of_zero_le hx
  obtain ⟨y, rfl⟩ := Int.eq_ofNat_of_zero_le hy
  obtain ⟨b, rfl⟩ := Int.eq_ofNat_of_zero_le hb0
  have e1 : (((x + 18446744073709551616 - y - b) % 18446744073709551616 : Nat) : Int) = ((x : Int) - y - b) % 18446744073709551616 := by omega
  have e2 : ((if x < y + b then 1 else 0 : Nat) : Int) = if (x : Int) < y + b then 1 else 0 := by split <;> split <;> omega
  rw [← e1, ← e2]
  rw [run_callFunc_extern Try.func58 (by kernel_rfl) (by kernel_rfl) (by kernel_rfl) (e := sub64Entry) (by kernel_rfl), run_sub64 x y b (by omega)]
  rfl

namespace Bt
theorem maskN (a : Nat) (ha : a < 18446744073709551616) : bits .and .u64 (a : Int) 4294967295 = ((a % 4294967296 : Nat) : Int) := by
  have h := bits_and_u64_nat a 4294967295 ha (by omega)
  have e : a &&& 4294967295 = a % 4294967296 := Nat.and_two_pow_sub_one_eq_mod a 32
  rw [e] at h
  exact h
theorem divN (a : Nat) : (a : Int) / 4294967296 = ((a / 4294967296 : Nat) : Int) := by omega
theorem mulN (a b : Nat) : (a : Int) * (b : Int) = ((a * b : Nat) : Int) := (Int.natCast_mul a b).symm
theorem addN (a b : Nat) : (a : Int) + (b : Int) = ((a + b : Nat) : Int) := (Int.natCast_add a b).symm
theorem wrapN (a : Nat) (ha : a < 18446744073709551616) : IntKind.u64.wrap (a : Int) = (a : Int) := by rw [IntKind.wrap_u64]; omega
theorem wrapM (a : Nat) : IntKind.u64.wrap (a : Int) = ((a % 18446744073709551616 : Nat) : Int) := by rw [IntKind.wrap_u64]; omega
theorem aux_spec : ∀ (f x : Nat), x < 2 ^ f → x < 2 ^ Lib.bitLenAux f x ∧ (x ≠ 0 → 2 ^ Lib.bitLenAux f x ≤ 2 * x)
  | 0, x, h => by simp at h; subst h; simp [Lib.bitLenAux]
  | f + 1, x, h => by
    simp only [Lib.bitLenAux]
    split
    · rename_i e; subst e; simp
    · have ih := aux_spec f (x / 2) (by rw [Nat.pow_succ] at h; omega)
      rw [Nat.add_comm, Nat.pow_succ]
      refine ⟨by omega, fun _ => ?_⟩
      by_cases e : x / 2 = 0
      · have : x = 1 := by omega
        subst this
        cases f <;> simp [Lib.bitLenAux]
      · have := ih.2 e; omega
theorem len_spec (x : Nat) (h : x < 18446744073709551616) (h0 : x ≠ 0) : x < 2 ^ Lib.bitLen x ∧ 2 ^ Lib.bitLen x ≤ 2 * x := ⟨(aux_spec 64 x h).1, (aux_spec 64 x h).2 h0⟩
theorem len_le (x : Nat) (h : x < 18446744073709551616) (h0 : x ≠ 0) : 1 ≤ Lib.bitLen x ∧ Lib.bitLen x ≤ 64 := by
  have s := len_spec x h h0
  constructor
  · rcases Nat.eq_zero_or_pos (Lib.bitLen x) with e | e
    · rw [e] at s; omega
    · exact e
  · have : 2 ^ Lib.bitLen x < 2 ^ 65 := by omega
    have := (Nat.pow_lt_pow_iff_right (by omega : 1 < 2)).1 this
    omega
theorem tab (b : Int) (h0 : 0 ≤ b) (h1 : b < 256) (h : b.toNat < Lib.len8tab.size) : ((Lib.len8tab[b.toNat]'h).toNat : Int) = (Lib.bitLen b.toNat : Int) := by
  have e := Lib.len8_of b h0 (by omega)
  unfold Lib.len8 at e
  rw [getElem?_pos Lib.len8tab b.toNat h] at e
  exact e
theorem wr (K : Int) (k z : Nat) (hK : K = k) (hk : k ≤ 56) (hz : z ≤ 8) : wrap64 (K + wrap64 (z : Int)) = ((k + z : Nat) : Int) := by unfold wrap64; omega
theorem wr0 (z : Nat) (hz : z ≤ 8) : wrap64 (wrap64 (z : Int)) = (z : Int) := by unfold wrap64; omega
end Bt

set_option maxHeartbeats 1000000 in
theorem mul64_any (x y : Nat) (hx : x < 18446744073709551616) (hy : y < 18446744073709551616) (w : World) :
    Calls Try.prog 50 #[.int .u64 x, .int .u64 y] w fun e w' => e = .returned (.tuple #[.int .u64 ((x * y / 18446744073709551616 : Nat) : Int), .int .u64 ((x * y % 18446744073709551616 : Nat) : Int)]) ∧ w' = w := by
  obtain ⟨bd, bt, bw, hhi⟩ := Lib.mul64_hi x y hx hy
  have ba := Lib.half_mul_le (a := x / 4294967296) (b := y / 4294967296) (by omega) (by omega)
  have bb := Lib.half_mul_le (a := x / 4294967296) (b := y % 4294967296) (by omega) (by omega)
  have bc := Lib.half_mul_le (a := x % 4294967296) (b := y / 4294967296) (by omega) (by omega)
  have ba' : x / 4294967296 * (y / 4294967296) < 18446744073709551616 := by omega
  have bb' : x / 4294967296 * (y % 4294967296) < 18446744073709551616 := by omega
  have bc' : x % 4294967296 * (y / 4294967296) < 18446744073709551616 := by omega
  have bh1 : x / 4294967296 * (y / 4294967296) + (x / 4294967296 * (y % 4294967296) + x % 4294967296 * (y % 4294967296) / 4294967296) / 4294967296 < 18446744073709551616 := by omega
  have bh : x / 4294967296 * (y / 4294967296) + (x / 4294967296 * (y % 4294967296) + x % 4294967296 * (y % 4294967296) / 4294967296) / 4294967296 + ((x / 4294967296 * (y % 4294967296) + x % 4294967296 * (y % 4294967296) / 4294967296) % 4294967296 + x % 4294967296 * (y / 4294967296)) / 4294967296 < 18446744073709551616 := by omega
  go_enter Try.func50, Try.ntmps50
  go_wp2
  simp only [Bt.maskN x hx, Bt.maskN y hy, Bt.divN, Bt.mulN, Bt.addN, Bt.wrapN _ bd, Bt.wrapN _ bb', Bt.wrapN _ bt, Bt.maskN _ bt, Bt.wrapN _ bc', Bt.wrapN _ bw, Bt.wrapN _ ba', Bt.wrapN _ bh1, Bt.wrapN _ bh, Bt.wrapM (x * y)]
  rw [hhi]
  go_ret2
  exact ⟨rfl, rfl⟩

set_option maxHeartbeats 4000000 in
set_option maxRecDepth 100000 in
theorem len64_any (x : Int) (w : World) (h0 : 0 ≤ x) (h1 : x ≤ 18446744073709551615) :
    Calls Try.prog 85 #[.int .u64 x] w fun e w' => e = .returned (.int .i64 (Lib.bitLen x.toNat)) ∧ w' = w := by
  go_enter Try.func85, Try.ntmps85
  go_wp2
  all_goals have hs := Lib.len8tab_size
  all_goals first
    | (exfalso; omega)
    | (have _g0 := ‹256 ≤ x / 4294967296 / 65536›
       have hb := Bt.tab (x / 4294967296 / 65536 / 256) (by omega) (by omega) (by omega)
       have e : (x / 4294967296 / 65536 / 256).toNat = x.toNat / 72057594037927936 := by omega
       have l := Lib.bitLen_le8' (x / 4294967296 / 65536 / 256) (by omega) (by omega)
       have s := Lib.bitLen_shift56 x.toNat (by omega) (by omega)
       have e2 := congrArg Lib.bitLen e
       refine bodyPost_ret (v := .int .i64 (Lib.bitLen x.toNat)) (by simp [results, Try.results85, go_sem, hb]; rw [s, ← e2]; exact Bt.wr 56 56 _ rfl (by decide) l) rfl ⟨rfl, rfl⟩)
    | (have _g0 := ‹65536 ≤ x / 4294967296›; have _g1 := ‹x / 4294967296 / 65536 < 256›
       have hb := Bt.tab (x / 4294967296 / 65536) (by omega) (by omega) (by omega)
       have e : (x / 4294967296 / 65536).toNat = x.toNat / 281474976710656 := by omega
       have l := Lib.bitLen_le8' (x / 4294967296 / 65536) (by omega) (by omega)
       have s := Lib.bitLen_shift48 x.toNat (by omega) (by omega)
       have e2 := congrArg Lib.bitLen e
       refine bodyPost_ret (v := .int .i64 (Lib.bitLen x.toNat)) (by simp [results, Try.results85, go_sem, hb]; rw [s, ← e2]; exact Bt.wr 48 48 _ rfl (by decide) l) rfl ⟨rfl, rfl⟩)
    | (have _g0 := ‹x / 4294967296 < 65536›; have _g1 := ‹256 ≤ x / 4294967296›
       have hb := Bt.tab (x / 4294967296 / 256) (by omega) (by omega) (by omega)
       have e : (x / 4294967296 / 256).toNat = x.toNat / 1099511627776 := by omega
       have l := Lib.bitLen_le8' (x / 4294967296 / 256) (by omega) (by omega)
       have s := Lib.bitLen_shift40 x.toNat (by omega) (by omega)
       have e2 := congrArg Lib.bitLen e
       refine bodyPost_ret (v := .int .i64 (Lib.bitLen x.toNat)) (by simp [results, Try.results85, go_sem, hb]; rw [s, ← e2]; exact Bt.wr 40 40 _ rfl (by decide) l) rfl ⟨rfl, rfl⟩)
    | (have _g0 := ‹x / 4294967296 < 65536›; have _g1 := ‹x / 4294967296 < 256›
       have hb := Bt.tab (x / 4294967296) (by omega) (by omega) (by omega)
       have e : (x / 4294967296).toNat = x.toNat / 4294967296 := by omega
       have l := Lib.bitLen_le8' (x / 4294967296) (by omega) (by omega)
       have s := Lib.bitLen_shift32 x.toNat (by omega) (by omega)
       have e2 := congrArg Lib.bitLen e
       refine bodyPost_ret (v := .int .i64 (Lib.bitLen x.toNat)) (by simp [results, Try.results85, go_sem, hb]; rw [s, ← e2]; exact Bt.wr 32 32 _ rfl (by decide) l) rfl ⟨rfl, rfl⟩)
    | (have _g0 := ‹256 ≤ x / 65536›
       have hb := Bt.tab (x / 65536 / 256) (by omega) (by omega) (by omega)
       have e : (x / 65536 / 256).toNat = x.toNat / 16777216 := by omega
       have l := Lib.bitLen_le8' (x / 65536 / 256) (by omega) (by omega)
       have s := Lib.bitLen_shift24 x.toNat (by omega) (by omega)
       have e2 := congrArg Lib.bitLen e
       refine bodyPost_ret (v := .int .i64 (Lib.bitLen x.toNat)) (by simp [results, Try.results85, go_sem, hb]; rw [s, ← e2]; exact Bt.wr 24 24 _ rfl (by decide) l) rfl ⟨rfl, rfl⟩)
    | (have _g0 := ‹x / 65536 < 256›
       have hb := Bt.tab (x / 65536) (by omega) (by omega) (by omega)
       have e : (x / 65536).toNat = x.toNat / 65536 := by omega
       have l := Lib.bitLen_le8' (x / 65536) (by omega) (by omega)
       have s := Lib.bitLen_shift16 x.toNat (by omega) (by omega)
       have e2 := congrArg Lib.bitLen e
       refine bodyPost_ret (v := .int .i64 (Lib.bitLen x.toNat)) (by simp [results, Try.results85, go_sem, hb]; rw [s, ← e2]; exact Bt.wr 16 16 _ rfl (by decide) l) rfl ⟨rfl, rfl⟩)
    | (have _g0 := ‹x < 256›
       have hb := Bt.tab x (by omega) (by omega) (by omega)
       have l := Lib.bitLen_le8' x (by omega) (by omega)
       refine bodyPost_ret (v := .int .i64 (Lib.bitLen x.toNat)) (by simp [results, Try.results85, go_sem, hb]; exact Bt.wr0 _ l) rfl ⟨rfl, rfl⟩)
    | (have _g0 := ‹x < 65536›; have _g1 := ‹256 ≤ x›
       have hb := Bt.tab (x / 256) (by omega) (by omega) (by omega)
       have e : (x / 256).toNat = x.toNat / 256 := by omega
       have l := Lib.bitLen_le8' (x / 256) (by omega) (by omega)
       have s := Lib.bitLen_shift8 x.toNat (by omega) (by omega)
       have e2 := congrArg Lib.bitLen e
       refine bodyPost_ret (v := .int .i64 (Lib.bitLen x.toNat)) (by simp [results, Try.results85, go_sem, hb]; rw [s, ← e2]; exact Bt.wr 8 8 _ rfl (by decide) l) rfl ⟨rfl, rfl⟩)

theorem lz64_any (x : Int) (w : World) (h0 : 0 < x) (h1 : x ≤ 18446744073709551615) :
    Calls Try.prog 84 #[.int .u64 x] w fun e w' => e = .returned (.int .i64 (64 - (Lib.bitLen x.toNat : Int))) ∧ w' = w := by
  have hl := Bt.len_le x.toNat (by omega) (by omega)
  have e8 : (64 - (Lib.bitLen x.toNat : Int) + 9223372036854775808) % 18446744073709551616 - 9223372036854775808 = 64 - (Lib.bitLen x.toNat : Int) := by omega
  have e9 : IntKind.i64.wrap (64 - (Lib.bitLen x.toNat : Int)) = 64 - (Lib.bitLen x.toNat : Int) := by rw [IntKind.wrap_i64]; omega
  go_enter Try.func84, Try.ntmps84
  go_wp2_with (go_at_call 85; refine (len64_any x _ (by omega) h1).mono ?_; rintro e w' ⟨rfl, rfl⟩)
  go_ret
  exact ⟨rfl, rfl⟩
end Go.Proofs.Ytngelemjpgglpaa
