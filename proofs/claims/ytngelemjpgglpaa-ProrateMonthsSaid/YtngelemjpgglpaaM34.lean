/-
  prorate.Shares, whatever comes; the document's Same; The laws' known shares; decimal's functions, walked: Cmp, Add, Sub; decimal's functions, walked: Mul, Div, Neg, Abs, Round, Of, May.
-/
import Derived.Test.YtngelemjpgglpaaM33
import Derived.BigQuiet
import Derived.Laws.StructEq
import Derived.Deep.QuietTactic
import Derived.Test.YtngelemjpgglpaaM29
/-
  prorate.Shares, whatever comes; the document's Same.
-/
namespace Go.Proofs.Ytngelemjpgglpaa.Pro
open Go Go.RowKit
set_option linter.unusedSimpArgs false
set_option linter.unusedVariables false
attribute [local go_sem ↓] Go.wp_at_zero Go.wp_at_succ

theorem shares_any {w : World} {v : Value} {ws : List Int} (c n s : Int) (hc : fits c) (ha : ArgI w v ws) (hl : ws.length ≤ 1000000) :
    Calls Try.prog 7 #[.agg #[.int .i64 c, .int .i64 n], .int .i64 s, v] w (SharesPost c n s ws w) := by
  cases hn : isB n with
  | false => exact shares_none c n s hc ha hn
  | true =>
    obtain ⟨m, rfl, hm⟩ := isB_nat hn
    exact shares_nat c s m hc ha hl hm
theorem below_drewN {n : Nat} {w w' : World} (h : Below n w w') : ∀ q, Below n w (w'.drewN q)
  | 0 => h
  | q + 1 => ⟨h.os, h.tape, h.output, h.size, h.block⟩
theorem argD {w : World} {v : Value} {xs : List (Int × Nat)} (h : decE.Arg w v xs) : ∃ (ao : Option Addr) (cap : Nat), v = .slice ao xs.length cap ∧ ∀ (i : Nat) (x : Int × Nat), xs[i]? = some x → ∃ b o : Nat, ao = some ⟨b, o, none⟩ ∧ b < w.heap.size ∧
    w.cell? ⟨b, o + i * 2, none⟩ = some (.int .i64 x.1) ∧ w.cell? ⟨b, o + i * 2 + 1, none⟩ = some (.int .i64 (x.2 : Int)) := by
  obtain ⟨ao, cap, e, _, h⟩ := h
  refine ⟨ao, cap, e, fun i x hx => ?_⟩
  obtain ⟨b, o, h1, h2, h3⟩ := h i x hx
  exact ⟨b, o, h1, h2, h3 0 _ rfl, h3 1 _ rfl⟩
set_option maxRecDepth 100000 in
set_option maxHeartbeats 1000000 in
theorem same_is {w : World} {va vb : Value} {xs ys : List (Int × Nat)} (ha : decE.Arg w va xs) (hb : decE.Arg w vb ys) (hl : xs.length ≤ 1000000) :
    Calls Try.prog 9 #[va, vb] w fun e w' => e = .returned (.bool (decide (xs = ys))) ∧ Below w.heap.size w w' := by
  obtain ⟨aa, ca, rfl, h1⟩ := argD ha
  obtain ⟨ab, cb, rfl, h2⟩ := argD hb
  have HA := Lib.hid h1; have HB := Lib.hid h2; have HL := Lib.hid hl
  obtain ⟨R, hR⟩ : ∃ b, Hid (decide (xs = ys) = b) := ⟨_, rfl⟩
  rw [hR.out]
  clear ha hb h1 h2 hl
  by_cases hlen : xs.length = ys.length
  · have e0 : decide ((xs.length : Int) = (ys.length : Int)) = true := by simp; omega
    have e1 : ((xs.length : Int) != (ys.length : Int)) = false := by simp; omega
    have LE := Lib.hid hlen
    clear hlen
    go_enter Try.func9, Try.ntmps9
    go_wp2_with fail
    go_loopw [5] (fun i wr => ∃ (k : Nat), i = .int .i64 (k : Int) ∧ k ≤ xs.length ∧ Hid (xs.take k = ys.take k) ∧ Hid (Below w.heap.size w wr)) (fun i _ => xs.length - (intOf i).toNat)
    case atStart => exact ⟨0, rfl, by omega, rfl, Below.refl _ _⟩
    case round =>
      obtain ⟨wo, rfl⟩ : ∃ wo : World, wo = wr := ⟨_, rfl⟩
      obtain ⟨k, rfl, hk, HE, B⟩ := hrel
      by_cases hkl : k < xs.length
      · obtain ⟨x, hx⟩ : ∃ x, xs[k]? = some x := ⟨_, List.getElem?_eq_getElem hkl⟩
        obtain ⟨y, hy⟩ : ∃ y, ys[k]? = some y := ⟨_, List.getElem?_eq_getElem (by rw [← LE.out]; exact hkl)⟩
        obtain ⟨ba', oa, rfl, l1, c0, c1⟩ := HA.out k x hx
        obtain ⟨bb, ob, rfl, l2, d0, d1⟩ := HB.out k y hy
        have i0 : (0 : Int) ≤ (k : Int) := by omega
        have i1 : (k : Int) < ((xs.length : Nat) : Int) := by omega
        have i2 : (k : Int) < ((ys.length : Nat) : Int) := by have := LE.out; omega
        have c0' := (B.out.cell (p := ⟨ba', _, none⟩) l1).trans c0; have c1' := (B.out.cell (p := ⟨ba', _, none⟩) l1).trans c1
        have d0' := (B.out.cell (p := ⟨bb, _, none⟩) l2).trans d0; have d1' := (B.out.cell (p := ⟨bb, _, none⟩) l2).trans d1
        have HK := Lib.hid hkl
        have HX := Lib.hid hx; have HY := Lib.hid hy
        have kw : IntKind.i64.wrap ((k : Int) + 1) = (k : Int) + 1 := by rw [IntWalk.i64_left]; exact IntWalk.wrap64_in _ (by have := HL.out; omega)
        obtain ⟨x1, x2⟩ := x
        obtain ⟨y1, y2⟩ := y
        clear hx hy hkl hk c0 c1 d0 d1
        dsimp only at c0' c1' d0' d1'
        go_upto_region 6 with fail
        by_cases g1 : x1 = y1
        · subst g1
          by_cases g2 : x2 = y2
          · subst g2
            have HE2 : Hid (xs.take (k + 1) = ys.take (k + 1)) := by show _ = _; rw [List.take_add_one, List.take_add_one, HX.out, HY.out, HE.out]
            go_upto_region 6 with fail
            go_quiet (fail)
            go_wp2_with fail
            go_roundw
            case rel => exact ⟨k + 1, rfl, by have := HK.out; omega, HE2, below_drewN B.out _⟩
            case measure => show _ - ((k : Int) + 1).toNat < _ - ((k : Int)).toNat; have := HK.out; omega
          · have g3 : ¬ (x2 : Int) = (y2 : Int) := by omega
            have g4 : ((x2 : Int) == (y2 : Int)) = false := by simpa using g3
            have NE : Hid (decide (xs = ys) = false) := by
              show _ = _
              rw [decide_eq_false_iff_not]; intro e; subst e
              have := HX.out.symm.trans HY.out
              simp at this; exact g2 this
            clear g2
            go_upto_region 6 with fail
            go_quiet (fail)
            go_wp2_with fail
            obtain rfl : R = false := hR.out.symm.trans NE.out
            go_ret
            exact ⟨rfl, below_drewN B.out _⟩
        · have g4 : (x1 == y1) = false := by simpa using g1
          have NE : Hid (decide (xs = ys) = false) := by
            show _ = _
            rw [decide_eq_false_iff_not]; intro e; subst e
            have := HX.out.symm.trans HY.out
            simp at this; exact g1 this.1
          go_upto_region 6 with fail
          go_quiet (fail)
          go_wp2_with fail
          obtain rfl : R = false := hR.out.symm.trans NE.out
          go_ret
          exact ⟨rfl, below_drewN B.out _⟩
      · have hke : k = xs.length := by omega
        subst hke
        have EQ : Hid (decide (xs = ys) = true) := by
          show _ = _
          have h := HE.out
          rw [List.take_length, List.take_of_length_le (by have := LE.out; omega)] at h
          simpa using h
        clear hkl hk
        go_wp2_with fail
        obtain rfl : R = true := hR.out.symm.trans EQ.out
        go_ret
        exact ⟨rfl, B.out⟩
  · have e0 : decide ((xs.length : Int) = (ys.length : Int)) = false := by simp; omega
    have e1 : ((xs.length : Int) != (ys.length : Int)) = true := by simp; omega
    have NE : Hid (decide (xs = ys) = false) := by
      show _ = _
      rw [decide_eq_false_iff_not]; intro e; subst e; exact hlen rfl
    clear hlen
    go_enter Try.func9, Try.ntmps9
    go_wp2_with fail
    obtain rfl : R = false := hR.out.symm.trans NE.out
    go_ret
    exact ⟨rfl, Below.refl _ _⟩
end Go.Proofs.Ytngelemjpgglpaa.Pro
/-
  The laws' known shares.
-/
namespace Go.Proofs.Ytngelemjpgglpaa.Pro
open Go Go.RowKit
set_option linter.unusedSimpArgs false
set_option linter.unusedVariables false
attribute [local go_sem ↓] Go.wp_at_zero Go.wp_at_succ

theorem argI_lit {w : World} (xs : List Int) (n : Nat) (hn : xs.length = n) : ArgI (w.alloc (.cells (xs.map (fun x => Value.int .i64 x)).toArray 3)) (.slice (some ⟨w.heap.size, 0, none⟩) n n) xs := by
  subst hn
  refine ⟨_, _, rfl, Nat.le_refl _, fun i x hx => ⟨w.heap.size, 0, rfl, by simp, ?_⟩⟩
  rw [cell_of_row _ _ _ _ _ (0, 0) (heap_alloc_new w _), Nat.zero_add, List.getElem?_toArray, List.getElem?_map, hx]; rfl
theorem known_a : sharesA 100 0 2 [1, 1, 1] = ([(3333, 2), (3333, 2), (3334, 2)], 0) := by
  unfold sharesA
  have h : allFit (unitsA 100 (0 : Int).toNat (2 : Int).toNat) ([1, 1, 1] : List Int).sum (2 : Int).toNat [1, 1, 1] ([1, 1, 1] : List Int).length := by
    rw [← fitS_rowA]
    unfold fitS fits
    decide
  rw [if_neg (by decide), if_neg (by decide), if_neg (by decide), if_pos h]
  decide
theorem known_b : sharesA (-1) 0 0 [1, 1] = ([(-1, 0), (0, 0)], 0) := by
  unfold sharesA
  have h : allFit (unitsA (-1) (0 : Int).toNat (0 : Int).toNat) ([1, 1] : List Int).sum (0 : Int).toNat [1, 1] ([1, 1] : List Int).length := by
    rw [← fitS_rowA]
    unfold fitS fits
    decide
  rw [if_neg (by decide), if_neg (by decide), if_neg (by decide), if_pos h]
  decide
theorem known_c : sharesA 5 1 0 [1] = ([], 2) := by
  unfold sharesA
  rw [if_pos (by decide)]
set_option maxRecDepth 100000 in
set_option maxHeartbeats 1000000 in
theorem known_is (w : World) : Calls Try.prog 6 #[] w fun e w' => e = .returned (.bool true) ∧ Below w.heap.size w w' := by
  have A1 : ∀ w : World, Hid (Calls Try.prog 7 #[.agg #[.int .i64 100, .int .i64 0], .int .i64 2, .slice (some ⟨w.heap.size, 0, none⟩) 3 3] (w.alloc (.cells #[.int .i64 1, .int .i64 1, .int .i64 1] 3)) (SharesPost 100 0 2 [1, 1, 1] (w.alloc (.cells #[.int .i64 1, .int .i64 1, .int .i64 1] 3)))) :=
    fun w => shares_any 100 0 2 (by unfold fits; omega) (argI_lit [1, 1, 1] 3 rfl) (by decide)
  have A2 : ∀ w : World, Hid (Calls Try.prog 7 #[.agg #[.int .i64 (-1), .int .i64 0], .int .i64 0, .slice (some ⟨w.heap.size, 0, none⟩) 2 2] (w.alloc (.cells #[.int .i64 1, .int .i64 1] 3)) (SharesPost (-1) 0 0 [1, 1] (w.alloc (.cells #[.int .i64 1, .int .i64 1] 3)))) :=
    fun w => shares_any (-1) 0 0 (by unfold fits; omega) (argI_lit [1, 1] 2 rfl) (by decide)
  have A3 : ∀ w : World, Hid (Calls Try.prog 7 #[.agg #[.int .i64 5, .int .i64 1], .int .i64 0, .slice (some ⟨w.heap.size, 0, none⟩) 1 1] (w.alloc (.cells #[.int .i64 1] 3)) (SharesPost 5 1 0 [1] (w.alloc (.cells #[.int .i64 1] 3)))) :=
    fun w => shares_any 5 1 0 (by unfold fits; omega) (argI_lit [1] 1 rfl) (by decide)
  unfold SharesPost at A1 A2 A3
  rw [known_a] at A1
  rw [known_b] at A2
  rw [known_c] at A3
  have HA1 := Lib.hid A1; have HA2 := Lib.hid A2; have HA3 := Lib.hid A3
  clear A1 A2 A3
  go_enter Try.func6, Try.ntmps6
  go_upto_region 2 with (go_at_call 7; (with_reducible refine (HA1.out _).out.mono ?_); rintro e w1 ⟨v1, rfl, r1, b1⟩; have R1 := Lib.hid r1; have B1 := Lib.hid (bt (ba w _) b1); clear r1 b1)
  go_upto_region 3 with (go_at_call 7; (with_reducible refine (HA2.out _).out.mono ?_); rintro e w2 ⟨v2, rfl, r2, b2⟩; have R2 := Lib.hid r2; have D2 := Lib.hid (bt (ba w1 _) b2); clear r2 b2)
  go_upto_region 4 with (go_at_call 7; (with_reducible refine (HA3.out _).out.mono ?_); rintro e w3 ⟨v3, rfl, r3, b3⟩; have D3 := Lib.hid (bt (ba w2 _) b3); clear r3 b3)
  have HS1 : Hid (∀ W : World, Below w1.heap.size w1 W → Calls Try.prog 9 #[v1, .slice (some ⟨W.heap.size, 0, none⟩) 3 3] (W.alloc (.cells #[.int .i64 3333, .int .i64 2, .int .i64 3333, .int .i64 2, .int .i64 3334, .int .i64 2] 23)) fun e w' => e = .returned (.bool true) ∧ Below (W.alloc (.cells #[.int .i64 3333, .int .i64 2, .int .i64 3333, .int .i64 2, .int .i64 3334, .int .i64 2] 23)).heap.size (W.alloc (.cells #[.int .i64 3333, .int .i64 2, .int .i64 3333, .int .i64 2, .int .i64 3334, .int .i64 2] 23)) w') := fun W D =>
    same_is (xs := [(3333, 2), (3333, 2), (3334, 2)]) (ys := [(3333, 2), (3333, 2), (3334, 2)]) ((Elem.Row.below R1.out (bt D (ba _ _))).arg) (Elem.arg_lit (E := decE) (w := W) [(3333, 2), (3333, 2), (3334, 2)] 3 rfl 23) (by decide)
  have HS2 : Hid (∀ W : World, Below w2.heap.size w2 W → Calls Try.prog 9 #[v2, .slice (some ⟨W.heap.size, 0, none⟩) 2 2] (W.alloc (.cells #[.int .i64 (-1), .int .i64 0, .int .i64 0, .int .i64 0] 23)) fun e w' => e = .returned (.bool true) ∧ Below (W.alloc (.cells #[.int .i64 (-1), .int .i64 0, .int .i64 0, .int .i64 0] 23)).heap.size (W.alloc (.cells #[.int .i64 (-1), .int .i64 0, .int .i64 0, .int .i64 0] 23)) w') := fun W D =>
    same_is (xs := [(-1, 0), (0, 0)]) (ys := [(-1, 0), (0, 0)]) ((Elem.Row.below R2.out (bt D (ba _ _))).arg) (Elem.arg_lit (E := decE) (w := W) [(-1, 0), (0, 0)] 2 rfl 23) (by decide)
  have C1 := Lib.hid (HS1.out w3 (bt D2.out D3.out))
  go_wp2_with (first
    | (go_at_call 9; (with_reducible refine C1.out.mono ?_); rintro e w4 ⟨rfl, b4⟩; have D4 := Lib.hid (bt (ba w3 _) b4); have C2 := Lib.hid (HS2.out w4 (bt D3.out D4.out)); clear b4 C1)
    | (go_at_call 9; (with_reducible refine C2.out.mono ?_); rintro e w5 ⟨rfl, b5⟩; have D5 := Lib.hid (bt (ba w4 _) b5); clear b5 C2))
  go_ret
  exact ⟨rfl, bt B1.out (bt D2.out (bt D3.out (bt D4.out D5.out)))⟩
end Go.Proofs.Ytngelemjpgglpaa.Pro
/-
  decimal's functions, walked: Cmp, Add, Sub.
-/
namespace Go.Proofs.Ytngelemjpgglpaa
open Go.RowKit
set_option linter.unusedSimpArgs false
attribute [local go_sem ↓] Go.wp_at_zero Go.wp_at_succ

theorem cmpZ_scale (x y k : Int) (hk : 0 < k) : cmpZ (x * k) (y * k) = cmpZ x y := by
  unfold cmpZ
  have e1 : (x * k = y * k) ↔ x = y := Int.mul_eq_mul_right_iff (by omega)
  have e2 : (x * k < y * k) ↔ x < y := Int.mul_lt_mul_right hk
  simp only [e1, e2]
theorem un_scale (c : Int) (s m : Nat) (h1 : s ≤ m) (h2 : m ≤ 9) : un c s = c * ((10 ^ (m - s) : Nat) : Int) * ((10 ^ (9 - m) : Nat) : Int) := by
  unfold un
  rw [Int.mul_assoc, ← Int.natCast_mul, ← Nat.pow_add, show m - s + (9 - m) = 9 - s by omega]
  simp
theorem both_bools {s s' : Int} {a : Bool} (h : (isB s && isB s') = a) : (a = false ∧ ¬ (isB s = true ∧ isB s' = true)) ∨ (a = true ∧ ∃ n n' : Nat, s = (n : Int) ∧ s' = (n' : Int) ∧ n ≤ 9 ∧ n' ≤ 9) := by
  cases a
  · left; refine ⟨rfl, fun k => ?_⟩; rw [k.1, k.2] at h; simp at h
  · right; simp only [Bool.and_eq_true] at h
    obtain ⟨n, e, hn⟩ := isB_nat h.1; obtain ⟨n', e', hn'⟩ := isB_nat h.2
    exact ⟨rfl, n, n', e, e', hn, hn'⟩
/-- what Cmp answers -/
def cmpV (c s c' s' : Int) : Value := if (isB s && isB s') = true then .tuple #[.int .i64 (cmpZ (un c s.toNat) (un c' s'.toNat)), .int .i64 0] else .tuple #[.int .i64 0, .int .i64 2]
/-- what an answer of a number is -/
def ansV (c s c' s' u : Int) : Value := if (isB s && isB s') = true then decV u 9 else noneV 2
theorem max_raised (c : Int) (s m : Nat) (hc : fits c) (h1 : s ≤ m) (h2 : m ≤ 9) : ∃ (b : Bool) (h l : Nat), Hid (wv (c * ((10 ^ (m - s) : Nat) : Int)) = .agg #[.bool b, .int .u64 (h : Int), .int .u64 (l : Int)]) ∧ Hid (IsW (c * ((10 ^ (m - s) : Nat) : Int)) b h l) :=
  isW_wv _ (raised_lt c (m - s) hc (by omega))
theorem raised_abs (c : Int) (j : Nat) (hc : fits c) (hj : j ≤ 9) : (c * ((10 ^ j : Nat) : Int)).natAbs ≤ 9223372036854775808000000000 := by
  have h1 : -9223372036854775808 ≤ c ∧ c ≤ 9223372036854775807 := hc
  have hp : 10 ^ j ≤ 10 ^ 9 := Nat.pow_le_pow_right (by omega) hj
  rw [Int.natAbs_mul, Int.natAbs_natCast]
  have := Nat.mul_le_mul (show c.natAbs ≤ 9223372036854775808 by omega) hp
  omega

end Go.Proofs.Ytngelemjpgglpaa
/-
  decimal's functions, walked: Mul, Div, Neg, Abs, Round, Of, May.
-/
namespace Go.Proofs.Ytngelemjpgglpaa
set_option linter.unusedSimpArgs false
set_option linter.unusedVariables false
open Go.RowKit
set_option linter.unusedSimpArgs false
attribute [local go_sem ↓] Go.wp_at_zero Go.wp_at_succ

theorem pow_split (a b c : Nat) (h : a + b = c) : (10 ^ c : Nat) = 10 ^ a * 10 ^ b := by rw [← h, Nat.pow_add]
theorem pow_int (a : Nat) : ((10 ^ a : Nat) : Int) = (10 : Int) ^ a := by simp
theorem ten_pos (a : Nat) : 0 < 10 ^ a := Nat.pow_pos (by omega)
/-- a product, as made makes it, is the even one of units -/
theorem mul_dec (c c' : Int) (n n' : Nat) (hn : n ≤ 9) (hn' : n' ≤ 9) :
    (if 9 < n + n' then decV (evenZ (c * c') (10 ^ (n + n' - 9))) 9 else decV (c * c') (n + n')) = decV (evenZ (un c n * un c' n') (10 ^ 9)) 9 := by
  have e : un c n * un c' n' = c * c' * ((10 ^ (18 - (n + n')) : Nat) : Int) := by
    unfold un
    rw [pow_int, show 18 - (n + n') = (9 - n) + (9 - n') by omega, Int.pow_add]
    rw [Int.mul_assoc, Int.mul_assoc]; congr 1
    rw [Int.mul_left_comm]
  rw [e]
  by_cases h : 9 < n + n'
  · rw [if_pos h, pow_split (n + n' - 9) (18 - (n + n')) 9 (by omega), evenZ_scale _ _ _ (ten_pos _)]
  · rw [if_neg h, pow_split (9 - (n + n')) 9 (18 - (n + n')) (by omega), Int.natCast_mul, ← Int.mul_assoc, evenZ_exact _ _ (ten_pos _)]
    have := decV_up (c * c') (n + n') (9 - (n + n'))
    rw [show n + n' + (9 - (n + n')) = 9 by omega] at this
    rw [← this, pow_int]
/-- what Mul answers -/
def mulV (c s c' s' : Int) : Value := ansV c s c' s' (evenZ (un c s.toNat * un c' s'.toNat) (10 ^ 9))
theorem ansV_form (c s c' s' u : Int) : ∃ p q e : Int, ansV c s c' s' u = .tuple #[.agg #[.int .i64 p, .int .i64 q], .int .i64 e] := by
  unfold ansV; split
  · exact decV_form _ _
  · exact ⟨_, _, _, rfl⟩
theorem mul_lt (a b : Int) (ha : fits a) (hb : fits b) : (a * b).natAbs < 340282366920938463463374607431768211456 := wMul_nat a b ha.1 ha.2 hb.1 hb.2

/-- what Neg answers -/
def negV (c s : Int) : Value := ansV 0 0 c s (un 0 0 - un c s.toNat)
/-- what Abs answers -/
def absV (c s : Int) : Value := if c < 0 then negV c s else putV c s
theorem putV_form (c s : Int) : ∃ p q e : Int, putV c s = .tuple #[.agg #[.int .i64 p, .int .i64 q], .int .i64 e] := by
  unfold putV; split
  · exact decV_form _ _
  · exact ⟨_, _, _, rfl⟩
theorem fits0 : fits 0 := by unfold fits; omega

/-- what May answers -/
def mayB (c s : Int) : Bool := isB s && (decide (s = 0) || !decide (c % 10 = 0))
theorem tmod10 (c : Int) : (c.tmod 10 = 0) ↔ (c % 10 = 0) := by
  rw [← Int.dvd_iff_tmod_eq_zero, ← Int.dvd_iff_emod_eq_zero]
/-- what Round answers -/
def roundV (c s t : Int) : Value := if (isB s && isB t) = true then decV (evenZ (un c s.toNat) (10 ^ (9 - t.toNat))) t.toNat else noneV 2
theorem round_lo (c : Int) (n t : Nat) (h : n ≤ t) (ht : t ≤ 9) : decV (evenZ (un c n) (10 ^ (9 - t))) t = decV c n := by
  have e : un c n = c * (10 : Int) ^ (t - n) * ((10 ^ (9 - t) : Nat) : Int) := by
    unfold un; rw [pow_int, Int.mul_assoc, ← Int.pow_add, show t - n + (9 - t) = 9 - n by omega]
  rw [e, evenZ_exact _ _ (ten_pos _)]
  have := decV_up c n (t - n)
  rw [show n + (t - n) = t by omega] at this
  exact this
theorem round_hi (c : Int) (n t : Nat) (h : t ≤ n) (hn : n ≤ 9) : evenZ (un c n) (10 ^ (9 - t)) = evenZ c (10 ^ (n - t)) := by
  unfold un
  rw [← pow_int, pow_split (n - t) (9 - n) (9 - t) (by omega), evenZ_scale _ _ _ (ten_pos _)]
theorem even_w0 {x : Int} {n1 : Bool} {l1 : Nat} (d : Nat) (h0 : 0 < d) (hd : d < 18446744073709551616) (v : Value) (w : World) (X : IsW x n1 0 l1) (hv : wv (evenZ x d) = v) :
    Calls Try.prog 68 #[.agg #[.bool n1, .int .u64 0, .int .u64 (l1 : Int)], .int .u64 (d : Int)] w fun e w' => e = .returned (.tuple #[v, .int .i64 0]) ∧ Below w.heap.size w w' := even_w d h0 hd v w X hv
theorem even_fits (c : Int) (d : Nat) (hc : fits c) (hd : 0 < d) : (evenZ c d).natAbs < 340282366920938463463374607431768211456 := by
  have h1 : -9223372036854775808 ≤ c ∧ c ≤ 9223372036854775807 := hc
  have := (evenZ_abs c d hd).1
  omega

/-- what Div answers -/
def dvdV (c s c' s' : Int) : Value := if (isB s && isB s') = true then (if c' = 0 then noneV 12 else decV (evenZ ((if c' < 0 then -(un c s.toNat) else un c s.toNat) * ((10 ^ 9 : Nat) : Int)) (un c' s'.toNat).natAbs) 9) else noneV 2
theorem div_dec (c c' : Int) (n n' : Nat) (hn' : n' ≤ 9) (hc' : c' ≠ 0) (u : Int) (hu : u = (if c' < 0 then -(c * ((10 ^ (9 - n) : Nat) : Int) * ((10 ^ n' : Nat) : Int)) else c * ((10 ^ (9 - n) : Nat) : Int) * ((10 ^ n' : Nat) : Int))) :
    evenZ ((if c' < 0 then -(un c n) else un c n) * ((10 ^ 9 : Nat) : Int)) (un c' n').natAbs = evenZ u c'.natAbs := by
  have e1 : (un c' n').natAbs = c'.natAbs * 10 ^ (9 - n') := by unfold un; rw [← pow_int, Int.natAbs_mul, Int.natAbs_natCast]
  have e2 : (if c' < 0 then -(un c n) else un c n) * ((10 ^ 9 : Nat) : Int) = u * ((10 ^ (9 - n') : Nat) : Int) := by
    rw [hu, pow_split n' (9 - n') 9 (by omega), Int.natCast_mul, ← Int.mul_assoc]
    unfold un
    rw [pow_int (9 - n)]
    split
    · rw [Int.neg_mul, Int.neg_mul]
    · rfl
  rw [e1, e2, evenZ_scale _ _ _ (ten_pos _)]
theorem div_abs (c : Int) (n n' : Nat) (hc : fits c) (hn' : n' ≤ 9) : (c * ((10 ^ (9 - n) : Nat) : Int) * ((10 ^ n' : Nat) : Int)).natAbs < 340282366920938463463374607431768211456 := by
  have h1 := raised_abs c (9 - n) hc (by omega)
  have hp : 10 ^ n' ≤ 10 ^ 9 := Nat.pow_le_pow_right (by omega) hn'
  rw [Int.natAbs_mul, Int.natAbs_natCast]
  have := Nat.mul_le_mul h1 hp
  omega
/-- the box of a number, kept; a variable that is not it, kept -/
def DivMid (W : World) (z : Int) (iX iY iR iA : Nat) (c s c' s' : Int) (w : World) (wx : World) : Prop :=
  ∃ (b : Bool) (h l : Nat), Hid (WAt wx iA b h l) ∧ Hid (IsW z b h l) ∧ Hid (DAt wx iX c s) ∧ Hid (DAt wx iY c' s') ∧ Hid (DAt wx iR 0 0) ∧ Hid (Below w.heap.size w wx)

end Go.Proofs.Ytngelemjpgglpaa
