/-
  THE WALKS of wide's Even and Floor; THE WALKS of corrodylaw01's told and known; THE WALK of corrodylaw01's known; THE WALKS of cmp.Compare at uint64, cmp.Or at int, and of wide's above; THE WALK of wide's above.
-/
import Derived.Test.YtngelemjpgglpaaM21
import Derived.Test.YtngelemjpgglpaaM20
import Derived.Deep.RegionHeld3
import Derived.Test.YtngelemjpgglpaaM6
import Derived.Test.YtngelemjpgglpaaM19
import Derived.StillTailTactics
/-
  THE WALKS of wide's Even and Floor.
-/
namespace Go.Proofs.Ytngelemjpgglpaa
open Go.RowKit
attribute [local go_sem ↓] Go.wp_at_zero Go.wp_at_succ

theorem evenZ_nat (q r d : Nat) (hr : r < d) : evenZ ((q * d + r : Nat) : Int) d = ((q + if d < r + r ∨ (r + r = d ∧ q % 2 = 1) then 1 else 0 : Nat) : Int) := by
  have e1 : ((q * d + r : Nat) : Int) / (d : Int) = q := by
    rw [← Int.natCast_ediv]; congr 1
    rw [Nat.mul_comm, Nat.mul_add_div (by omega), Nat.div_eq_of_lt hr]; rfl
  have e2 : ((q * d + r : Nat) : Int) % (d : Int) = r := by
    rw [← Int.natCast_emod]; congr 1
    rw [Nat.mul_comm, Nat.mul_add_mod, Nat.mod_eq_of_lt hr]
  unfold evenZ
  rw [e1, e2]
  by_cases c : d < r + r ∨ (r + r = d ∧ q % 2 = 1)
  · rw [if_pos c, if_pos (by omega)]; omega
  · rw [if_neg c, if_neg (by omega)]; omega
theorem ediv_neg' (q r d : Nat) (hr : r < d) : (-((q * d + r : Nat) : Int)) / (d : Int) = -(q : Int) - (if r = 0 then 0 else 1) ∧ (-((q * d + r : Nat) : Int)) % (d : Int) = (if r = 0 then 0 else (d : Int) - r) := by
  by_cases h : r = 0
  · subst h
    rw [if_pos rfl, if_pos rfl]
    have : (-((q * d + 0 : Nat) : Int)) = (-(q : Int)) * d := by rw [Int.neg_mul, Nat.add_zero, Int.natCast_mul]
    rw [this]
    exact ⟨by rw [Int.mul_ediv_cancel _ (by omega)]; omega, Int.mul_emod_left _ _⟩
  · rw [if_neg h, if_neg h]
    have : (-((q * d + r : Nat) : Int)) = ((d : Int) - r) + (-(q : Int) - 1) * d := by
      rw [Int.sub_mul, Int.neg_mul, Int.one_mul]; simp; omega
    rw [this]
    have p1 : (0 : Int) ≤ (d : Int) - r := by omega
    have p2 : (d : Int) - r < d := by omega
    exact ⟨by rw [Int.add_mul_ediv_right _ _ (by omega), Int.ediv_eq_zero_of_lt p1 p2]; omega, by rw [Int.add_mul_emod_self_right, Int.emod_eq_of_lt p1 p2]⟩
theorem evenZ_neg (q r d : Nat) (hr : r < d) : evenZ (-((q * d + r : Nat) : Int)) d = -((q + if d < r + r ∨ (r + r = d ∧ q % 2 = 1) then 1 else 0 : Nat) : Int) := by
  obtain ⟨e1, e2⟩ := ediv_neg' q r d hr
  unfold evenZ
  rw [e1, e2]
  by_cases h : r = 0
  · subst h
    rw [if_pos rfl, if_pos rfl, if_neg (by omega), if_neg (by omega)]; omega
  · rw [if_neg h, if_neg h]
    by_cases c : d < r + r ∨ (r + r = d ∧ q % 2 = 1)
    · rw [if_pos c, if_neg (by omega)]; omega
    · rw [if_neg c, if_pos (by omega)]; omega
theorem sz_even (n : Bool) (hi lo d : Nat) (hd : 0 < d) (u : Bool)
    (hu : u = decide (d < (hi * 18446744073709551616 + lo) % d + (hi * 18446744073709551616 + lo) % d ∨ ((hi * 18446744073709551616 + lo) % d + (hi * 18446744073709551616 + lo) % d = d ∧ (hi * 18446744073709551616 + lo) / d % 2 = 1))) :
    sz n ((hi * 18446744073709551616 + lo) / d + (if u = true then 1 else 0)) = evenZ (wz n hi lo) d := by
  rw [← sz_wz]
  generalize hM : hi * 18446744073709551616 + lo = M at hu ⊢
  have hr := Nat.mod_lt M hd
  have e : M = M / d * d + M % d := by rw [Nat.mul_comm]; exact (Nat.div_add_mod M d).symm
  have hc : (u = true) ↔ (d < M % d + M % d ∨ (M % d + M % d = d ∧ M / d % 2 = 1)) := by rw [hu, decide_eq_true_eq]
  simp only [hc]
  unfold sz
  cases n
  · simp only [Bool.false_eq_true, if_false]
    have := evenZ_nat (M / d) (M % d) d hr
    rw [← e] at this; exact this.symm
  · simp only [if_true]
    have := evenZ_neg (M / d) (M % d) d hr
    rw [← e] at this; exact this.symm
theorem sz_floor (n : Bool) (hi lo d : Nat) (hd : 0 < d) (u : Bool) (hu : u = (n && decide (0 < (hi * 18446744073709551616 + lo) % d))) :
    sz n ((hi * 18446744073709551616 + lo) / d + (if u = true then 1 else 0)) = wz n hi lo / (d : Int) := by
  rw [← sz_wz]
  generalize hM : hi * 18446744073709551616 + lo = M at hu ⊢
  have hr := Nat.mod_lt M hd
  have e : M = M / d * d + M % d := by rw [Nat.mul_comm]; exact (Nat.div_add_mod M d).symm
  subst hu
  unfold sz
  cases n
  · simp
  · simp only [Bool.true_and, if_true, decide_eq_true_eq]
    have := (ediv_neg' (M / d) (M % d) d hr).1
    rw [← e] at this
    rw [this]
    by_cases c : M % d = 0
    · rw [if_pos c, if_neg (by omega)]; omega
    · rw [if_neg c, if_pos (by omega)]; omega

set_option maxRecDepth 100000 in
set_option maxHeartbeats 1000000 in
theorem wEven_any (n : Bool) (hi lo d : Nat) (w : World) (h1 : hi < 18446744073709551616) (h2 : lo < 18446744073709551616) (hd : 0 < d) (h3 : d < 18446744073709551616) :
    Calls Try.prog 68 #[.agg #[.bool n, .int .u64 (hi : Int), .int .u64 (lo : Int)], .int .u64 (d : Int)] w fun e w' => e = .returned (.tuple #[wv (evenZ (wz n hi lo) d), .int .i64 0]) ∧ Below w.heap.size w w' := by
  obtain ⟨o, ho⟩ : ∃ o : Bool, Hid (decide ((hi * 18446744073709551616 + lo) / d % 2 = 1) = o) := ⟨_, rfl⟩
  obtain ⟨r, hr⟩ : ∃ r : Nat, Hid ((hi * 18446744073709551616 + lo) % d = r) := ⟨_, rfl⟩
  have hrd : r < d := by rw [← hr.out]; exact Nat.mod_lt _ hd
  obtain ⟨u, hu⟩ : ∃ u : Bool, Hid (u = decide (d < r + r ∨ (r + r = d ∧ o = true))) := ⟨_, rfl⟩
  have HE : Hid (sz n ((hi * 18446744073709551616 + lo) / d + (if u = true then 1 else 0)) = evenZ (wz n hi lo) d) := by
    refine sz_even n hi lo d hd u ?_
    rw [hu.out, hr.out, ← ho.out]; simp only [decide_eq_true_eq]
  have HU : Hid (u = true → 2 ≤ d) := by
    intro q; rw [hu.out, decide_eq_true_eq] at q; omega
  have HL : Hid (hi < 18446744073709551616 ∧ lo < 18446744073709551616 ∧ 0 < d ∧ d < 18446744073709551616 ∧ r < d) := ⟨h1, h2, hd, h3, hrd⟩
  obtain ⟨z, hz⟩ : ∃ z, Hid (evenZ (wz n hi lo) d = z) := ⟨_, rfl⟩
  rw [hz.out]
  clear h1 h2 hd h3 hrd
  go_enter Try.func68, Try.ntmps68
  go_wp2_with fail
  refine (rounded_even n hi lo d (w.heap.size + 1) _ HL.out.1 HL.out.2.1 HL.out.2.2.1 HL.out.2.2.2.1 u o ho.out HU.out ?hup).mono ?_
  case hup =>
    intro w' hb
    rw [hr.out]
    refine up_even o r d (w.heap.size + 1) w' HL.out.2.2.2.2 HL.out.2.2.2.1 ?_ u hu.out
    refine cell_keep hb ?_ (by simp)
    go_simp
  rintro e w2 ⟨rfl, b2⟩
  rw [HE.out, hz.out]
  obtain ⟨nb, nh, nl, hv⟩ := wv_agg z
  rw [hv.out]
  have Z : Hid (WAt w2 (w.heap.size + 1 + 1) false 0 0) := by
    have := WAt.below (wAt_new ((w.alloc (.cells #[.bool n, .int .u64 (hi : Int), .int .u64 (lo : Int)] 57)).alloc (.cells #[.int .u64 (d : Int)] 37)) false 0 0) b2
    rw [World.size_alloc, World.size_alloc] at this; exact this
  have B := Lib.hid (bt (ba _ _) (bt (ba _ _) (bt (ba _ _) b2)))
  clear b2
  have r0 := Z.out.c0; have r1 := Z.out.c1; have r2 := Z.out.c2; have f0 := Z.out.f0; have f1 := Z.out.f1; have f2 := Z.out.f2
  go_wp2_with fail
  refine bodyPost_ret (v := .tuple #[.agg #[.bool nb, .int .u64 (nh : Int), .int .u64 (nl : Int)], .int .i64 0]) (by simp [results, Try.results68, go_sem, r0, r1, r2]) rfl ⟨by rw [hv.out], ((B.out.setCell (by simp; omega) _).setCell (by simp; omega) _).setCell (by simp; omega) _⟩

set_option maxRecDepth 100000 in
set_option maxHeartbeats 1000000 in
theorem wEven_zero (n : Bool) (hi lo : Nat) (w : World) :
    Calls Try.prog 68 #[.agg #[.bool n, .int .u64 (hi : Int), .int .u64 (lo : Int)], .int .u64 0] w fun e w' => e = .returned (.tuple #[.agg #[.bool false, .int .u64 0, .int .u64 0], .int .i64 12]) ∧ Below w.heap.size w w' := by
  go_enter Try.func68, Try.ntmps68
  go_wp2_with fail
  refine (rounded_even0 n hi lo _ _).mono ?_
  rintro e w2 ⟨rfl, b2⟩
  have Z : Hid (WAt w2 (w.heap.size + 1 + 1) false 0 0) := by
    have := WAt.below (wAt_new ((w.alloc (.cells #[.bool n, .int .u64 (hi : Int), .int .u64 (lo : Int)] 57)).alloc (.cells #[.int .u64 0] 37)) false 0 0) b2
    rw [World.size_alloc, World.size_alloc] at this; exact this
  have B := Lib.hid (bt (ba _ _) (bt (ba _ _) (bt (ba _ _) b2)))
  clear b2
  have r0 := Z.out.c0; have r1 := Z.out.c1; have r2 := Z.out.c2; have f0 := Z.out.f0; have f1 := Z.out.f1; have f2 := Z.out.f2
  go_wp2_with fail
  refine bodyPost_ret (v := .tuple #[.agg #[.bool false, .int .u64 0, .int .u64 0], .int .i64 12]) (by simp [results, Try.results68, go_sem, r0, r1, r2]) rfl ⟨rfl, ((B.out.setCell (by simp; omega) _).setCell (by simp; omega) _).setCell (by simp; omega) _⟩

set_option maxRecDepth 100000 in
set_option maxHeartbeats 1000000 in
theorem wFloor_any (n : Bool) (hi lo d : Nat) (w : World) (h1 : hi < 18446744073709551616) (h2 : lo < 18446744073709551616) (hd : 0 < d) (h3 : d < 18446744073709551616) :
    Calls Try.prog 29 #[.agg #[.bool n, .int .u64 (hi : Int), .int .u64 (lo : Int)], .int .u64 (d : Int)] w fun e w' => e = .returned (.tuple #[wv (wz n hi lo / (d : Int)), .int .i64 0]) ∧ Below w.heap.size w w' := by
  obtain ⟨o, ho⟩ : ∃ o : Bool, Hid (decide ((hi * 18446744073709551616 + lo) / d % 2 = 1) = o) := ⟨_, rfl⟩
  obtain ⟨r, hr⟩ : ∃ r : Nat, Hid ((hi * 18446744073709551616 + lo) % d = r) := ⟨_, rfl⟩
  have hrd : r < d := by rw [← hr.out]; exact Nat.mod_lt _ hd
  obtain ⟨u, hu⟩ : ∃ u : Bool, Hid (u = (n && decide (0 < r))) := ⟨_, rfl⟩
  have HE : Hid (sz n ((hi * 18446744073709551616 + lo) / d + (if u = true then 1 else 0)) = wz n hi lo / (d : Int)) := by
    refine sz_floor n hi lo d hd u ?_
    rw [hu.out, hr.out]
  have HU : Hid (u = true → 2 ≤ d) := by
    intro q; rw [hu.out] at q; simp at q; omega
  have HL : Hid (hi < 18446744073709551616 ∧ lo < 18446744073709551616 ∧ 0 < d ∧ d < 18446744073709551616 ∧ r < d) := ⟨h1, h2, hd, h3, hrd⟩
  obtain ⟨z, hz⟩ : ∃ z, Hid (wz n hi lo / (d : Int) = z) := ⟨_, rfl⟩
  rw [hz.out]
  clear h1 h2 hd h3 hrd
  go_enter Try.func29, Try.ntmps29
  go_wp2_with fail
  refine (rounded_floor n hi lo d w.heap.size _ HL.out.1 HL.out.2.1 HL.out.2.2.1 HL.out.2.2.2.1 u o ho.out HU.out ?hup).mono ?_
  case hup =>
    intro w' hb
    rw [hr.out]
    refine up_floor o n r w.heap.size w' ?_ u hu.out
    refine cell_keep hb ?_ (by simp; omega)
    go_simp
  rintro e w2 ⟨rfl, b2⟩
  rw [HE.out, hz.out]
  obtain ⟨nb, nh, nl, hv⟩ := wv_agg z
  rw [hv.out]
  have Z := Lib.hid (WAt.below (two_wide w n false hi lo 0 0).2 b2)
  have B := Lib.hid (bt (ba _ _) (bt (ba _ _) b2))
  clear b2
  have r0 := Z.out.c0; have r1 := Z.out.c1; have r2 := Z.out.c2; have f0 := Z.out.f0; have f1 := Z.out.f1; have f2 := Z.out.f2
  go_wp2_with fail
  refine bodyPost_ret (v := .tuple #[.agg #[.bool nb, .int .u64 (nh : Int), .int .u64 (nl : Int)], .int .i64 0]) (by simp [results, Try.results29, go_sem, r0, r1, r2]) rfl ⟨by rw [hv.out], ((B.out.setCell (by simp) _).setCell (by simp) _).setCell (by simp) _⟩

set_option maxRecDepth 100000 in
set_option maxHeartbeats 1000000 in
theorem wFloor_zero (n : Bool) (hi lo : Nat) (w : World) :
    Calls Try.prog 29 #[.agg #[.bool n, .int .u64 (hi : Int), .int .u64 (lo : Int)], .int .u64 0] w fun e w' => e = .returned (.tuple #[.agg #[.bool false, .int .u64 0, .int .u64 0], .int .i64 12]) ∧ Below w.heap.size w w' := by
  go_enter Try.func29, Try.ntmps29
  go_wp2_with fail
  refine (rounded_floor0 n hi lo _ _).mono ?_
  rintro e w2 ⟨rfl, b2⟩
  have Z := Lib.hid (WAt.below (two_wide w n false hi lo 0 0).2 b2)
  have B := Lib.hid (bt (ba _ _) (bt (ba _ _) b2))
  clear b2
  have r0 := Z.out.c0; have r1 := Z.out.c1; have r2 := Z.out.c2; have f0 := Z.out.f0; have f1 := Z.out.f1; have f2 := Z.out.f2
  go_wp2_with fail
  refine bodyPost_ret (v := .tuple #[.agg #[.bool false, .int .u64 0, .int .u64 0], .int .i64 12]) (by simp [results, Try.results29, go_sem, r0, r1, r2]) rfl ⟨rfl, ((B.out.setCell (by simp) _).setCell (by simp) _).setCell (by simp) _⟩
end Go.Proofs.Ytngelemjpgglpaa
/-
  THE WALKS of corrodylaw01's told and known.
-/
namespace Go.Proofs.Ytngelemjpgglpaa
open Go.RowKit
attribute [local go_sem ↓] Go.wp_at_zero Go.wp_at_succ

/-- an answer's two parts, out of the number -/
theorem ov_parts (z : Int) (b : Bool) (h l : Nat) (e : Int) (hov : ovV z = .tuple #[.agg #[.bool b, .int .u64 (h : Int), .int .u64 (l : Int)], .int .i64 e]) :
    (e = 0 ∧ asV z = .tuple #[.agg #[.bool b, .int .u64 (h : Int), .int .u64 (l : Int)], .bool true]) ∨ (e = 11 ∧ b = false ∧ h = 0 ∧ l = 0 ∧ asV z = .tuple #[.agg #[.bool false, .int .u64 0, .int .u64 0], .bool false]) := by
  unfold ovV at hov
  unfold asV
  split at hov
  · rename_i hz
    rw [if_pos hz]
    simp only [Value.tuple.injEq, Array.mk.injEq, List.cons.injEq, Value.int.injEq, and_true, true_and] at hov
    refine .inl ⟨hov.2.symm, ?_⟩
    rw [← hov.1]; rfl
  · rename_i hz
    rw [if_neg hz]
    simp only [Value.tuple.injEq, Value.agg.injEq, Array.mk.injEq, List.cons.injEq, Value.int.injEq, Value.bool.injEq, and_true, true_and] at hov
    exact .inr ⟨hov.2.symm, hov.1.1.symm, by omega, by omega, rfl⟩

/-- the number 10 times .. of a known one -/
theorem wv_small (z : Int) (h0 : -9223372036854775808 ≤ z) (h1 : z ≤ 9223372036854775807) : ∃ (b : Bool) (l : Nat), wv z = .agg #[.bool b, .int .u64 ((0 : Nat) : Int), .int .u64 (l : Int)] ∧ l < 18446744073709551616 ∧ wz b (0 : Nat) l = z := by
  refine ⟨decide (z < 0), z.natAbs, ?_, by omega, wz_of z⟩
  unfold wv wr
  rw [show z.natAbs / 18446744073709551616 = 0 by omega, show z.natAbs % 18446744073709551616 = z.natAbs by omega]

end Go.Proofs.Ytngelemjpgglpaa
/-
  THE WALK of corrodylaw01's known.
-/
namespace Go.Proofs.Ytngelemjpgglpaa
open Go.RowKit
attribute [local go_sem ↓] Go.wp_at_zero Go.wp_at_succ

theorem wOf_c (n : Int) (v : Value) (w : World) (h0 : -9223372036854775808 ≤ n) (h1 : n ≤ 9223372036854775807) (hv : wv n = v) :
    Calls Try.prog 26 #[.int .i64 n] w fun e w' => e = .returned v ∧ Below w.heap.size w w' := by
  rw [← hv]; exact wOf_any n w h0 h1

end Go.Proofs.Ytngelemjpgglpaa
/-
  THE WALKS of cmp.Compare at uint64, cmp.Or at int, and of wide's above.
-/

namespace Go.Proofs.Ytngelemjpgglpaa
open Go.RowKit
attribute [local go_sem ↓] Go.wp_at_zero Go.wp_at_succ

theorem nanU (x : Int) (w : World) : Calls Try.prog 78 #[.int .u64 x] w fun e w' => e = .returned (.bool false) ∧ w' = w := by
  go_enter Try.func78, Try.ntmps78
  go_wp2_with fail
  go_ret
  exact ⟨by first | rfl | simp, rfl⟩

theorem cmpU_any (x y : Int) (w : World) : Calls Try.prog 71 #[.int .u64 x, .int .u64 y] w fun e w' => e = .returned (.int .i64 (cmpZ x y)) ∧ w' = w := by
  unfold cmpZ
  by_cases h1 : x = y
  · rw [if_pos h1]
    have d1 : decide (x < y) = false := by rw [decide_eq_false_iff_not]; omega
    have d2 : decide (y < x) = false := by rw [decide_eq_false_iff_not]; omega
    clear h1
    go_enter Try.func71, Try.ntmps71
    go_wp2_with (go_at_call 78; refine (nanU _ _).mono ?_; rintro e w' ⟨rfl, rfl⟩)
    go_ret
    exact ⟨rfl, rfl⟩
  · rw [if_neg h1]
    by_cases h2 : x < y
    · rw [if_pos h2]
      have d1 : decide (x < y) = true := by rw [decide_eq_true_eq]; omega
      clear h1
      go_enter Try.func71, Try.ntmps71
      go_wp2_with (go_at_call 78; refine (nanU _ _).mono ?_; rintro e w' ⟨rfl, rfl⟩)
      go_ret
      exact ⟨rfl, rfl⟩
    · rw [if_neg h2]
      have d1 : decide (x < y) = false := by rw [decide_eq_false_iff_not]; omega
      have d2 : decide (y < x) = true := by rw [decide_eq_true_eq]; omega
      clear h1
      go_enter Try.func71, Try.ntmps71
      go_wp2_with (go_at_call 78; refine (nanU _ _).mono ?_; rintro e w' ⟨rfl, rfl⟩)
      go_ret
      exact ⟨rfl, rfl⟩

def orZ (a b : Int) : Int := if a = 0 then b else a
theorem or2_any (g : Nat) (a b : Int) (w : World) (h0 : w.cell? ⟨g, 0, none⟩ = some (.int .i64 a)) (h1 : w.cell? ⟨g, 1, none⟩ = some (.int .i64 b)) :
    Calls Try.prog 70 #[.slice (some ⟨g, 0, none⟩) 2 2] w fun e w' => e = .returned (.int .i64 (orZ a b)) ∧ w' = w := by
  unfold orZ
  by_cases ha : a = 0
  · subst ha
    rw [if_pos rfl]
    by_cases hb : b = 0
    · subst hb
      go_enter Try.func70, Try.ntmps70
      go_wp2_with fail
      refine wp_loop_rounds 3 ?_
      rw [rounds_succ]
      go_wp2_with fail
      rw [rounds_succ]
      go_wp2_with fail
      rw [rounds_succ]
      go_wp2_with fail
      go_ret
      exact ⟨rfl, rfl⟩
    · have hb1 : (b == 0) = false := by simpa using hb
      have hb2 : (b != 0) = true := by simpa using hb
      clear hb
      go_enter Try.func70, Try.ntmps70
      go_wp2_with fail
      refine wp_loop_rounds 2 ?_
      rw [rounds_succ]
      go_wp2_with fail
      rw [rounds_succ]
      go_wp2_with fail
      go_ret
      exact ⟨rfl, rfl⟩
  · rw [if_neg ha]
    have hb1 : (a == 0) = false := by simpa using ha
    have hb2 : (a != 0) = true := by simpa using ha
    clear ha
    go_enter Try.func70, Try.ntmps70
    go_wp2_with fail
    refine wp_loop_rounds 1 ?_
    rw [rounds_succ]
    go_wp2_with fail
    go_ret
    exact ⟨rfl, rfl⟩
end Go.Proofs.Ytngelemjpgglpaa
/-
  THE WALK of wide's above.
-/
namespace Go.Proofs.Ytngelemjpgglpaa
open Go.RowKit
attribute [local go_sem ↓] Go.wp_at_zero Go.wp_at_succ

theorem orZ_cmp (h1 l1 h2 l2 : Nat) (a : l1 < 18446744073709551616) (b : l2 < 18446744073709551616) :
    orZ (cmpZ h1 h2) (cmpZ l1 l2) = cmpZ ((h1 * 18446744073709551616 + l1 : Nat) : Int) ((h2 * 18446744073709551616 + l2 : Nat) : Int) := by
  unfold orZ cmpZ
  by_cases e : h1 = h2
  · subst e
    by_cases f : l1 = l2
    · subst f; simp
    · have : ((h1 * 18446744073709551616 + l1 : Nat) : Int) ≠ ((h1 * 18446744073709551616 + l2 : Nat) : Int) := by omega
      have g : (l1 : Int) ≠ l2 := by omega
      rw [if_neg this, if_neg g]
      by_cases k : (l1 : Int) < l2
      · rw [if_pos k, if_pos (show ((h1 * 18446744073709551616 + l1 : Nat) : Int) < ((h1 * 18446744073709551616 + l2 : Nat) : Int) by omega)]; simp
      · rw [if_neg k, if_neg (show ¬ ((h1 * 18446744073709551616 + l1 : Nat) : Int) < ((h1 * 18446744073709551616 + l2 : Nat) : Int) by omega)]; simp
  · have : ((h1 * 18446744073709551616 + l1 : Nat) : Int) ≠ ((h2 * 18446744073709551616 + l2 : Nat) : Int) := by omega
    have g : (h1 : Int) ≠ h2 := by omega
    rw [if_neg this, if_neg g]
    by_cases k : (h1 : Int) < h2
    · rw [if_pos k, if_pos (show ((h1 * 18446744073709551616 + l1 : Nat) : Int) < ((h2 * 18446744073709551616 + l2 : Nat) : Int) by omega)]; simp
    · rw [if_neg k, if_neg (show ¬ ((h1 * 18446744073709551616 + l1 : Nat) : Int) < ((h2 * 18446744073709551616 + l2 : Nat) : Int) by omega)]; simp

theorem cmpU_c (x y c : Int) (w : World) (h : cmpZ x y = c) : Calls Try.prog 71 #[.int .u64 x, .int .u64 y] w fun e w' => e = .returned (.int .i64 c) ∧ w' = w := by
  rw [← h]; exact cmpU_any x y w
set_option maxRecDepth 100000 in
set_option maxHeartbeats 1000000 in
theorem above_any (n1 n2 : Bool) (h1 l1 h2 l2 : Nat) (c : Int) (w : World) (b1 : l1 < 18446744073709551616) (b2 : l2 < 18446744073709551616)
    (hc : cmpZ ((h1 * 18446744073709551616 + l1 : Nat) : Int) ((h2 * 18446744073709551616 + l2 : Nat) : Int) = c) :
    Calls Try.prog 57 #[.agg #[.bool n1, .int .u64 (h1 : Int), .int .u64 (l1 : Int)], .agg #[.bool n2, .int .u64 (h2 : Int), .int .u64 (l2 : Int)]] w (IntPost c w) := by
  obtain ⟨p, hp⟩ : ∃ p, Hid (cmpZ (h1 : Int) (h2 : Int) = p) := ⟨_, rfl⟩
  obtain ⟨q, hq⟩ : ∃ q, Hid (cmpZ (l1 : Int) (l2 : Int) = q) := ⟨_, rfl⟩
  have ho : Hid (orZ p q = c) := by show _ = _; rw [← hp.out, ← hq.out, ← hc]; exact orZ_cmp h1 l1 h2 l2 b1 b2
  clear b1 b2 hc
  go_enter Try.func57, Try.ntmps57
  go_upto_region 1 with fail
  obtain ⟨X, Y⟩ := two_wide w n1 n2 h1 l1 h2 l2
  have B : Hid (Below w.heap.size w ((w.alloc (.cells #[.bool n1, .int .u64 h1, .int .u64 l1] 57)).alloc (.cells #[.bool n2, .int .u64 h2, .int .u64 l2] 57))) := bt (ba _ _) (ba _ _)
  generalize World.alloc (World.alloc w _) _ = W2 at X Y B ⊢
  have XH := Lib.hid X; have YH := Lib.hid Y
  have d1 := X.c1; have d2 := X.c2; have d3 := Y.c1; have d4 := Y.c2
  have z1 := X.lt; have z2 := Y.lt
  clear X Y
  refine wp_region_still_tail 10 (by kernel_rfl) (by kernel_rfl) ?_
  simp only [List.take_succ_cons, List.take_zero, List.drop_succ_cons, List.drop_zero]
  iterate 4 still_step
  still_call (cmpU_c (h1 : Int) (h2 : Int) p _ hp.out)
  iterate 4 still_step
  still_call (cmpU_c (l1 : Int) (l2 : Int) q _ hq.out)
  refine wpStill_nil ?_
  change wpList _ _ _ _ _ W2.drew
  have BD : Hid (Below w.heap.size w W2.drew) := B.out.drew
  clear d1 d2 d3 d4 z1 z2
  generalize W2.drew = w5 at BD ⊢
  go_wp2_with fail
  refine (or2_any _ p q _ (by simp) (by simp)).mono ?_
  rintro e w6 ⟨rfl, rfl⟩
  rw [ho.out]
  go_wp2_with fail
  go_ret
  exact ⟨rfl, BD.out.alloc BD.out.size _⟩
end Go.Proofs.Ytngelemjpgglpaa
