/-
  THE WALKS of wide's Even and Floor; THE WALKS of corrodylaw01's told and known; THE WALK of corrodylaw01's known; THE WALKS of cmp.Compare at uint64, cmp.Or at int, and of wide's above; THE WALK of wide's above; THE WALKS of wide's Add, Cmp.
-/
import Derived.Test.YtfonpegkaajnkaaDoorM25
import Derived.Deep.RegionHeld3
import Derived.Test.YtfonpegkaajnkaaDoorM16
import Derived.Test.YtfonpegkaajnkaaDoorM24
import Derived.StillTailTactics
/-
  THE WALKS of wide's Even and Floor.
-/
namespace Go.Proofs.YtfonpegkaajnkaaDoor
open Go.RowKit
attribute [local go_sem ↓] Go.wp_at_zero Go.wp_at_succ

theorem evenZ_nat (q r d : Nat) (hr : r < d) : evenZ ((q * d + r : Nat) : Int) d = ((q + if d < r + r ∨ (r + r = d ∧ q % 2 = 1) then 1 else 0 : Nat) : Int) := by
  have e1 : ((q * d + r : Nat) : Int) / (d : Int) = q := by
    rw [← Int.natCast_ediv]; congr 1
    rw [Nat.mul_comm, Nat.mul_add_div (by omega), Nat.div_eq_of_lt hr]; rfl
  have e2 : ((q * d + r : Nat) : Int) % (d : Int) = r := by
    rw [← Int.natCast_emod]; congr 1
    rw [Nat.mul_comm, Nat.mul_add_mod, Nat.mod_eq_of_lt hr]
  unfold evenZ
  rw [e1, e2]
  by_cases c : d < r + r ∨ (r + r = d ∧ q % 2 = 1)
  · rw [if_pos c, if_pos (by omega)]; omega
  · rw [if_neg c, if_neg (by omega)]; omega
theorem ediv_neg' (q r d : Nat) (hr : r < d) : (-((q * d + r : Nat) : Int)) / (d : Int) = -(q : Int) - (if r = 0 then 0 else 1) ∧ (-((q * d + r : Nat) : Int)) % (d : Int) = (if r = 0 then 0 else (d : Int) - r) := by
  by_cases h : r = 0
  · subst h
    rw [if_pos rfl, if_pos rfl]
    have : (-((q * d + 0 : Nat) : Int)) = (-(q : Int)) * d := by rw [Int.neg_mul, Nat.add_zero, Int.natCast_mul]
    rw [this]
    exact ⟨by rw [Int.mul_ediv_cancel _ (by omega)]; omega, Int.mul_emod_left _ _⟩
  · rw [if_neg h, if_neg h]
    have : (-((q * d + r : Nat) : Int)) = ((d : Int) - r) + (-(q : Int) - 1) * d := by
      rw [Int.sub_mul, Int.neg_mul, Int.one_mul]; simp; omega
    rw [this]
    have p1 : (0 : Int) ≤ (d : Int) - r := by omega
    have p2 : (d : Int) - r < d := by omega
    exact ⟨by rw [Int.add_mul_ediv_right _ _ (by omega), Int.ediv_eq_zero_of_lt p1 p2]; omega, by rw [Int.add_mul_emod_self_right, Int.emod_eq_of_lt p1 p2]⟩
theorem evenZ_neg (q r d : Nat) (hr : r < d) : evenZ (-((q * d + r : Nat) : Int)) d = -((q + if d < r + r ∨ (r + r = d ∧ q % 2 = 1) then 1 else 0 : Nat) : Int) := by
  obtain ⟨e1, e2⟩ := ediv_neg' q r d hr
  unfold evenZ
  rw [e1, e2]
  by_cases h : r = 0
  · subst h
    rw [if_pos rfl, if_pos rfl, if_neg (by omega), if_neg (by omega)]; omega
  · rw [if_neg h, if_neg h]
    by_cases c : d < r + r ∨ (r + r = d ∧ q % 2 = 1)
    · rw [if_pos c, if_neg (by omega)]; omega
    · rw [if_neg c, if_pos (by omega)]; omega
theorem sz_even (n : Bool) (hi lo d : Nat) (hd : 0 < d) (u : Bool)
    (hu : u = decide (d < (hi * 18446744073709551616 + lo) % d + (hi * 18446744073709551616 + lo) % d ∨ ((hi * 18446744073709551616 + lo) % d + (hi * 18446744073709551616 + lo) % d = d ∧ (hi * 18446744073709551616 + lo) / d % 2 = 1))) :
    sz n ((hi * 18446744073709551616 + lo) / d + (if u = true then 1 else 0)) = evenZ (wz n hi lo) d := by
  rw [← sz_wz]
  generalize hM : hi * 18446744073709551616 + lo = M at hu ⊢
  have hr := Nat.mod_lt M hd
  have e : M = M / d * d + M % d := by rw [Nat.mul_comm]; exact (Nat.div_add_mod M d).symm
  have hc : (u = true) ↔ (d < M % d + M % d ∨ (M % d + M % d = d ∧ M / d % 2 = 1)) := by rw [hu, decide_eq_true_eq]
  simp only [hc]
  unfold sz
  cases n
  · simp only [Bool.false_eq_true, if_false]
    have := evenZ_nat (M / d) (M % d) d hr
    rw [← e] at this; exact this.symm
  · simp only [if_true]
    have := evenZ_neg (M / d) (M % d) d hr
    rw [← e] at this; exact this.symm
theorem sz_floor (n : Bool) (hi lo d : Nat) (hd : 0 < d) (u : Bool) (hu : u = (n && decide (0 < (hi * 18446744073709551616 + lo) % d))) :
    sz n ((hi * 18446744073709551616 + lo) / d + (if u = true then 1 else 0)) = wz n hi lo / (d : Int) := by
  rw [← sz_wz]
  generalize hM : hi * 18446744073709551616 + lo = M at hu ⊢
  have hr := Nat.mod_lt M hd
  have e : M = M / d * d + M % d := by rw [Nat.mul_comm]; exact (Nat.div_add_mod M d).symm
  subst hu
  unfold sz
  cases n
  · simp
  · simp only [Bool.true_and, if_true, decide_eq_true_eq]
    have := (ediv_neg' (M / d) (M % d) d hr).1
    rw [← e] at this
    rw [this]
    by_cases c : M % d = 0
    · rw [if_pos c, if_neg (by omega)]; omega
    · rw [if_neg c, if_pos (by omega)]; omega

set_option maxRecDepth 100000 in
set_option maxHeartbeats 1000000 in
theorem wEven_any (n : Bool) (hi lo d : Nat) (w : World) (h1 : hi < 18446744073709551616) (h2 : lo < 18446744073709551616) (hd : 0 < d) (h3 : d < 18446744073709551616) :
    Calls Tryd.prog 99 #[.agg #[.bool n, .int .u64 (hi : Int), .int .u64 (lo : Int)], .int .u64 (d : Int)] w fun e w' => e = .returned (.tuple #[wv (evenZ (wz n hi lo) d), .int .i64 0]) ∧ Below w.heap.size w w' := by
  obtain ⟨o, ho⟩ : ∃ o : Bool, Hid (decide ((hi * 18446744073709551616 + lo) / d % 2 = 1) = o) := ⟨_, rfl⟩
  obtain ⟨r, hr⟩ : ∃ r : Nat, Hid ((hi * 18446744073709551616 + lo) % d = r) := ⟨_, rfl⟩
  have hrd : r < d := by rw [← hr.out]; exact Nat.mod_lt _ hd
  obtain ⟨u, hu⟩ : ∃ u : Bool, Hid (u = decide (d < r + r ∨ (r + r = d ∧ o = true))) := ⟨_, rfl⟩
  have HE : Hid (sz n ((hi * 18446744073709551616 + lo) / d + (if u = true then 1 else 0)) = evenZ (wz n hi lo) d) := by
    refine sz_even n hi lo d hd u ?_
    rw [hu.out, hr.out, ← ho.out]; simp only [decide_eq_true_eq]
  have HU : Hid (u = true → 2 ≤ d) := by
    intro q; rw [hu.out, decide_eq_true_eq] at q; omega
  have HL : Hid (hi < 18446744073709551616 ∧ lo < 18446744073709551616 ∧ 0 < d ∧ d < 18446744073709551616 ∧ r < d) := ⟨h1, h2, hd, h3, hrd⟩
  obtain ⟨z, hz⟩ : ∃ z, Hid (evenZ (wz n hi lo) d = z) := ⟨_, rfl⟩
  rw [hz.out]
  clear h1 h2 hd h3 hrd
  go_enter Tryd.func99, Tryd.ntmps99
  go_wp2_with fail
  refine (rounded_even n hi lo d (w.heap.size + 1) _ HL.out.1 HL.out.2.1 HL.out.2.2.1 HL.out.2.2.2.1 u o ho.out HU.out ?hup).mono ?_
  case hup =>
    intro w' hb
    rw [hr.out]
    refine up_even o r d (w.heap.size + 1) w' HL.out.2.2.2.2 HL.out.2.2.2.1 ?_ u hu.out
    refine cell_keep hb ?_ (by simp)
    go_simp
  rintro e w2 ⟨rfl, b2⟩
  rw [HE.out, hz.out]
  obtain ⟨nb, nh, nl, hv⟩ := wv_agg z
  rw [hv.out]
  have Z : Hid (WAt w2 (w.heap.size + 1 + 1) false 0 0) := by
    have := WAt.below (wAt_new ((w.alloc (.cells #[.bool n, .int .u64 (hi : Int), .int .u64 (lo : Int)] 101)).alloc (.cells #[.int .u64 (d : Int)] 89)) false 0 0) b2
    rw [World.size_alloc, World.size_alloc] at this; exact this
  have B := Lib.hid (bt (ba _ _) (bt (ba _ _) (bt (ba _ _) b2)))
  clear b2
  have r0 := Z.out.c0; have r1 := Z.out.c1; have r2 := Z.out.c2; have f0 := Z.out.f0; have f1 := Z.out.f1; have f2 := Z.out.f2
  go_wp2_with fail
  refine bodyPost_ret (v := .tuple #[.agg #[.bool nb, .int .u64 (nh : Int), .int .u64 (nl : Int)], .int .i64 0]) (by simp [results, Tryd.results99, go_sem, r0, r1, r2]) rfl ⟨by rw [hv.out], ((B.out.setCell (by simp; omega) _).setCell (by simp; omega) _).setCell (by simp; omega) _⟩

set_option maxRecDepth 100000 in
set_option maxHeartbeats 1000000 in
theorem wEven_zero (n : Bool) (hi lo : Nat) (w : World) :
    Calls Tryd.prog 99 #[.agg #[.bool n, .int .u64 (hi : Int), .int .u64 (lo : Int)], .int .u64 0] w fun e w' => e = .returned (.tuple #[.agg #[.bool false, .int .u64 0, .int .u64 0], .int .i64 12]) ∧ Below w.heap.size w w' := by
  go_enter Tryd.func99, Tryd.ntmps99
  go_wp2_with fail
  refine (rounded_even0 n hi lo _ _).mono ?_
  rintro e w2 ⟨rfl, b2⟩
  have Z : Hid (WAt w2 (w.heap.size + 1 + 1) false 0 0) := by
    have := WAt.below (wAt_new ((w.alloc (.cells #[.bool n, .int .u64 (hi : Int), .int .u64 (lo : Int)] 101)).alloc (.cells #[.int .u64 0] 89)) false 0 0) b2
    rw [World.size_alloc, World.size_alloc] at this; exact this
  have B := Lib.hid (bt (ba _ _) (bt (ba _ _) (bt (ba _ _) b2)))
  clear b2
  have r0 := Z.out.c0; have r1 := Z.out.c1; have r2 := Z.out.c2; have f0 := Z.out.f0; have f1 := Z.out.f1; have f2 := Z.out.f2
  go_wp2_with fail
  refine bodyPost_ret (v := .tuple #[.agg #[.bool false, .int .u64 0, .int .u64 0], .int .i64 12]) (by simp [results, Tryd.results99, go_sem, r0, r1, r2]) rfl ⟨rfl, ((B.out.setCell (by simp; omega) _).setCell (by simp; omega) _).setCell (by simp; omega) _⟩

end Go.Proofs.YtfonpegkaajnkaaDoor
/-
  THE WALKS of corrodylaw01's told and known.
-/
namespace Go.Proofs.YtfonpegkaajnkaaDoor
open Go.RowKit
attribute [local go_sem ↓] Go.wp_at_zero Go.wp_at_succ

/-- an answer's two parts, out of the number -/
theorem ov_parts (z : Int) (b : Bool) (h l : Nat) (e : Int) (hov : ovV z = .tuple #[.agg #[.bool b, .int .u64 (h : Int), .int .u64 (l : Int)], .int .i64 e]) :
    (e = 0 ∧ asV z = .tuple #[.agg #[.bool b, .int .u64 (h : Int), .int .u64 (l : Int)], .bool true]) ∨ (e = 11 ∧ b = false ∧ h = 0 ∧ l = 0 ∧ asV z = .tuple #[.agg #[.bool false, .int .u64 0, .int .u64 0], .bool false]) := by
  unfold ovV at hov
  unfold asV
  split at hov
  · rename_i hz
    rw [if_pos hz]
    simp only [Value.tuple.injEq, Array.mk.injEq, List.cons.injEq, Value.int.injEq, and_true, true_and] at hov
    refine .inl ⟨hov.2.symm, ?_⟩
    rw [← hov.1]; rfl
  · rename_i hz
    rw [if_neg hz]
    simp only [Value.tuple.injEq, Value.agg.injEq, Array.mk.injEq, List.cons.injEq, Value.int.injEq, Value.bool.injEq, and_true, true_and] at hov
    exact .inr ⟨hov.2.symm, hov.1.1.symm, by omega, by omega, rfl⟩

/-- the number 10 times .. of a known one -/
theorem wv_small (z : Int) (h0 : -9223372036854775808 ≤ z) (h1 : z ≤ 9223372036854775807) : ∃ (b : Bool) (l : Nat), wv z = .agg #[.bool b, .int .u64 ((0 : Nat) : Int), .int .u64 (l : Int)] ∧ l < 18446744073709551616 ∧ wz b (0 : Nat) l = z := by
  refine ⟨decide (z < 0), z.natAbs, ?_, by omega, wz_of z⟩
  unfold wv wr
  rw [show z.natAbs / 18446744073709551616 = 0 by omega, show z.natAbs % 18446744073709551616 = z.natAbs by omega]

end Go.Proofs.YtfonpegkaajnkaaDoor
/-
  THE WALK of corrodylaw01's known.
-/
namespace Go.Proofs.YtfonpegkaajnkaaDoor
open Go.RowKit
attribute [local go_sem ↓] Go.wp_at_zero Go.wp_at_succ

theorem wOf_c (n : Int) (v : Value) (w : World) (h0 : -9223372036854775808 ≤ n) (h1 : n ≤ 9223372036854775807) (hv : wv n = v) :
    Calls Tryd.prog 70 #[.int .i64 n] w fun e w' => e = .returned v ∧ Below w.heap.size w w' := by
  rw [← hv]; exact wOf_any n w h0 h1

end Go.Proofs.YtfonpegkaajnkaaDoor
/-
  THE WALKS of cmp.Compare at uint64, cmp.Or at int, and of wide's above.
-/

namespace Go.Proofs.YtfonpegkaajnkaaDoor
open Go.RowKit
attribute [local go_sem ↓] Go.wp_at_zero Go.wp_at_succ

def orZ (a b : Int) : Int := if a = 0 then b else a
end Go.Proofs.YtfonpegkaajnkaaDoor
/-
  THE WALK of wide's above.
-/
namespace Go.Proofs.YtfonpegkaajnkaaDoor
open Go.RowKit
attribute [local go_sem ↓] Go.wp_at_zero Go.wp_at_succ

theorem orZ_cmp (h1 l1 h2 l2 : Nat) (a : l1 < 18446744073709551616) (b : l2 < 18446744073709551616) :
    orZ (cmpZ h1 h2) (cmpZ l1 l2) = cmpZ ((h1 * 18446744073709551616 + l1 : Nat) : Int) ((h2 * 18446744073709551616 + l2 : Nat) : Int) := by
  unfold orZ cmpZ
  by_cases e : h1 = h2
  · subst e
    by_cases f : l1 = l2
    · subst f; simp
    · have : ((h1 * 18446744073709551616 + l1 : Nat) : Int) ≠ ((h1 * 18446744073709551616 + l2 : Nat) : Int) := by omega
      have g : (l1 : Int) ≠ l2 := by omega
      rw [if_neg this, if_neg g]
      by_cases k : (l1 : Int) < l2
      · rw [if_pos k, if_pos (show ((h1 * 18446744073709551616 + l1 : Nat) : Int) < ((h1 * 18446744073709551616 + l2 : Nat) : Int) by omega)]; simp
      · rw [if_neg k, if_neg (show ¬ ((h1 * 18446744073709551616 + l1 : Nat) : Int) < ((h1 * 18446744073709551616 + l2 : Nat) : Int) by omega)]; simp
  · have : ((h1 * 18446744073709551616 + l1 : Nat) : Int) ≠ ((h2 * 18446744073709551616 + l2 : Nat) : Int) := by omega
    have g : (h1 : Int) ≠ h2 := by omega
    rw [if_neg this, if_neg g]
    by_cases k : (h1 : Int) < h2
    · rw [if_pos k, if_pos (show ((h1 * 18446744073709551616 + l1 : Nat) : Int) < ((h2 * 18446744073709551616 + l2 : Nat) : Int) by omega)]; simp
    · rw [if_neg k, if_neg (show ¬ ((h1 * 18446744073709551616 + l1 : Nat) : Int) < ((h2 * 18446744073709551616 + l2 : Nat) : Int) by omega)]; simp

end Go.Proofs.YtfonpegkaajnkaaDoor
/-
  THE WALKS of wide's Add, Cmp.
-/
namespace Go.Proofs.YtfonpegkaajnkaaDoor
set_option linter.unusedSimpArgs false
set_option linter.unusedVariables false
open Go.RowKit
attribute [local go_sem ↓] Go.wp_at_zero Go.wp_at_succ

theorem wz_plus (n : Bool) (h1 l1 h2 l2 H L : Nat) (h : h1 * 18446744073709551616 + l1 + (h2 * 18446744073709551616 + l2) = H * 18446744073709551616 + L) : wz n h1 l1 + wz n h2 l2 = wz n H L := by
  unfold wz; cases n
  · simp only [Bool.false_eq_true, if_false]; omega
  · simp only [if_true]; omega
theorem wz_less (n : Bool) (h1 l1 h2 l2 H L : Nat) (h : h1 * 18446744073709551616 + l1 = H * 18446744073709551616 + L + (h2 * 18446744073709551616 + l2)) : wz n h1 l1 + wz (!n) h2 l2 = wz n H L := by
  unfold wz; cases n
  · simp only [Bool.false_eq_true, if_false, Bool.not_false, if_true]; omega
  · simp only [if_true, Bool.not_true, Bool.false_eq_true, if_false]; omega

theorem add_nat (h1 l1 h2 l2 L C H O : Nat) (a : l1 + l2 = C * 18446744073709551616 + L) (b : h1 + h2 + C = O * 18446744073709551616 + H) :
    h1 * 18446744073709551616 + l1 + (h2 * 18446744073709551616 + l2) = O * 340282366920938463463374607431768211456 + (H * 18446744073709551616 + L) := by omega
theorem divmodB (x C L : Nat) (h1 : x / 18446744073709551616 = C) (h2 : x % 18446744073709551616 = L) : x = C * 18446744073709551616 + L := by omega

/-- behind the order of the two -/
def AddOrd (w : World) (n : Bool) (h1 l1 h2 l2 : Nat) (wx : World) : Prop :=
  WAt wx w.heap.size n h1 l1 ∧ WAt wx (w.heap.size + 1) (!n) h2 l2 ∧ WAt wx (w.heap.size + 1 + 1) false 0 0 ∧ Below w.heap.size w wx

theorem add_swapped {w : World} {b1 b2 b3 : Nat} {n1 n2 : Bool} {h1 l1 h2 l2 : Int} (X : WAt w b1 n1 h1 l1) (Y : WAt w b2 n2 h2 l2) (Z : WAt w b3 false 0 0) (e12 : b1 ≠ b2) (e13 : b1 ≠ b3) (e23 : b2 ≠ b3) :
    WAt ((((((w.setCell ⟨b1, 0, none⟩ (.bool n2)).setCell ⟨b1, 1, none⟩ (.int .u64 h2)).setCell ⟨b1, 2, none⟩ (.int .u64 l2)).setCell ⟨b2, 0, none⟩ (.bool n1)).setCell ⟨b2, 1, none⟩ (.int .u64 h1)).setCell ⟨b2, 2, none⟩ (.int .u64 l1)) b1 n2 h2 l2 ∧
    WAt ((((((w.setCell ⟨b1, 0, none⟩ (.bool n2)).setCell ⟨b1, 1, none⟩ (.int .u64 h2)).setCell ⟨b1, 2, none⟩ (.int .u64 l2)).setCell ⟨b2, 0, none⟩ (.bool n1)).setCell ⟨b2, 1, none⟩ (.int .u64 h1)).setCell ⟨b2, 2, none⟩ (.int .u64 l1)) b2 n1 h1 l1 ∧
    WAt ((((((w.setCell ⟨b1, 0, none⟩ (.bool n2)).setCell ⟨b1, 1, none⟩ (.int .u64 h2)).setCell ⟨b1, 2, none⟩ (.int .u64 l2)).setCell ⟨b2, 0, none⟩ (.bool n1)).setCell ⟨b2, 1, none⟩ (.int .u64 h1)).setCell ⟨b2, 2, none⟩ (.int .u64 l1)) b3 false 0 0 := by
  have other : ∀ {w : World} {b b' : Nat} {n : Bool} {h l : Int} (o : Nat) (u : Value), WAt w b n h l → b ≠ b' → WAt (w.setCell ⟨b', o, none⟩ u) b n h l := by
    intro w b b' n h l o u H hb; unfold WAt; rw [Below.heap_setCell _ _ _ _ hb]; exact H
  refine ⟨other _ _ (other _ _ (other _ _ (wAt_set3 _ _ _ X) e12) e12) e12, wAt_set3 _ _ _ (other _ _ (other _ _ (other _ _ Y (Ne.symm e12)) (Ne.symm e12)) (Ne.symm e12)), ?_⟩
  exact other _ _ (other _ _ (other _ _ (other _ _ (other _ _ (other _ _ Z (Ne.symm e13)) (Ne.symm e13)) (Ne.symm e13)) (Ne.symm e23)) (Ne.symm e23)) (Ne.symm e23)

theorem sub_parts (h1 l1 h2 l2 : Nat) (hl1 : l1 < 18446744073709551616) (hl2 : l2 < 18446744073709551616) (b1 : h1 < 18446744073709551616) (b3 : h2 < 18446744073709551616)
    (h : h2 * 18446744073709551616 + l2 ≤ h1 * 18446744073709551616 + l1) : ∃ H L b : Nat, H < 18446744073709551616 ∧ L < 18446744073709551616 ∧ b ≤ 1 ∧ h1 * 18446744073709551616 + l1 = H * 18446744073709551616 + L + (h2 * 18446744073709551616 + l2) ∧
      ((l1 : Int) - l2 - 0) % 18446744073709551616 = L ∧ (if (l1 : Int) < l2 + 0 then (1 : Int) else 0) = b ∧ ((h1 : Int) - h2 - b) % 18446744073709551616 = H := by
  by_cases c : l1 < l2
  · exact ⟨h1 - h2 - 1, l1 + 18446744073709551616 - l2, 1, by omega, by omega, by omega, by omega, by omega, by rw [if_pos (by omega)]; rfl, by omega⟩
  · exact ⟨h1 - h2, l1 - l2, 0, by omega, by omega, by omega, by omega, by omega, by rw [if_neg (by omega)]; rfl, by omega⟩

end Go.Proofs.YtfonpegkaajnkaaDoor
