/-
  decimal's functions, walked: Put, Of, raised, both.
-/
import Derived.Test.YtbcnbahfjpgmaaaDoorM37
import Derived.Deep.RegionHeld3
/-
  decimal's functions, walked: Put, Of, raised, both.
-/
namespace Go.Proofs.YtbcnbahfjpgmaaaDoor
open Go.RowKit
set_option linter.unusedSimpArgs false
attribute [local go_sem ↓] Go.wp_at_zero Go.wp_at_succ

/-- no answer -/
def noneV (e : Int) : Value := .tuple #[.agg #[.int .i64 0, .int .i64 0], .int .i64 e]
/-- what Put answers -/
def putV (c s : Int) : Value := if isB s = true then decV (un c s.toNat) 9 else noneV 2
theorem isD_fits {u c : Int} {s : Nat} (h : IsD u c s) : fits c := h.fit
theorem w_of (c : Int) (hc : fits c) : ∃ (b : Bool) (l : Nat), wv c = .agg #[.bool b, .int .u64 0, .int .u64 (l : Int)] ∧ IsW c b 0 l := by
  have h1 : -9223372036854775808 ≤ c ∧ c ≤ 9223372036854775807 := hc
  obtain ⟨b, l, h, g, v⟩ := wv_small c (by omega) (by omega)
  exact ⟨b, l, h, v, by omega, g⟩
theorem two_dec (w : World) (c s x y : Int) :
    DAt ((w.alloc (.cells #[.int .i64 c, .int .i64 s] 23)).alloc (.cells #[.int .i64 x, .int .i64 y] 23)) w.heap.size c s ∧
    DAt ((w.alloc (.cells #[.int .i64 c, .int .i64 s] 23)).alloc (.cells #[.int .i64 x, .int .i64 y] 23)) (w.heap.size + 1) x y ∧
    Below w.heap.size w ((w.alloc (.cells #[.int .i64 c, .int .i64 s] 23)).alloc (.cells #[.int .i64 x, .int .i64 y] 23)) := by
  have := dAt_new (w.alloc (.cells #[.int .i64 c, .int .i64 s] 23)) x y
  rw [World.size_alloc] at this
  exact ⟨DAt.below (dAt_new w c s) (ba _ _), this, bt (ba _ _) (ba _ _)⟩
theorem three_dec (w : World) (c s x y p q : Int) :
    DAt (((w.alloc (.cells #[.int .i64 c, .int .i64 s] 23)).alloc (.cells #[.int .i64 x, .int .i64 y] 23)).alloc (.cells #[.int .i64 p, .int .i64 q] 23)) w.heap.size c s ∧
    DAt (((w.alloc (.cells #[.int .i64 c, .int .i64 s] 23)).alloc (.cells #[.int .i64 x, .int .i64 y] 23)).alloc (.cells #[.int .i64 p, .int .i64 q] 23)) (w.heap.size + 1) x y ∧
    DAt (((w.alloc (.cells #[.int .i64 c, .int .i64 s] 23)).alloc (.cells #[.int .i64 x, .int .i64 y] 23)).alloc (.cells #[.int .i64 p, .int .i64 q] 23)) (w.heap.size + 1 + 1) p q ∧
    Below w.heap.size w (((w.alloc (.cells #[.int .i64 c, .int .i64 s] 23)).alloc (.cells #[.int .i64 x, .int .i64 y] 23)).alloc (.cells #[.int .i64 p, .int .i64 q] 23)) := by
  have := dAt_new ((w.alloc (.cells #[.int .i64 c, .int .i64 s] 23)).alloc (.cells #[.int .i64 x, .int .i64 y] 23)) p q
  rw [World.size_alloc, World.size_alloc] at this
  obtain ⟨h1, h2, h3⟩ := two_dec w c s x y
  exact ⟨DAt.below h1 (ba _ _), DAt.below h2 (ba _ _), this, bt h3 (ba _ _)⟩
theorem of_w (c : Int) (v : Value) (w : World) (hc : fits c) (hv : wv c = v) :
    Calls Tryd.prog 29 #[.int .i64 c] w fun e w' => e = .returned v ∧ Below w.heap.size w w' := by
  rw [← hv]; exact wOf_any c w hc.1 hc.2
/-- made, where there are few places -/
theorem made_lo (z : Int) (n : Bool) (hi lo s : Nat) (V : Value) (w : World) (X : IsW z n hi lo) (hs : s ≤ 9) (hV : decV z s = V) :
    Calls Tryd.prog 28 #[.agg #[.bool n, .int .u64 (hi : Int), .int .u64 (lo : Int)], .int .i64 (s : Int)] w fun e w' => e = .returned V ∧ Below w.heap.size w w' :=
  made_any z n hi lo s V w X (by omega) (by rw [if_neg (by omega)]; exact hV)
theorem made_lo0 (z : Int) (n : Bool) (lo s : Nat) (V : Value) (w : World) (X : IsW z n 0 lo) (hs : s ≤ 9) (hV : decV z s = V) :
    Calls Tryd.prog 28 #[.agg #[.bool n, .int .u64 0, .int .u64 (lo : Int)], .int .i64 (s : Int)] w fun e w' => e = .returned V ∧ Below w.heap.size w w' :=
  made_lo z n 0 lo s V w X hs hV

set_option maxRecDepth 100000 in
set_option maxHeartbeats 2000000 in
theorem dPut_any (c s : Int) (V : Value) (w : World) (hc : fits c) (hV : putV c s = V) :
    Calls Tryd.prog 13 #[.agg #[.int .i64 c, .int .i64 s]] w fun e w' => e = .returned V ∧ Below w.heap.size w w' := by
  go_enter Tryd.func13, Tryd.ntmps13
  go_upto_region 1 with fail
  obtain ⟨hX, hR, hB⟩ := two_dec w c s 0 0
  have X0 := Lib.hid hX; have R0 := Lib.hid hR; have B0 := Lib.hid hB; clear hX hR hB
  generalize World.alloc (World.alloc w _) _ = W0 at X0 R0 B0 ⊢
  have x0 := X0.out.c0
  have x1 := X0.out.c1
  go_wp2_with fail
  refine (is1_any _ c s _ (by simp) (by simp) (by simp)).mono ?_
  rintro e w1 ⟨rfl, b1⟩
  have b1 := bt (ba W0 _) b1
  have X1 := Lib.hid (DAt.below X0.out b1)
  have R1 := Lib.hid (DAt.below R0.out b1)
  have B1 := Lib.hid (bt B0.out b1)
  clear x0 x1
  clear b1
  clear X0 R0  B0
  unfold putV at hV
  cases hs : isB s with
  | false =>
    rw [hs, if_neg (by simp)] at hV; subst hV
    have r0 := R1.out.c0
    have rf0 := R1.out.f0
    have r1 := R1.out.c1
    have rf1 := R1.out.f1
    go_wp2_with fail
    refine bodyPost_ret (v := noneV 2) (by simp [results, Tryd.results13, go_sem, noneV, r0, r1]) rfl ⟨rfl, ((B1.out.setCell (by simp) _).setCell (by simp) _)⟩
  | true =>
    rw [hs, if_pos rfl] at hV
    obtain ⟨n, rfl, hn⟩ := isB_nat hs
    rw [show ((n : Nat) : Int).toNat = n from rfl, decV_un c n hn] at hV
    obtain ⟨ob, ol, hov, HO⟩ := w_of c hc
    obtain ⟨vc, vs, ve, hvv⟩ := decV_form c n; rw [hV] at hvv; subst hvv
    go_upto_region 3 with fail
    have HS0 : (fun w' : World => w'.cell? ⟨w.heap.size, 0, none⟩ = some (.int .i64 c) ∧ w'.cell? ⟨w.heap.size, 1, none⟩ = some (.int .i64 (n : Int))) w1.drew := ⟨(DAt.below X1.out ((Below.refl _ _).drew)).c0, (DAt.below X1.out ((Below.refl _ _).drew)).c1⟩
    go_region_held3 (fun w' => w'.cell? ⟨w.heap.size, 0, none⟩ = some (.int .i64 c) ∧ w'.cell? ⟨w.heap.size, 1, none⟩ = some (.int .i64 (n : Int)))
      (first | with_reducible exact HS0 | with_reducible assumption | with_reducible exact ⟨((dAt_other _ _ (dAt_other _ _ (DAt.below X1.out T21.out) (by omega)) (by omega))).c0, ((dAt_other _ _ (dAt_other _ _ (DAt.below X1.out T21.out) (by omega)) (by omega))).c1⟩)
      (first
        | (go_at_call 29; (with_reducible refine (of_w c _ _ hc hov).mono ?_); rintro e w20 ⟨rfl, b20⟩; have T20 : Hid (Below w1.heap.size w1 w20) := bt ((Below.refl _ _).drew) b20; have HS20 : w20.cell? ⟨w.heap.size, 0, none⟩ = some (.int .i64 c) ∧ w20.cell? ⟨w.heap.size, 1, none⟩ = some (.int .i64 (n : Int)) := ⟨(DAt.below X1.out T20.out).c0, (DAt.below X1.out T20.out).c1⟩; clear b20)
        | (go_at_call 28; (with_reducible refine (made_lo0 c ob ol n _ _ HO hn hV).mono ?_); rintro e w21 ⟨rfl, b21⟩; have T21 : Hid (Below w1.heap.size w1 w21) := bt T20.out b21; have HS21 : w21.cell? ⟨w.heap.size, 0, none⟩ = some (.int .i64 c) ∧ w21.cell? ⟨w.heap.size, 1, none⟩ = some (.int .i64 (n : Int)) := ⟨(DAt.below X1.out T21.out).c0, (DAt.below X1.out T21.out).c1⟩; have B9 := Lib.hid (bt B1.out T21.out); have R9 := Lib.hid (DAt.below R1.out T21.out); have r0 := R9.out.c0; have rf0 := R9.out.f0; have r1 := R9.out.c1; have rf1 := R9.out.f1; clear b21))
    all_goals
      go_wp2_with fail
      refine bodyPost_ret (v := _) (by simp [results, Tryd.results13, go_sem, noneV, r0, r1]) rfl ⟨rfl, ((B9.out.setCell (by simp) _).setCell (by simp) _)⟩

theorem raised_lt (c : Int) (j : Nat) (hc : fits c) (hj : j ≤ 9) : (c * ((10 ^ j : Nat) : Int)).natAbs < 340282366920938463463374607431768211456 := by
  have h1 : -9223372036854775808 ≤ c ∧ c ≤ 9223372036854775807 := hc
  have hp : 10 ^ j ≤ 10 ^ 9 := Nat.pow_le_pow_right (by omega) hj
  rw [Int.natAbs_mul, Int.natAbs_natCast]
  have := Nat.mul_le_mul (show c.natAbs ≤ 9223372036854775808 by omega) hp
  omega
def BoxW (W : World) (b : Bool) (h l : Int) (s : Value) (wx : World) : Prop :=
  ∃ i : Nat, s = .pointer (some ⟨i, 0, none⟩) ∧ WAt wx i b h l ∧ Below W.heap.size W wx
theorem dec_wide (w : World) (c s : Int) :
    DAt ((w.alloc (.cells #[.int .i64 c, .int .i64 s] 23)).alloc (.cells #[.bool false, .int .u64 0, .int .u64 0] 58)) w.heap.size c s ∧
    WAt ((w.alloc (.cells #[.int .i64 c, .int .i64 s] 23)).alloc (.cells #[.bool false, .int .u64 0, .int .u64 0] 58)) (w.heap.size + 1) false 0 0 ∧
    Below w.heap.size w ((w.alloc (.cells #[.int .i64 c, .int .i64 s] 23)).alloc (.cells #[.bool false, .int .u64 0, .int .u64 0] 58)) := by
  have := wAt_new (w.alloc (.cells #[.int .i64 c, .int .i64 s] 23)) false 0 0
  rw [World.size_alloc] at this
  exact ⟨DAt.below (dAt_new w c s) (ba _ _), this, bt (ba _ _) (ba _ _)⟩
theorem ten_w (j : Nat) (t : Nat) (w : World) (hj : j ≤ 19) (ht : 10 ^ j = t) : Calls Tryd.prog 45 #[.int .i64 (j : Int)] w fun e w' => e = .returned (.int .u64 (t : Int)) ∧ Below w.heap.size w w' := by
  refine (wTen_c (j : Int) (t : Int) w (by omega) (by omega) (by unfold tenI; rw [if_pos (by omega), ← ht]; rfl)).mono ?_
  rintro e w' ⟨rfl, rfl⟩; exact ⟨rfl, Below.refl _ _⟩

theorem dd_ww (w : World) (c s x y : Int) : ∃ W : World, W = ((((w.alloc (.cells #[.int .i64 c, .int .i64 s] 23)).alloc (.cells #[.int .i64 x, .int .i64 y] 23)).alloc (.cells #[.bool false, .int .u64 0, .int .u64 0] 58)).alloc (.cells #[.bool false, .int .u64 0, .int .u64 0] 58)) ∧
    DAt W w.heap.size c s ∧ DAt W (w.heap.size + 1) x y ∧ WAt W (w.heap.size + 1 + 1) false 0 0 ∧ WAt W (w.heap.size + 1 + 1 + 1) false 0 0 ∧ Below w.heap.size w W := by
  obtain ⟨h1, h2, h3⟩ := two_dec w c s x y
  have h4 := wAt_new ((w.alloc (.cells #[.int .i64 c, .int .i64 s] 23)).alloc (.cells #[.int .i64 x, .int .i64 y] 23)) false 0 0
  have h5 := wAt_new (((w.alloc (.cells #[.int .i64 c, .int .i64 s] 23)).alloc (.cells #[.int .i64 x, .int .i64 y] 23)).alloc (.cells #[.bool false, .int .u64 0, .int .u64 0] 58)) false 0 0
  simp only [World.size_alloc] at h4 h5
  exact ⟨_, rfl, DAt.below h1 (bt (ba _ _) (ba _ _)), DAt.below h2 (bt (ba _ _) (ba _ _)), WAt.below h4 (ba _ _), h5, bt h3 (bt (ba _ _) (ba _ _))⟩
end Go.Proofs.YtbcnbahfjpgmaaaDoor
