/-
  The document's decimals (corrodyref02), walked.
-/
import Derived.Test.YtbcnbahfjpgmaaaDoorM39
import Derived.Test.YtbcnbahfjpgmaaaDoorM24
/-
  The document's decimals (corrodyref02), walked.
-/
namespace Go.Proofs.YtbcnbahfjpgmaaaDoor
open Go.RowKit
set_option linter.unusedSimpArgs false
attribute [local go_sem ↓] Go.wp_at_zero Go.wp_at_succ

theorem dec_num (w : World) (c s : Int) : ∃ W : World, W = ((w.alloc (.cells #[.int .i64 c, .int .i64 s] 23)).alloc (.cells #[.bool false, .slice none 0 0] 36)) ∧
    DAt W w.heap.size c s ∧ BoxAt W (w.heap.size + 1) (.bool false) (.slice none 0 0) ∧ Below w.heap.size w W := by
  have := boxAt_new (w.alloc (.cells #[.int .i64 c, .int .i64 s] 23)) (.bool false) (.slice none 0 0)
  rw [World.size_alloc] at this
  exact ⟨_, rfl, DAt.below (dAt_new w c s) (ba _ _), this, bt (ba _ _) (ba _ _)⟩
theorem num_num (w : World) (v0 v1 u0 u1 : Value) : ∃ W : World, W = ((w.alloc (.cells #[v0, v1] 36)).alloc (.cells #[u0, u1] 36)) ∧
    BoxAt W w.heap.size v0 v1 ∧ BoxAt W (w.heap.size + 1) u0 u1 ∧ Below w.heap.size w W := by
  have := boxAt_new (w.alloc (.cells #[v0, v1] 36)) u0 u1
  rw [World.size_alloc] at this
  exact ⟨_, rfl, boxAt_below (boxAt_new w v0 v1) (ba _ _), this, bt (ba _ _) (ba _ _)⟩
theorem num_dec (w : World) (v0 v1 : Value) (c s : Int) : ∃ W : World, W = ((w.alloc (.cells #[v0, v1] 36)).alloc (.cells #[.int .i64 c, .int .i64 s] 23)) ∧
    BoxAt W w.heap.size v0 v1 ∧ DAt W (w.heap.size + 1) c s ∧ Below w.heap.size w W := by
  have := dAt_new (w.alloc (.cells #[v0, v1] 36)) c s
  rw [World.size_alloc] at this
  exact ⟨_, rfl, boxAt_below (boxAt_new w v0 v1) (ba _ _), this, bt (ba _ _) (ba _ _)⟩
theorem of_f (c : Int) (w : World) (hc : fits c) : Calls Tryd.prog 15 #[.int .i64 c] w (NumPost 8 c w) := of_any c w hc.1 hc.2
theorem ten_f (j : Nat) (w : World) (hj : j ≤ 27) : Calls Tryd.prog 62 #[.int .i64 (j : Int)] w (NumPost 28 ((10 ^ j : Nat) : Int) w) := by
  refine (ten_any (j : Int) w (by omega)).mono ?_
  rintro e w' ⟨v, hv, he, hb⟩
  refine ⟨v, num_mono (num_cast hv ?_) (by show j + 1 ≤ 28; omega), he, hb⟩
  rw [show ((j : Nat) : Int).toNat = j from rfl, pow_int]
theorem units_val (c : Int) (n : Nat) (hn : n ≤ 9) : c * ((10 ^ (18 - n) : Nat) : Int) = un c n * ((10 ^ 9 : Nat) : Int) := by
  unfold un
  rw [pow_split (9 - n) 9 (18 - n) (by omega), Int.natCast_mul, ← Int.mul_assoc, pow_int (9 - n)]

set_option maxRecDepth 100000 in
set_option maxHeartbeats 1000000 in
theorem units_any (c : Int) (n : Nat) (w : World) (hc : fits c) (hn : n ≤ 9) :
    Calls Tryd.prog 41 #[.agg #[.int .i64 c, .int .i64 (n : Int)]] w (NumPost 36 (un c n * ((10 ^ 9 : Nat) : Int)) w) := by
  obtain ⟨j, hj⟩ : ∃ j, Hid (18 - n = j) := ⟨_, rfl⟩
  have hw : IntKind.i64.wrap (18 - (n : Int)) = (j : Int) := by have := hj.out; rw [IntKind.wrap_i64]; omega
  have HJ : Hid (j ≤ 27) := by have := hj.out; show _ ≤ _; omega
  have HV : Hid (c * ((10 ^ j : Nat) : Int) = un c n * ((10 ^ 9 : Nat) : Int)) := by rw [← hj.out]; exact units_val c n hn
  have HC := Lib.hid hc
  clear hc hn
  go_enter Tryd.func41, Tryd.ntmps41
  go_upto_region 1 with fail
  obtain ⟨W0, hW, hX, hR, hBB⟩ := dec_num w c (n : Int)
  rw [← hW]
  have X0 := Lib.hid hX; have R0 := Lib.hid hR; have B0 := Lib.hid hBB; clear hX hR hBB hW
  have HS0 : (fun w' : World => w'.cell? ⟨w.heap.size, 0, none⟩ = some (.int .i64 c) ∧ w'.cell? ⟨w.heap.size, 1, none⟩ = some (.int .i64 (n : Int))) W0.drew := ⟨(DAt.below X0.out ((Below.refl _ _).drew)).c0, (DAt.below X0.out ((Below.refl _ _).drew)).c1⟩
  go_region_held3 (fun w' => w'.cell? ⟨w.heap.size, 0, none⟩ = some (.int .i64 c) ∧ w'.cell? ⟨w.heap.size, 1, none⟩ = some (.int .i64 (n : Int)))
    (first | with_reducible exact HS0 | with_reducible assumption | with_reducible exact ⟨((dAt_other _ _ (dAt_other _ _ (DAt.below X0.out T22.out) (by omega)) (by omega))).c0, ((dAt_other _ _ (dAt_other _ _ (DAt.below X0.out T22.out) (by omega)) (by omega))).c1⟩)
    (first
      | (go_at_call 15; (with_reducible refine (of_f c _ HC.out).mono ?_); rintro e w20 ⟨v20, hz, rfl, b20⟩; have T20 : Hid (Below W0.heap.size W0 w20) := bt ((Below.refl _ _).drew) b20; have HS20 : w20.cell? ⟨w.heap.size, 0, none⟩ = some (.int .i64 c) ∧ w20.cell? ⟨w.heap.size, 1, none⟩ = some (.int .i64 (n : Int)) := ⟨(DAt.below X0.out T20.out).c0, (DAt.below X0.out T20.out).c1⟩; have N20 := Lib.hid hz; clear hz; clear b20)
      | (go_at_call 62; (with_reducible refine (ten_f j _ HJ.out).mono ?_); rintro e w21 ⟨v21, hz, rfl, b21⟩; have T21 : Hid (Below W0.heap.size W0 w21) := bt T20.out b21; have HS21 : w21.cell? ⟨w.heap.size, 0, none⟩ = some (.int .i64 c) ∧ w21.cell? ⟨w.heap.size, 1, none⟩ = some (.int .i64 (n : Int)) := ⟨(DAt.below X0.out T21.out).c0, (DAt.below X0.out T21.out).c1⟩; have N21 := Lib.hid hz; clear hz; have b21h := Lib.hid b21; clear b21)
      | (go_at_call 24; (with_reducible refine (mul_any 8 28 _ _ c ((10 ^ j : Nat) : Int) _ (num_below N20.out b21h.out) N21.out (by omega) (by omega)).mono ?_); rintro e w22 ⟨v22, hz, rfl, b22⟩; have T22 : Hid (Below W0.heap.size W0 w22) := bt T21.out b22; have HS22 : w22.cell? ⟨w.heap.size, 0, none⟩ = some (.int .i64 c) ∧ w22.cell? ⟨w.heap.size, 1, none⟩ = some (.int .i64 (n : Int)) := ⟨(DAt.below X0.out T22.out).c0, (DAt.below X0.out T22.out).c1⟩; obtain ⟨q22, a22, m22, c22, rfl⟩ := num_agg hz; have N22 := Lib.hid hz; clear hz; have B9 := Lib.hid (bt B0.out T22.out); have R9 := Lib.hid (boxAt_below R0.out T22.out); have r0 := R9.out.c0; have rf0 := R9.out.f0; have r1 := R9.out.c1; have rf1 := R9.out.f1; clear b22))
  all_goals
    go_wp2_with fail
    refine bodyPost_ret (v := .agg #[.bool q22, .slice a22 m22 c22]) (by simp [results, Tryd.results41, go_sem, r0, r1]) rfl ⟨_, num_set2 _ _ (num_cast N22.out HV.out) R9.out, rfl, (B9.out.setCell (by simp) _).setCell (by simp) _⟩

theorem even_f (k : Nat) (va vb : Value) (x : Int) (Y : Nat) (w : World) (ha : Num k w va x) (hb : Num 28 w vb (Y : Int)) (hY : 0 < Y) (l1 : k ≤ 8000) :
    Calls Tryd.prog 61 #[va, vb] w (NumPost (k + 9) (evenZ x Y) w) := even_any k 28 va vb x Y w ha hb hY l1 (by omega)
set_option maxRecDepth 100000 in
set_option maxHeartbeats 1000000 in
theorem near_any (k : Nat) (v : Value) (u : Int) (t : Nat) (w : World) (hv : Num k w v u) (hk : k ≤ 8000) (ht : t ≤ 9) :
    Calls Tryd.prog 40 #[v, .int .i64 (t : Int)] w (NumPost (k + 9) (evenZ u (10 ^ (18 - t))) w) := by
  obtain ⟨j, hj⟩ : ∃ j, Hid (18 - t = j) := ⟨_, rfl⟩
  have hw : IntKind.i64.wrap (18 - (t : Int)) = (j : Int) := by have := hj.out; rw [IntKind.wrap_i64]; omega
  have HJ : Hid (j ≤ 27) := by have := hj.out; show _ ≤ _; omega
  rw [hj.out]
  obtain ⟨bv, av, mv, cv, rfl⟩ := num_agg hv
  have HN := Lib.hid hv
  clear hv ht
  go_enter Tryd.func40, Tryd.ntmps40
  go_upto_region 1 with fail
  obtain ⟨W0, hW, hX, hR, hBB⟩ := num_num w (.bool bv) (.slice av mv cv) (.bool false) (.slice none 0 0)
  rw [← hW]
  have X0 := Lib.hid hX; have R0 := Lib.hid hR; have B0 := Lib.hid hBB; have NX0 := Lib.hid (num_below HN.out hBB); clear hX hR hBB hW
  have HS0 : (fun w' : World => w'.cell? ⟨w.heap.size, 0, none⟩ = some (.bool bv) ∧ w'.cell? ⟨w.heap.size, 1, none⟩ = some (.slice av mv cv)) W0.drew := ⟨(boxAt_below X0.out ((Below.refl _ _).drew)).c0, (boxAt_below X0.out ((Below.refl _ _).drew)).c1⟩
  go_region_held3 (fun w' => w'.cell? ⟨w.heap.size, 0, none⟩ = some (.bool bv) ∧ w'.cell? ⟨w.heap.size, 1, none⟩ = some (.slice av mv cv))
    (first | with_reducible exact HS0 | with_reducible assumption | with_reducible exact ⟨((boxAt_set_other _ _ (boxAt_set_other _ _ (boxAt_below X0.out T21.out) (by omega)) (by omega))).c0, ((boxAt_set_other _ _ (boxAt_set_other _ _ (boxAt_below X0.out T21.out) (by omega)) (by omega))).c1⟩)
    (first
      | (go_at_call 62; (with_reducible refine (ten_f j _ HJ.out).mono ?_); rintro e w20 ⟨v20, hz, rfl, b20⟩; have T20 : Hid (Below W0.heap.size W0 w20) := bt ((Below.refl _ _).drew) b20; have HS20 : w20.cell? ⟨w.heap.size, 0, none⟩ = some (.bool bv) ∧ w20.cell? ⟨w.heap.size, 1, none⟩ = some (.slice av mv cv) := ⟨(boxAt_below X0.out T20.out).c0, (boxAt_below X0.out T20.out).c1⟩; have N20 := Lib.hid hz; clear hz; clear b20)
      | (go_at_call 61; (with_reducible refine (even_f k _ _ u (10 ^ j) _ (num_below NX0.out T20.out) N20.out (ten_pos j) (by omega)).mono ?_); rintro e w21 ⟨v21, hz, rfl, b21⟩; have T21 : Hid (Below W0.heap.size W0 w21) := bt T20.out b21; have HS21 : w21.cell? ⟨w.heap.size, 0, none⟩ = some (.bool bv) ∧ w21.cell? ⟨w.heap.size, 1, none⟩ = some (.slice av mv cv) := ⟨(boxAt_below X0.out T21.out).c0, (boxAt_below X0.out T21.out).c1⟩; obtain ⟨q21, a21, m21, c21, rfl⟩ := num_agg hz; have N21 := Lib.hid hz; clear hz; have B9 := Lib.hid (bt B0.out T21.out); have R9 := Lib.hid (boxAt_below R0.out T21.out); have r0 := R9.out.c0; have rf0 := R9.out.f0; have r1 := R9.out.c1; have rf1 := R9.out.f1; clear b21))
  all_goals
    go_wp2_with fail
    refine bodyPost_ret (v := .agg #[.bool q21, .slice a21 m21 c21]) (by simp [results, Tryd.results40, go_sem, r0, r1]) rfl ⟨_, num_set2 _ _ N21.out R9.out, rfl, (B9.out.setCell (by simp) _).setCell (by simp) _⟩
end Go.Proofs.YtbcnbahfjpgmaaaDoor
