/-
  decimal's functions, walked: Put, Of, raised, both.
-/
import Derived.Test.YtlbmmnjecemkeaaDecMade
import Derived.Deep.RegionHeld3
namespace Go.Proofs.Ytlbmmnjecemkeaa
open Go.RowKit
set_option linter.unusedSimpArgs false
attribute [local go_sem ↓] Go.wp_at_zero Go.wp_at_succ

/-- no answer -/
def noneV (e : Int) : Value := .tuple #[.agg #[.int .i64 0, .int .i64 0], .int .i64 e]
/-- what Put answers -/
def putV (c s : Int) : Value := if isB s = true then decV (un c s.toNat) 9 else noneV 2
theorem isD_fits {u c : Int} {s : Nat} (h : IsD u c s) : fits c := h.fit
theorem w_of (c : Int) (hc : fits c) : ∃ (b : Bool) (l : Nat), wv c = .agg #[.bool b, .int .u64 0, .int .u64 (l : Int)] ∧ IsW c b 0 l := by
  have h1 : -9223372036854775808 ≤ c ∧ c ≤ 9223372036854775807 := hc
  obtain ⟨b, l, h, g, v⟩ := wv_small c (by omega) (by omega)
  exact ⟨b, l, h, v, by omega, g⟩
theorem two_dec (w : World) (c s x y : Int) :
    DAt ((w.alloc (.cells #[.int .i64 c, .int .i64 s] 59)).alloc (.cells #[.int .i64 x, .int .i64 y] 59)) w.heap.size c s ∧
    DAt ((w.alloc (.cells #[.int .i64 c, .int .i64 s] 59)).alloc (.cells #[.int .i64 x, .int .i64 y] 59)) (w.heap.size + 1) x y ∧
    Below w.heap.size w ((w.alloc (.cells #[.int .i64 c, .int .i64 s] 59)).alloc (.cells #[.int .i64 x, .int .i64 y] 59)) := by
  have := dAt_new (w.alloc (.cells #[.int .i64 c, .int .i64 s] 59)) x y
  rw [World.size_alloc] at this
  exact ⟨DAt.below (dAt_new w c s) (ba _ _), this, bt (ba _ _) (ba _ _)⟩
theorem three_dec (w : World) (c s x y p q : Int) :
    DAt (((w.alloc (.cells #[.int .i64 c, .int .i64 s] 59)).alloc (.cells #[.int .i64 x, .int .i64 y] 59)).alloc (.cells #[.int .i64 p, .int .i64 q] 59)) w.heap.size c s ∧
    DAt (((w.alloc (.cells #[.int .i64 c, .int .i64 s] 59)).alloc (.cells #[.int .i64 x, .int .i64 y] 59)).alloc (.cells #[.int .i64 p, .int .i64 q] 59)) (w.heap.size + 1) x y ∧
    DAt (((w.alloc (.cells #[.int .i64 c, .int .i64 s] 59)).alloc (.cells #[.int .i64 x, .int .i64 y] 59)).alloc (.cells #[.int .i64 p, .int .i64 q] 59)) (w.heap.size + 1 + 1) p q ∧
    Below w.heap.size w (((w.alloc (.cells #[.int .i64 c, .int .i64 s] 59)).alloc (.cells #[.int .i64 x, .int .i64 y] 59)).alloc (.cells #[.int .i64 p, .int .i64 q] 59)) := by
  have := dAt_new ((w.alloc (.cells #[.int .i64 c, .int .i64 s] 59)).alloc (.cells #[.int .i64 x, .int .i64 y] 59)) p q
  rw [World.size_alloc, World.size_alloc] at this
  obtain ⟨h1, h2, h3⟩ := two_dec w c s x y
  exact ⟨DAt.below h1 (ba _ _), DAt.below h2 (ba _ _), this, bt h3 (ba _ _)⟩
theorem of_w (c : Int) (v : Value) (w : World) (hc : fits c) (hv : wv c = v) :
    Calls Try.prog 29 #[.int .i64 c] w fun e w' => e = .returned v ∧ Below w.heap.size w w' := by
  rw [← hv]; exact wOf_any c w hc.1 hc.2
/-- made, where there are few places -/
theorem made_lo (z : Int) (n : Bool) (hi lo s : Nat) (V : Value) (w : World) (X : IsW z n hi lo) (hs : s ≤ 9) (hV : decV z s = V) :
    Calls Try.prog 73 #[.agg #[.bool n, .int .u64 (hi : Int), .int .u64 (lo : Int)], .int .i64 (s : Int)] w fun e w' => e = .returned V ∧ Below w.heap.size w w' :=
  made_any z n hi lo s V w X (by omega) (by rw [if_neg (by omega)]; exact hV)
theorem made_lo0 (z : Int) (n : Bool) (lo s : Nat) (V : Value) (w : World) (X : IsW z n 0 lo) (hs : s ≤ 9) (hV : decV z s = V) :
    Calls Try.prog 73 #[.agg #[.bool n, .int .u64 0, .int .u64 (lo : Int)], .int .i64 (s : Int)] w fun e w' => e = .returned V ∧ Below w.heap.size w w' :=
  made_lo z n 0 lo s V w X hs hV

set_option maxRecDepth 100000 in
set_option maxHeartbeats 2000000 in
theorem dPut_any (c s : Int) (V : Value) (w : World) (hc : fits c) (hV : putV c s = V) :
    Calls Try.prog 34 #[.agg #[.int .i64 c, .int .i64 s]] w fun e w' => e = .returned V ∧ Below w.heap.size w w' := by
  go_enter Try.func34, Try.ntmps34
  go_upto_region 1 with fail
  obtain ⟨hX, hR, hB⟩ := two_dec w c s 0 0
  have X0 := Lib.hid hX; have R0 := Lib.hid hR; have B0 := Lib.hid hB; clear hX hR hB
  generalize World.alloc (World.alloc w _) _ = W0 at X0 R0 B0 ⊢
  have x0 := X0.out.c0
  have x1 := X0.out.c1
  go_wp2_with fail
  refine (is1_any _ c s _ (by simp) (by simp) (by simp)).mono ?_
  rintro e w1 ⟨rfl, b1⟩
  have b1 := bt (ba W0 _) b1
  have X1 := Lib.hid (DAt.below X0.out b1)
  have R1 := Lib.hid (DAt.below R0.out b1)
  have B1 := Lib.hid (bt B0.out b1)
  clear x0 x1
  clear b1
  clear X0 R0  B0
  unfold putV at hV
  cases hs : isB s with
  | false =>
    rw [hs, if_neg (by simp)] at hV; subst hV
    have r0 := R1.out.c0
    have rf0 := R1.out.f0
    have r1 := R1.out.c1
    have rf1 := R1.out.f1
    go_wp2_with fail
    refine bodyPost_ret (v := noneV 2) (by simp [results, Try.results34, go_sem, noneV, r0, r1]) rfl ⟨rfl, ((B1.out.setCell (by simp) _).setCell (by simp) _)⟩
  | true =>
    rw [hs, if_pos rfl] at hV
    obtain ⟨n, rfl, hn⟩ := isB_nat hs
    rw [show ((n : Nat) : Int).toNat = n from rfl, decV_un c n hn] at hV
    obtain ⟨ob, ol, hov, HO⟩ := w_of c hc
    obtain ⟨vc, vs, ve, hvv⟩ := decV_form c n; rw [hV] at hvv; subst hvv
    go_upto_region 3 with fail
    have HS0 : (fun w' : World => w'.cell? ⟨w.heap.size, 0, none⟩ = some (.int .i64 c) ∧ w'.cell? ⟨w.heap.size, 1, none⟩ = some (.int .i64 (n : Int))) w1.drew := ⟨(DAt.below X1.out ((Below.refl _ _).drew)).c0, (DAt.below X1.out ((Below.refl _ _).drew)).c1⟩
    go_region_held3 (fun w' => w'.cell? ⟨w.heap.size, 0, none⟩ = some (.int .i64 c) ∧ w'.cell? ⟨w.heap.size, 1, none⟩ = some (.int .i64 (n : Int)))
      (first | with_reducible exact HS0 | with_reducible assumption | with_reducible exact ⟨((dAt_other _ _ (dAt_other _ _ (DAt.below X1.out T21.out) (by omega)) (by omega))).c0, ((dAt_other _ _ (dAt_other _ _ (DAt.below X1.out T21.out) (by omega)) (by omega))).c1⟩)
      (first
        | (go_at_call 29; (with_reducible refine (of_w c _ _ hc hov).mono ?_); rintro e w20 ⟨rfl, b20⟩; have T20 : Hid (Below w1.heap.size w1 w20) := bt ((Below.refl _ _).drew) b20; have HS20 : w20.cell? ⟨w.heap.size, 0, none⟩ = some (.int .i64 c) ∧ w20.cell? ⟨w.heap.size, 1, none⟩ = some (.int .i64 (n : Int)) := ⟨(DAt.below X1.out T20.out).c0, (DAt.below X1.out T20.out).c1⟩; clear b20)
        | (go_at_call 73; (with_reducible refine (made_lo0 c ob ol n _ _ HO hn hV).mono ?_); rintro e w21 ⟨rfl, b21⟩; have T21 : Hid (Below w1.heap.size w1 w21) := bt T20.out b21; have HS21 : w21.cell? ⟨w.heap.size, 0, none⟩ = some (.int .i64 c) ∧ w21.cell? ⟨w.heap.size, 1, none⟩ = some (.int .i64 (n : Int)) := ⟨(DAt.below X1.out T21.out).c0, (DAt.below X1.out T21.out).c1⟩; have B9 := Lib.hid (bt B1.out T21.out); have R9 := Lib.hid (DAt.below R1.out T21.out); have r0 := R9.out.c0; have rf0 := R9.out.f0; have r1 := R9.out.c1; have rf1 := R9.out.f1; clear b21))
    all_goals
      go_wp2_with fail
      refine bodyPost_ret (v := _) (by simp [results, Try.results34, go_sem, noneV, r0, r1]) rfl ⟨rfl, ((B9.out.setCell (by simp) _).setCell (by simp) _)⟩

theorem raised_lt (c : Int) (j : Nat) (hc : fits c) (hj : j ≤ 9) : (c * ((10 ^ j : Nat) : Int)).natAbs < 340282366920938463463374607431768211456 := by
  have h1 : -9223372036854775808 ≤ c ∧ c ≤ 9223372036854775807 := hc
  have hp : 10 ^ j ≤ 10 ^ 9 := Nat.pow_le_pow_right (by omega) hj
  rw [Int.natAbs_mul, Int.natAbs_natCast]
  have := Nat.mul_le_mul (show c.natAbs ≤ 9223372036854775808 by omega) hp
  omega
def BoxW (W : World) (b : Bool) (h l : Int) (s : Value) (wx : World) : Prop :=
  ∃ i : Nat, s = .pointer (some ⟨i, 0, none⟩) ∧ WAt wx i b h l ∧ Below W.heap.size W wx
theorem dec_wide (w : World) (c s : Int) :
    DAt ((w.alloc (.cells #[.int .i64 c, .int .i64 s] 59)).alloc (.cells #[.bool false, .int .u64 0, .int .u64 0] 24)) w.heap.size c s ∧
    WAt ((w.alloc (.cells #[.int .i64 c, .int .i64 s] 59)).alloc (.cells #[.bool false, .int .u64 0, .int .u64 0] 24)) (w.heap.size + 1) false 0 0 ∧
    Below w.heap.size w ((w.alloc (.cells #[.int .i64 c, .int .i64 s] 59)).alloc (.cells #[.bool false, .int .u64 0, .int .u64 0] 24)) := by
  have := wAt_new (w.alloc (.cells #[.int .i64 c, .int .i64 s] 59)) false 0 0
  rw [World.size_alloc] at this
  exact ⟨DAt.below (dAt_new w c s) (ba _ _), this, bt (ba _ _) (ba _ _)⟩
theorem times_w0 {x : Int} {n1 : Bool} {l1 : Nat} (d : Nat) (hd : d < 18446744073709551616) (v : Value) (w : World) (X : IsW x n1 0 l1) (hv : ovV (x * (d : Int)) = v) :
    Calls Try.prog 23 #[.agg #[.bool n1, .int .u64 0, .int .u64 (l1 : Int)], .int .u64 (d : Int)] w fun e w' => e = .returned v ∧ Below w.heap.size w w' := times_w d hd v w X hv
theorem ten_w (j : Nat) (t : Nat) (w : World) (hj : j ≤ 19) (ht : 10 ^ j = t) : Calls Try.prog 14 #[.int .i64 (j : Int)] w fun e w' => e = .returned (.int .u64 (t : Int)) ∧ Below w.heap.size w w' := by
  refine (wTen_c (j : Int) (t : Int) w (by omega) (by omega) (by unfold tenI; rw [if_pos (by omega), ← ht]; rfl)).mono ?_
  rintro e w' ⟨rfl, rfl⟩; exact ⟨rfl, Below.refl _ _⟩

set_option maxRecDepth 100000 in
set_option maxHeartbeats 2000000 in
theorem raised_any (c : Int) (s S : Nat) (V : Value) (w : World) (hc : fits c) (hs : s ≤ S) (hS : S ≤ 9) (hV : wv (c * ((10 ^ (S - s) : Nat) : Int)) = V) :
    Calls Try.prog 79 #[.agg #[.int .i64 c, .int .i64 (s : Int)], .int .i64 (S : Int)] w fun e w' => e = .returned V ∧ Below w.heap.size w w' := by
  obtain ⟨j, hj⟩ : ∃ j, Hid (S - s = j) := ⟨_, rfl⟩
  have hj9 : j ≤ 9 := by have := hj.out; omega
  have hw : IntKind.i64.wrap ((S : Int) - (s : Int)) = (j : Int) := by have := hj.out; rw [IntKind.wrap_i64]; omega
  rw [hj.out] at hV
  have hlt := raised_lt c j hc hj9
  obtain ⟨T, hT⟩ : ∃ T : Nat, Hid (10 ^ j = T) := ⟨_, rfl⟩
  have hT64 : Hid (T < 18446744073709551616) := by show _ < _; have := hT.out; have hp : 10 ^ j ≤ 10 ^ 9 := Nat.pow_le_pow_right (by omega) hj9; omega
  rw [hT.out] at hV hlt
  obtain ⟨ob, ol, hov, HO⟩ := w_of c hc
  obtain ⟨rb, rh, rl, hrv, HR⟩ := isW_wv (c * (T : Int)) hlt
  have hro := Lib.hid (ovV_small _ _ hlt hrv.out)
  obtain rfl := hV.symm.trans hrv.out
  have HJ := Lib.hid hj9; have HOV := Lib.hid hov; have HOO := Lib.hid HO; have HC := Lib.hid hc; clear hj9 hlt hc hs hS hov HO
  go_enter Try.func79, Try.ntmps79
  go_upto_region 1 with fail
  obtain ⟨hX, hR, hB⟩ := dec_wide w c (s : Int)
  have X0 := Lib.hid hX; have R0 := Lib.hid hR; have B0 := Lib.hid hB; clear hX hR hB
  generalize World.alloc (World.alloc w _) _ = W0 at X0 R0 B0 ⊢
  go_cut [5] (fun s5 wx => BoxW W0 rb rh rl s5 wx)
  case first =>
    have mkS : ∀ w', Below W0.heap.size W0 w' → (Below W0.heap.size W0 w' ∧ w'.cell? ⟨w.heap.size, 0, none⟩ = some (.int .i64 c) ∧ w'.cell? ⟨w.heap.size, 1, none⟩ = some (.int .i64 (s : Int))) := fun w' hb => ⟨hb, (DAt.below X0.out hb).c0, (DAt.below X0.out hb).c1⟩
    have HS0 := mkS _ ((Below.refl _ _).drew)
    go_region_held3 (fun w' => Below W0.heap.size W0 w' ∧ w'.cell? ⟨w.heap.size, 0, none⟩ = some (.int .i64 c) ∧ w'.cell? ⟨w.heap.size, 1, none⟩ = some (.int .i64 (s : Int)))
      (first | with_reducible exact HS0 | with_reducible assumption | (refine mkS _ ?_; (repeat (first | with_reducible exact And.left (by with_reducible assumption) | with_reducible exact Below.refl _ _ | refine Below.setCell ?_ (by first | omega | (simp only [World.size_alloc, hdrew]; omega) | (simp <;> omega)) _ | refine Below.alloc ?_ (by first | omega | (simp only [World.size_alloc, hdrew]; omega) | (simp <;> omega)) _ | refine Below.drew ?_))))
      (first
        | (go_at_call 29; (with_reducible refine (of_w c _ _ HC.out HOV.out).mono ?_); rintro e w20 ⟨rfl, b20⟩; have HS20 := mkS _ (bt (And.left (by assumption)) b20); have T20 := Lib.hid (HS20.1); (obtain ⟨hcb20, hfb20⟩ := bcell b20; have zzb20 := Below.size b20; (try simp only [World.size_alloc, hdrew] at zzb20); (try (have llb20 : W0.heap.size < w20.heap.size := by omega)); (try (have lmb20 : W0.heap.size + 1 < w20.heap.size := by omega))); ((try replace b20 := undrew b20); first | (have QA := Lib.hid (WAt.below (Hid.out Q0) b20)) | (have QA := WAt.below (wAt_new _ false 0 0) b20; (try simp only [World.size_alloc, hdrew] at QA); have QA := Lib.hid QA) | skip); (try (have ln20 : W0.heap.size < w20.heap.size := by omega)); clear b20)
        | (go_at_call 14; (with_reducible refine (ten_w j T _ (by have := HJ.out; omega) hT.out).mono ?_); rintro e w21 ⟨rfl, b21⟩; have HS21 := mkS _ (bt (And.left (by assumption)) b21); have T21 := Lib.hid (HS21.1); (obtain ⟨hcb21, hfb21⟩ := bcell b21; have zzb21 := Below.size b21; (try simp only [World.size_alloc, hdrew] at zzb21); (try (have llb21 : w20.heap.size < w21.heap.size := by omega)); (try (have lmb21 : w20.heap.size + 1 < w21.heap.size := by omega))); ((try replace b21 := undrew b21); first | (have QB := Lib.hid (WAt.below (Hid.out QA) b21)) | (have QB := WAt.below (wAt_new _ false 0 0) b21; (try simp only [World.size_alloc, hdrew] at QB); have QB := Lib.hid QB) | skip); (try (have ln21 : W0.heap.size < w21.heap.size := by omega)); clear b21)
        | (go_at_call 23; (with_reducible refine (times_w0 T hT64.out _ _ HOO.out hro.out).mono ?_); rintro e w22 ⟨rfl, b22⟩; have HS22 := mkS _ (bt (And.left (by assumption)) b22); have T22 := Lib.hid (HS22.1); (obtain ⟨hcb22, hfb22⟩ := bcell b22; have zzb22 := Below.size b22; (try simp only [World.size_alloc, hdrew] at zzb22); (try (have llb22 : w21.heap.size < w22.heap.size := by omega)); (try (have lmb22 : w21.heap.size + 1 < w22.heap.size := by omega))); ((try replace b22 := undrew b22); first | (have QC := Lib.hid (WAt.below (Hid.out QB) b22)) | (have QC := WAt.below (wAt_new _ false 0 0) b22; (try simp only [World.size_alloc, hdrew] at QC); have QC := Lib.hid QC) | skip); (try (have ln22 : W0.heap.size < w22.heap.size := by omega)); clear b22))
    all_goals
      dsimp only [Exit.then]
      refine ‹∀ (a' : Act) (w' : World), Met _ a' w' → _› _ _ ?_
      go_meet
      case rel => exact ⟨_, rfl, (by (first | with_reducible exact wAt_set3 _ _ _ QC.out | with_reducible exact wAt_set3 _ _ _ QB.out | with_reducible exact wAt_set3 _ _ _ QA.out | with_reducible exact wAt_new _ _ _ _ | with_reducible exact wAt_set3 _ _ _ (wAt_new _ _ _ _) | exact wAt_new _ _ _ _)), (by (repeat (first | with_reducible exact And.left (by with_reducible assumption) | with_reducible exact Below.refl _ _ | refine Below.setCell ?_ (by first | omega | (simp only [World.size_alloc, hdrew]; omega) | (simp <;> omega)) _ | refine Below.alloc ?_ (by first | omega | (simp only [World.size_alloc, hdrew]; omega) | (simp <;> omega)) _ | refine Below.drew ?_)))⟩
  case rest =>
    obtain ⟨i5, rfl, h5, b5⟩ := hcut
    have Z1 := Lib.hid h5; clear h5
    rename_i w1
    have X1 := Lib.hid (DAt.below X0.out b5)
    have R1 := Lib.hid (WAt.below R0.out b5)
    have B1 := Lib.hid (bt B0.out b5)
    clear b5
    clear X0 R0  B0
    have z0 := Z1.out.c0
    have z1 := Z1.out.c1
    have z2 := Z1.out.c2
    have r0 := R1.out.c0
    have rf0 := R1.out.f0
    have r1 := R1.out.c1
    have rf1 := R1.out.f1
    have r2 := R1.out.c2
    have rf2 := R1.out.f2
    go_wp2_with fail
    refine bodyPost_ret (v := .agg #[.bool rb, .int .u64 (rh : Int), .int .u64 (rl : Int)]) (by simp [results, Try.results79, go_sem, noneV, r0, r1, r2]) rfl ⟨rfl, (((B1.out.setCell (by simp) _).setCell (by simp) _).setCell (by simp) _)⟩

theorem dd_ww (w : World) (c s x y : Int) : ∃ W : World, W = ((((w.alloc (.cells #[.int .i64 c, .int .i64 s] 59)).alloc (.cells #[.int .i64 x, .int .i64 y] 59)).alloc (.cells #[.bool false, .int .u64 0, .int .u64 0] 24)).alloc (.cells #[.bool false, .int .u64 0, .int .u64 0] 24)) ∧
    DAt W w.heap.size c s ∧ DAt W (w.heap.size + 1) x y ∧ WAt W (w.heap.size + 1 + 1) false 0 0 ∧ WAt W (w.heap.size + 1 + 1 + 1) false 0 0 ∧ Below w.heap.size w W := by
  obtain ⟨h1, h2, h3⟩ := two_dec w c s x y
  have h4 := wAt_new ((w.alloc (.cells #[.int .i64 c, .int .i64 s] 59)).alloc (.cells #[.int .i64 x, .int .i64 y] 59)) false 0 0
  have h5 := wAt_new (((w.alloc (.cells #[.int .i64 c, .int .i64 s] 59)).alloc (.cells #[.int .i64 x, .int .i64 y] 59)).alloc (.cells #[.bool false, .int .u64 0, .int .u64 0] 24)) false 0 0
  simp only [World.size_alloc] at h4 h5
  exact ⟨_, rfl, DAt.below h1 (bt (ba _ _) (ba _ _)), DAt.below h2 (bt (ba _ _) (ba _ _)), WAt.below h4 (ba _ _), h5, bt h3 (bt (ba _ _) (ba _ _))⟩
theorem raised_c (c : Int) (s S : Nat) (b : Bool) (h l : Nat) (w : World) (hc : fits c) (hs : s ≤ S) (hS : S ≤ 9) (hV : wv (c * ((10 ^ (S - s) : Nat) : Int)) = .agg #[.bool b, .int .u64 (h : Int), .int .u64 (l : Int)]) :
    Calls Try.prog 79 #[.agg #[.int .i64 c, .int .i64 (s : Int)], .int .i64 (S : Int)] w fun e w' => e = .returned (.agg #[.bool b, .int .u64 (h : Int), .int .u64 (l : Int)]) ∧ Below w.heap.size w w' := raised_any c s S _ w hc hs hS hV
set_option maxRecDepth 100000 in
set_option maxHeartbeats 2000000 in
theorem both_any (c c' : Int) (s s' m : Nat) (ab bb : Bool) (ah al bh bl : Nat) (w : World) (hc : fits c) (hc' : fits c') (hs : s ≤ 9) (hs' : s' ≤ 9) (hm : max s s' = m)
    (ha : wv (c * ((10 ^ (m - s) : Nat) : Int)) = .agg #[.bool ab, .int .u64 (ah : Int), .int .u64 (al : Int)]) (hb : wv (c' * ((10 ^ (m - s') : Nat) : Int)) = .agg #[.bool bb, .int .u64 (bh : Int), .int .u64 (bl : Int)]) :
    Calls Try.prog 80 #[.agg #[.int .i64 c, .int .i64 (s : Int)], .agg #[.int .i64 c', .int .i64 (s' : Int)]] w fun e w' => e = .returned (.tuple #[.agg #[.bool ab, .int .u64 (ah : Int), .int .u64 (al : Int)], .agg #[.bool bb, .int .u64 (bh : Int), .int .u64 (bl : Int)], .int .i64 (m : Int)]) ∧ Below w.heap.size w w' := by
  have hmi : (if (s : Int) < (s' : Int) then (s' : Int) else (s : Int)) = (m : Int) := by split <;> omega
  have hmx : max (s : Int) (s' : Int) = (m : Int) := by omega
  have h1 : s ≤ m := by omega
  have h2 : s' ≤ m := by omega
  have h3 : m ≤ 9 := by omega
  have HH : Hid (fits c ∧ fits c' ∧ s ≤ m ∧ s' ≤ m ∧ m ≤ 9) := ⟨hc, hc', h1, h2, h3⟩
  have HA := Lib.hid ha; have HB := Lib.hid hb
  clear hc hc' hs hs' hm ha hb h1 h2 h3
  go_enter Try.func80, Try.ntmps80
  go_upto_region 1 with fail
  obtain ⟨W0, hW, hX, hY, hP, hR, hBB⟩ := dd_ww w c (s : Int) c' (s' : Int)
  rw [← hW]
  obtain ⟨ir, hir⟩ : ∃ x, Hid (w.heap.size + 1 + 1 + 1 = x) := ⟨_, rfl⟩
  obtain ⟨ip, hip⟩ : ∃ x, Hid (w.heap.size + 1 + 1 = x) := ⟨_, rfl⟩
  obtain ⟨iy, hiy⟩ : ∃ x, Hid (w.heap.size + 1 = x) := ⟨_, rfl⟩
  have hlt : w.heap.size < iy ∧ iy < ip ∧ ip < ir := by have := hir.out; have := hip.out; have := hiy.out; omega
  have n1 : ip ≠ ir := by omega
  have n2 : ir ≠ ip := by omega
  rw [hir.out] at hR ⊢; rw [hip.out] at hP ⊢; rw [hiy.out] at hY ⊢
  have X0 := Lib.hid hX; have Y0 := Lib.hid hY; have P0 := Lib.hid hP; have R0 := Lib.hid hR; have B0 := Lib.hid hBB; clear hX hY hP hR hBB hW hir hip hiy
  have x0 := X0.out.c0
  have x1 := X0.out.c1
  have y0 := Y0.out.c0
  have y1 := Y0.out.c1
  go_upto_region 2 with fail
  (try rw [hmx])
  have HS0 : (fun w' : World => w'.cell? ⟨w.heap.size, 0, none⟩ = some (.int .i64 c) ∧ w'.cell? ⟨w.heap.size, 1, none⟩ = some (.int .i64 (s : Int)) ∧ w'.cell? ⟨iy, 0, none⟩ = some (.int .i64 c') ∧ w'.cell? ⟨iy, 1, none⟩ = some (.int .i64 (s' : Int))) W0.drew := ⟨(DAt.below X0.out ((Below.refl _ _).drew)).c0, (DAt.below X0.out ((Below.refl _ _).drew)).c1, (DAt.below Y0.out ((Below.refl _ _).drew)).c0, (DAt.below Y0.out ((Below.refl _ _).drew)).c1⟩
  go_region_held3 (fun w' => w'.cell? ⟨w.heap.size, 0, none⟩ = some (.int .i64 c) ∧ w'.cell? ⟨w.heap.size, 1, none⟩ = some (.int .i64 (s : Int)) ∧ w'.cell? ⟨iy, 0, none⟩ = some (.int .i64 c') ∧ w'.cell? ⟨iy, 1, none⟩ = some (.int .i64 (s' : Int)))
    (first | with_reducible exact HS0 | with_reducible assumption | with_reducible exact ⟨((dAt_other _ _ (dAt_other _ _ (dAt_other _ _ (DAt.below X0.out T21.out) (by omega)) (by omega)) (by omega))).c0, ((dAt_other _ _ (dAt_other _ _ (dAt_other _ _ (DAt.below X0.out T21.out) (by omega)) (by omega)) (by omega))).c1, ((dAt_other _ _ (dAt_other _ _ (dAt_other _ _ (DAt.below Y0.out T21.out) (by omega)) (by omega)) (by omega))).c0, ((dAt_other _ _ (dAt_other _ _ (dAt_other _ _ (DAt.below Y0.out T21.out) (by omega)) (by omega)) (by omega))).c1⟩ | with_reducible exact ⟨((dAt_other _ _ (dAt_other _ _ (dAt_other _ _ (dAt_other _ _ (dAt_other _ _ (dAt_other _ _ (DAt.below X0.out T21.out) (by omega)) (by omega)) (by omega)) (by omega)) (by omega)) (by omega))).c0, ((dAt_other _ _ (dAt_other _ _ (dAt_other _ _ (dAt_other _ _ (dAt_other _ _ (dAt_other _ _ (DAt.below X0.out T21.out) (by omega)) (by omega)) (by omega)) (by omega)) (by omega)) (by omega))).c1, ((dAt_other _ _ (dAt_other _ _ (dAt_other _ _ (dAt_other _ _ (dAt_other _ _ (dAt_other _ _ (DAt.below Y0.out T21.out) (by omega)) (by omega)) (by omega)) (by omega)) (by omega)) (by omega))).c0, ((dAt_other _ _ (dAt_other _ _ (dAt_other _ _ (dAt_other _ _ (dAt_other _ _ (dAt_other _ _ (DAt.below Y0.out T21.out) (by omega)) (by omega)) (by omega)) (by omega)) (by omega)) (by omega))).c1⟩)
    (first
      | (go_at_call 79; (with_reducible refine (raised_c c s m _ _ _ _ HH.out.1 HH.out.2.2.1 HH.out.2.2.2.2 HA.out).mono ?_); rintro e w20 ⟨rfl, b20⟩; have T20 : Hid (Below W0.heap.size W0 w20) := bt ((Below.refl _ _).drew) b20; have HS20 : w20.cell? ⟨w.heap.size, 0, none⟩ = some (.int .i64 c) ∧ w20.cell? ⟨w.heap.size, 1, none⟩ = some (.int .i64 (s : Int)) ∧ w20.cell? ⟨iy, 0, none⟩ = some (.int .i64 c') ∧ w20.cell? ⟨iy, 1, none⟩ = some (.int .i64 (s' : Int)) := ⟨(DAt.below X0.out T20.out).c0, (DAt.below X0.out T20.out).c1, (DAt.below Y0.out T20.out).c0, (DAt.below Y0.out T20.out).c1⟩; clear b20)
      | (go_at_call 79; (with_reducible refine (raised_c c' s' m _ _ _ _ HH.out.2.1 HH.out.2.2.2.1 HH.out.2.2.2.2 HB.out).mono ?_); rintro e w21 ⟨rfl, b21⟩; have T21 : Hid (Below W0.heap.size W0 w21) := bt T20.out b21; have HS21 : w21.cell? ⟨w.heap.size, 0, none⟩ = some (.int .i64 c) ∧ w21.cell? ⟨w.heap.size, 1, none⟩ = some (.int .i64 (s : Int)) ∧ w21.cell? ⟨iy, 0, none⟩ = some (.int .i64 c') ∧ w21.cell? ⟨iy, 1, none⟩ = some (.int .i64 (s' : Int)) := ⟨(DAt.below X0.out T21.out).c0, (DAt.below X0.out T21.out).c1, (DAt.below Y0.out T21.out).c0, (DAt.below Y0.out T21.out).c1⟩; have B9 := Lib.hid (bt B0.out T21.out); have P9 := Lib.hid (WAt.below P0.out T21.out); have p0 := P9.out.c0; have pf0 := P9.out.f0; have p1 := P9.out.c1; have pf1 := P9.out.f1; have p2 := P9.out.c2; have pf2 := P9.out.f2; have R9 := Lib.hid (WAt.below R0.out T21.out); have r0 := R9.out.c0; have rf0 := R9.out.f0; have r1 := R9.out.c1; have rf1 := R9.out.f1; have r2 := R9.out.c2; have rf2 := R9.out.f2; clear b21))
  all_goals
    go_wp2_with fail
    refine bodyPost_ret (v := .tuple #[.agg #[.bool ab, .int .u64 (ah : Int), .int .u64 (al : Int)], .agg #[.bool bb, .int .u64 (bh : Int), .int .u64 (bl : Int)], .int .i64 (m : Int)]) (by simp [results, Try.results80, go_sem, p0, p1, p2, r0, r1, r2, n1, n2]) rfl ⟨rfl, below_set3 _ _ _ (below_set3 _ _ _ B9.out (by omega)) (by omega)⟩
end Go.Proofs.Ytlbmmnjecemkeaa
