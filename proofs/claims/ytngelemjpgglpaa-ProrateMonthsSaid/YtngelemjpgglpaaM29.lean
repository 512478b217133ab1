/-
  prorate.made: the canonical number of a whole one and its places; decimal's functions, walked: Put, Of, raised, both.
-/
import Derived.Test.YtngelemjpgglpaaM28
import Derived.Deep.RegionHeld3
/-
  prorate.made: the canonical number of a whole one and its places.
-/
namespace Go.Proofs.Ytngelemjpgglpaa.Pro
open Go Go.RowKit
set_option linter.unusedSimpArgs false
set_option linter.unusedVariables false
attribute [local go_sem ↓] Go.wp_at_zero Go.wp_at_succ

set_option maxRecDepth 100000 in
set_option maxHeartbeats 4000000 in
theorem pmade_any (z : Int) (n : Bool) (hi lo s : Nat) (V : Value) (w : World) (X : IsW z n hi lo) (hs : s ≤ 9) (hV : decV z s = V) :
    Calls Try.prog 32 #[.agg #[.bool n, .int .u64 (hi : Int), .int .u64 (lo : Int)], .int .i64 (s : Int)] w fun e w' => e = .returned V ∧ Below w.heap.size w w' := by
  have HX := Lib.hid X
  clear X
  go_enter Try.func32, Try.ntmps32
  go_upto_region 1 with fail
  have X0 := Lib.hid (WAt.below (wAt_new w n hi lo) (ba _ (.cells #[.int .i64 0, .int .i64 0] 23)))
  have D0 : Hid (DAt ((w.alloc (.cells #[.bool n, .int .u64 (hi : Int), .int .u64 (lo : Int)] 57)).alloc (.cells #[.int .i64 0, .int .i64 0] 23)) (w.heap.size + 1) 0 0) := by
    have h := dAt_new (w.alloc (.cells #[.bool n, .int .u64 (hi : Int), .int .u64 (lo : Int)] 57)) 0 0
    rw [World.size_alloc] at h; exact h
  have B0 : Hid (Below w.heap.size w ((w.alloc (.cells #[.bool n, .int .u64 (hi : Int), .int .u64 (lo : Int)] 57)).alloc (.cells #[.int .i64 0, .int .i64 0] 23))) := bt (ba _ _) (ba _ _)
  generalize World.alloc (World.alloc w _) _ = W0 at X0 D0 B0 ⊢
  have HV0 := Lib.hid hV
  clear hV
  go_loopw [1] (fun s1 wr => MadeMid w V s1 wr) (fun s1 _ => (intOf s1).toNat)
  case atStart => exact ⟨z, s, n, hi, lo, rfl, hs, X0, HX, HV0, D0, B0⟩
  case round =>
    clear X0 HX HV0 D0 B0 hs
    rename_i wr
    obtain ⟨wo, rfl⟩ : ∃ wo : World, wo = wr := ⟨_, rfl⟩
    obtain ⟨u, t, m, h, l, rfl, ht, HXm, HU, HVm, HD, HB⟩ := hrel
    cases t with
    | zero =>
      have e0 := HXm.out.c0; have e1 := HXm.out.c1; have e2 := HXm.out.c2
      rcases small_dec u 0 V (.inl rfl) HVm.out with ⟨hsm, hVe⟩ | ⟨hsm, hVe⟩
      all_goals
        go_wp2_with fail
        refine (small_w _ _ HU.out hsm).mono ?_
        rintro e w9 ⟨rfl, b9⟩
        have D9 := Lib.hid (DAt.below HD.out b9)
        have B9 := Lib.hid (bt HB.out b9)
        have r0 := D9.out.c0; have r1 := D9.out.c1; have r2 := D9.out.f0; have r3 := D9.out.f1
        clear b9 e0 e1 e2
        go_wp2_with fail
        refine bodyPost_ret (v := V) (by rw [hVe]; simp [results, Try.results32, go_sem, r0, r1]) rfl ⟨rfl, (B9.out.setCell (by simp) _).setCell (by simp) _⟩
    | succ t =>
      have g1 : decide (0 < ((t + 1 : Nat) : Int)) = true := by simp
      have ht1 : t + 1 < 9223372036854775808 := by omega
      have hw : IntKind.i64.wrap (((t + 1 : Nat) : Int) - 1) = (t : Int) := by rw [IntKind.wrap_i64]; omega
      obtain ⟨R, hR⟩ : ∃ R : Nat, Hid (u.natAbs % 10 = R) := ⟨_, rfl⟩
      have htd : (u.tdiv ((10 : Nat) : Int)).natAbs ≤ u.natAbs := by rw [Int.natAbs_tdiv]; exact Nat.div_le_self _ _
      obtain ⟨qb, qh, ql, hq, HQ⟩ := isW_wv (u.tdiv ((10 : Nat) : Int)) (Nat.lt_of_le_of_lt htd (isW_lt HU.out))
      have hqd : Hid (divV u 10 = .tuple #[.agg #[.bool qb, .int .u64 (qh : Int), .int .u64 (ql : Int)], .int .u64 (R : Int), .int .i64 0]) := by show _ = _; unfold divV; rw [hq.out, hR.out]
      clear htd
      have e0 := HXm.out.c0; have e1 := HXm.out.c1; have e2 := HXm.out.c2
      go_wp2_with fail
      refine (div_w 10 (by omega) (by omega) _ _ HU.out hqd.out).mono ?_
      rintro e w2 ⟨rfl, b2⟩
      go_upto_region 3 with fail
      generalize hW : World.alloc w2 _ = W3
      have E3 : Hid (WAt W3 w2.heap.size qb qh ql) := by rw [← hW]; exact wAt_new _ _ _ _
      have b3 : Below wo.heap.size wo W3 := by rw [← hW]; exact bt b2 (ba _ _)
      have X3 := Lib.hid (WAt.below HXm.out b3); have D3 := Lib.hid (DAt.below HD.out b3); have B3 := Lib.hid (bt HB.out b3)
      have lx := HXm.out.lt; have l3 := b2.size
      clear hW b2 b3 e0 e1 e2
      by_cases hr : R = 0
      · subst hr
        have hu0 : u % 10 = 0 := by have := hR.out; omega
        have HV3 : Hid (decV (u.tdiv ((10 : Nat) : Int)) t = V) := by show _ = _; rw [← HVm.out, decV_step u t hu0]; rfl
        have e0 := E3.out.c0; have e1 := E3.out.c1; have e2 := E3.out.c2; have e3 := X3.out.f0; have e4 := X3.out.f1; have e5 := X3.out.f2
        have e6 := X3.out.c0; have e7 := X3.out.c1; have e8 := X3.out.c2
        go_wp2_with fail
        go_round
        case rel =>
          refine ⟨_, t, qb, qh, ql, rfl, by omega, wAt_set3 _ _ _ X3.out, HQ, HV3, ?_, below_set3 _ _ _ B3.out (Nat.le_refl _)⟩
          exact dAt_other _ _ (dAt_other _ _ (dAt_other _ _ D3.out (by omega)) (by omega)) (by omega)
        case measure => simp [intOf]
      · have hu0 : u % 10 ≠ 0 := by have := hR.out; omega
        have hr0 : ((R : Int) != 0) = true := by simpa using hr
        clear HXm HD HB
        have HXm := X3; have HD := D3; have HB := B3
        clear X3 D3 B3 E3 lx l3
        have e0 := HXm.out.c0; have e1 := HXm.out.c1; have e2 := HXm.out.c2
        rcases small_dec u (t + 1) V (.inr hu0) HVm.out with ⟨hsm, hVe⟩ | ⟨hsm, hVe⟩
        all_goals
          go_wp2_with fail
          refine (small_w _ _ HU.out hsm).mono ?_
          rintro e w9 ⟨rfl, b9⟩
          have D9 := Lib.hid (DAt.below HD.out b9)
          have B9 := Lib.hid (bt HB.out b9)
          have r0 := D9.out.c0; have r1 := D9.out.c1; have r2 := D9.out.f0; have r3 := D9.out.f1
          clear b9 e0 e1 e2
          go_wp2_with fail
          refine bodyPost_ret (v := V) (by rw [hVe]; simp [results, Try.results32, go_sem, r0, r1]) rfl ⟨rfl, (B9.out.setCell (by simp) _).setCell (by simp) _⟩
end Go.Proofs.Ytngelemjpgglpaa.Pro
/-
  decimal's functions, walked: Put, Of, raised, both.
-/
namespace Go.Proofs.Ytngelemjpgglpaa
open Go.RowKit
set_option linter.unusedSimpArgs false
attribute [local go_sem ↓] Go.wp_at_zero Go.wp_at_succ

/-- no answer -/
def noneV (e : Int) : Value := .tuple #[.agg #[.int .i64 0, .int .i64 0], .int .i64 e]
/-- what Put answers -/
def putV (c s : Int) : Value := if isB s = true then decV (un c s.toNat) 9 else noneV 2
theorem isD_fits {u c : Int} {s : Nat} (h : IsD u c s) : fits c := h.fit
theorem w_of (c : Int) (hc : fits c) : ∃ (b : Bool) (l : Nat), wv c = .agg #[.bool b, .int .u64 0, .int .u64 (l : Int)] ∧ IsW c b 0 l := by
  have h1 : -9223372036854775808 ≤ c ∧ c ≤ 9223372036854775807 := hc
  obtain ⟨b, l, h, g, v⟩ := wv_small c (by omega) (by omega)
  exact ⟨b, l, h, v, by omega, g⟩
theorem two_dec (w : World) (c s x y : Int) :
    DAt ((w.alloc (.cells #[.int .i64 c, .int .i64 s] 23)).alloc (.cells #[.int .i64 x, .int .i64 y] 23)) w.heap.size c s ∧
    DAt ((w.alloc (.cells #[.int .i64 c, .int .i64 s] 23)).alloc (.cells #[.int .i64 x, .int .i64 y] 23)) (w.heap.size + 1) x y ∧
    Below w.heap.size w ((w.alloc (.cells #[.int .i64 c, .int .i64 s] 23)).alloc (.cells #[.int .i64 x, .int .i64 y] 23)) := by
  have := dAt_new (w.alloc (.cells #[.int .i64 c, .int .i64 s] 23)) x y
  rw [World.size_alloc] at this
  exact ⟨DAt.below (dAt_new w c s) (ba _ _), this, bt (ba _ _) (ba _ _)⟩
theorem three_dec (w : World) (c s x y p q : Int) :
    DAt (((w.alloc (.cells #[.int .i64 c, .int .i64 s] 23)).alloc (.cells #[.int .i64 x, .int .i64 y] 23)).alloc (.cells #[.int .i64 p, .int .i64 q] 23)) w.heap.size c s ∧
    DAt (((w.alloc (.cells #[.int .i64 c, .int .i64 s] 23)).alloc (.cells #[.int .i64 x, .int .i64 y] 23)).alloc (.cells #[.int .i64 p, .int .i64 q] 23)) (w.heap.size + 1) x y ∧
    DAt (((w.alloc (.cells #[.int .i64 c, .int .i64 s] 23)).alloc (.cells #[.int .i64 x, .int .i64 y] 23)).alloc (.cells #[.int .i64 p, .int .i64 q] 23)) (w.heap.size + 1 + 1) p q ∧
    Below w.heap.size w (((w.alloc (.cells #[.int .i64 c, .int .i64 s] 23)).alloc (.cells #[.int .i64 x, .int .i64 y] 23)).alloc (.cells #[.int .i64 p, .int .i64 q] 23)) := by
  have := dAt_new ((w.alloc (.cells #[.int .i64 c, .int .i64 s] 23)).alloc (.cells #[.int .i64 x, .int .i64 y] 23)) p q
  rw [World.size_alloc, World.size_alloc] at this
  obtain ⟨h1, h2, h3⟩ := two_dec w c s x y
  exact ⟨DAt.below h1 (ba _ _), DAt.below h2 (ba _ _), this, bt h3 (ba _ _)⟩
theorem of_w (c : Int) (v : Value) (w : World) (hc : fits c) (hv : wv c = v) :
    Calls Try.prog 26 #[.int .i64 c] w fun e w' => e = .returned v ∧ Below w.heap.size w w' := by
  rw [← hv]; exact wOf_any c w hc.1 hc.2
/-- made, where there are few places -/
theorem made_lo (z : Int) (n : Bool) (hi lo s : Nat) (V : Value) (w : World) (X : IsW z n hi lo) (hs : s ≤ 9) (hV : decV z s = V) :
    Calls Try.prog 48 #[.agg #[.bool n, .int .u64 (hi : Int), .int .u64 (lo : Int)], .int .i64 (s : Int)] w fun e w' => e = .returned V ∧ Below w.heap.size w w' :=
  made_any z n hi lo s V w X (by omega) (by rw [if_neg (by omega)]; exact hV)
theorem made_lo0 (z : Int) (n : Bool) (lo s : Nat) (V : Value) (w : World) (X : IsW z n 0 lo) (hs : s ≤ 9) (hV : decV z s = V) :
    Calls Try.prog 48 #[.agg #[.bool n, .int .u64 0, .int .u64 (lo : Int)], .int .i64 (s : Int)] w fun e w' => e = .returned V ∧ Below w.heap.size w w' :=
  made_lo z n 0 lo s V w X hs hV

set_option maxRecDepth 100000 in
set_option maxHeartbeats 2000000 in
theorem dPut_any (c s : Int) (V : Value) (w : World) (hc : fits c) (hV : putV c s = V) :
    Calls Try.prog 21 #[.agg #[.int .i64 c, .int .i64 s]] w fun e w' => e = .returned V ∧ Below w.heap.size w w' := by
  go_enter Try.func21, Try.ntmps21
  go_upto_region 1 with fail
  obtain ⟨hX, hR, hB⟩ := two_dec w c s 0 0
  have X0 := Lib.hid hX; have R0 := Lib.hid hR; have B0 := Lib.hid hB; clear hX hR hB
  generalize World.alloc (World.alloc w _) _ = W0 at X0 R0 B0 ⊢
  have x0 := X0.out.c0
  have x1 := X0.out.c1
  go_wp2_with fail
  refine (is1_any _ c s _ (by simp) (by simp) (by simp)).mono ?_
  rintro e w1 ⟨rfl, b1⟩
  have b1 := bt (ba W0 _) b1
  have X1 := Lib.hid (DAt.below X0.out b1)
  have R1 := Lib.hid (DAt.below R0.out b1)
  have B1 := Lib.hid (bt B0.out b1)
  clear x0 x1
  clear b1
  clear X0 R0  B0
  unfold putV at hV
  cases hs : isB s with
  | false =>
    rw [hs, if_neg (by simp)] at hV; subst hV
    have r0 := R1.out.c0
    have rf0 := R1.out.f0
    have r1 := R1.out.c1
    have rf1 := R1.out.f1
    go_wp2_with fail
    refine bodyPost_ret (v := noneV 2) (by simp [results, Try.results21, go_sem, noneV, r0, r1]) rfl ⟨rfl, ((B1.out.setCell (by simp) _).setCell (by simp) _)⟩
  | true =>
    rw [hs, if_pos rfl] at hV
    obtain ⟨n, rfl, hn⟩ := isB_nat hs
    rw [show ((n : Nat) : Int).toNat = n from rfl, decV_un c n hn] at hV
    obtain ⟨ob, ol, hov, HO⟩ := w_of c hc
    obtain ⟨vc, vs, ve, hvv⟩ := decV_form c n; rw [hV] at hvv; subst hvv
    go_upto_region 3 with fail
    have HS0 : (fun w' : World => w'.cell? ⟨w.heap.size, 0, none⟩ = some (.int .i64 c) ∧ w'.cell? ⟨w.heap.size, 1, none⟩ = some (.int .i64 (n : Int))) w1.drew := ⟨(DAt.below X1.out ((Below.refl _ _).drew)).c0, (DAt.below X1.out ((Below.refl _ _).drew)).c1⟩
    go_region_held3 (fun w' => w'.cell? ⟨w.heap.size, 0, none⟩ = some (.int .i64 c) ∧ w'.cell? ⟨w.heap.size, 1, none⟩ = some (.int .i64 (n : Int)))
      (first | with_reducible exact HS0 | with_reducible assumption | with_reducible exact ⟨((dAt_other _ _ (dAt_other _ _ (DAt.below X1.out T21.out) (by omega)) (by omega))).c0, ((dAt_other _ _ (dAt_other _ _ (DAt.below X1.out T21.out) (by omega)) (by omega))).c1⟩)
      (first
        | (go_at_call 26; (with_reducible refine (of_w c _ _ hc hov).mono ?_); rintro e w20 ⟨rfl, b20⟩; have T20 : Hid (Below w1.heap.size w1 w20) := bt ((Below.refl _ _).drew) b20; have HS20 : w20.cell? ⟨w.heap.size, 0, none⟩ = some (.int .i64 c) ∧ w20.cell? ⟨w.heap.size, 1, none⟩ = some (.int .i64 (n : Int)) := ⟨(DAt.below X1.out T20.out).c0, (DAt.below X1.out T20.out).c1⟩; clear b20)
        | (go_at_call 48; (with_reducible refine (made_lo0 c ob ol n _ _ HO hn hV).mono ?_); rintro e w21 ⟨rfl, b21⟩; have T21 : Hid (Below w1.heap.size w1 w21) := bt T20.out b21; have HS21 : w21.cell? ⟨w.heap.size, 0, none⟩ = some (.int .i64 c) ∧ w21.cell? ⟨w.heap.size, 1, none⟩ = some (.int .i64 (n : Int)) := ⟨(DAt.below X1.out T21.out).c0, (DAt.below X1.out T21.out).c1⟩; have B9 := Lib.hid (bt B1.out T21.out); have R9 := Lib.hid (DAt.below R1.out T21.out); have r0 := R9.out.c0; have rf0 := R9.out.f0; have r1 := R9.out.c1; have rf1 := R9.out.f1; clear b21))
    all_goals
      go_wp2_with fail
      refine bodyPost_ret (v := _) (by simp [results, Try.results21, go_sem, noneV, r0, r1]) rfl ⟨rfl, ((B9.out.setCell (by simp) _).setCell (by simp) _)⟩

theorem raised_lt (c : Int) (j : Nat) (hc : fits c) (hj : j ≤ 9) : (c * ((10 ^ j : Nat) : Int)).natAbs < 340282366920938463463374607431768211456 := by
  have h1 : -9223372036854775808 ≤ c ∧ c ≤ 9223372036854775807 := hc
  have hp : 10 ^ j ≤ 10 ^ 9 := Nat.pow_le_pow_right (by omega) hj
  rw [Int.natAbs_mul, Int.natAbs_natCast]
  have := Nat.mul_le_mul (show c.natAbs ≤ 9223372036854775808 by omega) hp
  omega
def BoxW (W : World) (b : Bool) (h l : Int) (s : Value) (wx : World) : Prop :=
  ∃ i : Nat, s = .pointer (some ⟨i, 0, none⟩) ∧ WAt wx i b h l ∧ Below W.heap.size W wx
theorem dec_wide (w : World) (c s : Int) :
    DAt ((w.alloc (.cells #[.int .i64 c, .int .i64 s] 23)).alloc (.cells #[.bool false, .int .u64 0, .int .u64 0] 57)) w.heap.size c s ∧
    WAt ((w.alloc (.cells #[.int .i64 c, .int .i64 s] 23)).alloc (.cells #[.bool false, .int .u64 0, .int .u64 0] 57)) (w.heap.size + 1) false 0 0 ∧
    Below w.heap.size w ((w.alloc (.cells #[.int .i64 c, .int .i64 s] 23)).alloc (.cells #[.bool false, .int .u64 0, .int .u64 0] 57)) := by
  have := wAt_new (w.alloc (.cells #[.int .i64 c, .int .i64 s] 23)) false 0 0
  rw [World.size_alloc] at this
  exact ⟨DAt.below (dAt_new w c s) (ba _ _), this, bt (ba _ _) (ba _ _)⟩
theorem times_w0 {x : Int} {n1 : Bool} {l1 : Nat} (d : Nat) (hd : d < 18446744073709551616) (v : Value) (w : World) (X : IsW x n1 0 l1) (hv : ovV (x * (d : Int)) = v) :
    Calls Try.prog 25 #[.agg #[.bool n1, .int .u64 0, .int .u64 (l1 : Int)], .int .u64 (d : Int)] w fun e w' => e = .returned v ∧ Below w.heap.size w w' := times_w d hd v w X hv
theorem ten_w (j : Nat) (t : Nat) (w : World) (hj : j ≤ 19) (ht : 10 ^ j = t) : Calls Try.prog 27 #[.int .i64 (j : Int)] w fun e w' => e = .returned (.int .u64 (t : Int)) ∧ Below w.heap.size w w' := by
  refine (wTen_c (j : Int) (t : Int) w (by omega) (by omega) (by unfold tenI; rw [if_pos (by omega), ← ht]; rfl)).mono ?_
  rintro e w' ⟨rfl, rfl⟩; exact ⟨rfl, Below.refl _ _⟩

theorem dd_ww (w : World) (c s x y : Int) : ∃ W : World, W = ((((w.alloc (.cells #[.int .i64 c, .int .i64 s] 23)).alloc (.cells #[.int .i64 x, .int .i64 y] 23)).alloc (.cells #[.bool false, .int .u64 0, .int .u64 0] 57)).alloc (.cells #[.bool false, .int .u64 0, .int .u64 0] 57)) ∧
    DAt W w.heap.size c s ∧ DAt W (w.heap.size + 1) x y ∧ WAt W (w.heap.size + 1 + 1) false 0 0 ∧ WAt W (w.heap.size + 1 + 1 + 1) false 0 0 ∧ Below w.heap.size w W := by
  obtain ⟨h1, h2, h3⟩ := two_dec w c s x y
  have h4 := wAt_new ((w.alloc (.cells #[.int .i64 c, .int .i64 s] 23)).alloc (.cells #[.int .i64 x, .int .i64 y] 23)) false 0 0
  have h5 := wAt_new (((w.alloc (.cells #[.int .i64 c, .int .i64 s] 23)).alloc (.cells #[.int .i64 x, .int .i64 y] 23)).alloc (.cells #[.bool false, .int .u64 0, .int .u64 0] 57)) false 0 0
  simp only [World.size_alloc] at h4 h5
  exact ⟨_, rfl, DAt.below h1 (bt (ba _ _) (ba _ _)), DAt.below h2 (bt (ba _ _) (ba _ _)), WAt.below h4 (ba _ _), h5, bt h3 (bt (ba _ _) (ba _ _))⟩
end Go.Proofs.Ytngelemjpgglpaa
