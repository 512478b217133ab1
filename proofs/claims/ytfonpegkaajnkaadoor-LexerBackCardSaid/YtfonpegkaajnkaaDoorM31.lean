/-
  decimal.made: the canonical number of a whole one and its places; decimal's functions, walked: Put, Of, raised, both.
-/
import Derived.Test.YtfonpegkaajnkaaDoorM30
import Derived.WalkMore
import Derived.Deep.RegionHeld3
/-
  decimal.made: the canonical number of a whole one and its places.
-/
namespace Go.Proofs.YtfonpegkaajnkaaDoor
open Go.RowKit
set_option linter.unusedSimpArgs false
attribute [local go_sem ↓] Go.wp_at_zero Go.wp_at_succ

theorem decV_small (u : Int) (s : Nat) (h : s = 0 ∨ u % 10 ≠ 0) : decV u s = if fits u then .tuple #[.agg #[.int .i64 u, .int .i64 (s : Int)], .int .i64 0] else .tuple #[.agg #[.int .i64 0, .int .i64 0], .int .i64 11] := by
  unfold decV; rw [trim_self u s h]
theorem decV_step (u : Int) (s : Nat) (h : u % 10 = 0) : decV u (s + 1) = decV (u.tdiv 10) s := by
  unfold decV; rw [trim_succ, if_pos h, show u.tdiv 10 = u / 10 from Int.tdiv_eq_ediv_of_dvd (Int.dvd_of_emod_eq_zero h)]
theorem isW_lt {z : Int} {b : Bool} {h l : Nat} (X : IsW z b h l) : z.natAbs < 340282366920938463463374607431768211456 := by rw [← X.v]; exact wz_lt b h l X.h X.l
/-- the loop of made -/
def MadeMid (w : World) (V s1 : Value) (wx : World) : Prop :=
  ∃ (u : Int) (s : Nat) (n : Bool) (h l : Nat), s1 = .int .i64 (s : Int) ∧ s ≤ 9 ∧ Hid (WAt wx w.heap.size n h l) ∧ Hid (IsW u n h l) ∧ Hid (decV u s = V) ∧ Hid (DAt wx (w.heap.size + 1) 0 0) ∧ Hid (Below w.heap.size w wx)
theorem small_w {x : Int} {n1 : Bool} {h1 l1 : Nat} (v : Value) (w : World) (X : IsW x n1 h1 l1) (hv : smallV x = v) :
    Calls Tryd.prog 102 #[.agg #[.bool n1, .int .u64 (h1 : Int), .int .u64 (l1 : Int)]] w fun e w' => e = .returned v ∧ Below w.heap.size w w' := by
  rw [← hv, ← X.v]; exact wSmall_any n1 h1 l1 w X.h X.l
theorem small_dec (u : Int) (s : Nat) (V : Value) (h : s = 0 ∨ u % 10 ≠ 0) (hV : decV u s = V) :
    (smallV u = .tuple #[.int .i64 u, .bool true] ∧ V = .tuple #[.agg #[.int .i64 u, .int .i64 (s : Int)], .int .i64 0]) ∨ (smallV u = .tuple #[.int .i64 0, .bool false] ∧ V = .tuple #[.agg #[.int .i64 0, .int .i64 0], .int .i64 11]) := by
  rw [decV_small u s h] at hV
  unfold smallV
  show ((if fits u then _ else _) = _ ∧ _) ∨ ((if fits u then _ else _) = _ ∧ _)
  by_cases hf : fits u
  · rw [if_pos hf] at hV; left; exact ⟨by rw [if_pos hf], hV.symm⟩
  · rw [if_neg hf] at hV; right; exact ⟨by rw [if_neg hf], hV.symm⟩

set_option maxRecDepth 100000 in
set_option maxHeartbeats 4000000 in
theorem made_any (z : Int) (n : Bool) (hi lo s : Nat) (V : Value) (w : World) (X : IsW z n hi lo) (hs : s ≤ 18) (hV : (if 9 < s then decV (evenZ z (10 ^ (s - 9))) 9 else decV z s) = V) :
    Calls Tryd.prog 69 #[.agg #[.bool n, .int .u64 (hi : Int), .int .u64 (lo : Int)], .int .i64 (s : Int)] w fun e w' => e = .returned V ∧ Below w.heap.size w w' := by
  have HX := Lib.hid X
  clear X
  go_enter Tryd.func69, Tryd.ntmps69
  go_upto_region 1 with fail
  refine wp_scope_straight ?_
  have X0 := Lib.hid (WAt.below (wAt_new w n hi lo) (ba _ (.cells #[.int .i64 0, .int .i64 0] 24)))
  have D0 : Hid (DAt ((w.alloc (.cells #[.bool n, .int .u64 (hi : Int), .int .u64 (lo : Int)] 101)).alloc (.cells #[.int .i64 0, .int .i64 0] 24)) (w.heap.size + 1) 0 0) := by
    have h := dAt_new (w.alloc (.cells #[.bool n, .int .u64 (hi : Int), .int .u64 (lo : Int)] 101)) 0 0
    rw [World.size_alloc] at h; exact h
  have B0 : Hid (Below w.heap.size w ((w.alloc (.cells #[.bool n, .int .u64 (hi : Int), .int .u64 (lo : Int)] 101)).alloc (.cells #[.int .i64 0, .int .i64 0] 24))) := bt (ba _ _) (ba _ _)
  generalize World.alloc (World.alloc w _) _ = W0 at X0 D0 B0 ⊢
  go_upto_if 12 with fail
  go_cut [1] (fun s1 wx => MadeMid w V s1 wx)
  case first =>
    by_cases g : 9 < s
    · rw [if_pos g] at hV
      have d1 : decide (9 < (s : Int)) = true := by simp; omega
      have hw : IntKind.i64.wrap ((s : Int) - 9) = ((s - 9 : Nat) : Int) := by rw [IntKind.wrap_i64]; omega
      obtain ⟨j, hj⟩ : ∃ j, Hid (s - 9 = j) := ⟨_, rfl⟩
      rw [hj.out] at hw hV
      have hj9 : j ≤ 9 := by have := hj.out; omega
      have HT : Hid (tenI (j : Int) = ((10 ^ j : Nat) : Int)) := by show _ = _; unfold tenI; rw [if_pos (by omega)]; rfl
      have hp : 10 ^ j ≤ 10 ^ 9 := Nat.pow_le_pow_right (by omega) hj9
      have hp0 : 0 < 10 ^ j := Nat.pow_pos (by omega)
      obtain ⟨T, hT⟩ : ∃ T : Nat, Hid (10 ^ j = T) := ⟨_, rfl⟩
      rw [hT.out] at hp hp0 hV HT
      have HP : Hid (0 < T ∧ T < 18446744073709551616) := ⟨hp0, by omega⟩
      obtain ⟨eb, eh, el, he, HE⟩ := isW_wv (evenZ z T) (Nat.lt_of_le_of_lt (evenZ_abs z T hp0).1 (isW_lt HX.out))
      have HV := Lib.hid hV
      clear hp hp0 hV hs
      have x0 := X0.out.c0; have x1 := X0.out.c1; have x2 := X0.out.c2
      go_upto_region 2 with fail
      go_region_law (first
        | (go_simp; go_at_call 100; refine (wTen_c (j : Int) _ _ (by omega) (by omega) HT.out).mono ?_; rintro e w1 ⟨rfl, rfl⟩)
        | (go_simp; go_at_call 99; refine (even_w T HP.out.1 HP.out.2 _ _ HX.out he.out).mono ?_; rintro e w2 ⟨rfl, b2⟩; have B2 := Lib.hid (show Below W0.heap.size W0 w2 from bt ((Below.refl _ _).drew) b2); have X2 := Lib.hid (WAt.below X0.out B2.out); have r0 := X2.out.c0; have r1 := X2.out.c1; have r2 := X2.out.c2; have r3 := X2.out.f0; have r4 := X2.out.f1; have r5 := X2.out.f2; clear b2))
      all_goals
        go_wp2_with fail
        go_meet
        case rel =>
          refine ⟨evenZ z T, 9, eb, eh, el, rfl, by omega, wAt_set3 _ _ _ X2.out, HE, HV, ?_, ?_⟩
          · exact dAt_other _ _ (dAt_other _ _ (dAt_other _ _ (DAt.below D0.out B2.out) (by omega)) (by omega)) (by omega)
          · exact below_set3 _ _ _ (bt B0.out B2.out) (Nat.le_refl _)
    · rw [if_neg g] at hV
      have d1 : decide (9 < (s : Int)) = false := by simp; omega
      have HV := Lib.hid hV
      clear hV
      go_wp2_with fail
      go_meet
      case rel => exact ⟨z, s, n, hi, lo, rfl, by omega, X0, HX, HV, D0, B0⟩
  case rest =>
    rename_i wm
    obtain ⟨u, t, m, h, l, rfl, ht, HXm, HU, HVm, HD, HB⟩ := hcut
    clear HX X0 D0 B0 hV hs
    go_wp2_with fail
    apply wp_label
    go_wp2_with fail
    go_loopw [1] (fun s1 wr => MadeMid w V s1 wr) (fun s1 _ => (intOf s1).toNat)
    case atStart => exact ⟨u, t, m, h, l, rfl, ht, HXm, HU, HVm, HD, HB⟩
    case round =>
      clear HXm HU HVm HD HB ht
      rename_i wr
      obtain ⟨wo, rfl⟩ : ∃ wo : World, wo = wr := ⟨_, rfl⟩
      obtain ⟨u, t, m, h, l, rfl, ht, HXm, HU, HVm, HD, HB⟩ := hrel
      cases t with
      | zero =>
        have e0 := HXm.out.c0; have e1 := HXm.out.c1; have e2 := HXm.out.c2
        rcases small_dec u 0 V (.inl rfl) HVm.out with ⟨hsm, hVe⟩ | ⟨hsm, hVe⟩
        all_goals
          go_wp2_with fail
          refine (small_w _ _ HU.out hsm).mono ?_
          rintro e w9 ⟨rfl, b9⟩
          have D9 := Lib.hid (DAt.below HD.out b9)
          have B9 := Lib.hid (bt HB.out b9)
          have r0 := D9.out.c0; have r1 := D9.out.c1; have r2 := D9.out.f0; have r3 := D9.out.f1
          clear b9 e0 e1 e2
          go_wp2_with fail
          rw [Exit.noGoto_ret]
          refine bodyPost_ret (v := V) (by rw [hVe]; simp [results, Tryd.results69, go_sem, r0, r1]) rfl ⟨rfl, (B9.out.setCell (by simp) _).setCell (by simp) _⟩
      | succ t =>
        have g1 : decide (0 < ((t + 1 : Nat) : Int)) = true := by simp
        have ht1 : t + 1 < 9223372036854775808 := by omega
        have hw : IntKind.i64.wrap (((t + 1 : Nat) : Int) - 1) = (t : Int) := by rw [IntKind.wrap_i64]; omega
        obtain ⟨R, hR⟩ : ∃ R : Nat, Hid (u.natAbs % 10 = R) := ⟨_, rfl⟩
        have htd : (u.tdiv ((10 : Nat) : Int)).natAbs ≤ u.natAbs := by rw [Int.natAbs_tdiv]; exact Nat.div_le_self _ _
        obtain ⟨qb, qh, ql, hq, HQ⟩ := isW_wv (u.tdiv ((10 : Nat) : Int)) (Nat.lt_of_le_of_lt htd (isW_lt HU.out))
        have hqd : Hid (divV u 10 = .tuple #[.agg #[.bool qb, .int .u64 (qh : Int), .int .u64 (ql : Int)], .int .u64 (R : Int), .int .i64 0]) := by show _ = _; unfold divV; rw [hq.out, hR.out]
        clear htd
        have e0 := HXm.out.c0; have e1 := HXm.out.c1; have e2 := HXm.out.c2
        go_wp2_with fail
        refine (div_w 10 (by omega) (by omega) _ _ HU.out hqd.out).mono ?_
        rintro e w2 ⟨rfl, b2⟩
        go_upto_region 6 with fail
        generalize hW : World.alloc w2 _ = W3
        have E3 : Hid (WAt W3 w2.heap.size qb qh ql) := by rw [← hW]; exact wAt_new _ _ _ _
        have b3 : Below wo.heap.size wo W3 := by rw [← hW]; exact bt b2 (ba _ _)
        have X3 := Lib.hid (WAt.below HXm.out b3); have D3 := Lib.hid (DAt.below HD.out b3); have B3 := Lib.hid (bt HB.out b3)
        have lx := HXm.out.lt; have l3 := b2.size
        clear hW b2 b3 e0 e1 e2
        by_cases hr : R = 0
        · subst hr
          have hu0 : u % 10 = 0 := by have := hR.out; omega
          have HV3 : Hid (decV (u.tdiv ((10 : Nat) : Int)) t = V) := by show _ = _; rw [← HVm.out, decV_step u t hu0]; rfl
          have e0 := E3.out.c0; have e1 := E3.out.c1; have e2 := E3.out.c2; have e3 := X3.out.f0; have e4 := X3.out.f1; have e5 := X3.out.f2
          have e6 := X3.out.c0; have e7 := X3.out.c1; have e8 := X3.out.c2
          go_wp2_with fail
          go_round
          case rel =>
            refine ⟨_, t, qb, qh, ql, rfl, by omega, wAt_set3 _ _ _ X3.out, HQ, HV3, ?_, below_set3 _ _ _ B3.out (Nat.le_refl _)⟩
            exact dAt_other _ _ (dAt_other _ _ (dAt_other _ _ D3.out (by omega)) (by omega)) (by omega)
          case measure => simp [intOf]
        · have hu0 : u % 10 ≠ 0 := by have := hR.out; omega
          have hr0 : ((R : Int) != 0) = true := by simpa using hr
          clear HXm HD HB
          have HXm := X3; have HD := D3; have HB := B3
          clear X3 D3 B3 E3 lx l3
          have e0 := HXm.out.c0; have e1 := HXm.out.c1; have e2 := HXm.out.c2
          rcases small_dec u (t + 1) V (.inr hu0) HVm.out with ⟨hsm, hVe⟩ | ⟨hsm, hVe⟩
          all_goals
            go_wp2_with fail
            refine (small_w _ _ HU.out hsm).mono ?_
            rintro e w9 ⟨rfl, b9⟩
            have D9 := Lib.hid (DAt.below HD.out b9)
            have B9 := Lib.hid (bt HB.out b9)
            have r0 := D9.out.c0; have r1 := D9.out.c1; have r2 := D9.out.f0; have r3 := D9.out.f1
            clear b9 e0 e1 e2
            go_wp2_with fail
            rw [Exit.noGoto_ret]
            refine bodyPost_ret (v := V) (by rw [hVe]; simp [results, Tryd.results69, go_sem, r0, r1]) rfl ⟨rfl, (B9.out.setCell (by simp) _).setCell (by simp) _⟩
end Go.Proofs.YtfonpegkaajnkaaDoor
/-
  decimal's functions, walked: Put, Of, raised, both.
-/
namespace Go.Proofs.YtfonpegkaajnkaaDoor
open Go.RowKit
set_option linter.unusedSimpArgs false
attribute [local go_sem ↓] Go.wp_at_zero Go.wp_at_succ

/-- no answer -/
def noneV (e : Int) : Value := .tuple #[.agg #[.int .i64 0, .int .i64 0], .int .i64 e]
/-- what Put answers -/
def putV (c s : Int) : Value := if isB s = true then decV (un c s.toNat) 9 else noneV 2
theorem isD_fits {u c : Int} {s : Nat} (h : IsD u c s) : fits c := h.fit
theorem w_of (c : Int) (hc : fits c) : ∃ (b : Bool) (l : Nat), wv c = .agg #[.bool b, .int .u64 0, .int .u64 (l : Int)] ∧ IsW c b 0 l := by
  have h1 : -9223372036854775808 ≤ c ∧ c ≤ 9223372036854775807 := hc
  obtain ⟨b, l, h, g, v⟩ := wv_small c (by omega) (by omega)
  exact ⟨b, l, h, v, by omega, g⟩
theorem two_dec (w : World) (c s x y : Int) :
    DAt ((w.alloc (.cells #[.int .i64 c, .int .i64 s] 24)).alloc (.cells #[.int .i64 x, .int .i64 y] 24)) w.heap.size c s ∧
    DAt ((w.alloc (.cells #[.int .i64 c, .int .i64 s] 24)).alloc (.cells #[.int .i64 x, .int .i64 y] 24)) (w.heap.size + 1) x y ∧
    Below w.heap.size w ((w.alloc (.cells #[.int .i64 c, .int .i64 s] 24)).alloc (.cells #[.int .i64 x, .int .i64 y] 24)) := by
  have := dAt_new (w.alloc (.cells #[.int .i64 c, .int .i64 s] 24)) x y
  rw [World.size_alloc] at this
  exact ⟨DAt.below (dAt_new w c s) (ba _ _), this, bt (ba _ _) (ba _ _)⟩
theorem three_dec (w : World) (c s x y p q : Int) :
    DAt (((w.alloc (.cells #[.int .i64 c, .int .i64 s] 24)).alloc (.cells #[.int .i64 x, .int .i64 y] 24)).alloc (.cells #[.int .i64 p, .int .i64 q] 24)) w.heap.size c s ∧
    DAt (((w.alloc (.cells #[.int .i64 c, .int .i64 s] 24)).alloc (.cells #[.int .i64 x, .int .i64 y] 24)).alloc (.cells #[.int .i64 p, .int .i64 q] 24)) (w.heap.size + 1) x y ∧
    DAt (((w.alloc (.cells #[.int .i64 c, .int .i64 s] 24)).alloc (.cells #[.int .i64 x, .int .i64 y] 24)).alloc (.cells #[.int .i64 p, .int .i64 q] 24)) (w.heap.size + 1 + 1) p q ∧
    Below w.heap.size w (((w.alloc (.cells #[.int .i64 c, .int .i64 s] 24)).alloc (.cells #[.int .i64 x, .int .i64 y] 24)).alloc (.cells #[.int .i64 p, .int .i64 q] 24)) := by
  have := dAt_new ((w.alloc (.cells #[.int .i64 c, .int .i64 s] 24)).alloc (.cells #[.int .i64 x, .int .i64 y] 24)) p q
  rw [World.size_alloc, World.size_alloc] at this
  obtain ⟨h1, h2, h3⟩ := two_dec w c s x y
  exact ⟨DAt.below h1 (ba _ _), DAt.below h2 (ba _ _), this, bt h3 (ba _ _)⟩
theorem of_w (c : Int) (v : Value) (w : World) (hc : fits c) (hv : wv c = v) :
    Calls Tryd.prog 70 #[.int .i64 c] w fun e w' => e = .returned v ∧ Below w.heap.size w w' := by
  rw [← hv]; exact wOf_any c w hc.1 hc.2
/-- made, where there are few places -/
theorem made_lo (z : Int) (n : Bool) (hi lo s : Nat) (V : Value) (w : World) (X : IsW z n hi lo) (hs : s ≤ 9) (hV : decV z s = V) :
    Calls Tryd.prog 69 #[.agg #[.bool n, .int .u64 (hi : Int), .int .u64 (lo : Int)], .int .i64 (s : Int)] w fun e w' => e = .returned V ∧ Below w.heap.size w w' :=
  made_any z n hi lo s V w X (by omega) (by rw [if_neg (by omega)]; exact hV)
theorem made_lo0 (z : Int) (n : Bool) (lo s : Nat) (V : Value) (w : World) (X : IsW z n 0 lo) (hs : s ≤ 9) (hV : decV z s = V) :
    Calls Tryd.prog 69 #[.agg #[.bool n, .int .u64 0, .int .u64 (lo : Int)], .int .i64 (s : Int)] w fun e w' => e = .returned V ∧ Below w.heap.size w w' :=
  made_lo z n 0 lo s V w X hs hV

set_option maxRecDepth 100000 in
set_option maxHeartbeats 2000000 in
theorem dPut_any (c s : Int) (V : Value) (w : World) (hc : fits c) (hV : putV c s = V) :
    Calls Tryd.prog 35 #[.agg #[.int .i64 c, .int .i64 s]] w fun e w' => e = .returned V ∧ Below w.heap.size w w' := by
  go_enter Tryd.func35, Tryd.ntmps35
  go_upto_region 1 with fail
  obtain ⟨hX, hR, hB⟩ := two_dec w c s 0 0
  have X0 := Lib.hid hX; have R0 := Lib.hid hR; have B0 := Lib.hid hB; clear hX hR hB
  generalize World.alloc (World.alloc w _) _ = W0 at X0 R0 B0 ⊢
  have x0 := X0.out.c0
  have x1 := X0.out.c1
  go_wp2_with fail
  refine (is1_any _ c s _ (by simp) (by simp) (by simp)).mono ?_
  rintro e w1 ⟨rfl, b1⟩
  have b1 := bt (ba W0 _) b1
  have X1 := Lib.hid (DAt.below X0.out b1)
  have R1 := Lib.hid (DAt.below R0.out b1)
  have B1 := Lib.hid (bt B0.out b1)
  clear x0 x1
  clear b1
  clear X0 R0  B0
  unfold putV at hV
  cases hs : isB s with
  | false =>
    rw [hs, if_neg (by simp)] at hV; subst hV
    have r0 := R1.out.c0
    have rf0 := R1.out.f0
    have r1 := R1.out.c1
    have rf1 := R1.out.f1
    go_wp2_with fail
    refine bodyPost_ret (v := noneV 2) (by simp [results, Tryd.results35, go_sem, noneV, r0, r1]) rfl ⟨rfl, ((B1.out.setCell (by simp) _).setCell (by simp) _)⟩
  | true =>
    rw [hs, if_pos rfl] at hV
    obtain ⟨n, rfl, hn⟩ := isB_nat hs
    rw [show ((n : Nat) : Int).toNat = n from rfl, decV_un c n hn] at hV
    obtain ⟨ob, ol, hov, HO⟩ := w_of c hc
    obtain ⟨vc, vs, ve, hvv⟩ := decV_form c n; rw [hV] at hvv; subst hvv
    go_upto_region 3 with fail
    have HS0 : (fun w' : World => w'.cell? ⟨w.heap.size, 0, none⟩ = some (.int .i64 c) ∧ w'.cell? ⟨w.heap.size, 1, none⟩ = some (.int .i64 (n : Int))) w1.drew := ⟨(DAt.below X1.out ((Below.refl _ _).drew)).c0, (DAt.below X1.out ((Below.refl _ _).drew)).c1⟩
    go_region_held3 (fun w' => w'.cell? ⟨w.heap.size, 0, none⟩ = some (.int .i64 c) ∧ w'.cell? ⟨w.heap.size, 1, none⟩ = some (.int .i64 (n : Int)))
      (first | with_reducible exact HS0 | with_reducible assumption | with_reducible exact ⟨((dAt_other _ _ (dAt_other _ _ (DAt.below X1.out T21.out) (by omega)) (by omega))).c0, ((dAt_other _ _ (dAt_other _ _ (DAt.below X1.out T21.out) (by omega)) (by omega))).c1⟩)
      (first
        | (go_at_call 70; (with_reducible refine (of_w c _ _ hc hov).mono ?_); rintro e w20 ⟨rfl, b20⟩; have T20 : Hid (Below w1.heap.size w1 w20) := bt ((Below.refl _ _).drew) b20; have HS20 : w20.cell? ⟨w.heap.size, 0, none⟩ = some (.int .i64 c) ∧ w20.cell? ⟨w.heap.size, 1, none⟩ = some (.int .i64 (n : Int)) := ⟨(DAt.below X1.out T20.out).c0, (DAt.below X1.out T20.out).c1⟩; clear b20)
        | (go_at_call 69; (with_reducible refine (made_lo0 c ob ol n _ _ HO hn hV).mono ?_); rintro e w21 ⟨rfl, b21⟩; have T21 : Hid (Below w1.heap.size w1 w21) := bt T20.out b21; have HS21 : w21.cell? ⟨w.heap.size, 0, none⟩ = some (.int .i64 c) ∧ w21.cell? ⟨w.heap.size, 1, none⟩ = some (.int .i64 (n : Int)) := ⟨(DAt.below X1.out T21.out).c0, (DAt.below X1.out T21.out).c1⟩; have B9 := Lib.hid (bt B1.out T21.out); have R9 := Lib.hid (DAt.below R1.out T21.out); have r0 := R9.out.c0; have rf0 := R9.out.f0; have r1 := R9.out.c1; have rf1 := R9.out.f1; clear b21))
    all_goals
      go_wp2_with fail
      refine bodyPost_ret (v := _) (by simp [results, Tryd.results35, go_sem, noneV, r0, r1]) rfl ⟨rfl, ((B9.out.setCell (by simp) _).setCell (by simp) _)⟩

theorem raised_lt (c : Int) (j : Nat) (hc : fits c) (hj : j ≤ 9) : (c * ((10 ^ j : Nat) : Int)).natAbs < 340282366920938463463374607431768211456 := by
  have h1 : -9223372036854775808 ≤ c ∧ c ≤ 9223372036854775807 := hc
  have hp : 10 ^ j ≤ 10 ^ 9 := Nat.pow_le_pow_right (by omega) hj
  rw [Int.natAbs_mul, Int.natAbs_natCast]
  have := Nat.mul_le_mul (show c.natAbs ≤ 9223372036854775808 by omega) hp
  omega
def BoxW (W : World) (b : Bool) (h l : Int) (s : Value) (wx : World) : Prop :=
  ∃ i : Nat, s = .pointer (some ⟨i, 0, none⟩) ∧ WAt wx i b h l ∧ Below W.heap.size W wx
theorem dec_wide (w : World) (c s : Int) :
    DAt ((w.alloc (.cells #[.int .i64 c, .int .i64 s] 24)).alloc (.cells #[.bool false, .int .u64 0, .int .u64 0] 101)) w.heap.size c s ∧
    WAt ((w.alloc (.cells #[.int .i64 c, .int .i64 s] 24)).alloc (.cells #[.bool false, .int .u64 0, .int .u64 0] 101)) (w.heap.size + 1) false 0 0 ∧
    Below w.heap.size w ((w.alloc (.cells #[.int .i64 c, .int .i64 s] 24)).alloc (.cells #[.bool false, .int .u64 0, .int .u64 0] 101)) := by
  have := wAt_new (w.alloc (.cells #[.int .i64 c, .int .i64 s] 24)) false 0 0
  rw [World.size_alloc] at this
  exact ⟨DAt.below (dAt_new w c s) (ba _ _), this, bt (ba _ _) (ba _ _)⟩
theorem ten_w (j : Nat) (t : Nat) (w : World) (hj : j ≤ 19) (ht : 10 ^ j = t) : Calls Tryd.prog 100 #[.int .i64 (j : Int)] w fun e w' => e = .returned (.int .u64 (t : Int)) ∧ Below w.heap.size w w' := by
  refine (wTen_c (j : Int) (t : Int) w (by omega) (by omega) (by unfold tenI; rw [if_pos (by omega), ← ht]; rfl)).mono ?_
  rintro e w' ⟨rfl, rfl⟩; exact ⟨rfl, Below.refl _ _⟩

theorem dd_ww (w : World) (c s x y : Int) : ∃ W : World, W = ((((w.alloc (.cells #[.int .i64 c, .int .i64 s] 24)).alloc (.cells #[.int .i64 x, .int .i64 y] 24)).alloc (.cells #[.bool false, .int .u64 0, .int .u64 0] 101)).alloc (.cells #[.bool false, .int .u64 0, .int .u64 0] 101)) ∧
    DAt W w.heap.size c s ∧ DAt W (w.heap.size + 1) x y ∧ WAt W (w.heap.size + 1 + 1) false 0 0 ∧ WAt W (w.heap.size + 1 + 1 + 1) false 0 0 ∧ Below w.heap.size w W := by
  obtain ⟨h1, h2, h3⟩ := two_dec w c s x y
  have h4 := wAt_new ((w.alloc (.cells #[.int .i64 c, .int .i64 s] 24)).alloc (.cells #[.int .i64 x, .int .i64 y] 24)) false 0 0
  have h5 := wAt_new (((w.alloc (.cells #[.int .i64 c, .int .i64 s] 24)).alloc (.cells #[.int .i64 x, .int .i64 y] 24)).alloc (.cells #[.bool false, .int .u64 0, .int .u64 0] 101)) false 0 0
  simp only [World.size_alloc] at h4 h5
  exact ⟨_, rfl, DAt.below h1 (bt (ba _ _) (ba _ _)), DAt.below h2 (bt (ba _ _) (ba _ _)), WAt.below h4 (ba _ _), h5, bt h3 (bt (ba _ _) (ba _ _))⟩
end Go.Proofs.YtfonpegkaajnkaaDoor
