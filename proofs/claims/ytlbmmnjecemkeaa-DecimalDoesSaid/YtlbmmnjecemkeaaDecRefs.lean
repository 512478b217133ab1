/-
  The document's decimals (corrodyref02), walked: Is, Round, Put, May, Cmp, Add, Sub.
-/
import Derived.Test.YtlbmmnjecemkeaaDecMadeR
namespace Go.Proofs.Ytlbmmnjecemkeaa
open Go.RowKit
set_option linter.unusedSimpArgs false
attribute [local go_sem ↓] Go.wp_at_zero Go.wp_at_succ

set_option maxRecDepth 100000 in
theorem rIs_any (c s : Int) (w : World) : Calls Try.prog 41 #[.agg #[.int .i64 c, .int .i64 s]] w fun e w' => e = .returned (.bool (isB s)) ∧ Below w.heap.size w w' := by
  by_cases h0 : 0 ≤ s
  · have d1 : decide (0 ≤ s) = true := by simpa using h0
    by_cases h9 : s ≤ 9
    · have d2 : decide (s ≤ 9) = true := by simpa using h9
      have e : isB s = true := by unfold isB; simp; omega
      rw [e]
      go_enter Try.func41, Try.ntmps41
      go_wp2_with fail
      go_ret
      exact ⟨rfl, ba _ _⟩
    · have d2 : decide (s ≤ 9) = false := by simpa using h9
      have e : isB s = false := by unfold isB; simp; omega
      rw [e]
      go_enter Try.func41, Try.ntmps41
      go_wp2_with fail
      go_ret
      exact ⟨rfl, ba _ _⟩
  · have d1 : decide (0 ≤ s) = false := by simpa using h0
    have e : isB s = false := by unfold isB; simp; omega
    rw [e]
    go_enter Try.func41, Try.ntmps41
    go_wp2_with fail
    go_ret
    exact ⟨rfl, ba _ _⟩
theorem near_val (u : Int) (t : Nat) (ht : t ≤ 9) : evenZ (u * ((10 ^ 9 : Nat) : Int)) (10 ^ (18 - t)) = evenZ u (10 ^ (9 - t)) := by
  rw [pow_split (9 - t) 9 (18 - t) (by omega), evenZ_scale _ _ _ (ten_pos _)]
theorem near9_any (k : Nat) (v : Value) (u : Int) (w : World) (hv : Num k w v u) (hk : k ≤ 8000) : Calls Try.prog 75 #[v, .int .i64 9] w (NumPost (k + 9) (evenZ u (10 ^ (18 - 9))) w) := near_any k v u 9 w hv hk (by omega)
theorem made9_any (K : Nat) (v : Value) (u : Int) (V : Value) (w : World) (hn : Num K w v u) (hK : K ≤ 7000) (hV : decV u 9 = V) : Calls Try.prog 74 #[v, .int .i64 9] w fun e w' => e = .returned V ∧ Below w.heap.size w w' := madeR_any K v u 9 V w hn hK (by omega) hV
theorem near_val9 (u : Int) : evenZ (u * ((10 ^ 9 : Nat) : Int)) (10 ^ (18 - 9)) = u := evenZ_exact u (10 ^ 9) (ten_pos 9)

set_option maxRecDepth 100000 in
set_option maxHeartbeats 1000000 in
theorem rRound_any (c : Int) (n t : Nat) (V : Value) (w : World) (hc : fits c) (hn : n ≤ 9) (ht : t ≤ 9) (hV : decV (evenZ (un c n) (10 ^ (9 - t))) t = V) :
    Calls Try.prog 45 #[.agg #[.int .i64 c, .int .i64 (n : Int)], .int .i64 (t : Int)] w fun e w' => e = .returned V ∧ Below w.heap.size w w' := by
  rw [← near_val _ _ ht] at hV
  obtain ⟨vc, vs, ve, hvv⟩ := decV_form (evenZ (un c n * ((10 ^ 9 : Nat) : Int)) (10 ^ (18 - t))) t; rw [hV] at hvv; subst hvv
  go_enter Try.func45, Try.ntmps45
  go_upto_region 1 with fail
  obtain ⟨hX, hR, hB⟩ := two_dec w c (n : Int) 0 0
  have X0 := Lib.hid hX; have R0 := Lib.hid hR; have B0 := Lib.hid hB; clear hX hR hB
  generalize World.alloc (World.alloc w _) _ = W0 at X0 R0 B0 ⊢
  have x0 := X0.out.c0; have x1 := X0.out.c1
  go_wp2_with fail
  refine (units_any c n _ hc hn).mono ?_
  rintro e w1 ⟨v1, hz, rfl, b1⟩
  have N1 := Lib.hid hz; have T1 := Lib.hid b1; clear hz b1
  go_wp2_with fail
  refine (near_any 36 v1 _ t _ N1.out (by omega) ht).mono ?_
  rintro e w2 ⟨v2, hz, rfl, b2⟩
  have N2 := Lib.hid hz; have T2 := Lib.hid (bt T1.out b2); clear hz b2
  go_wp2_with fail
  refine (madeR_any 45 v2 _ t _ _ N2.out (by omega) (by omega) hV).mono ?_
  rintro e w3 ⟨rfl, b3⟩
  have T3 := bt T2.out b3
  have R3 := Lib.hid (DAt.below R0.out T3); have B3 := Lib.hid (bt B0.out T3); clear b3 T3 x0 x1
  have r0 := R3.out.c0; have r1 := R3.out.c1; have r2 := R3.out.f0; have r3 := R3.out.f1
  go_wp2_with fail
  refine bodyPost_ret (v := .tuple #[.agg #[.int .i64 vc, .int .i64 vs], .int .i64 ve]) (by simp [results, Try.results45, go_sem, r0, r1]) rfl ⟨rfl, (B3.out.setCell (by simp) _).setCell (by simp) _⟩

set_option maxRecDepth 100000 in
theorem rPut_any (c : Int) (n : Nat) (V : Value) (w : World) (hc : fits c) (hn : n ≤ 9) (hV : decV c n = V) :
    Calls Try.prog 43 #[.agg #[.int .i64 c, .int .i64 (n : Int)]] w fun e w' => e = .returned V ∧ Below w.heap.size w w' := by
  obtain ⟨vc, vs, ve, hvv⟩ := decV_form c n; rw [hV] at hvv; subst hvv
  have hV' : decV (evenZ (un c n) (10 ^ (9 - 9))) 9 = .tuple #[.agg #[.int .i64 vc, .int .i64 vs], .int .i64 ve] := by
    rw [show 10 ^ (9 - 9) = 1 from rfl, evenZ_one, decV_un c n hn, hV]
  go_enter Try.func43, Try.ntmps43
  go_upto_region 1 with fail
  obtain ⟨hX, hR, hB⟩ := two_dec w c (n : Int) 0 0
  have X0 := Lib.hid hX; have R0 := Lib.hid hR; have B0 := Lib.hid hB; clear hX hR hB
  generalize World.alloc (World.alloc w _) _ = W0 at X0 R0 B0 ⊢
  have x0 := X0.out.c0; have x1 := X0.out.c1
  go_wp2_with fail
  refine (rRound_any c n 9 _ _ hc hn (by omega) hV').mono ?_
  rintro e w3 ⟨rfl, b3⟩
  have R3 := Lib.hid (DAt.below R0.out b3); have B3 := Lib.hid (bt B0.out b3); clear b3 x0 x1
  have r0 := R3.out.c0; have r1 := R3.out.c1; have r2 := R3.out.f0; have r3 := R3.out.f1
  go_wp2_with fail
  refine bodyPost_ret (v := .tuple #[.agg #[.int .i64 vc, .int .i64 vs], .int .i64 ve]) (by simp [results, Try.results43, go_sem, r0, r1]) rfl ⟨rfl, (B3.out.setCell (by simp) _).setCell (by simp) _⟩

/-- a number is canonical just where Put lets it be -/
theorem may_cases (c : Int) (n : Nat) (hc : fits c) (hn : n ≤ 9) :
    (mayB c (n : Int) = true ∧ decV c n = .tuple #[.agg #[.int .i64 c, .int .i64 (n : Int)], .int .i64 0]) ∨
    (mayB c (n : Int) = false ∧ ∃ p q : Int, decV c n = .tuple #[.agg #[.int .i64 p, .int .i64 q], .int .i64 0] ∧ (n : Int) ≠ q) ∨
    (mayB c (n : Int) = false ∧ decV c n = .tuple #[.agg #[.int .i64 0, .int .i64 0], .int .i64 11]) := by
  have hi : isB (n : Int) = true := by unfold isB; simp; omega
  by_cases h : n = 0 ∨ c % 10 ≠ 0
  · left
    refine ⟨?_, ?_⟩
    · unfold mayB; rw [hi]
      rcases h with h | h
      · subst h; simp
      · simp [h]
    · unfold decV; rw [trim_self c n h, if_pos hc]
  · right
    have hm : mayB c (n : Int) = false := by
      unfold mayB; rw [hi]
      have h1 : n ≠ 0 := fun k => h (.inl k)
      have h2 : c % 10 = 0 := by rcases Decidable.em (c % 10 = 0) with k | k; exact k; exact absurd (.inr k) h
      simp [h1, h2]
    cases n with
    | zero => exact absurd (.inl rfl) h
    | succ n =>
      have h2 : c % 10 = 0 := by rcases Decidable.em (c % 10 = 0) with k | k; exact k; exact absurd (.inr k) h
      unfold decV
      rw [trim_succ, if_pos h2]
      have hl := trim_le (c / 10) n
      by_cases hf : fits (trim (c / 10) n).1
      · left; refine ⟨hm, _, _, by rw [if_pos hf], by omega⟩
      · right; exact ⟨hm, by rw [if_neg hf]⟩
set_option maxRecDepth 100000 in
set_option maxHeartbeats 1000000 in
theorem rMay_any (c s : Int) (w : World) (hc : fits c) : Calls Try.prog 39 #[.agg #[.int .i64 c, .int .i64 s]] w fun e w' => e = .returned (.bool (mayB c s)) ∧ Below w.heap.size w w' := by
  cases hs : isB s with
  | false =>
    have hm : mayB c s = false := by unfold mayB; rw [hs]; rfl
    rw [hm]
    go_enter Try.func39, Try.ntmps39
    go_wp2_with fail
    refine (rIs_any c s _).mono ?_
    rintro e w1 ⟨rfl, b1⟩
    rw [hs]
    have B1 := Lib.hid (bt (ba _ _) b1); clear b1
    go_wp2_with fail
    go_ret
    exact ⟨rfl, B1.out⟩
  | true =>
    obtain ⟨n, rfl, hn⟩ := isB_nat hs
    have main : ∀ (p q e : Int) (b : Bool), decV c n = .tuple #[.agg #[.int .i64 p, .int .i64 q], .int .i64 e] → mayB c (n : Int) = b → ((e = 0 ∧ b = true ∧ p = c ∧ q = (n : Int)) ∨ (e = 0 ∧ b = false ∧ (n : Int) ≠ q) ∨ (e = 11 ∧ b = false)) →
        Calls Try.prog 39 #[.agg #[.int .i64 c, .int .i64 (n : Int)]] w fun e w' => e = .returned (.bool (mayB c (n : Int))) ∧ Below w.heap.size w w' := by
      intro p q e b hV hm hcase
      rw [hm]
      have HV := Lib.hid hV
      clear hV hm
      go_enter Try.func39, Try.ntmps39
      go_upto_region 1 with fail
      have X0 := Lib.hid (dAt_new w c (n : Int)); have B0 := Lib.hid (ba w (.cells #[.int .i64 c, .int .i64 (n : Int)] 59))
      generalize World.alloc w _ = W0 at X0 B0 ⊢
      have x0 := X0.out.c0; have x1 := X0.out.c1
      go_wp2_with fail
      refine (rIs_any c (n : Int) _).mono ?_
      rintro e w1 ⟨rfl, b1⟩
      rw [hs]
      have X1 := Lib.hid (DAt.below X0.out b1); have B1 := Lib.hid (bt B0.out b1); clear b1 x0 x1
      have x0 := X1.out.c0; have x1 := X1.out.c1
      go_wp2_with fail
      refine (rPut_any c n _ _ hc hn HV.out).mono ?_
      rintro e w2 ⟨rfl, b1⟩
      go_upto_region 4 with fail
      generalize hW : World.alloc w2 _ = W3
      have P3 : Hid (DAt W3 w2.heap.size p q) := by rw [← hW]; exact dAt_new _ _ _
      have b3 := bt b1 (ba w2 (.cells #[.int .i64 p, .int .i64 q] 59))
      rw [hW] at b3
      have X3 := Lib.hid (DAt.below X1.out b3); have B3 := Lib.hid (bt B1.out b3); clear b1 b3 hW x0 x1
      have x0 := X3.out.c0; have x1 := X3.out.c1; have p0 := P3.out.c0; have p1 := P3.out.c1
      rcases hcase with ⟨rfl, rfl, rfl, rfl⟩ | ⟨rfl, rfl, hne⟩ | ⟨rfl, rfl⟩
      · go_wp2_with fail
        go_ret
        exact ⟨rfl, B3.out⟩
      · have k1 : ((n : Int) == q) = false := by simpa using hne
        go_wp2_with fail
        go_ret
        exact ⟨by simp [hne], B3.out⟩
      · go_wp2_with fail
        go_ret
        exact ⟨rfl, B3.out⟩
    rcases may_cases c n hc hn with ⟨h1, h2⟩ | ⟨h1, p, q, h2, h3⟩ | ⟨h1, h2⟩
    · exact main _ _ _ _ h2 h1 (.inl ⟨rfl, rfl, rfl, rfl⟩)
    · exact main _ _ _ _ h2 h1 (.inr (.inl ⟨rfl, rfl, h3⟩))
    · exact main _ _ _ _ h2 h1 (.inr (.inr ⟨rfl, rfl⟩))

set_option maxRecDepth 100000 in
set_option maxHeartbeats 1000000 in
theorem rCmp_any (c c' : Int) (n n' : Nat) (z : Int) (w : World) (hc : fits c) (hc' : fits c') (hn : n ≤ 9) (hn' : n' ≤ 9) (hz : cmpZ (un c n) (un c' n') = z) :
    Calls Try.prog 53 #[.agg #[.int .i64 c, .int .i64 (n : Int)], .agg #[.int .i64 c', .int .i64 (n' : Int)]] w fun e w' => e = .returned (.int .i64 z) ∧ Below w.heap.size w w' := by
  rw [← cmpZ_scale _ _ ((10 ^ 9 : Nat) : Int) (by have := ten_pos 9; omega)] at hz
  have HN : Hid (fits c ∧ n ≤ 9 ∧ fits c' ∧ n' ≤ 9) := ⟨hc, hn, hc', hn'⟩
  have HZ := Lib.hid hz; clear hz hc hc' hn hn'
  go_enter Try.func53, Try.ntmps53
  go_upto_region 1 with fail
  obtain ⟨hX, hY, hB⟩ := two_dec w c (n : Int) c' (n' : Int)
  have X0 := Lib.hid hX; have Y0 := Lib.hid hY; have B0 := Lib.hid hB; clear hX hY hB
  generalize World.alloc (World.alloc w _) _ = W0 at X0 Y0 B0 ⊢
  obtain ⟨iY, hiY⟩ : ∃ x, Hid (w.heap.size + 1 = x) := ⟨_, rfl⟩
  rw [hiY.out] at Y0 ⊢; clear hiY
  have HS0 : (fun w' : World => w'.cell? ⟨w.heap.size, 0, none⟩ = some (.int .i64 c) ∧ w'.cell? ⟨w.heap.size, 1, none⟩ = some (.int .i64 (n : Int)) ∧ w'.cell? ⟨iY, 0, none⟩ = some (.int .i64 c') ∧ w'.cell? ⟨iY, 1, none⟩ = some (.int .i64 (n' : Int))) W0.drew := ⟨(DAt.below X0.out ((Below.refl _ _).drew)).c0, (DAt.below X0.out ((Below.refl _ _).drew)).c1, (DAt.below Y0.out ((Below.refl _ _).drew)).c0, (DAt.below Y0.out ((Below.refl _ _).drew)).c1⟩
  go_region_held3 (fun w' => w'.cell? ⟨w.heap.size, 0, none⟩ = some (.int .i64 c) ∧ w'.cell? ⟨w.heap.size, 1, none⟩ = some (.int .i64 (n : Int)) ∧ w'.cell? ⟨iY, 0, none⟩ = some (.int .i64 c') ∧ w'.cell? ⟨iY, 1, none⟩ = some (.int .i64 (n' : Int)))
    (first | with_reducible exact HS0 | with_reducible assumption)
    (first
      | (go_at_call 76; (with_reducible refine (units_any c n _ HN.out.1 HN.out.2.1).mono ?_); rintro e w20 ⟨v20, hz, rfl, b20⟩; have T20 : Hid (Below W0.heap.size W0 w20) := bt ((Below.refl _ _).drew) b20; have HS20 : w20.cell? ⟨w.heap.size, 0, none⟩ = some (.int .i64 c) ∧ w20.cell? ⟨w.heap.size, 1, none⟩ = some (.int .i64 (n : Int)) ∧ w20.cell? ⟨iY, 0, none⟩ = some (.int .i64 c') ∧ w20.cell? ⟨iY, 1, none⟩ = some (.int .i64 (n' : Int)) := ⟨(DAt.below X0.out T20.out).c0, (DAt.below X0.out T20.out).c1, (DAt.below Y0.out T20.out).c0, (DAt.below Y0.out T20.out).c1⟩; have N20 := Lib.hid hz; have V20 := Lib.hid b20; clear hz; clear b20)
      | (go_at_call 76; (with_reducible refine (units_any c' n' _ HN.out.2.2.1 HN.out.2.2.2).mono ?_); rintro e w21 ⟨v21, hz, rfl, b21⟩; have T21 : Hid (Below W0.heap.size W0 w21) := bt T20.out b21; have HS21 : w21.cell? ⟨w.heap.size, 0, none⟩ = some (.int .i64 c) ∧ w21.cell? ⟨w.heap.size, 1, none⟩ = some (.int .i64 (n : Int)) ∧ w21.cell? ⟨iY, 0, none⟩ = some (.int .i64 c') ∧ w21.cell? ⟨iY, 1, none⟩ = some (.int .i64 (n' : Int)) := ⟨(DAt.below X0.out T21.out).c0, (DAt.below X0.out T21.out).c1, (DAt.below Y0.out T21.out).c0, (DAt.below Y0.out T21.out).c1⟩; have N21 := Lib.hid hz; have V21 := Lib.hid b21; clear hz; clear b21)
      | (go_at_call 21; (with_reducible refine (cmp_c 36 36 _ _ _ _ z _ (num_below N20.out V21.out) N21.out (by omega) (by omega) HZ.out).mono ?_); rintro e w22 ⟨rfl, b22⟩; have T22 : Hid (Below W0.heap.size W0 w22) := bt T21.out b22; have HS22 : w22.cell? ⟨w.heap.size, 0, none⟩ = some (.int .i64 c) ∧ w22.cell? ⟨w.heap.size, 1, none⟩ = some (.int .i64 (n : Int)) ∧ w22.cell? ⟨iY, 0, none⟩ = some (.int .i64 c') ∧ w22.cell? ⟨iY, 1, none⟩ = some (.int .i64 (n' : Int)) := ⟨(DAt.below X0.out T22.out).c0, (DAt.below X0.out T22.out).c1, (DAt.below Y0.out T22.out).c0, (DAt.below Y0.out T22.out).c1⟩; clear b22))
  all_goals
    go_wp2_with fail
    go_ret
    exact ⟨rfl, bt B0.out T22.out⟩

set_option maxRecDepth 100000 in
set_option maxHeartbeats 1000000 in
theorem rAdd_any (c c' : Int) (n n' : Nat) (V : Value) (w : World) (hc : fits c) (hc' : fits c') (hn : n ≤ 9) (hn' : n' ≤ 9) (hV : decV (un c n + un c' n') 9 = V) :
    Calls Try.prog 51 #[.agg #[.int .i64 c, .int .i64 (n : Int)], .agg #[.int .i64 c', .int .i64 (n' : Int)]] w fun e w' => e = .returned V ∧ Below w.heap.size w w' := by
  rw [← near_val9 (un c n + un c' n'), Int.add_mul] at hV
  obtain ⟨vc, vs, ve, hvv⟩ := decV_form (evenZ (un c n * ((10 ^ 9 : Nat) : Int) + un c' n' * ((10 ^ 9 : Nat) : Int)) (10 ^ (18 - 9))) 9; rw [hV] at hvv; subst hvv
  have HN : Hid (fits c ∧ n ≤ 9 ∧ fits c' ∧ n' ≤ 9) := ⟨hc, hn, hc', hn'⟩
  have HV := Lib.hid hV; clear hV hc hc' hn hn'
  go_enter Try.func51, Try.ntmps51
  go_upto_region 1 with fail
  obtain ⟨hX, hY, hR, hB⟩ := three_dec w c (n : Int) c' (n' : Int) 0 0
  have X0 := Lib.hid hX; have Y0 := Lib.hid hY; have R0 := Lib.hid hR; have B0 := Lib.hid hB; clear hX hY hR hB
  generalize World.alloc (World.alloc (World.alloc w _) _) _ = W0 at X0 Y0 R0 B0 ⊢
  obtain ⟨iR, hiR⟩ : ∃ x, Hid (w.heap.size + 1 + 1 = x) := ⟨_, rfl⟩
  obtain ⟨iY, hiY⟩ : ∃ x, Hid (w.heap.size + 1 = x) := ⟨_, rfl⟩
  have hlt : w.heap.size < iY ∧ iY < iR := by have := hiR.out; have := hiY.out; omega
  rw [hiR.out] at R0 ⊢; rw [hiY.out] at Y0 ⊢; clear hiR hiY
  have HS0 : (fun w' : World => w'.cell? ⟨w.heap.size, 0, none⟩ = some (.int .i64 c) ∧ w'.cell? ⟨w.heap.size, 1, none⟩ = some (.int .i64 (n : Int)) ∧ w'.cell? ⟨iY, 0, none⟩ = some (.int .i64 c') ∧ w'.cell? ⟨iY, 1, none⟩ = some (.int .i64 (n' : Int))) W0.drew := ⟨(DAt.below X0.out ((Below.refl _ _).drew)).c0, (DAt.below X0.out ((Below.refl _ _).drew)).c1, (DAt.below Y0.out ((Below.refl _ _).drew)).c0, (DAt.below Y0.out ((Below.refl _ _).drew)).c1⟩
  go_region_held3 (fun w' => w'.cell? ⟨w.heap.size, 0, none⟩ = some (.int .i64 c) ∧ w'.cell? ⟨w.heap.size, 1, none⟩ = some (.int .i64 (n : Int)) ∧ w'.cell? ⟨iY, 0, none⟩ = some (.int .i64 c') ∧ w'.cell? ⟨iY, 1, none⟩ = some (.int .i64 (n' : Int)))
    (first | with_reducible exact HS0 | with_reducible assumption | with_reducible exact ⟨((dAt_other _ _ (dAt_other _ _ (DAt.below X0.out T24.out) (by omega)) (by omega))).c0, ((dAt_other _ _ (dAt_other _ _ (DAt.below X0.out T24.out) (by omega)) (by omega))).c1, ((dAt_other _ _ (dAt_other _ _ (DAt.below Y0.out T24.out) (by omega)) (by omega))).c0, ((dAt_other _ _ (dAt_other _ _ (DAt.below Y0.out T24.out) (by omega)) (by omega))).c1⟩)
    (first
      | (go_at_call 76; (with_reducible refine (units_any c n _ HN.out.1 HN.out.2.1).mono ?_); rintro e w20 ⟨v20, hz, rfl, b20⟩; have T20 : Hid (Below W0.heap.size W0 w20) := bt ((Below.refl _ _).drew) b20; have HS20 : w20.cell? ⟨w.heap.size, 0, none⟩ = some (.int .i64 c) ∧ w20.cell? ⟨w.heap.size, 1, none⟩ = some (.int .i64 (n : Int)) ∧ w20.cell? ⟨iY, 0, none⟩ = some (.int .i64 c') ∧ w20.cell? ⟨iY, 1, none⟩ = some (.int .i64 (n' : Int)) := ⟨(DAt.below X0.out T20.out).c0, (DAt.below X0.out T20.out).c1, (DAt.below Y0.out T20.out).c0, (DAt.below Y0.out T20.out).c1⟩; have N20 := Lib.hid hz; have V20 := Lib.hid b20; clear hz; clear b20)
      | (go_at_call 76; (with_reducible refine (units_any c' n' _ HN.out.2.2.1 HN.out.2.2.2).mono ?_); rintro e w21 ⟨v21, hz, rfl, b21⟩; have T21 : Hid (Below W0.heap.size W0 w21) := bt T20.out b21; have HS21 : w21.cell? ⟨w.heap.size, 0, none⟩ = some (.int .i64 c) ∧ w21.cell? ⟨w.heap.size, 1, none⟩ = some (.int .i64 (n : Int)) ∧ w21.cell? ⟨iY, 0, none⟩ = some (.int .i64 c') ∧ w21.cell? ⟨iY, 1, none⟩ = some (.int .i64 (n' : Int)) := ⟨(DAt.below X0.out T21.out).c0, (DAt.below X0.out T21.out).c1, (DAt.below Y0.out T21.out).c0, (DAt.below Y0.out T21.out).c1⟩; have N21 := Lib.hid hz; have V21 := Lib.hid b21; clear hz; clear b21)
      | (go_at_call 27; (with_reducible refine (add_any 36 36 _ _ _ _ _ (num_below N20.out V21.out) N21.out (by omega) (by omega)).mono ?_); rintro e w22 ⟨v22, hz, rfl, b22⟩; have T22 : Hid (Below W0.heap.size W0 w22) := bt T21.out b22; have HS22 : w22.cell? ⟨w.heap.size, 0, none⟩ = some (.int .i64 c) ∧ w22.cell? ⟨w.heap.size, 1, none⟩ = some (.int .i64 (n : Int)) ∧ w22.cell? ⟨iY, 0, none⟩ = some (.int .i64 c') ∧ w22.cell? ⟨iY, 1, none⟩ = some (.int .i64 (n' : Int)) := ⟨(DAt.below X0.out T22.out).c0, (DAt.below X0.out T22.out).c1, (DAt.below Y0.out T22.out).c0, (DAt.below Y0.out T22.out).c1⟩; have N22 := Lib.hid hz; have V22 := Lib.hid b22; clear hz; clear b22)
      | (go_at_call 75; (with_reducible refine (near9_any _ _ _ _ N22.out (by omega)).mono ?_); rintro e w23 ⟨v23, hz, rfl, b23⟩; have T23 : Hid (Below W0.heap.size W0 w23) := bt T22.out b23; have HS23 : w23.cell? ⟨w.heap.size, 0, none⟩ = some (.int .i64 c) ∧ w23.cell? ⟨w.heap.size, 1, none⟩ = some (.int .i64 (n : Int)) ∧ w23.cell? ⟨iY, 0, none⟩ = some (.int .i64 c') ∧ w23.cell? ⟨iY, 1, none⟩ = some (.int .i64 (n' : Int)) := ⟨(DAt.below X0.out T23.out).c0, (DAt.below X0.out T23.out).c1, (DAt.below Y0.out T23.out).c0, (DAt.below Y0.out T23.out).c1⟩; have N23 := Lib.hid hz; have V23 := Lib.hid b23; clear hz; clear b23)
      | (go_at_call 74; (with_reducible refine (made9_any _ _ _ _ _ N23.out (by omega) HV.out).mono ?_); rintro e w24 ⟨rfl, b24⟩; have T24 : Hid (Below W0.heap.size W0 w24) := bt T23.out b24; have HS24 : w24.cell? ⟨w.heap.size, 0, none⟩ = some (.int .i64 c) ∧ w24.cell? ⟨w.heap.size, 1, none⟩ = some (.int .i64 (n : Int)) ∧ w24.cell? ⟨iY, 0, none⟩ = some (.int .i64 c') ∧ w24.cell? ⟨iY, 1, none⟩ = some (.int .i64 (n' : Int)) := ⟨(DAt.below X0.out T24.out).c0, (DAt.below X0.out T24.out).c1, (DAt.below Y0.out T24.out).c0, (DAt.below Y0.out T24.out).c1⟩; have B9 := Lib.hid (bt B0.out T24.out); have R9 := Lib.hid (DAt.below R0.out T24.out); have r0 := R9.out.c0; have rf0 := R9.out.f0; have r1 := R9.out.c1; have rf1 := R9.out.f1; clear b24))
  all_goals
    go_wp2_with fail
    refine bodyPost_ret (v := _) (by simp [results, Try.results51, go_sem, noneV, r0, r1]) rfl ⟨rfl, ((B9.out.setCell (by simp; omega) _).setCell (by simp; omega) _)⟩

set_option maxRecDepth 100000 in
set_option maxHeartbeats 1000000 in
theorem rSub_any (c c' : Int) (n n' : Nat) (V : Value) (w : World) (hc : fits c) (hc' : fits c') (hn : n ≤ 9) (hn' : n' ≤ 9) (hV : decV (un c n - un c' n') 9 = V) :
    Calls Try.prog 44 #[.agg #[.int .i64 c, .int .i64 (n : Int)], .agg #[.int .i64 c', .int .i64 (n' : Int)]] w fun e w' => e = .returned V ∧ Below w.heap.size w w' := by
  rw [← near_val9 (un c n - un c' n'), Int.sub_mul] at hV
  obtain ⟨vc, vs, ve, hvv⟩ := decV_form (evenZ (un c n * ((10 ^ 9 : Nat) : Int) - un c' n' * ((10 ^ 9 : Nat) : Int)) (10 ^ (18 - 9))) 9; rw [hV] at hvv; subst hvv
  have HN : Hid (fits c ∧ n ≤ 9 ∧ fits c' ∧ n' ≤ 9) := ⟨hc, hn, hc', hn'⟩
  have HV := Lib.hid hV; clear hV hc hc' hn hn'
  go_enter Try.func44, Try.ntmps44
  go_upto_region 1 with fail
  obtain ⟨hX, hY, hR, hB⟩ := three_dec w c (n : Int) c' (n' : Int) 0 0
  have X0 := Lib.hid hX; have Y0 := Lib.hid hY; have R0 := Lib.hid hR; have B0 := Lib.hid hB; clear hX hY hR hB
  generalize World.alloc (World.alloc (World.alloc w _) _) _ = W0 at X0 Y0 R0 B0 ⊢
  obtain ⟨iR, hiR⟩ : ∃ x, Hid (w.heap.size + 1 + 1 = x) := ⟨_, rfl⟩
  obtain ⟨iY, hiY⟩ : ∃ x, Hid (w.heap.size + 1 = x) := ⟨_, rfl⟩
  have hlt : w.heap.size < iY ∧ iY < iR := by have := hiR.out; have := hiY.out; omega
  rw [hiR.out] at R0 ⊢; rw [hiY.out] at Y0 ⊢; clear hiR hiY
  have HS0 : (fun w' : World => w'.cell? ⟨w.heap.size, 0, none⟩ = some (.int .i64 c) ∧ w'.cell? ⟨w.heap.size, 1, none⟩ = some (.int .i64 (n : Int)) ∧ w'.cell? ⟨iY, 0, none⟩ = some (.int .i64 c') ∧ w'.cell? ⟨iY, 1, none⟩ = some (.int .i64 (n' : Int))) W0.drew := ⟨(DAt.below X0.out ((Below.refl _ _).drew)).c0, (DAt.below X0.out ((Below.refl _ _).drew)).c1, (DAt.below Y0.out ((Below.refl _ _).drew)).c0, (DAt.below Y0.out ((Below.refl _ _).drew)).c1⟩
  go_region_held3 (fun w' => w'.cell? ⟨w.heap.size, 0, none⟩ = some (.int .i64 c) ∧ w'.cell? ⟨w.heap.size, 1, none⟩ = some (.int .i64 (n : Int)) ∧ w'.cell? ⟨iY, 0, none⟩ = some (.int .i64 c') ∧ w'.cell? ⟨iY, 1, none⟩ = some (.int .i64 (n' : Int)))
    (first | with_reducible exact HS0 | with_reducible assumption | with_reducible exact ⟨((dAt_other _ _ (dAt_other _ _ (DAt.below X0.out T24.out) (by omega)) (by omega))).c0, ((dAt_other _ _ (dAt_other _ _ (DAt.below X0.out T24.out) (by omega)) (by omega))).c1, ((dAt_other _ _ (dAt_other _ _ (DAt.below Y0.out T24.out) (by omega)) (by omega))).c0, ((dAt_other _ _ (dAt_other _ _ (DAt.below Y0.out T24.out) (by omega)) (by omega))).c1⟩)
    (first
      | (go_at_call 76; (with_reducible refine (units_any c n _ HN.out.1 HN.out.2.1).mono ?_); rintro e w20 ⟨v20, hz, rfl, b20⟩; have T20 : Hid (Below W0.heap.size W0 w20) := bt ((Below.refl _ _).drew) b20; have HS20 : w20.cell? ⟨w.heap.size, 0, none⟩ = some (.int .i64 c) ∧ w20.cell? ⟨w.heap.size, 1, none⟩ = some (.int .i64 (n : Int)) ∧ w20.cell? ⟨iY, 0, none⟩ = some (.int .i64 c') ∧ w20.cell? ⟨iY, 1, none⟩ = some (.int .i64 (n' : Int)) := ⟨(DAt.below X0.out T20.out).c0, (DAt.below X0.out T20.out).c1, (DAt.below Y0.out T20.out).c0, (DAt.below Y0.out T20.out).c1⟩; have N20 := Lib.hid hz; have V20 := Lib.hid b20; clear hz; clear b20)
      | (go_at_call 76; (with_reducible refine (units_any c' n' _ HN.out.2.2.1 HN.out.2.2.2).mono ?_); rintro e w21 ⟨v21, hz, rfl, b21⟩; have T21 : Hid (Below W0.heap.size W0 w21) := bt T20.out b21; have HS21 : w21.cell? ⟨w.heap.size, 0, none⟩ = some (.int .i64 c) ∧ w21.cell? ⟨w.heap.size, 1, none⟩ = some (.int .i64 (n : Int)) ∧ w21.cell? ⟨iY, 0, none⟩ = some (.int .i64 c') ∧ w21.cell? ⟨iY, 1, none⟩ = some (.int .i64 (n' : Int)) := ⟨(DAt.below X0.out T21.out).c0, (DAt.below X0.out T21.out).c1, (DAt.below Y0.out T21.out).c0, (DAt.below Y0.out T21.out).c1⟩; have N21 := Lib.hid hz; have V21 := Lib.hid b21; clear hz; clear b21)
      | (go_at_call 63; (with_reducible refine (sub_any 36 36 _ _ _ _ _ (num_below N20.out V21.out) N21.out (by omega) (by omega)).mono ?_); rintro e w22 ⟨v22, hz, rfl, b22⟩; have T22 : Hid (Below W0.heap.size W0 w22) := bt T21.out b22; have HS22 : w22.cell? ⟨w.heap.size, 0, none⟩ = some (.int .i64 c) ∧ w22.cell? ⟨w.heap.size, 1, none⟩ = some (.int .i64 (n : Int)) ∧ w22.cell? ⟨iY, 0, none⟩ = some (.int .i64 c') ∧ w22.cell? ⟨iY, 1, none⟩ = some (.int .i64 (n' : Int)) := ⟨(DAt.below X0.out T22.out).c0, (DAt.below X0.out T22.out).c1, (DAt.below Y0.out T22.out).c0, (DAt.below Y0.out T22.out).c1⟩; have N22 := Lib.hid hz; have V22 := Lib.hid b22; clear hz; clear b22)
      | (go_at_call 75; (with_reducible refine (near9_any _ _ _ _ N22.out (by omega)).mono ?_); rintro e w23 ⟨v23, hz, rfl, b23⟩; have T23 : Hid (Below W0.heap.size W0 w23) := bt T22.out b23; have HS23 : w23.cell? ⟨w.heap.size, 0, none⟩ = some (.int .i64 c) ∧ w23.cell? ⟨w.heap.size, 1, none⟩ = some (.int .i64 (n : Int)) ∧ w23.cell? ⟨iY, 0, none⟩ = some (.int .i64 c') ∧ w23.cell? ⟨iY, 1, none⟩ = some (.int .i64 (n' : Int)) := ⟨(DAt.below X0.out T23.out).c0, (DAt.below X0.out T23.out).c1, (DAt.below Y0.out T23.out).c0, (DAt.below Y0.out T23.out).c1⟩; have N23 := Lib.hid hz; have V23 := Lib.hid b23; clear hz; clear b23)
      | (go_at_call 74; (with_reducible refine (made9_any _ _ _ _ _ N23.out (by omega) HV.out).mono ?_); rintro e w24 ⟨rfl, b24⟩; have T24 : Hid (Below W0.heap.size W0 w24) := bt T23.out b24; have HS24 : w24.cell? ⟨w.heap.size, 0, none⟩ = some (.int .i64 c) ∧ w24.cell? ⟨w.heap.size, 1, none⟩ = some (.int .i64 (n : Int)) ∧ w24.cell? ⟨iY, 0, none⟩ = some (.int .i64 c') ∧ w24.cell? ⟨iY, 1, none⟩ = some (.int .i64 (n' : Int)) := ⟨(DAt.below X0.out T24.out).c0, (DAt.below X0.out T24.out).c1, (DAt.below Y0.out T24.out).c0, (DAt.below Y0.out T24.out).c1⟩; have B9 := Lib.hid (bt B0.out T24.out); have R9 := Lib.hid (DAt.below R0.out T24.out); have r0 := R9.out.c0; have rf0 := R9.out.f0; have r1 := R9.out.c1; have rf1 := R9.out.f1; clear b24))
  all_goals
    go_wp2_with fail
    refine bodyPost_ret (v := _) (by simp [results, Try.results44, go_sem, noneV, r0, r1]) rfl ⟨rfl, ((B9.out.setCell (by simp; omega) _).setCell (by simp; omega) _)⟩
end Go.Proofs.Ytlbmmnjecemkeaa
