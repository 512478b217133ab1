/-
  The document's decimals (corrodyref02), walked: Is, Round, Put, May, Cmp, Add, Sub; The document's prorate: total, Units; A new variable of type N with a number (for regions that draw).
-/
import Derived.Test.YtngelemjpgglpaaM36
import Derived.Test.YtngelemjpgglpaaM30
/-
  The document's decimals (corrodyref02), walked: Is, Round, Put, May, Cmp, Add, Sub.
-/
namespace Go.Proofs.Ytngelemjpgglpaa
open Go.RowKit
set_option linter.unusedSimpArgs false
attribute [local go_sem ↓] Go.wp_at_zero Go.wp_at_succ

set_option maxRecDepth 100000 in
theorem rIs_any (c s : Int) (w : World) : Calls Try.prog 33 #[.agg #[.int .i64 c, .int .i64 s]] w fun e w' => e = .returned (.bool (isB s)) ∧ Below w.heap.size w w' := by
  by_cases h0 : 0 ≤ s
  · have d1 : decide (0 ≤ s) = true := by simpa using h0
    by_cases h9 : s ≤ 9
    · have d2 : decide (s ≤ 9) = true := by simpa using h9
      have e : isB s = true := by unfold isB; simp; omega
      rw [e]
      go_enter Try.func33, Try.ntmps33
      go_wp2_with fail
      go_ret
      exact ⟨rfl, ba _ _⟩
    · have d2 : decide (s ≤ 9) = false := by simpa using h9
      have e : isB s = false := by unfold isB; simp; omega
      rw [e]
      go_enter Try.func33, Try.ntmps33
      go_wp2_with fail
      go_ret
      exact ⟨rfl, ba _ _⟩
  · have d1 : decide (0 ≤ s) = false := by simpa using h0
    have e : isB s = false := by unfold isB; simp; omega
    rw [e]
    go_enter Try.func33, Try.ntmps33
    go_wp2_with fail
    go_ret
    exact ⟨rfl, ba _ _⟩
theorem near_val (u : Int) (t : Nat) (ht : t ≤ 9) : evenZ (u * ((10 ^ 9 : Nat) : Int)) (10 ^ (18 - t)) = evenZ u (10 ^ (9 - t)) := by
  rw [pow_split (9 - t) 9 (18 - t) (by omega), evenZ_scale _ _ _ (ten_pos _)]
theorem near9_any (k : Nat) (v : Value) (u : Int) (w : World) (hv : Num k w v u) (hk : k ≤ 8000) : Calls Try.prog 72 #[v, .int .i64 9] w (NumPost (k + 9) (evenZ u (10 ^ (18 - 9))) w) := near_any k v u 9 w hv hk (by omega)
theorem made9_any (K : Nat) (v : Value) (u : Int) (V : Value) (w : World) (hn : Num K w v u) (hK : K ≤ 7000) (hV : decV u 9 = V) : Calls Try.prog 35 #[v, .int .i64 9] w fun e w' => e = .returned V ∧ Below w.heap.size w w' := madeR_any K v u 9 V w hn hK (by omega) hV
theorem near_val9 (u : Int) : evenZ (u * ((10 ^ 9 : Nat) : Int)) (10 ^ (18 - 9)) = u := evenZ_exact u (10 ^ 9) (ten_pos 9)

set_option maxRecDepth 100000 in
set_option maxHeartbeats 1000000 in
theorem rRound_any (c : Int) (n t : Nat) (V : Value) (w : World) (hc : fits c) (hn : n ≤ 9) (ht : t ≤ 9) (hV : decV (evenZ (un c n) (10 ^ (9 - t))) t = V) :
    Calls Try.prog 63 #[.agg #[.int .i64 c, .int .i64 (n : Int)], .int .i64 (t : Int)] w fun e w' => e = .returned V ∧ Below w.heap.size w w' := by
  rw [← near_val _ _ ht] at hV
  obtain ⟨vc, vs, ve, hvv⟩ := decV_form (evenZ (un c n * ((10 ^ 9 : Nat) : Int)) (10 ^ (18 - t))) t; rw [hV] at hvv; subst hvv
  go_enter Try.func63, Try.ntmps63
  go_upto_region 1 with fail
  obtain ⟨hX, hR, hB⟩ := two_dec w c (n : Int) 0 0
  have X0 := Lib.hid hX; have R0 := Lib.hid hR; have B0 := Lib.hid hB; clear hX hR hB
  generalize World.alloc (World.alloc w _) _ = W0 at X0 R0 B0 ⊢
  have x0 := X0.out.c0; have x1 := X0.out.c1
  go_wp2_with fail
  refine (units_any c n _ hc hn).mono ?_
  rintro e w1 ⟨v1, hz, rfl, b1⟩
  have N1 := Lib.hid hz; have T1 := Lib.hid b1; clear hz b1
  go_wp2_with fail
  refine (near_any 36 v1 _ t _ N1.out (by omega) ht).mono ?_
  rintro e w2 ⟨v2, hz, rfl, b2⟩
  have N2 := Lib.hid hz; have T2 := Lib.hid (bt T1.out b2); clear hz b2
  go_wp2_with fail
  refine (madeR_any 45 v2 _ t _ _ N2.out (by omega) (by omega) hV).mono ?_
  rintro e w3 ⟨rfl, b3⟩
  have T3 := bt T2.out b3
  have R3 := Lib.hid (DAt.below R0.out T3); have B3 := Lib.hid (bt B0.out T3); clear b3 T3 x0 x1
  have r0 := R3.out.c0; have r1 := R3.out.c1; have r2 := R3.out.f0; have r3 := R3.out.f1
  go_wp2_with fail
  refine bodyPost_ret (v := .tuple #[.agg #[.int .i64 vc, .int .i64 vs], .int .i64 ve]) (by simp [results, Try.results63, go_sem, r0, r1]) rfl ⟨rfl, (B3.out.setCell (by simp) _).setCell (by simp) _⟩

set_option maxRecDepth 100000 in
theorem rPut_any (c : Int) (n : Nat) (V : Value) (w : World) (hc : fits c) (hn : n ≤ 9) (hV : decV c n = V) :
    Calls Try.prog 39 #[.agg #[.int .i64 c, .int .i64 (n : Int)]] w fun e w' => e = .returned V ∧ Below w.heap.size w w' := by
  obtain ⟨vc, vs, ve, hvv⟩ := decV_form c n; rw [hV] at hvv; subst hvv
  have hV' : decV (evenZ (un c n) (10 ^ (9 - 9))) 9 = .tuple #[.agg #[.int .i64 vc, .int .i64 vs], .int .i64 ve] := by
    rw [show 10 ^ (9 - 9) = 1 from rfl, evenZ_one, decV_un c n hn, hV]
  go_enter Try.func39, Try.ntmps39
  go_upto_region 1 with fail
  obtain ⟨hX, hR, hB⟩ := two_dec w c (n : Int) 0 0
  have X0 := Lib.hid hX; have R0 := Lib.hid hR; have B0 := Lib.hid hB; clear hX hR hB
  generalize World.alloc (World.alloc w _) _ = W0 at X0 R0 B0 ⊢
  have x0 := X0.out.c0; have x1 := X0.out.c1
  go_wp2_with fail
  refine (rRound_any c n 9 _ _ hc hn (by omega) hV').mono ?_
  rintro e w3 ⟨rfl, b3⟩
  have R3 := Lib.hid (DAt.below R0.out b3); have B3 := Lib.hid (bt B0.out b3); clear b3 x0 x1
  have r0 := R3.out.c0; have r1 := R3.out.c1; have r2 := R3.out.f0; have r3 := R3.out.f1
  go_wp2_with fail
  refine bodyPost_ret (v := .tuple #[.agg #[.int .i64 vc, .int .i64 vs], .int .i64 ve]) (by simp [results, Try.results39, go_sem, r0, r1]) rfl ⟨rfl, (B3.out.setCell (by simp) _).setCell (by simp) _⟩

/-- a number is canonical just where Put lets it be -/
theorem may_cases (c : Int) (n : Nat) (hc : fits c) (hn : n ≤ 9) :
    (mayB c (n : Int) = true ∧ decV c n = .tuple #[.agg #[.int .i64 c, .int .i64 (n : Int)], .int .i64 0]) ∨
    (mayB c (n : Int) = false ∧ ∃ p q : Int, decV c n = .tuple #[.agg #[.int .i64 p, .int .i64 q], .int .i64 0] ∧ (n : Int) ≠ q) ∨
    (mayB c (n : Int) = false ∧ decV c n = .tuple #[.agg #[.int .i64 0, .int .i64 0], .int .i64 11]) := by
  have hi : isB (n : Int) = true := by unfold isB; simp; omega
  by_cases h : n = 0 ∨ c % 10 ≠ 0
  · left
    refine ⟨?_, ?_⟩
    · unfold mayB; rw [hi]
      rcases h with h | h
      · subst h; simp
      · simp [h]
    · unfold decV; rw [trim_self c n h, if_pos hc]
  · right
    have hm : mayB c (n : Int) = false := by
      unfold mayB; rw [hi]
      have h1 : n ≠ 0 := fun k => h (.inl k)
      have h2 : c % 10 = 0 := by rcases Decidable.em (c % 10 = 0) with k | k; exact k; exact absurd (.inr k) h
      simp [h1, h2]
    cases n with
    | zero => exact absurd (.inl rfl) h
    | succ n =>
      have h2 : c % 10 = 0 := by rcases Decidable.em (c % 10 = 0) with k | k; exact k; exact absurd (.inr k) h
      unfold decV
      rw [trim_succ, if_pos h2]
      have hl := trim_le (c / 10) n
      by_cases hf : fits (trim (c / 10) n).1
      · left; refine ⟨hm, _, _, by rw [if_pos hf], by omega⟩
      · right; exact ⟨hm, by rw [if_neg hf]⟩
set_option maxRecDepth 100000 in
set_option maxHeartbeats 1000000 in
theorem rMay_any (c s : Int) (w : World) (hc : fits c) : Calls Try.prog 12 #[.agg #[.int .i64 c, .int .i64 s]] w fun e w' => e = .returned (.bool (mayB c s)) ∧ Below w.heap.size w w' := by
  cases hs : isB s with
  | false =>
    have hm : mayB c s = false := by unfold mayB; rw [hs]; rfl
    rw [hm]
    go_enter Try.func12, Try.ntmps12
    go_wp2_with fail
    refine (rIs_any c s _).mono ?_
    rintro e w1 ⟨rfl, b1⟩
    rw [hs]
    have B1 := Lib.hid (bt (ba _ _) b1); clear b1
    go_wp2_with fail
    go_ret
    exact ⟨rfl, B1.out⟩
  | true =>
    obtain ⟨n, rfl, hn⟩ := isB_nat hs
    have main : ∀ (p q e : Int) (b : Bool), decV c n = .tuple #[.agg #[.int .i64 p, .int .i64 q], .int .i64 e] → mayB c (n : Int) = b → ((e = 0 ∧ b = true ∧ p = c ∧ q = (n : Int)) ∨ (e = 0 ∧ b = false ∧ (n : Int) ≠ q) ∨ (e = 11 ∧ b = false)) →
        Calls Try.prog 12 #[.agg #[.int .i64 c, .int .i64 (n : Int)]] w fun e w' => e = .returned (.bool (mayB c (n : Int))) ∧ Below w.heap.size w w' := by
      intro p q e b hV hm hcase
      rw [hm]
      have HV := Lib.hid hV
      clear hV hm
      go_enter Try.func12, Try.ntmps12
      go_upto_region 1 with fail
      have X0 := Lib.hid (dAt_new w c (n : Int)); have B0 := Lib.hid (ba w (.cells #[.int .i64 c, .int .i64 (n : Int)] 23))
      generalize World.alloc w _ = W0 at X0 B0 ⊢
      have x0 := X0.out.c0; have x1 := X0.out.c1
      go_wp2_with fail
      refine (rIs_any c (n : Int) _).mono ?_
      rintro e w1 ⟨rfl, b1⟩
      rw [hs]
      have X1 := Lib.hid (DAt.below X0.out b1); have B1 := Lib.hid (bt B0.out b1); clear b1 x0 x1
      have x0 := X1.out.c0; have x1 := X1.out.c1
      go_wp2_with fail
      refine (rPut_any c n _ _ hc hn HV.out).mono ?_
      rintro e w2 ⟨rfl, b1⟩
      go_upto_region 4 with fail
      generalize hW : World.alloc w2 _ = W3
      have P3 : Hid (DAt W3 w2.heap.size p q) := by rw [← hW]; exact dAt_new _ _ _
      have b3 := bt b1 (ba w2 (.cells #[.int .i64 p, .int .i64 q] 23))
      rw [hW] at b3
      have X3 := Lib.hid (DAt.below X1.out b3); have B3 := Lib.hid (bt B1.out b3); clear b1 b3 hW x0 x1
      have x0 := X3.out.c0; have x1 := X3.out.c1; have p0 := P3.out.c0; have p1 := P3.out.c1
      rcases hcase with ⟨rfl, rfl, rfl, rfl⟩ | ⟨rfl, rfl, hne⟩ | ⟨rfl, rfl⟩
      · go_wp2_with fail
        go_ret
        exact ⟨rfl, B3.out⟩
      · have k1 : ((n : Int) == q) = false := by simpa using hne
        go_wp2_with fail
        go_ret
        exact ⟨by simp [hne], B3.out⟩
      · go_wp2_with fail
        go_ret
        exact ⟨rfl, B3.out⟩
    rcases may_cases c n hc hn with ⟨h1, h2⟩ | ⟨h1, p, q, h2, h3⟩ | ⟨h1, h2⟩
    · exact main _ _ _ _ h2 h1 (.inl ⟨rfl, rfl, rfl, rfl⟩)
    · exact main _ _ _ _ h2 h1 (.inr (.inl ⟨rfl, rfl, h3⟩))
    · exact main _ _ _ _ h2 h1 (.inr (.inr ⟨rfl, rfl⟩))

end Go.Proofs.Ytngelemjpgglpaa
/-
  The document's prorate: total, Units.
-/
namespace Go.Proofs.Ytngelemjpgglpaa.Pro
open Go Go.RowKit
set_option linter.unusedSimpArgs false
set_option linter.unusedVariables false
attribute [local go_sem ↓] Go.wp_at_zero Go.wp_at_succ

set_option maxRecDepth 100000 in
theorem total_is {w : World} {v : Value} {ws : List Int} (ha : ArgI w v ws) (hs : small ws) (hl : ws.length ≤ 1000000) (n : Nat) (hn : n ≤ ws.length) :
    Calls Try.prog 34 #[v, .int .i64 (n : Int)] w fun e w' => e = .returned (.int .i64 (pre ws n)) ∧ w' = w := by
  obtain ⟨ao, cap, rfl, hcap, hcell⟩ := id ha
  have HA := Lib.hid ha; have HS := Lib.hid hs; have HL := Lib.hid hl; have HN := Lib.hid hn
  clear ha hs hl hcell hn
  go_enter Try.func34, Try.ntmps34
  go_wp2_with fail
  go_loop [5, 6] (fun u i => ∃ (k : Nat), u = .int .i64 (pre ws k) ∧ i = .int .i64 (k : Int) ∧ k ≤ n) (fun _ i => n - (intOf i).toNat)
  case atStart => exact ⟨0, by rw [pre_zero], rfl, by omega⟩
  case round =>
    obtain ⟨k, rfl, rfl, hk⟩ := hrel
    by_cases hkl : k < n
    · obtain ⟨x, hx⟩ : ∃ x, ws[k]? = some x := ⟨_, List.getElem?_eq_getElem (Nat.lt_of_lt_of_le hkl HN.out)⟩
      obtain ⟨_, _, e, _, hcell⟩ := HA.out
      cases e
      obtain ⟨bl, ol, rfl, hbl, c0⟩ := hcell k x hx
      have i0 : (0 : Int) ≤ (k : Int) := by omega
      have i1 : (k : Int) < ((ws.length : Nat) : Int) := by have := HN.out; omega
      have i2 : (k : Int) < (n : Int) := by omega
      have HK := Lib.hid hkl
      have kw : IntKind.i64.wrap ((k : Int) + 1) = (k : Int) + 1 := by rw [IntWalk.i64_left]; exact IntWalk.wrap64_in _ (by have := HL.out; omega)
      have pw : IntKind.i64.wrap (pre ws k + x) = pre ws (k + 1) := by rw [pre_succ hx, IntWalk.i64_left]; exact IntWalk.wrap64_in _ (by have := HS.out (k + 1); rw [pre_succ hx] at this; omega)
      obtain ⟨py, hpy⟩ : ∃ i, Hid (pre ws (k + 1) = i) := ⟨_, rfl⟩
      rw [hpy.out] at pw
      clear hx hcell hk
      go_wp2_with fail
      go_round
      case rel => exact ⟨k + 1, by rw [hpy.out], rfl, by have := HK.out; omega⟩
      case measure => show _ - ((k : Int) + 1).toNat < _ - ((k : Int)).toNat; have := HK.out; omega
    · have hke : k = n := by omega
      subst hke
      clear hkl hk
      go_wp2_with fail
      go_ret
      exact ⟨rfl, rfl⟩
theorem small_of29 {ws : List Int} (h : ∀ x ∈ ws, okW x) (hl : ws.length ≤ 1000) : small ws := by
  intro k
  have h1 := (pre_bound h k).1
  have h3 := (pre_bound h ws.length).2
  by_cases hk : k ≤ ws.length
  · have := pre_mono h hk; omega
  · have e : pre ws k = pre ws ws.length := by rw [pre_all _ (by omega), pre_all _ (Nat.le_refl _)]
    omega
theorem num_up {k k' : Nat} {w : World} {v : Value} {z : Int} (h : Num k w v z) (hk : k ≤ k') : Num k' w v z := by
  obtain ⟨s, ds, e, hr, hc, hv, hd⟩ := h; exact ⟨s, ds, e, hr, hc, hv, by omega⟩
theorem num_zero {k : Nat} {w : World} {b : Bool} {a : Option Addr} {n cap : Nat} {z : Int} (h : Num k w (.agg #[.bool b, .slice a n cap]) z) : ((n : Int) == 0) = decide (z = 0) := by
  obtain ⟨ds, _, hc, hv, _, hn, _⟩ := num_row h
  have h0 := Nm.canon_zero ds hc
  rw [hv] at h0
  by_cases hz : z = 0
  · have : ds = [] := h0.1 (by omega)
    subst this
    have : n = 0 := by simpa using hn.symm
    subst this; simp [hz]
  · have h1 : ds ≠ [] := fun e => hz (by have := h0.2 e; omega)
    have h2 := List.length_pos_iff.2 h1
    have : n ≠ 0 := by omega
    simp [hz]; omega
/-- an amount's units of a place, and whether it has no more places -/
def UnitsPost (c : Int) (n s : Nat) (w : World) (e : Ending) (w' : World) : Prop := ∃ v, Num 44 w' v (unitsA c n s) ∧ e = .returned (.tuple #[v, .bool (decide ((trim c n).2 ≤ s))]) ∧ Below w.heap.size w w'
theorem units_big (c : Int) (n : Nat) (hn : n ≤ 9) : un c n * ((10 ^ 9 : Nat) : Int) = c * 10 ^ (18 - n) := by
  unfold un
  rw [Int.natCast_pow, Int.mul_assoc]
  show c * ((10 : Int) ^ (9 - n) * 10 ^ 9) = _
  rw [← Int.pow_add, show 9 - n + 9 = 18 - n by omega]
set_option maxRecDepth 100000 in
set_option maxHeartbeats 1000000 in
theorem unitsR_any (c : Int) (n s : Nat) (w : World) (hc : fits c) (hn : n ≤ 9) (hs : s ≤ 9) :
    Calls Try.prog 10 #[.agg #[.int .i64 c, .int .i64 (n : Int)], .int .i64 (s : Int)] w (UnitsPost c n s w) := by
  obtain ⟨j, hj⟩ : ∃ j, Hid (18 - s = j) := ⟨_, rfl⟩
  have hw : IntKind.i64.wrap (18 - (s : Int)) = (j : Int) := by have := hj.out; rw [IntKind.wrap_i64]; omega
  have HJ : Hid (j ≤ 27) := by have := hj.out; show _ ≤ _; omega
  have HQ : Hid (un c n * ((10 ^ 9 : Nat) : Int) / ((10 ^ j : Nat) : Int) = unitsA c n s) := by
    show _ = _; rw [units_big c n hn, ← hj.out, Int.natCast_pow]; rfl
  have HR : Hid (decide (un c n * ((10 ^ 9 : Nat) : Int) % ((10 ^ j : Nat) : Int) = 0) = decide ((trim c n).2 ≤ s)) := by
    show _ = _; rw [units_big c n hn, ← hj.out, Int.natCast_pow]
    exact decide_eq_decide.2 (units_trim c n s (by omega) (by omega))
  have HC := Lib.hid hc; have HN := Lib.hid hn
  clear hc hn hs
  go_enter Try.func10, Try.ntmps10
  go_upto_region 1 with fail
  obtain ⟨W0, hW, hX, hR, hBB⟩ := dec_num w c (n : Int)
  rw [← hW]
  have X0 := Lib.hid hX; have R0 := Lib.hid hR; have B0 := Lib.hid hBB; clear hX hR hBB hW
  have x0 := X0.out.c0; have x1 := X0.out.c1
  go_upto_region 2 with (first
    | (go_at_call 37; (with_reducible refine (units_any c n _ HC.out HN.out).mono ?_); rintro e w1 ⟨v1, hz, rfl, b1⟩; have N1 := Lib.hid hz; have B1 := Lib.hid b1; clear hz b1 x0 x1)
    | (go_at_call 38; (with_reducible refine (ten_f j _ HJ.out).mono ?_); rintro e w2 ⟨v2, hz, rfl, b2⟩; have N2 := Lib.hid hz; have N12 := Lib.hid (num_below N1.out b2); have B2 := Lib.hid (bt B1.out b2); clear hz b2)
    | (go_at_call 17; (with_reducible refine (down_any 36 28 _ _ _ (10 ^ j) _ N12.out N2.out (ten_pos j) (by omega) (by omega)).mono ?_); rintro e w3 ⟨vq, vr, hq, hr, rfl, b3⟩; obtain ⟨qb, qa, qn, qc, rfl⟩ := num_agg hq; obtain ⟨rb, ra, rn, rc, rfl⟩ := num_agg hr; have Q3 := Lib.hid hq; have R3 := Lib.hid hr; have B3 := Lib.hid (bt B2.out b3); clear hq hr b3))
  have RZ := num_zero R3.out
  rw [HR.out] at RZ
  have b5 := bt (ba w3 (.cells #[.bool qb, .slice qa qn qc] 33)) (ba _ (.cells #[.bool rb, .slice ra rn rc] 33))
  have Q5 := Lib.hid (num_below Q3.out b5)
  have P5 := Lib.hid (boxAt_below (boxAt_new w3 (.bool qb) (.slice qa qn qc)) (ba _ (.cells #[.bool rb, .slice ra rn rc] 33)))
  have S5 := boxAt_new (w3.alloc (.cells #[.bool qb, .slice qa qn qc] 33)) (.bool rb) (.slice ra rn rc)
  rw [World.size_alloc] at S5
  have R5 := Lib.hid (boxAt_below R0.out (bt B3.out b5))
  have B5 := Lib.hid (bt B0.out (bt B3.out b5))
  have l5 : Hid (w.heap.size + 1 < w3.heap.size) := by show _ < _; have := (Array.getElem?_eq_some_iff.1 R0.out).1; have := B3.out.size; omega
  obtain ⟨iq, hiq⟩ : ∃ k, Hid (w3.heap.size = k) := ⟨_, rfl⟩
  obtain ⟨ir, hir⟩ : ∃ k, Hid (w.heap.size = k) := ⟨_, rfl⟩
  replace S5 := Lib.hid S5
  obtain ⟨W5, hW5⟩ : ∃ v, Hid (v = (w3.alloc (.cells #[.bool qb, .slice qa qn qc] 33)).alloc (.cells #[.bool rb, .slice ra rn rc] 33)) := ⟨_, rfl⟩
  rw [← hW5.out] at Q5 P5 S5 R5 B5 ⊢
  rw [hiq.out] at P5 S5 l5 ⊢
  rw [hir.out] at R5 B5 l5 ⊢
  clear hiq hW5 b5 N1 N2 N12 Q3 R3 B3 B1 B2 X0 R0 B0
  have mkS : ∀ w' : World, w'.heap[iq]? = W5.heap[iq]? → w'.heap[iq + 1]? = W5.heap[iq + 1]? → (w'.cell? ⟨iq, 0, none⟩ = some (.bool qb) ∧ w'.cell? ⟨iq, 1, none⟩ = some (.slice qa qn qc) ∧ w'.cell? ⟨iq + 1, 1, none⟩ = some (.slice ra rn rc)) := fun w' h1 h2 => by
    have p : BoxAt w' iq (.bool qb) (.slice qa qn qc) := h1.trans P5.out
    have q : BoxAt w' (iq + 1) (.bool rb) (.slice ra rn rc) := h2.trans S5.out
    exact ⟨p.c0, p.c1, q.c1⟩
  have HS0 := mkS W5.drew rfl rfl
  have z0 := R5.out.c0; have z1 := R5.out.c1; have z2 := R5.out.f0; have z3 := R5.out.f1
  go_region_held3 (fun w' => w'.cell? ⟨iq, 0, none⟩ = some (.bool qb) ∧ w'.cell? ⟨iq, 1, none⟩ = some (.slice qa qn qc) ∧ w'.cell? ⟨iq + 1, 1, none⟩ = some (.slice ra rn rc))
    (first | with_reducible exact HS0 | with_reducible assumption | (refine mkS _ ?_ ?_ <;> exact (Below.heap_setCell _ _ _ _ (by show _ ≠ ir + 1; have := l5.out; omega)).trans (Below.heap_setCell _ _ _ _ (by show _ ≠ ir + 1; have := l5.out; omega))))
    (fail)
  all_goals
    have R6 := boxAt_set2 (.bool qb) (.slice qa qn qc) R5.out
    have r0 := R6.c0; have r1 := R6.c1
    have Q6 := num_set2 (.bool qb) (.slice qa qn qc) Q5.out R5.out
    clear z0 z1 z2 z3 RZ
    go_wp2_with fail
    refine bodyPost_ret (v := .tuple #[.agg #[.bool qb, .slice qa qn qc], .bool (decide ((trim c n).2 ≤ s))]) (by simp [results, Try.results10, go_sem, r0, r1]) rfl ⟨.agg #[.bool qb, .slice qa qn qc], ?_, rfl, ?_⟩
    · rw [← HQ.out]; exact Q6
    · rw [hir.out]; exact (((B5.out.setCell (Nat.le_succ _) _).setCell (Nat.le_succ _) _)).drew
end Go.Proofs.Ytngelemjpgglpaa.Pro
/-
  A new variable of type N with a number (for regions that draw).
-/
namespace Go.Proofs.Ytngelemjpgglpaa.Pro
open Go Go.RowKit
def BoxN (W : World) (K : Nat) (z : Int) (s : Value) (wx : World) : Prop :=
  ∃ (i : Nat) (b : Bool) (a : Option Addr) (n c : Nat), s = .pointer (some ⟨i, 0, none⟩) ∧ BoxAt wx i (.bool b) (.slice a n c) ∧ Num K wx (.agg #[.bool b, .slice a n c]) z ∧ Below W.heap.size W wx
end Go.Proofs.Ytngelemjpgglpaa.Pro
