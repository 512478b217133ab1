/-
  prorate.Shares of a number.
-/
import Derived.Test.YtngelemjpgglpaaM32
/-
  prorate.Shares of a number.
-/
namespace Go.Proofs.Ytngelemjpgglpaa.Pro
open Go Go.RowKit Itr
set_option linter.unusedSimpArgs false
set_option linter.unusedVariables false
attribute [local go_sem ↓] Go.wp_at_zero Go.wp_at_succ
attribute [local go_sem] Oper.semAt_some

set_option maxRecDepth 100000 in
set_option maxHeartbeats 4000000 in
theorem shares_nat {w : World} {v : Value} {ws : List Int} (c s : Int) (n : Nat) (hc : fits c) (ha : ArgI w v ws) (hl : ws.length ≤ 1000000) (hn : n ≤ 9) :
    Calls Try.prog 7 #[.agg #[.int .i64 c, .int .i64 (n : Int)], .int .i64 s, v] w (SharesPost c (n : Int) s ws w) := by
  obtain ⟨ao, cap, rfl, hcap, hcell⟩ := id ha
  have X := box0_new w c n s
  have PA := dPut_any c n _ ((((w.alloc (.cells #[.int .i64 c, .int .i64 n] 23)).alloc (.cells #[.int .i64 s] 3)).alloc (.cells #[.slice none 0 0] 26)).alloc (.cells #[.int .i64 0] 27)) hc (put_ok c n hc hn)
  have HC1 := Lib.hid (trim_fits c n hc)
  have HN := Lib.hid hn
  have HS1 := Lib.hid (trim_le c n)
  have HA := Lib.hid ha
  have HL := Lib.hid hl
  obtain ⟨P, hP⟩ : ∃ P, Hid (SharesPost c (n : Int) s ws w = P) := ⟨_, rfl⟩
  rw [hP.out]
  obtain ⟨c1, hc1⟩ : ∃ z, Hid ((trim c n).1 = z) := ⟨_, rfl⟩
  obtain ⟨s1, hs1⟩ : ∃ z, Hid ((trim c n).2 = z) := ⟨_, rfl⟩
  rw [hc1.out] at PA HC1
  rw [hs1.out] at PA HS1
  clear hcell ha hl hc hn
  refine calls_marks Try.func7 rfl ?_
  simp only [Try.ntmps7, List.size_toArray, List.length_cons, List.length_nil, Nat.reduceAdd, Nat.reduceSub, Array.replicate_succ, Array.replicate_zero, List.push_toArray, List.append_toArray, List.nil_append, List.cons_append]
  go_upto_region 1 with fail
  generalize World.alloc (World.alloc (World.alloc (World.alloc w _) _) _) _ = W0 at X PA ⊢
  obtain ⟨i, hi⟩ : ∃ i, Hid (w.heap.size = i) := ⟨_, rfl⟩
  rw [hi.out] at X ⊢
  obtain ⟨q0, q1, q2, q3, q4, f0, f1, f2, f3⟩ := X.facts
  have HX := Lib.hid X
  clear X
  go_upto_region 2 with (go_at_call 21; (with_reducible refine PA.mono ?_); rintro e w2 ⟨rfl, b2⟩; have X2 := Lib.hid (HX.out.below b2); obtain ⟨q0, q1, q2, q3, q4, f0, f1, f2, f3⟩ := X2.out.facts; clear b2 PA)
  clear q0 q1 q2 q3 q4 f0 f1 f2 f3
  have X3 := Lib.hid (X2.out.setA c1 s1)
  generalize World.setCell (World.setCell w2 _ _) _ _ = W3 at X3 ⊢
  clear X2 HX
  obtain ⟨q0, q1, q2, q3, q4, f0, f1, f2, f3⟩ := X3.out.facts
  have A3 := Lib.hid (ArgI.below HA.out (by have := X3.out.bel; rw [← hi.out] at this; exact this))
  let HBP : Exit → Act → World → Prop := bodyPost Try.prog Try.f7 (fun _ _ => True)
  go_cut [46] (fun u wx => u = .bool (decide (refused s s1 ws)) ∧ wx = W3)
  case first =>
    have CI := contains_is A3.out HL.out
    unfold wrongV at CI
    by_cases h1 : s < (s1 : Int)
    · have d1 : decide (s < (s1 : Int)) = true := by simpa using h1
      have R : refused s s1 ws := .inl h1
      have r : Hid (decide (refused s s1 ws) = true) := by show _ = _; simp [R]
      clear R
      go_wp2_with fail
      go_meet
      case rel => exact ⟨by rw [r.out], rfl⟩
    · have d1 : decide (s < (s1 : Int)) = false := by simpa using h1
      by_cases h2 : 9 < s
      · have d2 : decide (9 < s) = true := by simpa using h2
        have R : refused s s1 ws := .inr (.inl h2)
        have r : Hid (decide (refused s s1 ws) = true) := by show _ = _; simp [R]
        clear R
        go_wp2_with fail
        go_meet
        case rel => exact ⟨by rw [r.out], rfl⟩
      · have d2 : decide (9 < s) = false := by simpa using h2
        by_cases h3 : 1000 < ws.length
        · have d3 : decide (1000 < ws.length) = true := by simpa using h3
          have d4 : decide ((1000 : Int) < (ws.length : Int)) = true := by simp; omega
          have R : refused s s1 ws := .inr (.inr (.inl h3))
          have r : Hid (decide (refused s s1 ws) = true) := by show _ = _; simp [R]
          clear R
          go_wp2_with fail
          go_meet
          case rel => exact ⟨by rw [r.out], rfl⟩
        · have d3 : decide (1000 < ws.length) = false := by simpa using h3
          have d4 : decide ((1000 : Int) < (ws.length : Int)) = false := by simp; omega
          have r : Hid (decide (refused s s1 ws) = decide (badW ws)) := by
            show _ = _
            by_cases hb : badW ws
            · have R : refused s s1 ws := .inr (.inr (.inr hb))
              simp [R, hb]
            · have R : ¬ refused s s1 ws := by
                rintro (q | q | q | q)
                · exact h1 q
                · exact h2 q
                · exact h3 q
                · exact hb q
              simp [R, hb]
          go_wp2_with (go_at_call 22; go_loud (refine CI.mono ?_); rintro e w20 ⟨rfl, hq⟩; obtain rfl := hq.symm; clear CI)
          go_meet
          case rel => exact ⟨by rw [r.out], rfl⟩
  case rest =>
    rename_i K hK
    obtain ⟨rfl, rfl⟩ := hcut
    obtain ⟨q0, q1, q2, q3, q4, f0, f1, f2, f3⟩ := X3.out.facts
    by_cases hR : refused s s1 ws
    · have r : decide (refused s s1 ws) = true := by simpa using hR
      rw [r]
      have SA : Hid (sharesA c (n : Int) s ws = ([], 2)) := by
        show _ = _
        unfold sharesA
        rw [← hs1.out] at hR
        rw [if_pos ((refused_iff c s n ws HN.out).1 hR)]
      clear hR r
      go_wp2_with fail
      have X4 := Lib.hid (X3.out.setR (.slice none 0 0) (.int .i64 2))
      generalize World.setCell (World.setCell wc _ _) _ _ = W4 at X4 ⊢
      obtain ⟨q0, q1, q2, q3, q4, f0, f1, f2, f3⟩ := X4.out.facts
      show LeavesInM _ _ _ _ _ _ _ _ _
      refine ⟨.tuple #[.slice none 0 0, .int .i64 2], by simp [results, Try.results7, go_sem, q3, q4], ?_⟩
      rw [← hP.out]
      refine ⟨.slice none 0 0, by rw [SA.out], by rw [SA.out]; exact World.ownsRow_nil _ _ _ _, ?_⟩
      rw [hi.out]; exact X4.out.bel
    · have r : decide (refused s s1 ws) = false := by simpa using hR
      rw [r]
      have h1 : ¬ s < (s1 : Int) := fun h => hR (.inl h)
      have h2 : ¬ 9 < s := fun h => hR (.inr (.inl h))
      have h3 : ¬ 1000 < ws.length := fun h => hR (.inr (.inr (.inl h)))
      have h4 : ∀ x ∈ ws, okW x := fun x hx => Decidable.byContradiction fun hn => hR (.inr (.inr (.inr ⟨x, hx, hn⟩)))
      have HR := Lib.hid hR
      have SM := small_of h4 (by omega)
      have HO := Lib.hid h4
      have H3 := Lib.hid h3
      obtain ⟨S, rfl⟩ : ∃ S : Nat, s = (S : Int) := ⟨s.toNat, by omega⟩
      have HS : Hid (s1 ≤ S ∧ S ≤ 9) := ⟨by omega, by omega⟩
      have SU := sum_is (A3.out) SM HL.out
      clear hR r h1 h2 h3 h4
      obtain ⟨al, hal⟩ : ∃ z, Hid (ws.sum = z) := ⟨_, rfl⟩
      rw [hal.out] at SU
      go_upto_region 5 with (go_at_call 24; go_loud (refine SU.mono ?_); rintro e w5 ⟨rfl, b5⟩; have X5 := Lib.hid (X3.out.below b5); have A5 := Lib.hid (A3.out.below b5); clear b5 SU)
      clear q0 q1 q2 q3 q4 f0 f1 f2 f3
      have bA := Boxed.new w5 3 (.int .i64 al)
      have X6 := X5.out.below (ba w5 (.cells #[.int .i64 al] 3))
      have A6 := A5.out.below (ba w5 (.cells #[.int .i64 al] 3))
      obtain ⟨w6, hw6⟩ : ∃ v, Hid (v = w5.alloc (.cells #[.int .i64 al] 3)) := ⟨_, rfl⟩
      obtain ⟨i9, hi9⟩ : ∃ i, Hid (w5.heap.size = i) := ⟨_, rfl⟩
      rw [← hw6.out] at bA X6 A6 ⊢
      rw [hi9.out] at bA ⊢
      have i9l : i + 3 < i9 := by have := (Array.getElem?_eq_some_iff.1 X5.out.e).1; have := hi9.out; omega
      have ca := bA.cell
      replace A6 := Lib.hid A6
      have BA := Lib.hid bA
      replace i9l := Lib.hid i9l
      clear hw6 hi9 A5 X5 X3 A3 bA
      have al0 : 0 ≤ al := by rw [← hal.out, ← pre_all ws (Nat.le_refl _)]; exact (pre_bound HO.out _).1
      have NR : Hid (¬ (¬ (0 ≤ (n : Int) ∧ (n : Int) ≤ 9) ∨ (S : Int) < 0 ∨ 9 < (S : Int) ∨ 1000 < ws.length ∨ ¬ (trim c ((n : Int)).toNat).2 ≤ ((S : Int)).toNat ∨ ¬ (∀ x ∈ ws, okW x))) := fun h => HR.out (by rw [← hs1.out]; exact (refused_iff c S n ws HN.out).2 h)
      by_cases g1 : 3652059 < al
      · have d1 : decide (3652059 < al) = true := by simpa using g1
        have SA : Hid (sharesA c (n : Int) S ws = ([], 11)) := by
          show _ = _
          unfold sharesA
          rw [if_neg NR.out, if_pos (by rw [hal.out]; exact g1)]
        have X7 := Lib.hid X6
        clear X6
        obtain ⟨q0, q1, q2, q3, q4, f0, f1, f2, f3⟩ := X7.out.facts
        go_wp2_with fail
        have X4 := Lib.hid (X7.out.setR (.slice none 0 0) (.int .i64 11))
        generalize World.setCell (World.setCell w6 _ _) _ _ = W4 at X4 ⊢
        obtain ⟨q0, q1, q2, q3, q4, f0, f1, f2, f3⟩ := X4.out.facts
        show LeavesInM _ _ _ _ _ _ _ _ _
        refine ⟨.tuple #[.slice none 0 0, .int .i64 11], by simp [results, Try.results7, go_sem, q3, q4], ?_⟩
        rw [← hP.out]
        refine ⟨.slice none 0 0, by rw [SA.out], by rw [SA.out]; exact World.ownsRow_nil _ _ _ _, ?_⟩
        rw [hi.out]; exact X4.out.bel
      · have d1 : decide (3652059 < al) = false := by simpa using g1
        by_cases g2 : al = 0
        · subst g2
          have SA : Hid (sharesA c (n : Int) S ws = ([], 12)) := by
            show _ = _
            unfold sharesA
            rw [if_neg NR.out, if_neg (by rw [hal.out]; omega), if_pos hal.out]
          have X7 := Lib.hid X6
          clear X6 g1 al0
          obtain ⟨q0, q1, q2, q3, q4, f0, f1, f2, f3⟩ := X7.out.facts
          go_wp2_with fail
          have X4 := Lib.hid (X7.out.setR (.slice none 0 0) (.int .i64 12))
          generalize World.setCell (World.setCell w6 _ _) _ _ = W4 at X4 ⊢
          obtain ⟨q0, q1, q2, q3, q4, f0, f1, f2, f3⟩ := X4.out.facts
          show LeavesInM _ _ _ _ _ _ _ _ _
          refine ⟨.tuple #[.slice none 0 0, .int .i64 12], by simp [results, Try.results7, go_sem, q3, q4], ?_⟩
          rw [← hP.out]
          refine ⟨.slice none 0 0, by rw [SA.out], by rw [SA.out]; exact World.ownsRow_nil _ _ _ _, ?_⟩
          rw [hi.out]; exact X4.out.bel
        · have d2 : (al == 0) = false := by simpa using g2
          have AL : Hid (0 < al ∧ al ≤ 3652059) := ⟨by omega, by omega⟩
          have NZ : Hid (¬ al = 0) := g2
          have X7 := Lib.hid X6
          clear X6 al0
          obtain ⟨q0, q1, q2, q3, q4, f0, f1, f2, f3⟩ := X7.out.facts
          obtain ⟨j, hj⟩ : ∃ j, Hid (S - s1 = j) := ⟨_, rfl⟩
          have hj9 : j ≤ 9 := by have := hj.out; have := HS.out; omega
          have hw : IntKind.i64.wrap ((S : Int) - (s1 : Int)) = (j : Int) := by have := hj.out; have := HS.out; rw [IntKind.wrap_i64]; omega
          have hlt := raised_lt c1 j HC1.out hj9
          obtain ⟨T, hT⟩ : ∃ T : Nat, Hid (10 ^ j = T) := ⟨_, rfl⟩
          have hT64 : Hid (T < 18446744073709551616) := by show _ < _; have := hT.out; have hp : 10 ^ j ≤ 10 ^ 9 := Nat.pow_le_pow_right (by omega) hj9; omega
          rw [hT.out] at hlt
          obtain ⟨ob, ol, hov, HOW⟩ := w_of c1 HC1.out
          obtain ⟨rb, rh, rl, hrv, HU⟩ := isW_wv (c1 * (T : Int)) hlt
          have hro := Lib.hid (ovV_small _ _ hlt hrv.out)
          have HJ := Lib.hid hj9; have HOV := Lib.hid hov; have HOO := Lib.hid HOW
          clear hj9 hlt hov HOW g1 g2
          go_upto_region 9 with fail
          go_cut [10] (fun s10 wx => BoxW w6 rb rh rl s10 wx)
          case first =>
            have mkS : ∀ w', Below w6.heap.size w6 w' → (Below w6.heap.size w6 w' ∧ w'.cell? ⟨i, 0, none⟩ = some (.int .i64 c1) ∧ w'.cell? ⟨i, 1, none⟩ = some (.int .i64 (s1 : Int)) ∧ w'.cell? ⟨i + 1, 0, none⟩ = some (.int .i64 (S : Int))) := fun w' hb => ⟨hb, (X7.out.below hb).facts.1, (X7.out.below hb).facts.2.1, (X7.out.below hb).facts.2.2.1⟩
            have HS0 := mkS _ ((Below.refl _ _).drew)
            have Q0 : True := trivial
            go_region_held3 (fun w' => Below w6.heap.size w6 w' ∧ w'.cell? ⟨i, 0, none⟩ = some (.int .i64 c1) ∧ w'.cell? ⟨i, 1, none⟩ = some (.int .i64 (s1 : Int)) ∧ w'.cell? ⟨i + 1, 0, none⟩ = some (.int .i64 (S : Int)))
              (first | with_reducible exact HS0 | with_reducible assumption | (refine mkS _ ?_; (repeat (first | with_reducible exact And.left (by with_reducible assumption) | with_reducible exact Below.refl _ _ | refine Below.setCell ?_ (by first | omega | (simp only [World.size_alloc, hdrew]; omega) | (simp <;> omega)) _ | refine Below.alloc ?_ (by first | omega | (simp only [World.size_alloc, hdrew]; omega) | (simp <;> omega)) _ | refine Below.drew ?_))))
              (first
                | (go_at_call 26; (with_reducible refine (of_w c1 _ _ HC1.out HOV.out).mono ?_); rintro e w20 ⟨rfl, b20⟩; have HS20 := mkS _ (bt (And.left (by assumption)) b20); have T20 := Lib.hid (HS20.1); (obtain ⟨hcb20, hfb20⟩ := bcell b20; have zzb20 := Below.size b20; (try simp only [World.size_alloc, hdrew] at zzb20); (try (have llb20 : w6.heap.size < w20.heap.size := by omega)); (try (have lmb20 : w6.heap.size + 1 < w20.heap.size := by omega))); ((try replace b20 := undrew b20); first | (have QA := Lib.hid (WAt.below (Hid.out Q0) b20)) | (have QA := WAt.below (wAt_new _ false 0 0) b20; (try simp only [World.size_alloc, hdrew] at QA); have QA := Lib.hid QA) | skip); (try (have ln20 : w6.heap.size < w20.heap.size := by omega)); clear b20)
                | (go_at_call 27; (with_reducible refine (ten_w j T _ (by have := HJ.out; omega) hT.out).mono ?_); rintro e w21 ⟨rfl, b21⟩; have HS21 := mkS _ (bt (And.left (by assumption)) b21); have T21 := Lib.hid (HS21.1); (obtain ⟨hcb21, hfb21⟩ := bcell b21; have zzb21 := Below.size b21; (try simp only [World.size_alloc, hdrew] at zzb21); (try (have llb21 : w20.heap.size < w21.heap.size := by omega)); (try (have lmb21 : w20.heap.size + 1 < w21.heap.size := by omega))); ((try replace b21 := undrew b21); first | (have QB := Lib.hid (WAt.below (Hid.out QA) b21)) | (have QB := WAt.below (wAt_new _ false 0 0) b21; (try simp only [World.size_alloc, hdrew] at QB); have QB := Lib.hid QB) | skip); (try (have ln21 : w6.heap.size < w21.heap.size := by omega)); clear b21)
                | (go_at_call 25; (with_reducible refine (times_w0 T hT64.out _ _ HOO.out hro.out).mono ?_); rintro e w22 ⟨rfl, b22⟩; have HS22 := mkS _ (bt (And.left (by assumption)) b22); have T22 := Lib.hid (HS22.1); (obtain ⟨hcb22, hfb22⟩ := bcell b22; have zzb22 := Below.size b22; (try simp only [World.size_alloc, hdrew] at zzb22); (try (have llb22 : w21.heap.size < w22.heap.size := by omega)); (try (have lmb22 : w21.heap.size + 1 < w22.heap.size := by omega))); ((try replace b22 := undrew b22); first | (have QC := Lib.hid (WAt.below (Hid.out QB) b22)) | (have QC := WAt.below (wAt_new _ false 0 0) b22; (try simp only [World.size_alloc, hdrew] at QC); have QC := Lib.hid QC) | skip); (try (have ln22 : w6.heap.size < w22.heap.size := by omega)); clear b22))
            all_goals
              dsimp only [Exit.then]
              refine ‹∀ (a' : Act) (w' : World), Met _ a' w' → _› _ _ ?_
              go_meet
              case rel => exact ⟨_, rfl, (by (first | with_reducible exact wAt_set3 _ _ _ QC.out | with_reducible exact wAt_set3 _ _ _ QB.out | with_reducible exact wAt_set3 _ _ _ QA.out | with_reducible exact wAt_new _ _ _ _ | with_reducible exact wAt_set3 _ _ _ (wAt_new _ _ _ _) | exact wAt_new _ _ _ _)), (by (repeat (first | with_reducible exact And.left (by with_reducible assumption) | with_reducible exact Below.refl _ _ | refine Below.setCell ?_ (by first | omega | (simp only [World.size_alloc, hdrew]; omega) | (simp <;> omega)) _ | refine Below.alloc ?_ (by first | omega | (simp only [World.size_alloc, hdrew]; omega) | (simp <;> omega)) _ | refine Below.drew ?_)))⟩
          case rest =>
            obtain ⟨iu, rfl, hu, bu⟩ := hcut
            have X8 := Lib.hid (X7.out.below bu)
            have A8 := Lib.hid (A6.out.below bu)
            have BA8 : Hid (Boxed wc i9 3 (.int .i64 al)) := (bu.block i9 (Array.getElem?_eq_some_iff.1 BA.out).1).trans BA.out
            have U8 := Lib.hid hu
            clear hu bu X7 A6 BA q0 q1 q2 q3 q4 f0 f1 f2 f3 ca
            obtain ⟨io, hio⟩ : ∃ k, Hid (wc.heap.size = k) := ⟨_, rfl⟩
            have OF0 := of_w 0 (.agg #[.bool false, .int .u64 0, .int .u64 0]) (wc.alloc (.cells #[.slice none 0 0] 26)) (by unfold fits; omega) rfl
            have X9 := X8.out.below (ba wc (.cells #[.slice none 0 0] 26))
            have A9 := A8.out.below (ba wc (.cells #[.slice none 0 0] 26))
            have BA9 := Boxed.alloc BA8.out (.cells #[.slice none 0 0] 26)
            have U9 := WAt.below U8.out (ba wc (.cells #[.slice none 0 0] 26))
            have IO9 := Boxed.new wc 26 (.slice none 0 0)
            have ul := (Array.getElem?_eq_some_iff.1 U8.out).1
            have l9 := (Array.getElem?_eq_some_iff.1 BA8.out).1
            have z9 : (wc.alloc (.cells #[.slice none 0 0] 26)).heap.size = io + 1 := by rw [World.size_alloc, hio.out]
            rw [hio.out] at ul l9
            go_upto_region 11 with fail
            obtain ⟨w9, hw9⟩ : ∃ v, Hid (v = wc.alloc (.cells #[.slice none 0 0] 26)) := ⟨_, rfl⟩
            rw [← hw9.out] at OF0 X9 A9 BA9 U9 IO9 z9 ⊢
            rw [hio.out] at IO9 ⊢
            clear X8 A8 BA8 U8 hw9 hio
            replace X9 := Lib.hid X9; replace A9 := Lib.hid A9; replace BA9 := Lib.hid BA9; replace U9 := Lib.hid U9; replace IO9 := Lib.hid IO9; replace z9 := Lib.hid z9; replace ul := Lib.hid ul; replace l9 := Lib.hid l9
            go_upto_region 12 with (go_at_call 26; (with_reducible refine OF0.mono ?_); rintro e w10 ⟨rfl, b10⟩; have b10 := Lib.hid b10; clear OF0)
            have b11 := bt b10.out (ba w10 (.cells #[.bool false, .int .u64 0, .int .u64 0] 57))
            have X11 := Lib.hid (X9.out.below b11)
            have A11 := Lib.hid (A9.out.below b11)
            have BA11 : Hid (Boxed _ i9 3 (.int .i64 al)) := (b11.block i9 (Array.getElem?_eq_some_iff.1 BA9.out).1).trans BA9.out
            have IO11 : Hid (Boxed _ io 26 (.slice none 0 0)) := (b11.block io (Array.getElem?_eq_some_iff.1 IO9.out).1).trans IO9.out
            have U11 := Lib.hid (WAt.below U9.out b11)
            have L11 := Lib.hid (wAt_new w10 false 0 0)
            obtain ⟨il, hil⟩ : ∃ k, Hid (w10.heap.size = k) := ⟨_, rfl⟩
            have lil : Hid (io < il) := by show _ < _; have := hil.out; have := z9.out; have := b10.out.size; omega
            have z11 : (w10.alloc (.cells #[.bool false, .int .u64 0, .int .u64 0] 57)).heap.size = il + 1 := by rw [World.size_alloc, hil.out]
            obtain ⟨w11, hw11⟩ : ∃ v, Hid (v = w10.alloc (.cells #[.bool false, .int .u64 0, .int .u64 0] 57)) := ⟨_, rfl⟩
            rw [← hw11.out] at X11 A11 BA11 IO11 U11 L11 z11 ⊢
            rw [hil.out] at L11 ⊢
            clear b10 b11 X9 A9 BA9 IO9 U9 hw11 hil z9
            have SU := sums_is (w := w11) (.slice ao ws.length cap) ⟨_, _, _, rfl⟩
            rw [z11] at SU
            replace z11 := Lib.hid z11
            go_wp2_with (go_at_call 28; go_loud (refine SU.mono ?_; rintro e w12 ⟨rfl, hw12⟩; replace hw12 := Lib.hid hw12; clear SU))
            have z12 : Hid (w12.heap.size = il + 2) := by show _ = _; rw [hw12.out, World.size_alloc, z11.out]
            have b12 : Below w11.heap.size w11 w12 := by rw [hw12.out]; exact ba _ _
            have K12 : w12.heap[il + 1]? = some (.cells #[.slice ao ws.length cap] 24 (0, 0)) := by
              rw [hw12.out]; have := heap_alloc_new w11 (.cells #[.slice ao ws.length cap] 24); rw [z11.out] at this; exact this
            have A12 := A11.out.below b12
            obtain ⟨aln, rfl⟩ : ∃ m : Nat, al = (m : Int) := ⟨al.toNat, by have := AL.out; omega⟩
            obtain ⟨u, hu⟩ : ∃ z, Hid (c1 * (T : Int) = z) := ⟨_, rfl⟩
            have HA2 : Hid (u.natAbs ≤ 9223372036854775808000000000) := by show _ ≤ _; rw [← hu.out, ← hT.out]; exact units_abs c1 j HC1.out HJ.out
            rw [hu.out] at HU
            have OR : Hid (Ord i i9 iu io il (il + 2)) := ⟨i9l.out, l9.out, ul.out, lil.out, rfl⟩
            have LP12 : Lp w w12 i i9 iu io il (il + 2) c1 (s1 : Int) (S : Int) aln rb rh rl (lowN u aln (lastN [])) (rowS u aln S []) := by
              have M : ∀ {j : Nat} {o : Obj}, w11.heap[j]? = some o → w12.heap[j]? = some o := fun e => (b12.block _ (Array.getElem?_eq_some_iff.1 e).1).trans e
              refine ⟨X11.out.below b12, M BA11.out, M U11.out, ⟨.slice none 0 0, M IO11.out, Elem.Row.nil _ _⟩, ⟨false, 0, 0, M L11.out, ?_, by omega, by omega⟩⟩
              show wz false (0 : Nat) (0 : Nat) = _
              unfold lowN lastN wz; simp
            obtain ⟨L, hL0⟩ := sums_sm HO.out (by rw [hal.out]; exact AL.out.2)
            have hL := Lib.hid hL0
            have AP : Hid (0 < aln ∧ aln ≤ 3652059) := ⟨by have := AL.out; omega, by have := AL.out; omega⟩
            have aw : IntKind.u64.wrap (aln : Int) = (aln : Int) := by rw [IntKind.wrap_u64]; have := AP.out; omega
            have TT : Hid (∀ k, (k = il + 1 ∨ (sliceBlock (.slice ao ws.length cap) k ∧ 0 < ws.length)) ∨ Itr.Own (il + 2) 0 k → k ≠ io ∧ k ≠ il ∧ k < il + 2 + 2 ∧ k ≠ i + 1 + 1 ∧ k ≠ i + 1 + 1 + 1) := by
              have O1 := OR.out.a; have O2 := OR.out.b; have O3 := OR.out.c; have O4 := OR.out.d
              rintro k ((rfl | hk) | hk)
              · omega
              · have := HA.out.lt k hk; have := hi.out; omega
              · have h1 := hk.1; have h2 := hk.2; omega
            have HSL : Hid (∀ g, sliceBlock (.slice ao ws.length cap) g ∧ 0 < ws.length → g < i) := fun g hg => by have := HA.out.lt g hg; have := hi.out; omega
            have UN : Hid (unitsA c ((n : Int)).toNat ((S : Int)).toNat = u) := by
              show _ = _
              unfold unitsA
              rw [show ((n : Int)).toNat = n from rfl, show ((S : Int)).toNat = S from rfl, units_quot c n S (by have := HN.out; omega) (by have := HS.out; omega) (by rw [hs1.out]; exact HS.out.1), hc1.out, hs1.out, hj.out, ← hu.out, ← hT.out]
              simp
            have SA : Hid (∀ (F : Prop), (F ↔ fitS (rowS u aln S L)) → (F → sharesA c (n : Int) S ws = (rowS u aln S L, 0)) ∧ (¬ F → sharesA c (n : Int) S ws = ([], 11))) := by
              intro F hF
              have hR : rowA u ws.sum S ws ws.length = rowS u aln S L := by rw [rowS_all hL.out, hal.out]
              have hF2 : allFit u ws.sum S ws ws.length ↔ F := by rw [← fitS_rowA, hR, hF]
              unfold sharesA
              rw [if_neg NR.out, if_neg (by rw [hal.out]; have := AL.out; omega), if_neg (by rw [hal.out]; exact NZ.out), UN.out, show ((S : Int)).toNat = S from rfl]
              exact ⟨fun h => by rw [if_pos (hF2.2 h), hR], fun h => by rw [if_neg (fun h2 => h (hF2.1 h2))]⟩
            clear hL0 hw12 X11 A11 BA11 IO11 U11 L11 b12 z11 SM hw
            refine (wpIn_wide (n := 10)).1 (rangeAtG (α := Sm) (T := fun g => g = il + 1 ∨ (sliceBlock (.slice ao ws.length cap) g ∧ 0 < ws.length)) z12.out (gf := 54) (lb := #[.pointer (some ⟨il + 1, 0, none⟩)]) rfl enters_sums1 (fun j hj => ?ht) (sums1_at (fun x : Sm => (x.1 : Int)) hL.out K12 A12 (small_of HO.out (by have := H3.out; omega)) HL.out (fun g hg => hg)) (fun x => rfl)
              (fun pre W => Lp w W i i9 iu io il (il + 2) c1 (s1 : Int) (S : Int) aln rb rh rl (lowN u aln (lastN pre)) (rowS u aln S pre) ∧ fitS (rowS u aln S pre)) (fun cd pre W => cd = .ret ∧ ¬ fitS (rowS u aln S pre) ∧ Box0 w W i c1 (s1 : Int) (S : Int) (.slice none 0 0) (.int .i64 11)) ?hi ?hix ⟨LP12, fun p hp => by cases hp⟩
              (fun pre x a' W => (Lp w W i i9 iu io il (il + 2) c1 (s1 : Int) (S : Int) aln rb rh rl (lowN u aln (lastN pre)) (rowS u aln S pre) ∧ fitS (rowS u aln S pre)) ∧ a' = { tmps := #[.agg #[.int .i64 c, .int .i64 (n : Int)], .int .i64 (S : Int), .slice ao ws.length cap, .pointer (some ⟨i, 0, none⟩), .pointer (some ⟨i + 1, 0, none⟩), undef, .pointer (some ⟨i + 1 + 1, 0, none⟩), .pointer (some ⟨i + 1 + 1 + 1, 0, none⟩), .int .i64 0, .pointer (some ⟨i9, 0, none⟩), .pointer (some ⟨iu, 0, none⟩), u11, .pointer (some ⟨io, 0, none⟩), .pointer (some ⟨il, 0, none⟩), .int .i64 ((x.1 : Nat) : Int), undef, undef, undef, undef, undef, undef, u21, u22, u23, u24, u25, u26, u27, u28, u29, u30, u31, u32, u33, u34, u35, u36, u37, u38, u39, u40, u41, u42, u43, u44, u45, u46, u47, u48, .bool false, u50, u51, .bool false, u53, u54, u55, u56, u57, u58, u59, u60, u61, u62, u63, u64, u65, u66, .agg #[.bool false, .int .u64 0, .int .u64 0], .slice ao ws.length cap, .func (.func 54) #[] #[.pointer (some ⟨il + 1, 0, none⟩)], .int .i64 ((x.1 : Nat) : Int), u71, u72, u73, u74, u75, u76, u77, u78, u79, u80, u81, u82, u83, u84, u85, u86, u87, u88, u89, u90, u91, u92, u93, u94, u95, u96, u97, u98, u99, u100, u101, u102, u103, u104, u105, u106], defers := [] }) ?ha ?assign ?body ?done ?stop)
            case ht =>
              have O1 := OR.out.a; have O2 := OR.out.b; have O3 := OR.out.c; have O4 := OR.out.d
              rcases hj with hj | hj
              · omega
              · have := HSL.out j hj; omega
            case hi =>
              rintro pre X Y row ⟨h1, h2⟩ hg hr
              exact ⟨h1.kept OR.out hg (fun k e => ⟨(hr k e).1, by have := (hr k e).2; omega⟩), h2⟩
            case hix =>
              have O1 := OR.out.a; have O2 := OR.out.b; have O3 := OR.out.c; have O4 := OR.out.d
              rintro cd pre X Y row ⟨h1, h2, h3⟩ hg hr
              exact ⟨h1, h2, h3.blocks (fun k a b => hg.block k (by have := (Array.getElem?_eq_some_iff.1 h3.e).1; omega) (fun e => by have := (hr k e.symm).1; omega)) (h3.bel.grown hg (by have := h3.a.lt; omega) (fun k e => by have := (hr k e).1; omega))⟩
            case ha =>
              rintro x a' pre X Y row ⟨⟨h1, h2⟩, h3⟩ hg hr
              exact ⟨⟨h1.kept OR.out hg (fun k e => ⟨(hr k e).1, by have := (hr k e).2; omega⟩), h2⟩, h3⟩
            case assign =>
              rintro l pre x W K hsz h hK
              have hK2 := hK _ W (Keep.refl _ _) ⟨h, rfl⟩
              clear hK h
              gi_wp2
              exact hK2
            case body =>
              rintro l pre x a' W hsz ⟨⟨h, hf⟩, rfl⟩ hlt
              dsimp only
              obtain ⟨v, hv, hrow⟩ := id h.out
              obtain ⟨lb, lh, ll, hla, hil⟩ := id h.la
              obtain ⟨va, vcap, rfl, _, _⟩ := hrow.form
              obtain ⟨xn, hxn⟩ : ∃ k : Nat, Hid (x.1 = k) := ⟨_, rfl⟩
              have hx9 : xn ≤ 3652059 := by have h := x.2; rw [hxn.out] at h; exact h
              have xw : IntKind.u64.wrap (xn : Int) = (xn : Int) := by rw [IntKind.wrap_u64]; omega
              have HXN : Hid (xn < 18446744073709551616) := by show _ < _; omega
              obtain ⟨y, hy⟩ : ∃ z, Hid (lowN u aln (lastN pre) = z) := ⟨_, rfl⟩
              have ba1 := low_abs (x := xn) HA2.out AP.out.1 hx9
              have ba2 := (low_abs (x := lastN pre) HA2.out AP.out.1 (lastN_le pre)).2
              rw [hy.out] at ba2 hil
              obtain ⟨z, hz⟩ : ∃ q, Hid (lowN u aln xn = q) := ⟨_, rfl⟩
              have hz' : u * (xn : Int) / (aln : Int) = z := hz.out
              rw [hz.out] at ba1
              obtain ⟨tb, th, tl, hov, HT⟩ := isW_ov (u * (xn : Int)) (by omega)
              obtain ⟨fb, fh, fl, hfv, HF⟩ := isW_wv z (by omega)
              obtain ⟨nb, nh, nl, hnv, HN1⟩ := isW_wv (-y) (by omega)
              obtain ⟨db, dh, dl, hdv, HD⟩ := isW_ov (z + -y) (by omega)
              rw [← hz'] at hfv
              obtain ⟨D, hD⟩ : ∃ V, Hid (decV (z + -y) S = V) := ⟨_, rfl⟩
              rw [hxn.out]
              have H0 := Lib.hid h; have HF0 := Lib.hid hf; have HROW := Lib.hid hrow; have HIL := Lib.hid hil; have HLA := Lib.hid hla; have HV := Lib.hid hv; have HLA0 := Lib.hid hla; have HSZ := Lib.hid hsz; have HAW := Lib.hid aw
              have UX := h.un
              have u0 := UX.c0; have u1 := UX.c1; have u2 := UX.c2
              clear hv hrow hla hil hsz ba1 ba2 hx9 hz' UX h hf
              gi_upto_region 15 with (refine ⟨trivial, ?_⟩; gi_at_call 25; go_loud (show CallsIn Fence.wide _ _ _ _ _ _; refine (callsIn_wide.2 (times_w xn HXN.out _ _ HU.out hov.out)).mono ?_; rintro e w21 ⟨rfl, b21⟩; have B21 := Lib.hid b21; clear b21))
              have B1 : Hid (Below W.heap.size W (w21.alloc (.cells #[.bool tb, .int .u64 (th : Int), .int .u64 (tl : Int)] 57))) := bt B21.out (ba _ _)
              have T1 := Lib.hid (wAt_new w21 tb th tl)
              have itl : Hid (W.heap.size ≤ w21.heap.size) := B21.out.size
              obtain ⟨it, hit⟩ : ∃ k, Hid (w21.heap.size = k) := ⟨_, rfl⟩
              obtain ⟨W1, hW1⟩ : ∃ v, Hid (v = w21.alloc (.cells #[.bool tb, .int .u64 (th : Int), .int .u64 (tl : Int)] 57)) := ⟨_, rfl⟩
              rw [← hW1.out] at B1 T1 ⊢
              rw [hit.out] at T1 itl ⊢
              clear hW1 hit B21 u0 u1 u2
              have t0 := T1.out.c0; have t1 := T1.out.c1; have t2 := T1.out.c2
              have ca := Boxed.cell (H0.out.below B1.out).al
              gi_upto_region 16 with (refine ⟨trivial, ?_⟩; gi_at_call 29; go_loud (show CallsIn Fence.wide _ _ _ _ _ _; refine (callsIn_wide.2 (floor_w aln AP.out.1 (by have := AP.out; omega) _ _ HT.out hfv.out)).mono ?_; rintro e w22 ⟨rfl, b22⟩; have B22 := Lib.hid b22; have T2 := Lib.hid (WAt.below T1.out b22); have q0 := T2.out.c0; have q1 := T2.out.c1; have q2 := T2.out.c2; have q3 := T2.out.f0; have q4 := T2.out.f1; have q5 := T2.out.f2; clear b22))
              have B2 : Hid (Below W.heap.size W (((w22.setCell ⟨it, 0, none⟩ (.bool fb)).setCell ⟨it, 1, none⟩ (.int .u64 (fh : Int))).setCell ⟨it, 2, none⟩ (.int .u64 (fl : Int)))) := below_set3 _ _ _ (bt B1.out B22.out) itl.out
              have T3 := Lib.hid (wAt_set3 fb (fh : Int) (fl : Int) T2.out)
              generalize World.setCell (World.setCell (World.setCell w22 _ _) _ _) _ _ = W2 at B2 T3 ⊢
              clear T1 T2 B1 B22 t0 t1 t2 ca q0 q1 q2 q3 q4 q5 aw
              have LA := Lib.hid (WAt.below HLA.out B2.out)
              clear HLA
              gi_cut [17] from 107 (fun s17 wx => BoxW W2 db dh dl s17 wx)
              case first =>
                refine region_round_held (S := fun w' => Below W2.heap.size W2 w' ∧ w'.cell? ⟨it, 0, none⟩ = some (.bool fb) ∧ w'.cell? ⟨it, 1, none⟩ = some (.int .u64 (fh : Int)) ∧ w'.cell? ⟨it, 2, none⟩ = some (.int .u64 (fl : Int)) ∧ w'.cell? ⟨il, 0, none⟩ = some (.bool lb) ∧ w'.cell? ⟨il, 1, none⟩ = some (.int .u64 (lh : Int)) ∧ w'.cell? ⟨il, 2, none⟩ = some (.int .u64 (ll : Int))) (by kernel_rfl) (by kernel_rfl) (fun h => by obtain ⟨_, _, h⟩ := h; exact h) ?_
                have mkS : ∀ w', Below W2.heap.size W2 w' → (Below W2.heap.size W2 w' ∧ w'.cell? ⟨it, 0, none⟩ = some (.bool fb) ∧ w'.cell? ⟨it, 1, none⟩ = some (.int .u64 (fh : Int)) ∧ w'.cell? ⟨it, 2, none⟩ = some (.int .u64 (fl : Int)) ∧ w'.cell? ⟨il, 0, none⟩ = some (.bool lb) ∧ w'.cell? ⟨il, 1, none⟩ = some (.int .u64 (lh : Int)) ∧ w'.cell? ⟨il, 2, none⟩ = some (.int .u64 (ll : Int))) := fun w' hb => ⟨hb, (WAt.below T3.out hb).c0, (WAt.below T3.out hb).c1, (WAt.below T3.out hb).c2, (WAt.below LA.out hb).c0, (WAt.below LA.out hb).c1, (WAt.below LA.out hb).c2⟩
                have D0 : Below W2.heap.size W2 W2.drew := (Below.refl _ _).drew
                have HS0 := mkS _ D0
                (refine wpAnyH_take (i := 0) (v := ?_) rfl (by kernel_rfl) (by kernel_rfl) (by kernel_rfl) (fun _ _ _ h => h) (Or.inl ⟨by rfl, ?_⟩) HS0 ?_; case refine_2 => (intro w hSw; (try dsimp only at hSw); go_simp; try with_reducible rfl); try simp only [Act.put, List.setIfInBounds_toArray, List.set_cons_zero, List.set_cons_succ])
                (refine wpAnyH_take (i := 1) (v := ?_) rfl (by kernel_rfl) (by kernel_rfl) (by kernel_rfl) (fun _ _ _ h => h) (Or.inl ⟨by rfl, ?_⟩) HS0 ?_; case refine_2 => (intro w hSw; (try dsimp only at hSw); go_simp; try with_reducible rfl); try simp only [Act.put, List.setIfInBounds_toArray, List.set_cons_zero, List.set_cons_succ])
                refine wpAnyH_ready (rs := [2, 7]) (by kernel_rfl) (by simp) ?_
                refine (AllReadyH.cons (o := _) rfl (fun K hK => ?_) (AllReadyH.cons (o := _) rfl (fun K hK => ?_) AllReadyH.nil))
                · skip
                  go_simp
                  go_at_call 31
                  (with_reducible refine (neg_w _ _ HIL.out hnv.out).mono ?_)
                  rintro e w31 ⟨rfl, b31⟩
                  have D31 : Below W2.heap.size W2 w31 := bt D0 b31
                  have R31 := Lib.hid D31
                  refine hK.out _ _ (mkS _ D31) (fun HS1 => ?_)
                  clear hK HS0
                  have HS0 := HS1
                  clear HS1
                  refine wpAnyH_ready (rs := [3, 7]) (by kernel_rfl) (by simp) ?_
                  refine (AllReadyH.cons (o := _) rfl (fun K hK => ?_) (AllReadyH.cons (o := _) rfl (fun K hK => ?_) AllReadyH.nil))
                  · skip
                    go_simp
                    go_at_call 30
                    (with_reducible refine (add_w _ _ HF.out HN1.out hdv.out).mono ?_)
                    rintro e w32 ⟨rfl, b32⟩
                    have D32 : Below W2.heap.size W2 w32 := bt D31 b32
                    refine hK.out _ _ (mkS _ D32) (fun HS2 => ?_)
                    clear hK HS0
                    have HS0 := HS2
                    clear HS2
                    (refine wpAnyH_take (i := 4) (v := ?_) rfl (by kernel_rfl) (by kernel_rfl) (by kernel_rfl) (fun _ _ _ h => h) (Or.inl ⟨by rfl, ?_⟩) HS0 ?_; case refine_2 => (intro w hSw; (try dsimp only at hSw); go_simp; try with_reducible rfl); try simp only [Act.put, List.setIfInBounds_toArray, List.set_cons_zero, List.set_cons_succ])
                    (refine wpAnyH_take (i := 5) (v := ?_) rfl (by kernel_rfl) (by kernel_rfl) (by kernel_rfl) (fun _ _ _ h => h) (Or.inl ⟨by rfl, ?_⟩) HS0 ?_; case refine_2 => (intro w hSw; (try dsimp only at hSw); go_simp; try with_reducible rfl); try simp only [Act.put, List.setIfInBounds_toArray, List.set_cons_zero, List.set_cons_succ])
                    (refine wpAnyH_take (i := 6) (v := ?_) rfl (by kernel_rfl) (by kernel_rfl) (by kernel_rfl) (fun _ _ _ h => h) (Or.inl ⟨by rfl, ?_⟩) HS0 ?_; case refine_2 => (intro w hSw; (try dsimp only at hSw); go_simp; try with_reducible rfl); try simp only [Act.put, List.setIfInBounds_toArray, List.set_cons_zero, List.set_cons_succ])
                    refine wpAnyH_ready (rs := [7]) (by kernel_rfl) (by simp) ?_
                    refine (AllReadyH.cons (o := _) rfl (fun K hK => ?_) AllReadyH.nil)
                    go_simp
                    refine hK.out _ _ (mkS _ (bt D32 (ba _ _))) (fun HS3 => ?_)
                    clear hK HS0
                    have HS0 := HS3
                    clear HS3
                    refine wpAnyH_ready (rs := [8]) (by kernel_rfl) (by simp) ?_
                    refine (AllReadyH.cons (o := _) rfl (fun K hK => ?_) AllReadyH.nil)
                    go_simp
                    refine hK.out _ _ (mkS _ (bt D32 (ba _ _))) (fun HS9 => ?_)
                    clear hK HS0
                    have HS0 := HS9
                    clear HS9
                    (refine wpAnyH_take (i := 9) (v := ?_) rfl (by kernel_rfl) (by kernel_rfl) (by kernel_rfl) (fun _ _ _ h => h) (Or.inl ⟨by rfl, ?_⟩) HS0 ?_; case refine_2 => (intro w hSw; (try dsimp only at hSw); go_simp; try with_reducible rfl); try simp only [Act.put, List.setIfInBounds_toArray, List.set_cons_zero, List.set_cons_succ])
                    refine wpAnyH_done (by kernel_rfl) ?_ _
                    dsimp only [Exit.then]
                    refine ‹∀ (a' : Act) (w' : World), Met _ a' w' → _› _ _ ?_
                    gi_meet
                    case rel => exact ⟨_, rfl, wAt_new _ _ _ _, HS0.1⟩
                  · skip
                    go_simp
                    have A0 := wAt_new w31 false 0 0
                    have D33 : Below W2.heap.size W2 (w31.alloc (.cells #[.bool false, .int .u64 0, .int .u64 0] 57)) := bt D31 (ba _ _)
                    refine hK.out _ _ (mkS _ D33) (fun HS2 => ?_)
                    clear hK HS0
                    have HS0 := HS2
                    clear HS2
                    refine wpAnyH_ready (rs := [3]) (by kernel_rfl) (by simp) ?_
                    refine (AllReadyH.cons (o := _) rfl (fun K hK => ?_) AllReadyH.nil)
                    go_simp
                    go_at_call 30
                    (with_reducible refine (add_w _ _ HF.out HN1.out hdv.out).mono ?_)
                    rintro e w34 ⟨rfl, b34⟩
                    have D34 : Below W2.heap.size W2 w34 := bt D33 b34
                    have A1 := WAt.below A0 b34
                    refine hK.out _ _ (mkS _ D34) (fun HS3 => ?_)
                    clear hK HS0
                    have HS0 := HS3
                    clear HS3
                    (refine wpAnyH_take (i := 4) (v := ?_) rfl (by kernel_rfl) (by kernel_rfl) (by kernel_rfl) (fun _ _ _ h => h) (Or.inl ⟨by rfl, ?_⟩) HS0 ?_; case refine_2 => (intro w hSw; (try dsimp only at hSw); go_simp; try with_reducible rfl); try simp only [Act.put, List.setIfInBounds_toArray, List.set_cons_zero, List.set_cons_succ])
                    (refine wpAnyH_take (i := 5) (v := ?_) rfl (by kernel_rfl) (by kernel_rfl) (by kernel_rfl) (fun _ _ _ h => h) (Or.inl ⟨by rfl, ?_⟩) HS0 ?_; case refine_2 => (intro w hSw; (try dsimp only at hSw); go_simp; try with_reducible rfl); try simp only [Act.put, List.setIfInBounds_toArray, List.set_cons_zero, List.set_cons_succ])
                    (refine wpAnyH_take (i := 6) (v := ?_) rfl (by kernel_rfl) (by kernel_rfl) (by kernel_rfl) (fun _ _ _ h => h) (Or.inl ⟨by rfl, ?_⟩) HS0 ?_; case refine_2 => (intro w hSw; (try dsimp only at hSw); go_simp; try with_reducible rfl); try simp only [Act.put, List.setIfInBounds_toArray, List.set_cons_zero, List.set_cons_succ])
                    refine wpAnyH_ready (rs := [8]) (by kernel_rfl) (by simp) ?_
                    refine (AllReadyH.cons (o := _) rfl (fun K hK => ?_) AllReadyH.nil)
                    have x0 := A1.c0; have x1 := A1.c1; have x2 := A1.c2; have x3 := A1.f0; have x4 := A1.f1; have x5 := A1.f2
                    go_simp
                    refine hK.out _ _ (mkS _ (below_set3 _ _ _ D34 (R31.out.size))) (fun HS9 => ?_)
                    clear hK HS0
                    have HS0 := HS9
                    clear HS9
                    (refine wpAnyH_take (i := 9) (v := ?_) rfl (by kernel_rfl) (by kernel_rfl) (by kernel_rfl) (fun _ _ _ h => h) (Or.inl ⟨by rfl, ?_⟩) HS0 ?_; case refine_2 => (intro w hSw; (try dsimp only at hSw); go_simp; try with_reducible rfl); try simp only [Act.put, List.setIfInBounds_toArray, List.set_cons_zero, List.set_cons_succ])
                    refine wpAnyH_done (by kernel_rfl) ?_ _
                    dsimp only [Exit.then]
                    refine ‹∀ (a' : Act) (w' : World), Met _ a' w' → _› _ _ ?_
                    gi_meet
                    case rel => exact ⟨_, rfl, wAt_set3 _ _ _ A1, HS0.1⟩
                · skip
                  go_simp
                  have A0 : WAt (W2.drew.alloc (.cells #[.bool false, .int .u64 0, .int .u64 0] 57)) W2.heap.size false 0 0 := wAt_new W2.drew false 0 0
                  have D33 : Below W2.heap.size W2 (W2.drew.alloc (.cells #[.bool false, .int .u64 0, .int .u64 0] 57)) := bt D0 (ba _ _)
                  refine hK.out _ _ (mkS _ D33) (fun HS2 => ?_)
                  clear hK HS0
                  have HS0 := HS2
                  clear HS2
                  refine wpAnyH_ready (rs := [2]) (by kernel_rfl) (by simp) ?_
                  refine (AllReadyH.cons (o := _) rfl (fun K hK => ?_) AllReadyH.nil)
                  go_simp
                  go_at_call 31
                  (with_reducible refine (neg_w _ _ HIL.out hnv.out).mono ?_)
                  rintro e w34 ⟨rfl, b34⟩
                  have D34 : Below W2.heap.size W2 w34 := bt D33 b34
                  have R34 := Lib.hid D34
                  have A1 := WAt.below A0 b34
                  refine hK.out _ _ (mkS _ D34) (fun HS3 => ?_)
                  clear hK HS0
                  have HS0 := HS3
                  clear HS3
                  refine wpAnyH_ready (rs := [3]) (by kernel_rfl) (by simp) ?_
                  refine (AllReadyH.cons (o := _) rfl (fun K hK => ?_) AllReadyH.nil)
                  go_simp
                  go_at_call 30
                  (with_reducible refine (add_w _ _ HF.out HN1.out hdv.out).mono ?_)
                  rintro e w35 ⟨rfl, b35⟩
                  have D35 : Below W2.heap.size W2 w35 := bt D34 b35
                  have A2 := WAt.below A1 b35
                  refine hK.out _ _ (mkS _ D35) (fun HS4 => ?_)
                  clear hK HS0
                  have HS0 := HS4
                  clear HS4
                  (refine wpAnyH_take (i := 4) (v := ?_) rfl (by kernel_rfl) (by kernel_rfl) (by kernel_rfl) (fun _ _ _ h => h) (Or.inl ⟨by rfl, ?_⟩) HS0 ?_; case refine_2 => (intro w hSw; (try dsimp only at hSw); go_simp; try with_reducible rfl); try simp only [Act.put, List.setIfInBounds_toArray, List.set_cons_zero, List.set_cons_succ])
                  (refine wpAnyH_take (i := 5) (v := ?_) rfl (by kernel_rfl) (by kernel_rfl) (by kernel_rfl) (fun _ _ _ h => h) (Or.inl ⟨by rfl, ?_⟩) HS0 ?_; case refine_2 => (intro w hSw; (try dsimp only at hSw); go_simp; try with_reducible rfl); try simp only [Act.put, List.setIfInBounds_toArray, List.set_cons_zero, List.set_cons_succ])
                  (refine wpAnyH_take (i := 6) (v := ?_) rfl (by kernel_rfl) (by kernel_rfl) (by kernel_rfl) (fun _ _ _ h => h) (Or.inl ⟨by rfl, ?_⟩) HS0 ?_; case refine_2 => (intro w hSw; (try dsimp only at hSw); go_simp; try with_reducible rfl); try simp only [Act.put, List.setIfInBounds_toArray, List.set_cons_zero, List.set_cons_succ])
                  refine wpAnyH_ready (rs := [8]) (by kernel_rfl) (by simp) ?_
                  refine (AllReadyH.cons (o := _) rfl (fun K hK => ?_) AllReadyH.nil)
                  have x0 := A2.c0; have x1 := A2.c1; have x2 := A2.c2; have x3 := A2.f0; have x4 := A2.f1; have x5 := A2.f2
                  go_simp
                  refine hK.out _ _ (mkS _ (below_set3 _ _ _ D35 (Nat.le_refl _))) (fun HS9 => ?_)
                  clear hK HS0
                  have HS0 := HS9
                  clear HS9
                  (refine wpAnyH_take (i := 9) (v := ?_) rfl (by kernel_rfl) (by kernel_rfl) (by kernel_rfl) (fun _ _ _ h => h) (Or.inl ⟨by rfl, ?_⟩) HS0 ?_; case refine_2 => (intro w hSw; (try dsimp only at hSw); go_simp; try with_reducible rfl); try simp only [Act.put, List.setIfInBounds_toArray, List.set_cons_zero, List.set_cons_succ])
                  refine wpAnyH_done (by kernel_rfl) ?_ _
                  dsimp only [Exit.then]
                  refine ‹∀ (a' : Act) (w' : World), Met _ a' w' → _› _ _ ?_
                  gi_meet
                  case rel => exact ⟨_, rfl, wAt_set3 _ _ _ A2, HS0.1⟩
              case rest =>
                obtain ⟨iD, rfl, hD, bD⟩ := hcut
                have B3 := Lib.hid (B2.out.trans (bD.mono B2.out.size))
                have D3 := Lib.hid hD
                have T4 := Lib.hid (WAt.below T3.out bD)
                have H3' := H0.out.below B3.out
                have sS := Boxed.cell H3'.bx.s
                clear hD bD B2 T3 LA H3'
                have e0 := D3.out.c0; have e1 := D3.out.c1; have e2 := D3.out.c2
                by_cases hfit : fits (trim (z + -y) S).1
                · obtain ⟨p1, p2, hp⟩ : ∃ (p1 : Int) (p2 : Nat), Hid (trim (z + -y) S = (p1, p2)) := ⟨_, _, rfl⟩
                  have hDD : Hid (decV (z + -y) S = .tuple #[.agg #[.int .i64 p1, .int .i64 (p2 : Int)], .int .i64 0]) := by
                    show _ = _; unfold decV; rw [if_pos hfit, hp.out]
                  rw [hp.out] at hfit
                  have HFIT := Lib.hid hfit
                  clear hfit
                  gi_upto_region 18 with (refine ⟨trivial, ?_⟩; gi_at_call 32; go_loud (show CallsIn Fence.wide _ _ _ _ _ _; refine (callsIn_wide.2 (pmade_any _ _ _ _ S _ _ HD.out HS.out.2 hDD.out)).mono ?_; rintro e w23 ⟨rfl, b23⟩; have B23 := Lib.hid b23; clear b23))
                  have B4 : Hid (Below W.heap.size W (w23.alloc (.cells #[.int .i64 p1, .int .i64 (p2 : Int)] 23))) := bt (bt B3.out B23.out) (ba _ _)
                  have P4 := Lib.hid (dAt_new w23 p1 (p2 : Int))
                  have T5 := Lib.hid (WAt.below T4.out (bt B23.out (ba w23 (.cells #[.int .i64 p1, .int .i64 (p2 : Int)] 23))))
                  have l19 : Hid (W.heap.size ≤ w23.heap.size) := (bt B3.out B23.out).size
                  obtain ⟨i19, hi19⟩ : ∃ k, Hid (w23.heap.size = k) := ⟨_, rfl⟩
                  obtain ⟨W4, hW4⟩ : ∃ v, Hid (v = w23.alloc (.cells #[.int .i64 p1, .int .i64 (p2 : Int)] 23)) := ⟨_, rfl⟩
                  rw [← hW4.out] at B4 P4 T5 ⊢
                  rw [hi19.out] at P4 l19 ⊢
                  clear hW4 hi19 B23 T4 e0 e1 e2 sS D3 B3
                  gi_upto_region 20 with fail
                  have HV4 : Hid (Boxed W4 io 26 (.slice va (rowS u aln S pre).length vcap)) := (B4.out.block io (Array.getElem?_eq_some_iff.1 HV.out).1).trans HV.out
                  have HR4 := Lib.hid (Elem.Row.below HROW.out B4.out)
                  have SRC : Hid (decE.Arg (W4.drew.alloc (.cells #[.int .i64 p1, .int .i64 (p2 : Int)] 23)) (.slice (some ⟨W4.heap.size, 0, none⟩) 1 1) [(p1, p2)]) := Elem.arg_one (E := decE) (w := W4.drew) (p1, p2) _
                  have HR5 : Hid (RowD (W4.drew.alloc (.cells #[.int .i64 p1, .int .i64 (p2 : Int)] 23)) (il + 2 + 2) (.slice va (rowS u aln S pre).length vcap) (rowS u aln S pre)) := Elem.Row.below HR4.out (((Below.refl _ _).drew).alloc (Nat.le_refl _) _)
                  have B5 : Hid (Below W.heap.size W (W4.drew.alloc (.cells #[.int .i64 p1, .int .i64 (p2 : Int)] 23))) := bt B4.out (((Below.refl _ _).drew).alloc (Nat.le_refl _) _)
                  have HB5 : Hid (il + 2 + 2 ≤ (W4.drew.alloc (.cells #[.int .i64 p1, .int .i64 (p2 : Int)] 23)).heap.size) := Nat.le_trans (by have := HSZ.out; omega) B5.out.size
                  have HLN : Hid ((rowS u aln S pre).length + [(p1, p2)].length ≤ 1000001) := by
                    show _ ≤ _
                    have h1 : L.length = ws.length := by rw [← sumsL_len ws, ← hL.out, List.length_map]
                    have h2 := HL.out
                    rw [rowS_len, List.length_singleton]
                    omega
                  have EQ : Hid (rowS u aln S (pre ++ [x]) = rowS u aln S pre ++ [(p1, p2)]) := by
                    show _ = _; rw [rowS_snoc, hxn.out, hz.out, hy.out, Int.sub_eq_add_neg, hp.out]
                  have EL : Hid (lowN u aln (lastN (pre ++ [x])) = z) := by show _ = _; rw [lastN_snoc, hxn.out, hz.out]
                  clear HR4 hlt hxn
                  have mkS : ∀ w' : World, w'.heap[i19]? = W4.heap[i19]? → w'.heap[it]? = W4.heap[it]? → (w'.cell? ⟨i19, 0, none⟩ = some (.int .i64 p1) ∧ w'.cell? ⟨i19, 1, none⟩ = some (.int .i64 (p2 : Int)) ∧ w'.cell? ⟨it, 0, none⟩ = some (.bool fb) ∧ w'.cell? ⟨it, 1, none⟩ = some (.int .u64 (fh : Int)) ∧ w'.cell? ⟨it, 2, none⟩ = some (.int .u64 (fl : Int))) := fun w' h1 h2 => by
                    have P5 : DAt w' i19 p1 (p2 : Int) := h1.trans P4.out
                    have T6 : WAt w' it fb (fh : Int) (fl : Int) := h2.trans T5.out
                    exact ⟨P5.c0, P5.c1, T6.c0, T6.c1, T6.c2⟩
                  have HV5 := HV4.out.cell
                  have li : i19 < W4.heap.size ∧ it < W4.heap.size := ⟨P4.out.lt, (Array.getElem?_eq_some_iff.1 T5.out).1⟩
                  refine region_round_held (S := fun w' => w'.cell? ⟨i19, 0, none⟩ = some (.int .i64 p1) ∧ w'.cell? ⟨i19, 1, none⟩ = some (.int .i64 (p2 : Int)) ∧ w'.cell? ⟨it, 0, none⟩ = some (.bool fb) ∧ w'.cell? ⟨it, 1, none⟩ = some (.int .u64 (fh : Int)) ∧ w'.cell? ⟨it, 2, none⟩ = some (.int .u64 (fl : Int))) (by kernel_rfl) (by kernel_rfl) (fun h => by obtain ⟨_, _, h⟩ := h; exact h) ?_
                  have HS0 := mkS W4.drew rfl rfl
                  (refine wpAnyH_take (i := 1) (v := ?_) rfl (by kernel_rfl) (by kernel_rfl) (by kernel_rfl) (fun _ _ _ h => h) (Or.inl ⟨by rfl, ?_⟩) HS0 ?_; case refine_2 => (intro w hSw; (try dsimp only at hSw); go_simp; try with_reducible rfl); try simp only [Act.put, List.setIfInBounds_toArray, List.set_cons_zero, List.set_cons_succ])
                  (refine wpAnyH_take (i := 4) (v := ?_) rfl (by kernel_rfl) (by kernel_rfl) (by kernel_rfl) (fun _ _ _ h => h) (Or.inl ⟨by rfl, ?_⟩) HS0 ?_; case refine_2 => (intro w hSw; (try dsimp only at hSw); go_simp; try with_reducible rfl); try simp only [Act.put, List.setIfInBounds_toArray, List.set_cons_zero, List.set_cons_succ])
                  have HZ : ∀ j, j < W4.heap.size → (W4.drew.alloc (.cells #[.int .i64 p1, .int .i64 (p2 : Int)] 23)).heap[j]? = W4.heap[j]? := fun j hj => Below.heap_alloc _ _ _ hj
                  have CV : (W4.alloc (.cells #[.int .i64 p1, .int .i64 (p2 : Int)] 23)).cell? ⟨io, 0, none⟩ = some (.slice va (rowS u aln S pre).length vcap) := (cell_eq (p := ⟨io, 0, none⟩) (HZ io HV4.out.lt)).trans HV5
                  refine wpAnyH_ready (rs := [0, 2]) (by kernel_rfl) (by simp) ?_
                  refine (AllReadyH.cons (o := _) rfl (fun K hK => ?_) (AllReadyH.cons (o := _) rfl (fun K hK => ?_) AllReadyH.nil))
                  · skip
                    go_simp
                    refine hK.out _ _ (mkS _ rfl rfl) (fun HS1 => ?_)
                    clear hK HS0
                    have HS0 := HS1
                    clear HS1
                    refine wpAnyH_ready (rs := [2]) (by kernel_rfl) (by simp) ?_
                    refine (AllReadyH.cons (o := _) rfl (fun K hK => ?_) AllReadyH.nil)
                    go_simp
                    refine hK.out _ _ (mkS _ (HZ _ li.1) (HZ _ li.2)) (fun HS2 => ?_)
                    clear hK HS0
                    have HS0 := HS2
                    clear HS2
                    refine wpAnyH_ready (rs := [3]) (by kernel_rfl) (by simp) ?_
                    refine (AllReadyH.cons (o := _) rfl (fun K hK => ?_) AllReadyH.nil)
                    refine Elem.step (E := decE) rfl _ _ rfl (il + 2 + 2) _ _ _ [(p1, p2)] rfl rfl HR5.out SRC.out HLN.out (by decide) HB5.out ?_
                    intro v6 w6 hr6 hg6 _
                    obtain ⟨va', vcap', hv6, _, _⟩ := hr6.form
                    obtain ⟨n6, hn6⟩ : ∃ k : Nat, Hid ((rowS u aln S pre ++ [(p1, p2)]).length = k) := ⟨_, rfl⟩
                    rw [hn6.out] at hv6
                    subst hv6
                    clear hn6
                    obtain ⟨HLP, HKP⟩ := Lp.next OR.out H0.out (by have := HSZ.out; omega) HROW.out B5.out hr6 hg6 HF.out
                    have k6 : ∀ j, j < W4.heap.size → (W.heap.size ≤ j ∨ j < il + 2 + 2) → w6.heap[j]? = W4.heap[j]? := fun j h1 h2 => (hg6.block j (by simp [hdrew]; omega) (fun e => by have := HROW.out.lt j e.symm; omega)).trans (HZ j h1)
                    refine hK.out _ _ (mkS _ (k6 _ li.1 (.inl l19.out)) (k6 _ li.2 (.inl itl.out))) (fun HS5 => ?_)
                    clear hK HS0
                    have HS0 := HS5
                    clear HS5
                    have V6 : Boxed w6 io 26 (.slice va (rowS u aln S pre).length vcap) := (k6 io HV4.out.lt (.inr (by have := OR.out.d; omega))).trans HV4.out
                    have L6 : WAt w6 il lb (lh : Int) (ll : Int) := (k6 il (Nat.lt_of_lt_of_le (Array.getElem?_eq_some_iff.1 HLA0.out).1 B4.out.size) (.inr (by omega))).trans ((B4.out.block il (Array.getElem?_eq_some_iff.1 HLA0.out).1).trans HLA0.out)
                    have nel : io ≠ il ∧ io ≠ i19 ∧ io ≠ it ∧ il ≠ i19 ∧ il ≠ it := by have := OR.out.d; have := l19.out; have := itl.out; have := HSZ.out; exact ⟨by omega, by omega, by omega, by omega, by omega⟩
                    have vc := V6.cell; have vf := V6.frozen
                    have L7 : WAt (w6.setCell ⟨io, 0, none⟩ (.slice va' n6 vcap')) il lb (lh : Int) (ll : Int) := (Below.heap_setCell _ _ _ _ (Ne.symm nel.1)).trans L6
                    have k7 : ∀ j, io ≠ j → (w6.setCell ⟨io, 0, none⟩ (.slice va' n6 vcap')).heap[j]? = w6.heap[j]? := fun j h => Below.heap_setCell _ _ _ _ (Ne.symm h)
                    clear hr6 hg6
                    have HLP := Lib.hid HLP; have HKP := Lib.hid HKP
                    refine wpAnyH_ready (rs := [5]) (by kernel_rfl) (by simp) ?_
                    refine (AllReadyH.cons (o := _) rfl (fun K hK => ?_) AllReadyH.nil)
                    go_simp
                    refine hK.out _ _ (mkS _ ((k7 i19 nel.2.1).trans (k6 _ li.1 (.inl l19.out))) ((k7 it nel.2.2.1).trans (k6 _ li.2 (.inl itl.out)))) (fun HS6 => ?_)
                    clear hK HS0
                    have HS0 := HS6
                    clear HS6
                    have x0 := L7.c0; have x1 := L7.c1; have x2 := L7.c2; have x3 := L7.f0; have x4 := L7.f1; have x5 := L7.f2
                    refine wpAnyH_ready (rs := [6]) (by kernel_rfl) (by simp) ?_
                    refine (AllReadyH.cons (o := _) rfl (fun K hK => ?_) AllReadyH.nil)
                    go_simp
                    have k8 : ∀ j, il ≠ j → ((((w6.setCell ⟨io, 0, none⟩ (.slice va' n6 vcap')).setCell ⟨il, 0, none⟩ (.bool fb)).setCell ⟨il, 1, none⟩ (.int .u64 (fh : Int))).setCell ⟨il, 2, none⟩ (.int .u64 (fl : Int))).heap[j]? = (w6.setCell ⟨io, 0, none⟩ (.slice va' n6 vcap')).heap[j]? := fun j h => (Below.heap_setCell _ _ _ _ (Ne.symm h)).trans ((Below.heap_setCell _ _ _ _ (Ne.symm h)).trans (Below.heap_setCell _ _ _ _ (Ne.symm h)))
                    refine hK.out _ _ (mkS _ ((k8 i19 nel.2.2.2.1).trans ((k7 i19 nel.2.1).trans (k6 _ li.1 (.inl l19.out)))) ((k8 it nel.2.2.2.2).trans ((k7 it nel.2.2.1).trans (k6 _ li.2 (.inl itl.out))))) (fun HS7 => ?_)
                    clear hK HS0
                    have HS0 := HS7
                    clear HS7
                    refine wpAnyH_done (by kernel_rfl) ?_ _
                    show Keep _ _ _ ∧ (Lp _ _ _ _ _ _ _ _ _ _ _ _ _ _ _ _ _ ∧ fitS _)
                    rw [EQ.out, EL.out]
                    exact ⟨HKP.out _ (fun k hk => ⟨(TT.out k hk).1, (TT.out k hk).2.1, (TT.out k hk).2.2.1⟩), HLP.out, (fitS_snoc _ _).2 ⟨HF0.out, HFIT.out⟩⟩
                  · skip
                    go_simp
                    refine hK.out _ _ (mkS _ (HZ _ li.1) (HZ _ li.2)) (fun HS1 => ?_)
                    clear hK HS0
                    have HS0 := HS1
                    clear HS1
                    refine wpAnyH_ready (rs := [0]) (by kernel_rfl) (by simp) ?_
                    refine (AllReadyH.cons (o := _) rfl (fun K hK => ?_) AllReadyH.nil)
                    go_simp
                    refine hK.out _ _ (mkS _ (HZ _ li.1) (HZ _ li.2)) (fun HS2 => ?_)
                    clear hK HS0
                    have HS0 := HS2
                    clear HS2
                    refine wpAnyH_ready (rs := [3]) (by kernel_rfl) (by simp) ?_
                    refine (AllReadyH.cons (o := _) rfl (fun K hK => ?_) AllReadyH.nil)
                    refine Elem.step (E := decE) rfl _ _ rfl (il + 2 + 2) _ _ _ [(p1, p2)] rfl rfl HR5.out SRC.out HLN.out (by decide) HB5.out ?_
                    intro v6 w6 hr6 hg6 _
                    obtain ⟨va', vcap', hv6, _, _⟩ := hr6.form
                    obtain ⟨n6, hn6⟩ : ∃ k : Nat, Hid ((rowS u aln S pre ++ [(p1, p2)]).length = k) := ⟨_, rfl⟩
                    rw [hn6.out] at hv6
                    subst hv6
                    clear hn6
                    obtain ⟨HLP, HKP⟩ := Lp.next OR.out H0.out (by have := HSZ.out; omega) HROW.out B5.out hr6 hg6 HF.out
                    have k6 : ∀ j, j < W4.heap.size → (W.heap.size ≤ j ∨ j < il + 2 + 2) → w6.heap[j]? = W4.heap[j]? := fun j h1 h2 => (hg6.block j (by simp [hdrew]; omega) (fun e => by have := HROW.out.lt j e.symm; omega)).trans (HZ j h1)
                    refine hK.out _ _ (mkS _ (k6 _ li.1 (.inl l19.out)) (k6 _ li.2 (.inl itl.out))) (fun HS5 => ?_)
                    clear hK HS0
                    have HS0 := HS5
                    clear HS5
                    have V6 : Boxed w6 io 26 (.slice va (rowS u aln S pre).length vcap) := (k6 io HV4.out.lt (.inr (by have := OR.out.d; omega))).trans HV4.out
                    have L6 : WAt w6 il lb (lh : Int) (ll : Int) := (k6 il (Nat.lt_of_lt_of_le (Array.getElem?_eq_some_iff.1 HLA0.out).1 B4.out.size) (.inr (by omega))).trans ((B4.out.block il (Array.getElem?_eq_some_iff.1 HLA0.out).1).trans HLA0.out)
                    have nel : io ≠ il ∧ io ≠ i19 ∧ io ≠ it ∧ il ≠ i19 ∧ il ≠ it := by have := OR.out.d; have := l19.out; have := itl.out; have := HSZ.out; exact ⟨by omega, by omega, by omega, by omega, by omega⟩
                    have vc := V6.cell; have vf := V6.frozen
                    have L7 : WAt (w6.setCell ⟨io, 0, none⟩ (.slice va' n6 vcap')) il lb (lh : Int) (ll : Int) := (Below.heap_setCell _ _ _ _ (Ne.symm nel.1)).trans L6
                    have k7 : ∀ j, io ≠ j → (w6.setCell ⟨io, 0, none⟩ (.slice va' n6 vcap')).heap[j]? = w6.heap[j]? := fun j h => Below.heap_setCell _ _ _ _ (Ne.symm h)
                    clear hr6 hg6
                    have HLP := Lib.hid HLP; have HKP := Lib.hid HKP
                    refine wpAnyH_ready (rs := [5]) (by kernel_rfl) (by simp) ?_
                    refine (AllReadyH.cons (o := _) rfl (fun K hK => ?_) AllReadyH.nil)
                    go_simp
                    refine hK.out _ _ (mkS _ ((k7 i19 nel.2.1).trans (k6 _ li.1 (.inl l19.out))) ((k7 it nel.2.2.1).trans (k6 _ li.2 (.inl itl.out)))) (fun HS6 => ?_)
                    clear hK HS0
                    have HS0 := HS6
                    clear HS6
                    have x0 := L7.c0; have x1 := L7.c1; have x2 := L7.c2; have x3 := L7.f0; have x4 := L7.f1; have x5 := L7.f2
                    refine wpAnyH_ready (rs := [6]) (by kernel_rfl) (by simp) ?_
                    refine (AllReadyH.cons (o := _) rfl (fun K hK => ?_) AllReadyH.nil)
                    go_simp
                    have k8 : ∀ j, il ≠ j → ((((w6.setCell ⟨io, 0, none⟩ (.slice va' n6 vcap')).setCell ⟨il, 0, none⟩ (.bool fb)).setCell ⟨il, 1, none⟩ (.int .u64 (fh : Int))).setCell ⟨il, 2, none⟩ (.int .u64 (fl : Int))).heap[j]? = (w6.setCell ⟨io, 0, none⟩ (.slice va' n6 vcap')).heap[j]? := fun j h => (Below.heap_setCell _ _ _ _ (Ne.symm h)).trans ((Below.heap_setCell _ _ _ _ (Ne.symm h)).trans (Below.heap_setCell _ _ _ _ (Ne.symm h)))
                    refine hK.out _ _ (mkS _ ((k8 i19 nel.2.2.2.1).trans ((k7 i19 nel.2.1).trans (k6 _ li.1 (.inl l19.out)))) ((k8 it nel.2.2.2.2).trans ((k7 it nel.2.2.1).trans (k6 _ li.2 (.inl itl.out))))) (fun HS7 => ?_)
                    clear hK HS0
                    have HS0 := HS7
                    clear HS7
                    refine wpAnyH_done (by kernel_rfl) ?_ _
                    show Keep _ _ _ ∧ (Lp _ _ _ _ _ _ _ _ _ _ _ _ _ _ _ _ _ ∧ fitS _)
                    rw [EQ.out, EL.out]
                    exact ⟨HKP.out _ (fun k hk => ⟨(TT.out k hk).1, (TT.out k hk).2.1, (TT.out k hk).2.2.1⟩), HLP.out, (fitS_snoc _ _).2 ⟨HF0.out, HFIT.out⟩⟩
                · have hDD : Hid (decV (z + -y) S = .tuple #[.agg #[.int .i64 0, .int .i64 0], .int .i64 11]) := by
                    show _ = _; unfold decV; rw [if_neg hfit]
                  have HFIT := Lib.hid hfit
                  clear hfit
                  gi_upto_region 18 with (refine ⟨trivial, ?_⟩; gi_at_call 32; go_loud (show CallsIn Fence.wide _ _ _ _ _ _; refine (callsIn_wide.2 (pmade_any _ _ _ _ S _ _ HD.out HS.out.2 hDD.out)).mono ?_; rintro e w23 ⟨rfl, b23⟩; have B23 := Lib.hid b23; clear b23))
                  have B4 : Hid (Below W.heap.size W (w23.alloc (.cells #[.int .i64 0, .int .i64 0] 23))) := bt (bt B3.out B23.out) (ba _ _)
                  generalize World.alloc w23 _ = W4 at B4 ⊢
                  have X4 := Lib.hid (H0.out.bx.below B4.out)
                  clear B23 T4 e0 e1 e2 sS D3 B3
                  obtain ⟨q0, q1, q2, q3, q4, f0, f1, f2, f3⟩ := X4.out.facts
                  gi_wp2
                  have NF : ¬ fitS (rowS u aln S (pre ++ [x])) := by
                    rw [rowS_snoc, hxn.out, hz.out, hy.out, Int.sub_eq_add_neg, fitS_snoc]
                    exact fun h => HFIT.out h.2
                  refine ⟨?_, rfl, NF, X4.out.setR _ _⟩
                  exact (Keep.set (Keep.set ⟨B4.out.size, fun k hk hl => B4.out.block k hl⟩ (.inr (fun h => (TT.out _ h).2.2.2.1 rfl)) _) (.inr (fun h => (TT.out _ h).2.2.2.2 rfl)) _)
            case done =>
              rintro xs W rfl ⟨h, hf⟩ hK
              have O1 := OR.out.a; have O2 := OR.out.b; have O3 := OR.out.c; have O4 := OR.out.d
              obtain ⟨v, hv, hrow⟩ := id h.out
              obtain ⟨va, vcap, rfl, _, _⟩ := hrow.form
              have E := (SA.out _ Iff.rfl).1 hf
              generalize rowS u aln S xs = R at h hf hv hrow E
              obtain ⟨rn, hrn⟩ : ∃ k : Nat, Hid (R.length = k) := ⟨_, rfl⟩
              rw [hrn.out] at hv hrow
              obtain ⟨q0, q1, q2, q3, q4, f0, f1, f2, f3⟩ := h.bx.facts
              have cv := hv.cell
              have HE := Lib.hid E; have HH := Lib.hid h; have HV := Lib.hid hv; have HRW := Lib.hid hrow; have HKK := Lib.hid hK
              clear E h hf hv hrow hK O1 O2 O3 O4
              gi_wp2
              go_wp2_with fail
              have O1 := OR.out.a; have O2 := OR.out.b; have O3 := OR.out.c; have O4 := OR.out.d
              have X4 := HH.out.bx.setR (.slice va rn vcap) (.int .i64 0)
              have HK4 : ((W.setCell ⟨i + 1 + 1, 0, none⟩ (.slice va rn vcap)).setCell ⟨i + 1 + 1 + 1, 0, none⟩ (.int .i64 0)).heap[il + 2]? = some (.deferred (some [])) := (Below.heap_setCell _ _ _ _ (show il + 2 ≠ i + 1 + 1 + 1 by omega)).trans ((Below.heap_setCell _ _ _ _ (show il + 2 ≠ i + 1 + 1 by omega)).trans HKK.out)
              have X5 : Box0 w (((W.setCell ⟨i + 1 + 1, 0, none⟩ (.slice va rn vcap)).setCell ⟨i + 1 + 1 + 1, 0, none⟩ (.int .i64 0)).putObj (il + 2) (.deferred none)) i c1 (s1 : Int) (S : Int) (.slice va rn vcap) (.int .i64 0) :=
                X4.blocks (fun k h1 h2 => World.putObj_heap_other (by omega)) (X4.bel.grown (grownBy_putObj' _ (il + 2) _) (by have := X4.a.lt; omega) (fun j e => by cases e; omega))
              obtain ⟨_, _, _, z3, z4, _, _, _, _⟩ := X5.facts
              refine ⟨by simp, .inl ⟨_, _, rfl, run_takeDeferred HK4, ?_⟩⟩
              refine ⟨.tuple #[.slice va rn vcap, .int .i64 0], by simp [results, Try.results7, go_sem, z3, z4], ?_⟩
              rw [← hP.out]
              refine ⟨.slice va rn vcap, by rw [HE.out], ?_, by rw [hi.out]; exact X5.bel⟩
              rw [HE.out]
              refine Elem.Row.block (E := decE) (w := W) (by rw [hi.out]; exact Elem.Row.low (B := il + 2 + 2) HRW.out (by omega)) (fun g hg => ?_)
              have hg1 := HRW.out.lt g hg
              exact (World.putObj_heap_other (by omega)).trans ((Below.heap_setCell _ _ _ _ (show g ≠ i + 1 + 1 + 1 by omega)).trans (Below.heap_setCell _ _ _ _ (show g ≠ i + 1 + 1 by omega)))
            case stop =>
              rintro cd pre W hSp ⟨rfl, hnf, hx⟩ hK
              have E := (SA.out _ Iff.rfl).2 (fun h => hnf (fitS_prefix hSp h))
              obtain ⟨q0, q1, q2, q3, q4, f0, f1, f2, f3⟩ := hx.facts
              have HE := Lib.hid E; have HX := Lib.hid hx; have HKK := Lib.hid hK
              clear E hx hK hSp hnf
              gi_wp2
              have O1 := OR.out.a; have O2 := OR.out.b; have O3 := OR.out.c; have O4 := OR.out.d
              have X4 := HX.out
              have HK4 : (W).heap[il + 2]? = some (.deferred (some [])) := HKK.out
              have X5 : Box0 w ((W).putObj (il + 2) (.deferred none)) i c1 (s1 : Int) (S : Int) (.slice none 0 0) (.int .i64 11) :=
                X4.blocks (fun k h1 h2 => World.putObj_heap_other (by omega)) (X4.bel.grown (grownBy_putObj' _ (il + 2) _) (by have := X4.a.lt; omega) (fun j e => by cases e; omega))
              obtain ⟨_, _, _, z3, z4, _, _, _, _⟩ := X5.facts
              refine ⟨by simp, .inl ⟨_, _, rfl, run_takeDeferred HK4, ?_⟩⟩
              refine ⟨.tuple #[.slice none 0 0, .int .i64 11], by simp [results, Try.results7, go_sem, z3, z4], ?_⟩
              rw [← hP.out]
              refine ⟨.slice none 0 0, by rw [HE.out], ?_, by rw [hi.out]; exact X5.bel⟩
              rw [HE.out]
              exact Elem.Row.nil _ _
end Go.Proofs.Ytngelemjpgglpaa.Pro
