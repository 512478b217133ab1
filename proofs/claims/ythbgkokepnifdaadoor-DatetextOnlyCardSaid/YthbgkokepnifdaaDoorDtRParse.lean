/-
  datetext: the document's Parse, walked.
-/
import Derived.Test.YthbgkokepnifdaaDoorDtNumber
namespace Go.Proofs.YthbgkokepnifdaaDoor.Dt
open Go Go.RowKit
set_option linter.unusedSimpArgs false
set_option linter.unusedVariables false
attribute [local go_sem ↓] Go.wp_at_zero Go.wp_at_succ

theorem parse_len {l : List UInt8} (h : l.length ≠ 10) : parseS l = (0, 4) := by
  unfold parseS formB
  rw [if_neg (by simp [h])]
theorem parse_at {l : List UInt8} {k : Nat} {c : UInt8} (hk : k < 10) (h : l[k]? = some c) (hc : okAt k c = false) : parseS l = (0, 4) := by
  unfold parseS
  rw [if_neg]
  intro hf
  unfold formB at hf
  simp only [Bool.and_eq_true, List.all_eq_true, List.mem_range] at hf
  have := hf.2 k hk
  rw [List.getD_eq_getElem?_getD, h, Option.getD_some, hc] at this
  exact Bool.noConfusion this
theorem parse_parts {l : List UInt8} (h : l.length = 10) (h4 : l[4]? = some 45) (h7 : l[7]? = some 45) :
    (formB l = ((l.take 4).all isDg && ((l.drop 5).take 2).all isDg && (l.drop 8).all isDg)) ∧ (formB l = true → nums l = ((val (l.take 4) : Int), (val ((l.drop 5).take 2) : Int), (val (l.drop 8) : Int), 2)) := by
  match l, h with
  | [a, b, c, d, p, e, f, q, g, k], _ =>
    simp only [List.getElem?_cons_succ, List.getElem?_cons_zero, Option.some.injEq] at h4 h7
    subst h4; subst h7
    refine ⟨?_, fun hf => ?_⟩
    · simp [formB, List.range, List.range.loop, okAt, Bool.and_assoc]
    · obtain ⟨a', b', c', d', e', f', g', k', he, ⟨k1, k2, k3, k4⟩, ⟨k5, k6⟩, k7, k8⟩ := form_cases hf
      cases he
      rw [nums_form k1 k2 k3 k4 k5 k6 k7 k8]
      simp [val]
theorem numR_neg {l : List UInt8} : numR l < 0 ↔ l.all isDg = false := by
  unfold numR
  by_cases h : l.all isDg = true
  · rw [if_pos h, h]; simp
  · rw [if_neg h]; simpa using h
theorem numR_val {l : List UInt8} (h : ¬ numR l < 0) : l.all isDg = true ∧ (val l : Int) = numR l := by
  have : l.all isDg = true := by
    cases e : l.all isDg
    · exact absurd (numR_neg.2 e) h
    · rfl
  refine ⟨this, ?_⟩
  unfold numR; rw [if_pos this]
theorem slice_lo (l : List UInt8) (i j : Nat) : (bs l).extract i j = bs ((l.drop i).take (j - i)) := by
  unfold bs
  apply ByteArray.ext
  rw [ByteArray.data_extract]
  simp [List.extract_eq_take_drop]
theorem parse_no {l : List UInt8} (h : l.length = 10) (h4 : l[4]? = some 45) (h7 : l[7]? = some 45) (hn : numR (l.take 4) < 0 ∨ numR ((l.drop 5).take 2) < 0 ∨ numR (l.drop 8) < 0) : parseS l = (0, 4) := by
  unfold parseS
  rw [if_neg]
  rw [(parse_parts h h4 h7).1]
  rcases hn with k | k | k
  · rw [numR_neg.1 k]; simp
  · rw [numR_neg.1 k]; simp
  · rw [numR_neg.1 k]; simp
theorem parse_so {l : List UInt8} (h : l.length = 10) (h4 : l[4]? = some 45) (h7 : l[7]? = some 45) {y m d : Int} (e1 : numR (l.take 4) = y) (e2 : numR ((l.drop 5).take 2) = m) (e3 : numR (l.drop 8) = d) (hy : ¬ y < 0) (hm : ¬ m < 0) (hd : ¬ d < 0) :
    (Cal.Valid y m d → parseS l = (Cal.dayN y m d, 0)) ∧ (¬ (1 ≤ d ∧ d ≤ Cal.len y m) → parseS l = (0, 15)) ∧ ((1 ≤ d ∧ d ≤ Cal.len y m) → Cal.Valid y m d) := by
  subst e1; subst e2; subst e3
  obtain ⟨a1, b1⟩ := numR_val hy
  obtain ⟨a2, b2⟩ := numR_val hm
  obtain ⟨a3, b3⟩ := numR_val hd
  obtain ⟨p1, p2⟩ := parse_parts h h4 h7
  have hf : formB l = true := by rw [p1, a1, a2, a3]; rfl
  have n := p2 hf
  rw [b1, b2, b3] at n
  refine ⟨fun v => ?_, fun v => ?_, fun v => Cal.valid_of _ _ _ v.1 v.2⟩
  · unfold parseS validB
    rw [if_pos hf, n]
    obtain ⟨_, _, _, _, v5, v6⟩ := v
    exact if_pos (by simpa using ⟨v5, v6⟩)
  · unfold parseS validB
    rw [if_pos hf, n]
    exact if_neg (by simpa using v)
theorem number_k {w : World} (l : List UInt8) (hl : l.length ≤ 4) : Calls Tryd.prog 16 #[.string (bs l)] w fun e w' => e = .returned (.int .i64 (numR l)) ∧ w' = w := (number_is l hl).mono fun e w' h => ⟨h.1, h.2.symm⟩
def ParsePost (l : List UInt8) (w : World) (e : Ending) (w' : World) : Prop := e = .returned (.tuple #[.int .i64 (parseS l).1, .int .i64 (parseS l).2]) ∧ Below w.heap.size w w'
theorem ParsePost.mk {l : List UInt8} {n e : Int} {w w' : World} (h : parseS l = (n, e)) (hb : Below w.heap.size w w') : ParsePost l w (.returned (.tuple #[.int .i64 n, .int .i64 e])) w' := by
  unfold ParsePost; rw [h]; exact ⟨rfl, hb⟩
set_option maxRecDepth 100000 in
set_option maxHeartbeats 1000000 in
theorem rparse_is {w : World} (l : List UInt8) (hl : l.length < 9223372036854775807) : Calls Tryd.prog 8 #[.string (bs l)] w (ParsePost l w) := by
  have hz : (bs l).size = l.length := bs_size l
  obtain ⟨N, hN⟩ : ∃ N, Hid (l.length = N) := ⟨_, rfl⟩
  rw [hN.out] at hz hl
  by_cases h10 : N = 10
  · obtain rfl := h10
    obtain ⟨c4, hc4⟩ : ∃ c, l[4]? = some c := ⟨_, List.getElem?_eq_getElem (by rw [hN.out]; decide)⟩
    obtain ⟨c7, hc7⟩ : ∃ c, l[7]? = some c := ⟨_, List.getElem?_eq_getElem (by rw [hN.out]; decide)⟩
    have i4 : ∀ w, (Instr.index 9 (.string (bs l)) (.int .i64 4)).run Tryd.prog w = .ok (.int .u8 (c4.toNat : Int)) w := at_byte l 4 c4 hc4
    have i7 : ∀ w, (Instr.index 9 (.string (bs l)) (.int .i64 7)).run Tryd.prog w = .ok (.int .u8 (c7.toNat : Int)) w := at_byte l 7 c7 hc7
    have b4 : c4 ≠ 45 → parseS l = (0, 4) := fun h => parse_at (by decide) hc4 (by simp [okAt, h])
    have b7 : c7 ≠ 45 → parseS l = (0, 4) := fun h => parse_at (by decide) hc7 (by simp [okAt, h])
    by_cases q4 : c4 = 45
    · subst q4
      by_cases q7 : c7 = 45
      · subst q7
        have x1 : ∀ w, (Instr.slice 9 (.string (bs l)) none (some (.int .i64 4)) none).run Tryd.prog w = .ok (.string (bs (l.take 4))) w := fun w => by
          rw [run_slice_string_h (P := Tryd.prog) w (t := 9) (s := bs l) (ht := Tryd.underlying9) (kh := .i64) (h := 4) (h0 := by decide) (h2 := by rw [hz]; decide)]
          rw [slice_lo]; rfl
        have x2 : ∀ w, (Instr.slice 9 (.string (bs l)) (some (.int .i64 5)) (some (.int .i64 7)) none).run Tryd.prog w = .ok (.string (bs ((l.drop 5).take 2))) w := fun w => by
          rw [run_slice_string (P := Tryd.prog) w 9 (bs l) .i64 .i64 5 7 Tryd.underlying9 (by decide) (by decide) (by rw [hz]; decide)]
          rw [slice_lo]; rfl
        have x3 : ∀ w, (Instr.slice 9 (.string (bs l)) (some (.int .i64 8)) none none).run Tryd.prog w = .ok (.string (bs (l.drop 8))) w := fun w => by
          rw [run_slice_string_l (P := Tryd.prog) w (t := 9) (s := bs l) (ht := Tryd.underlying9) (kl := .i64) (l := 8) (h0 := by decide) (h1 := by rw [hz]; decide)]
          rw [slice_lo, hz, List.take_of_length_le (by rw [List.length_drop, hN.out]; decide)]; rfl
        have A1 := fun w => number_k (w := w) (l.take 4) (by rw [List.length_take]; omega)
        have A2 := fun w => number_k (w := w) ((l.drop 5).take 2) (by rw [List.length_take]; omega)
        have A3 := fun w => number_k (w := w) (l.drop 8) (by rw [List.length_drop, hN.out]; decide)
        have No := parse_no hN.out hc4 hc7
        obtain ⟨y, hy⟩ : ∃ y, numR (l.take 4) = y := ⟨_, rfl⟩
        obtain ⟨m, hm⟩ : ∃ y, numR ((l.drop 5).take 2) = y := ⟨_, rfl⟩
        obtain ⟨d, hd⟩ : ∃ y, numR (l.drop 8) = y := ⟨_, rfl⟩
        have So := parse_so hN.out hc4 hc7 hy hm hd
        rw [hy] at A1 No; rw [hm] at A2 No; rw [hd] at A3 No
        obtain ⟨S1, hS1⟩ : ∃ S, Hid (bs (l.take 4) = S) := ⟨_, rfl⟩
        obtain ⟨S2, hS2⟩ : ∃ S, Hid (bs ((l.drop 5).take 2) = S) := ⟨_, rfl⟩
        obtain ⟨S3, hS3⟩ : ∃ S, Hid (bs (l.drop 8) = S) := ⟨_, rfl⟩
        rw [hS1.out] at A1 x1; rw [hS2.out] at A2 x2; rw [hS3.out] at A3 x3
        obtain ⟨S, hS⟩ : ∃ S, Hid (bs l = S) := ⟨_, rfl⟩
        rw [hS.out] at x1 x2 x3 i4 i7 hz ⊢
        have i4' : ∀ w, (Instr.index 9 (.string S) (.int .i64 4)).run Tryd.prog w = .ok (.int .u8 45) w := i4
        have i7' : ∀ w, (Instr.index 9 (.string S) (.int .i64 7)).run Tryd.prog w = .ok (.int .u8 45) w := i7
        have HNo := Lib.hid No
        have HSo := Lib.hid So
        clear hc4 hc7 i4 i7 b4 b7 hl hy hm hd No So hS1 hS2 hS3 hS
        by_cases g1 : y < 0
        · have r := Lib.hid (HNo.out (.inl g1))
          have d1 : decide (y < 0) = true := by simpa using g1
          clear g1 HNo HSo
          go_enter Tryd.func8, Tryd.ntmps8
          go_upto_region 3 with fail
          go_quiet (first | (go_at_call 16; with_reducible refine Calls.quiet_of_same (A1 _)) | (go_at_call 16; with_reducible refine Calls.quiet_of_same (A2 _)) | (go_at_call 16; with_reducible refine Calls.quiet_of_same (A3 _)))
          go_wp2_with fail
          go_ret2
          exact ParsePost.mk r.out (drewN_below _ _)
        · have d1 : decide (y < 0) = false := by simpa using g1
          by_cases g2 : m < 0
          · have r := Lib.hid (HNo.out (.inr (.inl g2)))
            have d2 : decide (m < 0) = true := by simpa using g2
            clear g1 g2 HNo HSo
            go_enter Tryd.func8, Tryd.ntmps8
            go_upto_region 3 with fail
            go_quiet (first | (go_at_call 16; with_reducible refine Calls.quiet_of_same (A1 _)) | (go_at_call 16; with_reducible refine Calls.quiet_of_same (A2 _)) | (go_at_call 16; with_reducible refine Calls.quiet_of_same (A3 _)))
            go_wp2_with fail
            go_ret2
            exact ParsePost.mk r.out (drewN_below _ _)
          · have d2 : decide (m < 0) = false := by simpa using g2
            by_cases g3 : d < 0
            · have r := Lib.hid (HNo.out (.inr (.inr g3)))
              have d3 : decide (d < 0) = true := by simpa using g3
              clear g1 g2 g3 HNo HSo
              go_enter Tryd.func8, Tryd.ntmps8
              go_upto_region 3 with fail
              go_quiet (first | (go_at_call 16; with_reducible refine Calls.quiet_of_same (A1 _)) | (go_at_call 16; with_reducible refine Calls.quiet_of_same (A2 _)) | (go_at_call 16; with_reducible refine Calls.quiet_of_same (A3 _)))
              go_wp2_with fail
              go_ret2
              exact ParsePost.mk r.out (drewN_below _ _)
            · have d3 : decide (d < 0) = false := by simpa using g3
              obtain ⟨t1, t2, t3⟩ := HSo.out g1 g2 g3
              by_cases g : 1 ≤ d ∧ d ≤ Cal.len y m
              · have r := Lib.hid (t1 (t3 g))
                have D := fun w => rday_yes y m d w (t3 g)
                obtain ⟨n, hn⟩ : ∃ n, Hid (Cal.dayN y m d = n) := ⟨_, rfl⟩
                rw [hn.out] at r D
                clear g1 g2 g3 HNo HSo g t1 t2 t3
                go_enter Tryd.func8, Tryd.ntmps8
                go_upto_region 3 with fail
                go_quiet (first | (go_at_call 16; with_reducible refine Calls.quiet_of_same (A1 _)) | (go_at_call 16; with_reducible refine Calls.quiet_of_same (A2 _)) | (go_at_call 16; with_reducible refine Calls.quiet_of_same (A3 _)))
                go_wp2_with (go_at_call 17; (with_reducible refine (D _).mono ?_); rintro e w2 ⟨rfl, rfl⟩)
                go_ret2
                exact ParsePost.mk r.out (drewN_below _ _)
              · have r := Lib.hid (t2 g)
                have D := fun w => rday_no y m d w g
                clear g1 g2 g3 HNo HSo g t1 t2 t3
                go_enter Tryd.func8, Tryd.ntmps8
                go_upto_region 3 with fail
                go_quiet (first | (go_at_call 16; with_reducible refine Calls.quiet_of_same (A1 _)) | (go_at_call 16; with_reducible refine Calls.quiet_of_same (A2 _)) | (go_at_call 16; with_reducible refine Calls.quiet_of_same (A3 _)))
                go_wp2_with (go_at_call 17; (with_reducible refine (D _).mono ?_); rintro e w2 ⟨rfl, rfl⟩)
                go_ret2
                exact ParsePost.mk r.out (drewN_below _ _)
      · have r := Lib.hid (b7 q7)
        obtain ⟨S, hS⟩ : ∃ S, Hid (bs l = S) := ⟨_, rfl⟩
        rw [hS.out] at i4 i7 hz ⊢
        have i4' : ∀ w, (Instr.index 9 (.string S) (.int .i64 4)).run Tryd.prog w = .ok (.int .u8 45) w := i4
        have xn : c7.toNat ≠ 45 := fun h => q7 (UInt8.toNat.inj h)
        obtain ⟨x, hx⟩ : ∃ x, c7.toNat = x := ⟨_, rfl⟩
        rw [hx] at xn i7
        have d1 : decide (x = 45) = false := by simpa using xn
        have d2 : ((x : Int) == 45) = false := by simp; omega
        clear hx hc4 hc7 i4 b4 b7 hl q7 hS xn
        go_enter Tryd.func8, Tryd.ntmps8
        go_wp2_with fail
        go_ret2
        exact ParsePost.mk r.out (Below.refl _ _)
    · have r := Lib.hid (b4 q4)
      obtain ⟨S, hS⟩ : ∃ S, Hid (bs l = S) := ⟨_, rfl⟩
      rw [hS.out] at i4 i7 hz ⊢
      have xn : c4.toNat ≠ 45 := fun h => q4 (UInt8.toNat.inj h)
      obtain ⟨x, hx⟩ : ∃ x, c4.toNat = x := ⟨_, rfl⟩
      rw [hx] at xn i4
      have d1 : decide (x = 45) = false := by simpa using xn
      have d2 : ((x : Int) == 45) = false := by simp; omega
      clear hx hc4 hc7 b4 b7 hl q4 hS xn i7
      go_enter Tryd.func8, Tryd.ntmps8
      go_wp2_with fail
      go_ret2
      exact ParsePost.mk r.out (Below.refl _ _)
  · have r := Lib.hid (parse_len (l := l) (by rw [hN.out]; exact h10))
    obtain ⟨S, hS⟩ : ∃ S, Hid (bs l = S) := ⟨_, rfl⟩
    rw [hS.out] at hz ⊢
    have d1 : decide (N = 10) = false := by simpa using h10
    have d2 : ((N : Int) == 10) = false := by simp; omega
    have d3 : ((N : Int) != 10) = true := by simp; omega
    clear h10 hS
    go_enter Tryd.func8, Tryd.ntmps8
    go_wp2_with fail
    go_ret2
    exact ParsePost.mk r.out (Below.refl _ _)
end Go.Proofs.YthbgkokepnifdaaDoor.Dt
