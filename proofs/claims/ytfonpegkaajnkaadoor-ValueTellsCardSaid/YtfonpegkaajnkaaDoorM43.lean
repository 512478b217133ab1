/-
  DectextParse: walked; The document's values: May, Text, Parse, walked.
-/
import Derived.Test.YtfonpegkaajnkaaDoorM38
import Derived.Test.YtfonpegkaajnkaaDoorM42
import Derived.Test.YtfonpegkaajnkaaDoorM40
import Derived.Test.YtfonpegkaajnkaaDoorM41
/-
  DectextParse: walked.
-/
namespace Go.Proofs.YtfonpegkaajnkaaDoor.Tx
open Go Go.RowKit Dt
set_option linter.unusedSimpArgs false
set_option linter.unusedVariables false
attribute [local go_sem ↓] Go.wp_at_zero Go.wp_at_succ

theorem drparse_at {l : List UInt8} {a b e : Int} (h : dparse l = ((a, b), e)) (hl : l.length ≤ 1000) (w : World) : Calls Tryd.prog 30 #[.string (bs l)] w fun e' w' => e' = .returned (.tuple #[.agg #[.int .i64 a, .int .i64 b], .int .i64 e]) ∧ Below w.heap.size w w' := by
  have := drparse_is (w := w) l hl
  unfold DpPost at this
  rw [h] at this
  exact this
end Go.Proofs.YtfonpegkaajnkaaDoor.Tx
/-
  The document's values: May, Text, Parse, walked.
-/
namespace Go.Proofs.YtfonpegkaajnkaaDoor.Va
open Go Go.RowKit Dt Tx
set_option linter.unusedSimpArgs false
set_option linter.unusedVariables false
attribute [local go_sem ↓] Go.wp_at_zero Go.wp_at_succ

/-- the document's May, by what is decided -/
def rmay (v : V) : Bool :=
  if v.k = 0 ∨ v.k = 2 ∨ v.k = 3 then decide (v.c = 0 ∧ v.s = 0) && decide (v.e = 0)
  else if v.k = 1 then mayB v.c v.s && decide (v.e = 0)
  else if v.k = 4 then decide (v.c = 0 ∧ v.s = 0) && (decide (v.e = 11) || decide (v.e = 12) || decide (v.e = 13))
  else false
theorem rmay_eq (v : V) : rmay v = mayV v := by
  obtain ⟨k, c, s, e⟩ := v
  unfold rmay mayV isNum
  simp only [six, lookV, V.mk.injEq]
  by_cases k0 : k = 0
  · subst k0; by_cases hc : c = 0 <;> by_cases hs : s = 0 <;> by_cases he : e = 0 <;> simp [hc, hs, he]
  by_cases k1 : k = 1
  · subst k1; by_cases he : e = 0 <;> simp [he]
  by_cases k2 : k = 2
  · subst k2; by_cases hc : c = 0 <;> by_cases hs : s = 0 <;> by_cases he : e = 0 <;> simp [hc, hs, he]
  by_cases k3 : k = 3
  · subst k3; by_cases hc : c = 0 <;> by_cases hs : s = 0 <;> by_cases he : e = 0 <;> simp [hc, hs, he]
  by_cases k4 : k = 4
  · subst k4; by_cases hc : c = 0 <;> by_cases hs : s = 0 <;> by_cases h1 : e = 11 <;> by_cases h2 : e = 12 <;> by_cases h3 : e = 13 <;> simp [hc, hs, h1, h2, h3]
  · simp [k0, k1, k2, k3, k4]
set_option maxRecDepth 100000 in
set_option maxHeartbeats 1000000 in
theorem rmay_is {w : World} (v : V) (hv : v.ok) : Calls Tryd.prog 13 #[.agg #[.int .u8 v.k, .int .i64 v.c, .int .i64 v.s, .int .i64 v.e]] w fun e w' => e = .returned (.bool (mayV v)) ∧ Below w.heap.size w w' := by
  rw [← rmay_eq]
  have D := fun w => rMay_any v.c v.s w hv.2.1
  have X := Lib.hid ((Four.new w v).below (ba _ (.cells #[.int .i64 0, .int .i64 0] 24)))
  have T := Lib.hid (Two.new (w.alloc (.cells #[.int .u8 v.k, .int .i64 v.c, .int .i64 v.s, .int .i64 v.e] 27)) 0 0)
  have B := Lib.hid (bt (ba w (.cells #[.int .u8 v.k, .int .i64 v.c, .int .i64 v.s, .int .i64 v.e] 27)) (ba _ (.cells #[.int .i64 0, .int .i64 0] 24)))
  obtain ⟨k, c, s, e⟩ := v
  simp only at D X T B ⊢
  unfold rmay
  simp only
  obtain ⟨MB, hMB⟩ : ∃ b, Hid (mayB c s = b) := ⟨_, rfl⟩
  rw [hMB.out] at D ⊢
  clear hv hMB
  go_enter Tryd.func13, Tryd.ntmps13
  go_upto_region 2 with fail
  obtain ⟨w1, hw1⟩ : ∃ v, Hid (v = w.alloc (.cells #[.int .u8 k, .int .i64 c, .int .i64 s, .int .i64 e] 27)) := ⟨_, rfl⟩
  obtain ⟨i0, hi0⟩ : ∃ v, Hid (w.heap.size = v) := ⟨_, rfl⟩
  have hs1 : w1.heap.size = w.heap.size + 1 := by rw [hw1.out]; simp
  rw [← hw1.out] at B X T ⊢
  obtain ⟨ia, hia⟩ : ∃ v, Hid (w1.heap.size = v) := ⟨_, rfl⟩
  obtain ⟨wa, hwa⟩ : ∃ v, Hid (v = w1.alloc (.cells #[.int .i64 0, .int .i64 0] 24)) := ⟨_, rfl⟩
  rw [← hwa.out] at B X T ⊢
  have hs2 : w.heap.size + 1 = ia := by rw [← hs1]; exact hia.out
  rw [hia.out] at T
  first | rw [hs2] | rw [hia.out]
  rw [hi0.out] at X
  clear hw1 hwa hs1
  try rw [hi0.out]
  clear hs2 hi0 hia
  have c0 := X.out.c0; have c1 := X.out.c1; have c2 := X.out.c2; have c3 := X.out.c3
  have d0 := T.out.c0; have d1 := T.out.c1
  simp only at c0 c1 c2 c3
  by_cases k0 : k = 0
  · subst k0
    go_wp2_with fail
    all_goals
      go_ret
      exact ⟨by first | rfl | (simp [*]; done), B.out⟩
  by_cases k2 : k = 2
  · subst k2
    go_wp2_with fail
    all_goals
      go_ret
      exact ⟨by first | rfl | (simp [*]; done), B.out⟩
  by_cases k3 : k = 3
  · subst k3
    go_wp2_with fail
    all_goals
      go_ret
      exact ⟨by first | rfl | (simp [*]; done), B.out⟩
  by_cases k1 : k = 1
  · subst k1
    go_wp2_with (go_at_call 33; (with_reducible refine (D _).mono ?_); rintro e7 w7 ⟨rfl, q7⟩; have B7 := Lib.hid (bt B.out q7); have X7 := X.out.below q7; have d0 := X7.c0; have d1 := X7.c1; have d2 := X7.c2; have d3 := X7.c3; simp only at d0 d1 d2 d3; clear q7 D X7)
    all_goals
      go_ret
      exact ⟨by first | rfl | (simp [*]; done), B7.out⟩
  by_cases k4 : k = 4
  · subst k4
    have key : e = 11 ∨ (¬ e = 11 ∧ e = 12) ∨ (¬ e = 11 ∧ ¬ e = 12) := by by_cases h : e = 11 <;> by_cases h' : e = 12 <;> simp [h, h']
    rcases key with h | ⟨h, h'⟩ | ⟨h, h'⟩
    · subst h
      go_wp2_with fail
      all_goals
        go_ret
        exact ⟨by first | rfl | (simp [*]; done), B.out⟩
    · subst h'
      clear h
      go_wp2_with fail
      all_goals
        go_ret
        exact ⟨by first | rfl | (simp [*]; done), B.out⟩
    · have e1 : (e == 11) = false := by simpa using h
      have e2 : (e == 12) = false := by simpa using h'
      go_wp2_with fail
      all_goals
        go_ret
        exact ⟨by first | rfl | (simp [*]; done), B.out⟩
  go_wp2_with fail
  go_ret
  exact ⟨by first | rfl | (simp [*]; done), B.out⟩
theorem may_six {v : V} (hm : mayV v = true) (hk : ¬ v.k = 1) : ∃ l, (v, l) ∈ six ∧ textV v = l := by
  have hn : isNum v = false := by unfold isNum; simp [hk]
  unfold mayV at hm
  rw [hn] at hm
  cases hl : lookV v six with
  | none => rw [hl] at hm; cases hm
  | some l => exact ⟨l, lookV_six hl, by unfold textV; rw [hn, hl]; rfl⟩
theorem may_one {v : V} (hm : mayV v = true) (hk : v.k = 1) : textV v = textS v.c v.s ∧ mayB v.c v.s = true ∧ v.e = 0 := by
  have hn : isNum v = true := by
    cases h : isNum v
    · unfold mayV at hm
      rw [h, look_one v hk] at hm
      cases hm
    · rfl
  have hb : mayB v.c v.s = true := by unfold mayV at hm; rw [hn] at hm; exact hm
  refine ⟨by unfold textV; rw [hn, hb]; rfl, hb, ?_⟩
  have := num_eq hn
  rw [this]
set_option maxRecDepth 100000 in
set_option maxHeartbeats 1000000 in
theorem rtext_is {w : World} (v : V) (hv : v.ok) : Calls Tryd.prog 14 #[.agg #[.int .u8 v.k, .int .i64 v.c, .int .i64 v.s, .int .i64 v.e]] w fun e w' => e = .returned (.string (bs (textV v))) ∧ Below w.heap.size w w' := by
  have M := fun w => rmay_is (w := w) v hv
  have X := Lib.hid (Four.new w v)
  have B := Lib.hid (ba w (.cells #[.int .u8 v.k, .int .i64 v.c, .int .i64 v.s, .int .i64 v.e] 27))
  cases hm : mayV v
  · rw [(text_nil hv.2.1).2 hm]
    rw [hm] at M
    obtain ⟨k, c, s, e⟩ := v
    simp only at M X B ⊢
    clear hv hm
    go_enter Tryd.func14, Tryd.ntmps14
    go_upto_region 1 with fail
    obtain ⟨wa, hwa⟩ : ∃ v, Hid (v = w.alloc (.cells #[.int .u8 k, .int .i64 c, .int .i64 s, .int .i64 e] 27)) := ⟨_, rfl⟩
    obtain ⟨ia, hia⟩ : ∃ v, Hid (w.heap.size = v) := ⟨_, rfl⟩
    rw [← hwa.out] at X B ⊢
    rw [hia.out] at X ⊢
    have c0 := X.out.c0; have c1 := X.out.c1; have c2 := X.out.c2; have c3 := X.out.c3
    simp only at c0 c1 c2 c3
    clear hwa
    go_wp2_with (go_at_call 13; (with_reducible refine (M _).mono ?_); rintro e7 w7 ⟨rfl, q7⟩; have B7 := Lib.hid (bt B.out q7); clear q7 M)
    go_ret
    exact ⟨rfl, B7.out⟩
  · rw [hm] at M
    by_cases hk : v.k = 1
    · obtain ⟨ht, hb, he⟩ := may_one hm hk
      rw [ht]
      have D : ∀ w, Calls Tryd.prog 34 #[.agg #[.int .i64 v.c, .int .i64 v.s]] w (TextPost v.c v.s w) := fun w => by
        cases h : isB v.s
        · exact rtext_no v.c v.s h
        · exact rtext_yes v.c v.s hv.2.1 h
      unfold TextPost at D
      obtain ⟨S, hS⟩ : ∃ s, Hid (bs (textS v.c v.s) = s) := ⟨_, rfl⟩
      rw [hS.out] at D ⊢
      obtain ⟨k, c, s, e⟩ := v
      simp only at M X B D hk he ⊢
      subst hk he
      clear hv hm hb ht hS
      go_enter Tryd.func14, Tryd.ntmps14
      go_upto_region 1 with fail
      obtain ⟨wa, hwa⟩ : ∃ v, Hid (v = w.alloc (.cells #[.int .u8 1, .int .i64 c, .int .i64 s, .int .i64 0] 27)) := ⟨_, rfl⟩
      obtain ⟨ia, hia⟩ : ∃ v, Hid (w.heap.size = v) := ⟨_, rfl⟩
      rw [← hwa.out] at X B ⊢
      rw [hia.out] at X ⊢
      have c0 := X.out.c0; have c1 := X.out.c1; have c2 := X.out.c2; have c3 := X.out.c3
      simp only at c0 c1 c2 c3
      clear hwa
      go_upto_region 3 with (go_at_call 13; (with_reducible refine (M _).mono ?_); rintro e7 w7 ⟨rfl, q7⟩; have B7 := Lib.hid (bt B.out q7); have X7 := X.out.below q7; have d0 := X7.c0; have d1 := X7.c1; have d2 := X7.c2; have d3 := X7.c3; simp only at d0 d1 d2 d3; clear q7 M X7)
      go_wp2_with (go_at_call 34; (with_reducible refine (D _).mono ?_); rintro e8 w8 ⟨rfl, q8⟩; have B8 := Lib.hid (bt B7.out q8); clear q8 D)
      go_ret
      exact ⟨rfl, B8.out⟩
    · obtain ⟨l, hl, ht⟩ := may_six hm hk
      rw [ht]
      simp only [six, List.mem_cons, Prod.mk.injEq, List.mem_nil_iff, or_false] at hl
      clear hv hm hk ht
      rcases hl with ⟨rfl, rfl⟩ | ⟨rfl, rfl⟩ | ⟨rfl, rfl⟩ | ⟨rfl, rfl⟩ | ⟨rfl, rfl⟩ | ⟨rfl, rfl⟩
      -- the six
      · simp only at M X B ⊢
        go_enter Tryd.func14, Tryd.ntmps14
        go_upto_region 1 with fail
        obtain ⟨wa, hwa⟩ : ∃ v, Hid (v = w.alloc (.cells #[.int .u8 0, .int .i64 0, .int .i64 0, .int .i64 0] 27)) := ⟨_, rfl⟩
        obtain ⟨ia, hia⟩ : ∃ v, Hid (w.heap.size = v) := ⟨_, rfl⟩
        rw [← hwa.out] at X B ⊢
        rw [hia.out] at X ⊢
        have c0 := X.out.c0; have c1 := X.out.c1; have c2 := X.out.c2; have c3 := X.out.c3
        simp only at c0 c1 c2 c3
        clear hwa
        go_upto_region 3 with (go_at_call 13; (with_reducible refine (M _).mono ?_); rintro e7 w7 ⟨rfl, q7⟩; have B7 := Lib.hid (bt B.out q7); have X7 := X.out.below q7; have d0 := X7.c0; have d1 := X7.c1; have d2 := X7.c2; have d3 := X7.c3; simp only at d0 d1 d2 d3; clear q7 M X7)
        go_wp2_with fail
        go_ret
        exact ⟨rfl, B7.out⟩
      · simp only at M X B ⊢
        go_enter Tryd.func14, Tryd.ntmps14
        go_upto_region 1 with fail
        obtain ⟨wa, hwa⟩ : ∃ v, Hid (v = w.alloc (.cells #[.int .u8 2, .int .i64 0, .int .i64 0, .int .i64 0] 27)) := ⟨_, rfl⟩
        obtain ⟨ia, hia⟩ : ∃ v, Hid (w.heap.size = v) := ⟨_, rfl⟩
        rw [← hwa.out] at X B ⊢
        rw [hia.out] at X ⊢
        have c0 := X.out.c0; have c1 := X.out.c1; have c2 := X.out.c2; have c3 := X.out.c3
        simp only at c0 c1 c2 c3
        clear hwa
        go_upto_region 3 with (go_at_call 13; (with_reducible refine (M _).mono ?_); rintro e7 w7 ⟨rfl, q7⟩; have B7 := Lib.hid (bt B.out q7); have X7 := X.out.below q7; have d0 := X7.c0; have d1 := X7.c1; have d2 := X7.c2; have d3 := X7.c3; simp only at d0 d1 d2 d3; clear q7 M X7)
        go_wp2_with fail
        go_ret
        exact ⟨rfl, B7.out⟩
      · simp only at M X B ⊢
        go_enter Tryd.func14, Tryd.ntmps14
        go_upto_region 1 with fail
        obtain ⟨wa, hwa⟩ : ∃ v, Hid (v = w.alloc (.cells #[.int .u8 3, .int .i64 0, .int .i64 0, .int .i64 0] 27)) := ⟨_, rfl⟩
        obtain ⟨ia, hia⟩ : ∃ v, Hid (w.heap.size = v) := ⟨_, rfl⟩
        rw [← hwa.out] at X B ⊢
        rw [hia.out] at X ⊢
        have c0 := X.out.c0; have c1 := X.out.c1; have c2 := X.out.c2; have c3 := X.out.c3
        simp only at c0 c1 c2 c3
        clear hwa
        go_upto_region 3 with (go_at_call 13; (with_reducible refine (M _).mono ?_); rintro e7 w7 ⟨rfl, q7⟩; have B7 := Lib.hid (bt B.out q7); have X7 := X.out.below q7; have d0 := X7.c0; have d1 := X7.c1; have d2 := X7.c2; have d3 := X7.c3; simp only at d0 d1 d2 d3; clear q7 M X7)
        go_wp2_with fail
        go_ret
        exact ⟨rfl, B7.out⟩
      · simp only at M X B ⊢
        go_enter Tryd.func14, Tryd.ntmps14
        go_upto_region 1 with fail
        obtain ⟨wa, hwa⟩ : ∃ v, Hid (v = w.alloc (.cells #[.int .u8 4, .int .i64 0, .int .i64 0, .int .i64 11] 27)) := ⟨_, rfl⟩
        obtain ⟨ia, hia⟩ : ∃ v, Hid (w.heap.size = v) := ⟨_, rfl⟩
        rw [← hwa.out] at X B ⊢
        rw [hia.out] at X ⊢
        have c0 := X.out.c0; have c1 := X.out.c1; have c2 := X.out.c2; have c3 := X.out.c3
        simp only at c0 c1 c2 c3
        clear hwa
        go_upto_region 3 with (go_at_call 13; (with_reducible refine (M _).mono ?_); rintro e7 w7 ⟨rfl, q7⟩; have B7 := Lib.hid (bt B.out q7); have X7 := X.out.below q7; have d0 := X7.c0; have d1 := X7.c1; have d2 := X7.c2; have d3 := X7.c3; simp only at d0 d1 d2 d3; clear q7 M X7)
        go_wp2_with fail
        go_ret
        exact ⟨rfl, B7.out⟩
      · simp only at M X B ⊢
        go_enter Tryd.func14, Tryd.ntmps14
        go_upto_region 1 with fail
        obtain ⟨wa, hwa⟩ : ∃ v, Hid (v = w.alloc (.cells #[.int .u8 4, .int .i64 0, .int .i64 0, .int .i64 12] 27)) := ⟨_, rfl⟩
        obtain ⟨ia, hia⟩ : ∃ v, Hid (w.heap.size = v) := ⟨_, rfl⟩
        rw [← hwa.out] at X B ⊢
        rw [hia.out] at X ⊢
        have c0 := X.out.c0; have c1 := X.out.c1; have c2 := X.out.c2; have c3 := X.out.c3
        simp only at c0 c1 c2 c3
        clear hwa
        go_upto_region 3 with (go_at_call 13; (with_reducible refine (M _).mono ?_); rintro e7 w7 ⟨rfl, q7⟩; have B7 := Lib.hid (bt B.out q7); have X7 := X.out.below q7; have d0 := X7.c0; have d1 := X7.c1; have d2 := X7.c2; have d3 := X7.c3; simp only at d0 d1 d2 d3; clear q7 M X7)
        go_wp2_with fail
        go_ret
        exact ⟨rfl, B7.out⟩
      · simp only at M X B ⊢
        go_enter Tryd.func14, Tryd.ntmps14
        go_upto_region 1 with fail
        obtain ⟨wa, hwa⟩ : ∃ v, Hid (v = w.alloc (.cells #[.int .u8 4, .int .i64 0, .int .i64 0, .int .i64 13] 27)) := ⟨_, rfl⟩
        obtain ⟨ia, hia⟩ : ∃ v, Hid (w.heap.size = v) := ⟨_, rfl⟩
        rw [← hwa.out] at X B ⊢
        rw [hia.out] at X ⊢
        have c0 := X.out.c0; have c1 := X.out.c1; have c2 := X.out.c2; have c3 := X.out.c3
        simp only at c0 c1 c2 c3
        clear hwa
        go_upto_region 3 with (go_at_call 13; (with_reducible refine (M _).mono ?_); rintro e7 w7 ⟨rfl, q7⟩; have B7 := Lib.hid (bt B.out q7); have X7 := X.out.below q7; have d0 := X7.c0; have d1 := X7.c1; have d2 := X7.c2; have d3 := X7.c3; simp only at d0 d1 d2 d3; clear q7 M X7)
        go_wp2_with fail
        go_ret
        exact ⟨rfl, B7.out⟩
theorem drparse_any {l : List UInt8} (hl : l.length ≤ 1000) (w : World) : Calls Tryd.prog 30 #[.string (bs l)] w fun e' w' => e' = .returned (.tuple #[.agg #[.int .i64 (dparse l).1.1, .int .i64 (dparse l).1.2], .int .i64 (dparse l).2]) ∧ Below w.heap.size w w' :=
  drparse_at rfl hl w
theorem parseV_no {L : List UInt8} (h : lookW L six = none) : parseV L = if (dparse L).2 = 0 then (⟨1, (dparse L).1.1, (dparse L).1.2, 0⟩, 0) else (⟨0, 0, 0, 0⟩, 4) := by
  unfold parseV; rw [h]
set_option maxRecDepth 100000 in
set_option maxHeartbeats 2000000 in
theorem rparse_is {w : World} (L : List UInt8) (hl : L.length ≤ 1000) : Calls Tryd.prog 10 #[.string (bs L)] w (VPost (parseV L) w) := by
  have B := Lib.hid (ba w (.cells #[.int .u8 0, .int .i64 0, .int .i64 0, .int .i64 0] 27))
  have X := Lib.hid (Four.new w ⟨0, 0, 0, 0⟩)
  obtain ⟨wa, hwa⟩ : ∃ v, Hid (v = w.alloc (.cells #[.int .u8 0, .int .i64 0, .int .i64 0, .int .i64 0] 27)) := ⟨_, rfl⟩
  obtain ⟨ia, hia⟩ : ∃ v, Hid (w.heap.size = v) := ⟨_, rfl⟩
  rw [← hwa.out] at X B
  rw [hia.out] at X
  have HI := Lib.hid (show w.heap.size ≤ ia from Nat.le_of_eq hia.out)
  have f0 := X.out.f 0; have f1 := X.out.f 1; have f2 := X.out.f 2; have f3 := X.out.f 3; have g0 := X.out.c0; have g1 := X.out.c1; have g2 := X.out.c2; have g3 := X.out.c3
  by_cases hw : lookW L six = none
  · have E := parseV_no hw
    rw [E]
    have hne : ((bs L).toList == [97, 98, 115, 101, 110, 116]) = false ∧ ((bs L).toList == [116, 114, 117, 101]) = false ∧ ((bs L).toList == [102, 97, 108, 115, 101]) = false ∧ ((bs L).toList == [111, 118, 101, 114]) = false ∧ ((bs L).toList == [100, 105, 118]) = false ∧ ((bs L).toList == [109, 105, 115, 115, 105, 110, 103]) = false := by
      simp only [six, lookW] at hw
      repeat' (split at hw)
      all_goals first | (cases hw; done) | exact ⟨by rw [bs_toList]; exact beq_eq_false_iff_ne.2 ‹¬ L = wAbsent›, by rw [bs_toList]; exact beq_eq_false_iff_ne.2 ‹¬ L = wTrue›, by rw [bs_toList]; exact beq_eq_false_iff_ne.2 ‹¬ L = wFalse›, by rw [bs_toList]; exact beq_eq_false_iff_ne.2 ‹¬ L = wOver›, by rw [bs_toList]; exact beq_eq_false_iff_ne.2 ‹¬ L = wDiv›, by rw [bs_toList]; exact beq_eq_false_iff_ne.2 ‹¬ L = wMissing›⟩
    obtain ⟨n0, n1, n2, n3, n4, n5⟩ := hne
    have D := fun w => drparse_any hl w
    obtain ⟨⟨⟨a, b⟩, e⟩, hd⟩ : ∃ r, Hid (dparse L = r) := ⟨_, rfl⟩
    rw [hd.out] at D ⊢
    simp only at D ⊢
    obtain ⟨S, hS⟩ : ∃ s, Hid (bs L = s) := ⟨_, rfl⟩
    rw [hS.out] at n0 n1 n2 n3 n4 n5 D ⊢
    clear hw E hl hd hS
    have key : (e = 0) ∨ (¬ e = 0) := by by_cases h : e = 0 <;> simp [h]
    rcases key with rfl | he
    · rw [if_pos rfl]
      go_enter Tryd.func10, Tryd.ntmps10
      go_upto_region 1 with fail
      rw [← hwa.out, hia.out]
      clear hwa hia
      go_upto_region 15 with (go_at_call 30; (with_reducible refine (D _).mono ?_); rintro e7 w7 ⟨rfl, q7⟩; have B7 := Lib.hid (bt B.out (bt q7 (ba w7 (.cells #[.int .i64 a, .int .i64 b] 24)))); have X7 := Lib.hid ((X.out.below q7).below (ba w7 (.cells #[.int .i64 a, .int .i64 b] 24))); have T7 := Lib.hid (Two.new w7 a b); clear q7 D f0 f1 f2 f3 g0 g1 g2 g3)
      obtain ⟨wa7, hwa7⟩ : ∃ v, Hid (v = w7.alloc (.cells #[.int .i64 a, .int .i64 b] 24)) := ⟨_, rfl⟩
      obtain ⟨i7, hi7⟩ : ∃ v, Hid (w7.heap.size = v) := ⟨_, rfl⟩
      rw [← hwa7.out] at B7 X7 T7 ⊢
      rw [hi7.out] at T7 ⊢
      clear hwa7 hi7
      have c0 := T7.out.c0; have c1 := T7.out.c1
      have f0 := X7.out.f 0; have f1 := X7.out.f 1; have f2 := X7.out.f 2; have f3 := X7.out.f 3; have g0 := X7.out.c0; have g1 := X7.out.c1; have g2 := X7.out.c2; have g3 := X7.out.c3
      go_wp2_with fail
      refine bodyPost_ret (v := .tuple #[.agg #[.int .u8 _, .int .i64 _, .int .i64 _, .int .i64 _], .int .i64 _]) (results_cellV (fn := Tryd.f10) (p := 2) (u := 3) rfl _ _ ia _ rfl (X7.out.set _ _ _ _)) rfl ?_
      exact ⟨rfl, below_set4 B7.out HI.out _ _ _ _⟩
    · rw [if_neg he]
      have e1 : decide (e = 0) = false := by simpa using he
      have e2 : (e == 0) = false := by simpa using he
      have e3 : (e != 0) = true := by simpa using he
      clear he
      go_enter Tryd.func10, Tryd.ntmps10
      go_upto_region 1 with fail
      rw [← hwa.out, hia.out]
      clear hwa hia
      go_upto_region 15 with (go_at_call 30; (with_reducible refine (D _).mono ?_); rintro e7 w7 ⟨rfl, q7⟩; have B7 := Lib.hid (bt B.out (bt q7 (ba w7 (.cells #[.int .i64 a, .int .i64 b] 24)))); have X7 := Lib.hid ((X.out.below q7).below (ba w7 (.cells #[.int .i64 a, .int .i64 b] 24))); clear q7 D f0 f1 f2 f3 g0 g1 g2 g3)
      obtain ⟨wa7, hwa7⟩ : ∃ v, Hid (v = w7.alloc (.cells #[.int .i64 a, .int .i64 b] 24)) := ⟨_, rfl⟩
      rw [← hwa7.out] at B7 X7 ⊢
      clear hwa7
      have f0 := X7.out.f 0; have f1 := X7.out.f 1; have f2 := X7.out.f 2; have f3 := X7.out.f 3; have g0 := X7.out.c0; have g1 := X7.out.c1; have g2 := X7.out.c2; have g3 := X7.out.c3
      go_wp2_with fail
      refine bodyPost_ret (v := .tuple #[.agg #[.int .u8 _, .int .i64 _, .int .i64 _, .int .i64 _], .int .i64 _]) (results_cellV (fn := Tryd.f10) (p := 2) (u := 3) rfl _ _ ia _ rfl (X7.out.set _ _ _ _)) rfl ?_
      exact ⟨rfl, below_set4 B7.out HI.out _ _ _ _⟩
  · obtain ⟨v, hv⟩ : ∃ v, lookW L six = some v := Option.ne_none_iff_exists'.1 hw
    have hm := lookW_six hv
    rw [parseV_word hm]
    simp only [six, List.mem_cons, Prod.mk.injEq, List.mem_nil_iff, or_false] at hm
    clear hw hv hl
    rcases hm with ⟨rfl, rfl⟩ | ⟨rfl, rfl⟩ | ⟨rfl, rfl⟩ | ⟨rfl, rfl⟩ | ⟨rfl, rfl⟩ | ⟨rfl, rfl⟩
    all_goals
      simp only [bs, wAbsent, wTrue, wFalse, wOver, wDiv, wMissing]
      go_enter Tryd.func10, Tryd.ntmps10
      go_upto_region 1 with fail
      rw [← hwa.out, hia.out]
      clear hwa hia
      go_wp2_with fail
      refine bodyPost_ret (v := .tuple #[.agg #[.int .u8 _, .int .i64 _, .int .i64 _, .int .i64 _], .int .i64 _]) (results_cellV (fn := Tryd.f10) (p := 2) (u := 3) rfl _ _ ia _ rfl (X.out.set _ _ _ _)) rfl ?_
      exact ⟨rfl, below_set4 B.out HI.out _ _ _ _⟩
end Go.Proofs.YtfonpegkaajnkaaDoor.Va
