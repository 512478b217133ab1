/-
  value.Text, value.Truth, value.Num, value.Bad, walked.
-/
import Derived.Test.YtfonpegkaajnkaaDoorM38
/-
  value.Text, value.Truth, value.Num, value.Bad, walked.
-/
namespace Go.Proofs.YtfonpegkaajnkaaDoor.Va
open Go Go.RowKit Dt Tx
set_option linter.unusedSimpArgs false
set_option linter.unusedVariables false
attribute [local go_sem ↓] Go.wp_at_zero Go.wp_at_succ

theorem look_one (v : V) (h : v.k = 1) : lookV v six = none := by
  cases hl : lookV v six with
  | none => rfl
  | some l =>
    have hm := lookV_six hl
    simp only [six, List.mem_cons, Prod.mk.injEq, List.mem_nil_iff, or_false] at hm
    rcases hm with ⟨rfl, _⟩ | ⟨rfl, _⟩ | ⟨rfl, _⟩ | ⟨rfl, _⟩ | ⟨rfl, _⟩ | ⟨rfl, _⟩ <;> simp at h
theorem text_look (v : V) (h : ¬ (mayV v = true ∧ v.k = 1)) : textV v = (lookV v six).getD [] := by
  unfold textV
  cases hn : isNum v
  · rfl
  · have e := num_eq hn
    have hk : v.k = 1 := by rw [e]
    have hm : mayB v.c v.s = false := by
      cases hb : mayB v.c v.s
      · rfl
      · exact absurd ⟨by unfold mayV; rw [hn]; exact hb, hk⟩ h
    rw [hm, look_one v hk]; rfl
set_option maxRecDepth 100000 in
theorem text_is {w : World} (v : V) (hv : v.ok) (he : Env w) : Calls Tryd.prog 11 #[.agg #[.int .u8 v.k, .int .i64 v.c, .int .i64 v.s, .int .i64 v.e]] w fun e w' => e = .returned (.string (bs (textV v))) ∧ Below w.heap.size w w' := by
  have A := fun w => look_is (w := w) v hv
  have D := fun w h => text_any (w := w) v.c v.s hv.2.1 h
  have M := fun w => may_is (w := w) v hv
  have X := Lib.hid (Four.new w v)
  have HE := Lib.hid he
  have B := Lib.hid (ba w (.cells #[.int .u8 v.k, .int .i64 v.c, .int .i64 v.s, .int .i64 v.e] 27))
  unfold TextPost at D
  by_cases hm : mayV v = true ∧ v.k = 1
  · have R : textV v = textS v.c v.s := by
      have hi : isNum v = true := by
        cases hn : isNum v
        · have := hm.1
          unfold mayV at this
          rw [hn, look_one v hm.2] at this
          cases this
        · rfl
      have hb : mayB v.c v.s = true := by have := hm.1; unfold mayV at this; rw [hi] at this; exact this
      unfold textV; rw [hi, hb]; rfl
    rw [R]
    obtain ⟨S, hS⟩ : ∃ s, Hid (bs (textS v.c v.s) = s) := ⟨_, rfl⟩
    rw [hS.out] at D ⊢
    rw [hm.1] at M
    obtain ⟨k, c, s, e⟩ := v
    simp only at A D X B M hm ⊢
    obtain ⟨_, rfl⟩ := hm
    clear R hv A hS he
    go_enter Tryd.func11, Tryd.ntmps11
    go_upto_region 1 with fail
    obtain ⟨wa, hwa⟩ : ∃ v, Hid (v = w.alloc (.cells #[.int .u8 1, .int .i64 c, .int .i64 s, .int .i64 e] 27)) := ⟨_, rfl⟩
    obtain ⟨ia, hia⟩ : ∃ v, Hid (w.heap.size = v) := ⟨_, rfl⟩
    rw [← hwa.out] at X B ⊢
    rw [hia.out] at X ⊢
    have c0 := X.out.c0; have c1 := X.out.c1; have c2 := X.out.c2; have c3 := X.out.c3
    simp only at c0 c1 c2 c3
    clear hwa
    go_upto_region 2 with (go_at_call 12; (with_reducible refine (M _).mono ?_); rintro e1 w1 ⟨rfl, q1⟩; have X1 := X.out.below q1; have B1 := Lib.hid (bt B.out q1); have d0 := X1.c0; have d1 := X1.c1; have d2 := X1.c2; have d3 := X1.c3; simp only at d0 d1 d2 d3; clear q1 M X1)
    have D' := D w1 (HE.out.below B1.out)
    clear D c0 c1 c2 c3
    go_wp2_with (go_at_call 31; (with_reducible refine D'.mono ?_); rintro e7 w7 ⟨rfl, q7⟩; have B7 := Lib.hid (bt B1.out q7); clear q7 D')
    go_ret
    exact ⟨rfl, B7.out⟩
  · rw [text_look v hm]
    obtain ⟨S, hS⟩ : ∃ s, Hid (bs ((lookV v six).getD []) = s) := ⟨_, rfl⟩
    obtain ⟨ok, hok⟩ : ∃ b, Hid ((lookV v six).isSome = b) := ⟨_, rfl⟩
    unfold LookPost at A
    rw [hok.out, hS.out] at A
    rw [hS.out]
    obtain ⟨mb, hmb⟩ : ∃ b, Hid (mayV v = b) := ⟨_, rfl⟩
    rw [hmb.out] at hm M
    obtain ⟨k, c, s, e⟩ := v
    simp only at A D X B M hm ⊢
    have key : (k == 1) = false ∧ decide (k = 1) = false ∧ ¬ k = 1 ∨ mb = false := by
      cases mb
      · exact .inr rfl
      · have : ¬ k = 1 := fun h => hm ⟨rfl, h⟩
        exact .inl ⟨by simpa using this, by simpa using this, this⟩
    clear hv hS he hok hmb hm D
    rcases key with ⟨k1, k2, k3⟩ | rfl
    all_goals
      go_enter Tryd.func11, Tryd.ntmps11
      go_upto_region 1 with fail
      obtain ⟨wa, hwa⟩ : ∃ v, Hid (v = w.alloc (.cells #[.int .u8 k, .int .i64 c, .int .i64 s, .int .i64 e] 27)) := ⟨_, rfl⟩
      obtain ⟨ia, hia⟩ : ∃ v, Hid (w.heap.size = v) := ⟨_, rfl⟩
      rw [← hwa.out] at X B ⊢
      rw [hia.out] at X ⊢
      have c0 := X.out.c0; have c1 := X.out.c1; have c2 := X.out.c2; have c3 := X.out.c3
      simp only at c0 c1 c2 c3
      clear hwa
      go_upto_region 3 with (go_at_call 12; (with_reducible refine (M _).mono ?_); rintro e1 w1 ⟨rfl, q1⟩; have X1 := Lib.hid (X.out.below q1); have B1 := Lib.hid (bt B.out q1); have d0 := X1.out.c0; have d1 := X1.out.c1; have d2 := X1.out.c2; have d3 := X1.out.c3; simp only at d0 d1 d2 d3; clear q1 M)
    all_goals
      clear c0 c1 c2 c3
      have X' := X1.out.below (w' := w1.drew) ⟨rfl, rfl, rfl, Nat.le_refl _, fun _ _ => rfl⟩
      have HS0 : (fun w' : World => w'.cell? ⟨ia, 0, none⟩ = some (.int .u8 k) ∧ w'.cell? ⟨ia, 1, none⟩ = some (.int .i64 c) ∧ w'.cell? ⟨ia, 2, none⟩ = some (.int .i64 s) ∧ w'.cell? ⟨ia, 3, none⟩ = some (.int .i64 e)) w1.drew := ⟨d0, d1, d2, d3⟩
      have A' := A w1.drew
      clear A
      go_region_held3 (fun w' : World => w'.cell? ⟨ia, 0, none⟩ = some (.int .u8 k) ∧ w'.cell? ⟨ia, 1, none⟩ = some (.int .i64 c) ∧ w'.cell? ⟨ia, 2, none⟩ = some (.int .i64 s) ∧ w'.cell? ⟨ia, 3, none⟩ = some (.int .i64 e))
        (first | with_reducible exact HS0 | with_reducible assumption)
        (first
          | (go_at_call 28; (with_reducible refine A'.mono ?_); rintro e7 w7 ⟨b7, rfl, q7, _, l7⟩; have X7 := X'.below q7; have HS7 : w7.cell? ⟨ia, 0, none⟩ = some (.int .u8 k) ∧ w7.cell? ⟨ia, 1, none⟩ = some (.int .i64 c) ∧ w7.cell? ⟨ia, 2, none⟩ = some (.int .i64 s) ∧ w7.cell? ⟨ia, 3, none⟩ = some (.int .i64 e) := ⟨X7.c0, X7.c1, X7.c2, X7.c3⟩; have B7 := Lib.hid (bt (B1.out.drew) q7); clear q7 A' X7))
      clear HS0 d0 d1 d2 d3
      go_wp2_with fail
      go_ret
      exact ⟨rfl, B7.out⟩
def truthV (b : Bool) : V := if b = true then ⟨2, 0, 0, 0⟩ else ⟨3, 0, 0, 0⟩
def vvV (v : V) : Value := .agg #[.int .u8 v.k, .int .i64 v.c, .int .i64 v.s, .int .i64 v.e]
theorem truth_is {w : World} (b : Bool) : Calls Tryd.prog 17 #[.bool b] w fun e w' => e = .returned (.agg #[.int .u8 (if b = true then 2 else 3), .int .i64 0, .int .i64 0, .int .i64 0]) ∧ Below w.heap.size w w' := by
  have X := Lib.hid (Four.new w ⟨0, 0, 0, 0⟩)
  have B := Lib.hid (ba w (.cells #[.int .u8 0, .int .i64 0, .int .i64 0, .int .i64 0] 27))
  cases b
  all_goals
    go_enter Tryd.func17, Tryd.ntmps17
    go_upto_region 1 with fail
    obtain ⟨wa, hwa⟩ : ∃ v, Hid (v = w.alloc (.cells #[.int .u8 0, .int .i64 0, .int .i64 0, .int .i64 0] 27)) := ⟨_, rfl⟩
    obtain ⟨ia, hia⟩ : ∃ v, Hid (w.heap.size = v) := ⟨_, rfl⟩
    rw [← hwa.out] at X B ⊢
    rw [hia.out] at X ⊢
    have c0 := X.out.c0; have c1 := X.out.c1; have c2 := X.out.c2; have c3 := X.out.c3
    have f0 := X.out.f 0; have f1 := X.out.f 1; have f2 := X.out.f 2; have f3 := X.out.f 3
    clear hwa
    go_wp2_with fail
    refine bodyPost_ret (v := .agg #[.int .u8 _, .int .i64 _, .int .i64 _, .int .i64 _]) (results_cell_row (fn := Tryd.f17) (p := 2) rfl _ _ ia _ _ (0, 0) _ rfl (X.out.set _ _ _ _) Tryd.underlying27 rfl (by kernel_rfl)) rfl ?_
    exact ⟨rfl, below_set4 B.out (Nat.le_of_eq hia.out) _ _ _ _⟩
theorem results_cellV {fn : Func} {p u : Tmp} (h : fn.results = #[.cell p 27, .tmp u]) (tmps : Array Value) (w : World) (g : Nat) (v : V) (hp : tmps.getD p undef = .pointer (some ⟨g, 0, none⟩)) (hg : Four w g v) :
    (results fn tmps).run Tryd.prog w = .ok (.tuple #[.agg #[.int .u8 v.k, .int .i64 v.c, .int .i64 v.s, .int .i64 v.e], tmps.getD u undef]) w :=
  results_cell2 h tmps w g _ _ (0, 0) _ hp hg Tryd.underlying27 rfl (by kernel_rfl)
/-- what is made of a number -/
def numS (c s : Int) : V × Int := if isB s = true then (⟨1, canC c s, canS c s, 0⟩, 0) else (⟨0, 0, 0, 0⟩, 2)
def VPost (r : V × Int) (w : World) (e : Ending) (w' : World) : Prop := e = .returned (.tuple #[.agg #[.int .u8 r.1.k, .int .i64 r.1.c, .int .i64 r.1.s, .int .i64 r.1.e], .int .i64 r.2]) ∧ Below w.heap.size w w'
set_option maxRecDepth 100000 in
theorem num_is {w : World} (c s : Int) (hc : Fit c) : Calls Tryd.prog 15 #[.agg #[.int .i64 c, .int .i64 s]] w (VPost (numS c s) w) := by
  have B := Lib.hid (bt (ba w (.cells #[.int .i64 c, .int .i64 s] 24)) (ba _ (.cells #[.int .u8 0, .int .i64 0, .int .i64 0, .int .i64 0] 27)))
  have D := Lib.hid ((Two.new w c s).below (ba _ (.cells #[.int .u8 0, .int .i64 0, .int .i64 0, .int .i64 0] 27)))
  have X := Lib.hid (Four.new (w.alloc (.cells #[.int .i64 c, .int .i64 s] 24)) ⟨0, 0, 0, 0⟩)
  have L1 : w.heap.size < (w.alloc (.cells #[.int .i64 c, .int .i64 s] 24)).heap.size := by simp
  have hb : ∃ p q f : Int, putV c s = .tuple #[.agg #[.int .i64 p, .int .i64 q], .int .i64 f] ∧ (f = 0 ∧ numS c s = (⟨1, p, q, 0⟩, 0) ∨ f = 2 ∧ numS c s = (⟨0, 0, 0, 0⟩, 2)) := by
    cases h : isB s
    · exact ⟨0, 0, 2, putV_no h, .inr ⟨rfl, by unfold numS; rw [h]; rfl⟩⟩
    · exact ⟨_, _, 0, putV_ok hc h, .inl ⟨rfl, by unfold numS; rw [h]; rfl⟩⟩
  obtain ⟨p, q, f, hp, hf⟩ := hb
  have P := fun w => dPut_any c s _ w hc hp
  clear hp
  rcases hf with ⟨rfl, hn⟩ | ⟨rfl, hn⟩
  all_goals
    rw [hn]
    clear hn hc
    go_enter Tryd.func15, Tryd.ntmps15
    go_upto_region 1 with fail
    obtain ⟨w1, hw1⟩ : ∃ v, Hid (v = w.alloc (.cells #[.int .i64 c, .int .i64 s] 24)) := ⟨_, rfl⟩
    obtain ⟨i0, hi0⟩ : ∃ v, Hid (w.heap.size = v) := ⟨_, rfl⟩
    have hs1 : w1.heap.size = w.heap.size + 1 := by rw [hw1.out]; simp
    rw [← hw1.out] at B D X L1 ⊢
    obtain ⟨ia, hia⟩ : ∃ v, Hid (w1.heap.size = v) := ⟨_, rfl⟩
    obtain ⟨wa, hwa⟩ : ∃ v, Hid (v = w1.alloc (.cells #[.int .u8 0, .int .i64 0, .int .i64 0, .int .i64 0] 27)) := ⟨_, rfl⟩
    rw [← hwa.out] at B D X ⊢
    have hs2 : w.heap.size + 1 = ia := by rw [← hs1]; exact hia.out
    rw [hia.out] at X L1
    first | rw [hs2] | rw [hia.out]
    rw [hi0.out] at D L1
    clear hw1 hwa hs1
    try rw [hi0.out]
    have HB := Lib.hid (show w.heap.size ≤ i0 from Nat.le_of_eq hi0.out)
    have HI := Lib.hid (show w.heap.size ≤ ia by rw [← hs2]; exact Nat.le_succ _)
    have ne1 : ¬ i0 = ia := by omega
    have ne2 : ¬ ia = i0 := by omega
    clear hs2 hi0 hia L1
    have c0 := D.out.c0; have c1 := D.out.c1
    go_upto_region 2 with (go_at_call 35; (with_reducible refine (P _).mono ?_); rintro e1 w1' ⟨rfl, q1⟩; have B1 := Lib.hid (bt B.out q1); have D1 := Lib.hid (D.out.below q1); have X1 := Lib.hid (X.out.below q1); have f0 := D1.out.f 0; have f1 := D1.out.f 1; have d0 := D1.out.c0; have d1 := D1.out.c1; clear q1 P c0 c1)
    have D2 := Lib.hid (D1.out.set p q)
    have X2 := Lib.hid (X1.out.other2 ne2 (.int .i64 p) (.int .i64 q))
    have B2 := Lib.hid (Below.setCell (Below.setCell B1.out (p := ⟨i0, 0, none⟩) HB.out (.int .i64 p)) (p := ⟨i0, 1, none⟩) HB.out (.int .i64 q))
    obtain ⟨wd, hwd⟩ : ∃ v, Hid (v = (w1'.setCell ⟨i0, 0, none⟩ (.int .i64 p)).setCell ⟨i0, 1, none⟩ (.int .i64 q)) := ⟨_, rfl⟩
    rw [← hwd.out] at D2 X2 B2 ⊢
    clear hwd f0 f1 ne1 ne2 d0 d1
    have c0 := D2.out.c0; have c1 := D2.out.c1
    have f0 := X2.out.f 0; have f1 := X2.out.f 1; have f2 := X2.out.f 2; have f3 := X2.out.f 3
    have g0 := X2.out.c0; have g1 := X2.out.c1; have g2 := X2.out.c2; have g3 := X2.out.c3
    go_wp2_with fail
    refine bodyPost_ret (v := .tuple #[.agg #[.int .u8 _, .int .i64 _, .int .i64 _, .int .i64 _], .int .i64 _]) (results_cellV (fn := Tryd.f15) (p := 2) (u := 3) rfl _ _ ia _ rfl (X2.out.set _ _ _ _)) rfl ?_
    exact ⟨rfl, below_set4 B2.out HI.out _ _ _ _⟩
def badV (n : Int) : V × Int := if mayV ⟨4, 0, 0, n⟩ = true then (⟨4, 0, 0, n⟩, 0) else (⟨0, 0, 0, 0⟩, 2)
set_option maxRecDepth 100000 in
theorem bad_is {w : World} (n : Int) (hn : fits n) : Calls Tryd.prog 16 #[.int .i64 n] w (VPost (badV n) w) := by
  have B := Lib.hid (bt (ba w (.cells #[.int .u8 0, .int .i64 0, .int .i64 0, .int .i64 0] 27)) (ba _ (.cells #[.int .u8 4, .int .i64 0, .int .i64 0, .int .i64 n] 27)))
  have X := Lib.hid ((Four.new w ⟨0, 0, 0, 0⟩).below (ba _ (.cells #[.int .u8 4, .int .i64 0, .int .i64 0, .int .i64 n] 27)))
  have Y := Lib.hid (Four.new (w.alloc (.cells #[.int .u8 0, .int .i64 0, .int .i64 0, .int .i64 0] 27)) ⟨4, 0, 0, n⟩)
  have M := fun w => may_is (w := w) ⟨4, 0, 0, n⟩ ⟨⟨by show (0 : Int) ≤ 4; decide, by show (4 : Int) ≤ 255; decide⟩, by show fits 0; decide, by show fits 0; decide, hn⟩
  have L1 : w.heap.size < (w.alloc (.cells #[.int .u8 0, .int .i64 0, .int .i64 0, .int .i64 0] 27)).heap.size := by simp
  unfold badV
  simp only at M
  cases hm : mayV ⟨4, 0, 0, n⟩
  all_goals
    rw [hm] at M
    clear hm hn
    go_enter Tryd.func16, Tryd.ntmps16
    go_upto_region 2 with fail
    obtain ⟨w1, hw1⟩ : ∃ v, Hid (v = w.alloc (.cells #[.int .u8 0, .int .i64 0, .int .i64 0, .int .i64 0] 27)) := ⟨_, rfl⟩
    obtain ⟨i0, hi0⟩ : ∃ v, Hid (w.heap.size = v) := ⟨_, rfl⟩
    have hs1 : w1.heap.size = w.heap.size + 1 := by rw [hw1.out]; simp
    rw [← hw1.out] at B X Y L1 ⊢
    obtain ⟨ia, hia⟩ : ∃ v, Hid (w1.heap.size = v) := ⟨_, rfl⟩
    obtain ⟨wa, hwa⟩ : ∃ v, Hid (v = w1.alloc (.cells #[.int .u8 4, .int .i64 0, .int .i64 0, .int .i64 n] 27)) := ⟨_, rfl⟩
    rw [← hwa.out] at B X Y ⊢
    have hs2 : w.heap.size + 1 = ia := by rw [← hs1]; exact hia.out
    rw [hia.out] at Y L1
    first | rw [hs2] | rw [hia.out]
    rw [hi0.out] at X L1
    clear hw1 hwa hs1
    try rw [hi0.out]
    have HB := Lib.hid (show w.heap.size ≤ i0 from Nat.le_of_eq hi0.out)
    clear hs2 hi0 hia L1
    have c0 := Y.out.c0; have c1 := Y.out.c1; have c2 := Y.out.c2; have c3 := Y.out.c3
    simp only at c0 c1 c2 c3
    go_upto_region 3 with (go_at_call 12; (with_reducible refine (M _).mono ?_); rintro e1 w1' ⟨rfl, q1⟩; have B1 := Lib.hid (bt B.out q1); have X1 := Lib.hid (X.out.below q1); have Y1 := Lib.hid (Y.out.below q1); have f0 := X1.out.f 0; have f1 := X1.out.f 1; have f2 := X1.out.f 2; have f3 := X1.out.f 3; have g0 := X1.out.c0; have g1 := X1.out.c1; have g2 := X1.out.c2; have g3 := X1.out.c3; have d0 := Y1.out.c0; have d1 := Y1.out.c1; have d2 := Y1.out.c2; have d3 := Y1.out.c3; simp only at d0 d1 d2 d3; clear q1 M c0 c1 c2 c3)
    go_wp2_with fail
    refine bodyPost_ret (v := .tuple #[.agg #[.int .u8 _, .int .i64 _, .int .i64 _, .int .i64 _], .int .i64 _]) (results_cellV (fn := Tryd.f16) (p := 2) (u := 3) rfl _ _ i0 _ rfl (X1.out.set _ _ _ _)) rfl ?_
    exact ⟨rfl, below_set4 B1.out HB.out _ _ _ _⟩
end Go.Proofs.YtfonpegkaajnkaaDoor.Va
