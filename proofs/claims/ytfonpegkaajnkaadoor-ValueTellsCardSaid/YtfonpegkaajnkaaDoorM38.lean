/-
  value.May, value.Text, value.Truth, value.Num, value.Bad, walked; Decimals' texts: the known texts, walked.
-/
import Derived.Test.YtfonpegkaajnkaaDoorM36
import Derived.Test.YtfonpegkaajnkaaDoorM37
import Derived.Test.YtfonpegkaajnkaaDoorM30
import Derived.Laws.StructEq
import Derived.Deep.RegionHeld3
import Derived.Test.YtfonpegkaajnkaaDoorM34
/-
  value.May, value.Text, value.Truth, value.Num, value.Bad, walked.
-/
namespace Go.Proofs.YtfonpegkaajnkaaDoor.Va
open Go Go.RowKit Dt Tx
set_option linter.unusedSimpArgs false
set_option linter.unusedVariables false
attribute [local go_sem ↓] Go.wp_at_zero Go.wp_at_succ

/-- a value in memory -/
def Four (w : World) (b : Nat) (v : V) : Prop := w.heap[b]? = some (.cells #[.int .u8 v.k, .int .i64 v.c, .int .i64 v.s, .int .i64 v.e] 27 (0, 0))
section
variable {w : World} {b : Nat} {v : V}
theorem Four.lt (h : Four w b v) : b < w.heap.size := (Array.getElem?_eq_some_iff.1 h).1
theorem Four.c0 (h : Four w b v) : w.cell? ⟨b, 0, none⟩ = some (.int .u8 v.k) := by rw [cell_of_row w _ _ _ _ (0, 0) h]; rfl
theorem Four.c1 (h : Four w b v) : w.cell? ⟨b, 1, none⟩ = some (.int .i64 v.c) := by rw [cell_of_row w _ _ _ _ (0, 0) h]; rfl
theorem Four.c2 (h : Four w b v) : w.cell? ⟨b, 2, none⟩ = some (.int .i64 v.s) := by rw [cell_of_row w _ _ _ _ (0, 0) h]; rfl
theorem Four.c3 (h : Four w b v) : w.cell? ⟨b, 3, none⟩ = some (.int .i64 v.e) := by rw [cell_of_row w _ _ _ _ (0, 0) h]; rfl
theorem Four.f (h : Four w b v) (i : Nat) : w.frozen? ⟨b, i, none⟩ = false := frozen_of_row w _ _ _ _ h
theorem Four.below {w' : World} (h : Four w b v) (k : Below w.heap.size w w') : Four w' b v := (k.block b h.lt).trans h
theorem Four.new (w : World) (v : V) : Four (w.alloc (.cells #[.int .u8 v.k, .int .i64 v.c, .int .i64 v.s, .int .i64 v.e] 27)) w.heap.size v := by
  show (w.heap.push _)[w.heap.size]? = _
  rw [Array.getElem?_push_size]
theorem Four.set (h : Four w b v) (k c s e : Int) : Four ((((w.setCell ⟨b, 0, none⟩ (.int .u8 k)).setCell ⟨b, 1, none⟩ (.int .i64 c)).setCell ⟨b, 2, none⟩ (.int .i64 s)).setCell ⟨b, 3, none⟩ (.int .i64 e)) b ⟨k, c, s, e⟩ := by
  have h1 : (w.setCell ⟨b, 0, none⟩ (.int .u8 k)).heap[b]? = some (.cells #[.int .u8 k, .int .i64 v.c, .int .i64 v.s, .int .i64 v.e] 27 (0, 0)) := by rw [heap_setCell_same w b 0 _ _ _ h]; rfl
  have h2 : ((w.setCell ⟨b, 0, none⟩ (.int .u8 k)).setCell ⟨b, 1, none⟩ (.int .i64 c)).heap[b]? = some (.cells #[.int .u8 k, .int .i64 c, .int .i64 v.s, .int .i64 v.e] 27 (0, 0)) := by rw [heap_setCell_same _ b 1 _ _ _ h1]; rfl
  have h3 : (((w.setCell ⟨b, 0, none⟩ (.int .u8 k)).setCell ⟨b, 1, none⟩ (.int .i64 c)).setCell ⟨b, 2, none⟩ (.int .i64 s)).heap[b]? = some (.cells #[.int .u8 k, .int .i64 c, .int .i64 s, .int .i64 v.e] 27 (0, 0)) := by rw [heap_setCell_same _ b 2 _ _ _ h2]; rfl
  show _ = _
  rw [heap_setCell_same _ b 3 _ _ _ h3]; rfl
theorem Four.other2 {g : Nat} (h : Four w b v) (ne : ¬ b = g) (x y : Value) : Four ((w.setCell ⟨g, 0, none⟩ x).setCell ⟨g, 1, none⟩ y) b v := by
  show _ = _
  rw [heap_setCell_other _ ⟨g, 1, none⟩ b _ ne, heap_setCell_other _ ⟨g, 0, none⟩ b _ ne]; exact h
theorem below_set4 {B g : Nat} {a w : World} (h : Below B a w) (hg : B ≤ g) (x0 x1 x2 x3 : Value) : Below B a ((((w.setCell ⟨g, 0, none⟩ x0).setCell ⟨g, 1, none⟩ x1).setCell ⟨g, 2, none⟩ x2).setCell ⟨g, 3, none⟩ x3) :=
  Below.setCell (Below.setCell (Below.setCell (Below.setCell h (p := ⟨g, 0, none⟩) hg _) (p := ⟨g, 1, none⟩) hg _) (p := ⟨g, 2, none⟩) hg _) (p := ⟨g, 3, none⟩) hg _
end
/-- what is looked up among the words -/
def LookPost (v : V) (w : World) (e : Ending) (w' : World) : Prop := ∃ b, e = .returned (.map (some b)) ∧ Below w.heap.size w w' ∧
  (Instr.lookup 51 (.map (some b)) (.agg #[.int .u8 v.k, .int .i64 v.c, .int .i64 v.s, .int .i64 v.e]) true).run Tryd.prog w' = .ok (.tuple #[.string (bs ((lookV v six).getD [])), .bool (lookV v six).isSome]) w' ∧
  (Instr.lookup 51 (.map (some b)) (.agg #[.int .u8 v.k, .int .i64 v.c, .int .i64 v.s, .int .i64 v.e]) false).run Tryd.prog w' = .ok (.string (bs ((lookV v six).getD []))) w'
theorem six_uniq : ∀ y ∈ sixT, ∀ z ∈ sixT, y.1 = z.1 → y = z := by
  rw [six_ent]
  intro y hy z hz h
  obtain ⟨i, hi, rfl⟩ := List.mem_map.1 hy
  obtain ⟨j, hj, rfl⟩ := List.mem_map.1 hz
  rw [key_inj (List.mem_range.1 hi) (List.mem_range.1 hj) (vv_inj h)]
theorem look_none {v : V} {l : List UInt8} (h : lookV v six = none) : (v, l) ∉ six := fun k => by rw [(six_look k).1] at h; cases h
theorem look_is {w : World} (v : V) (hv : v.ok) : Calls Tryd.prog 28 #[] w (LookPost v w) := by
  refine words_is.mono ?_
  rintro e w' ⟨b, rfl, _, hm, hb⟩
  have hz : (zeroValue 9).run Tryd.prog w' = .ok (.string ⟨#[]⟩) w' := by kernel_rfl
  have ht := Tryd.underlying51
  refine ⟨b, rfl, hb, ?_⟩
  cases hl : lookV v six with
  | some l =>
    have m : (vv v, Value.string (bs l)) ∈ sixT := List.mem_map.2 ⟨(v, l), lookV_six hl, rfl⟩
    exact ⟨hm.look_some kl_V ht six_uniq m true, hm.look_some kl_V ht six_uniq m false⟩
  | none =>
    have hn : ∀ y ∈ sixT, y.1 ≠ vv v := fun y hy e => by
      obtain ⟨⟨u, l⟩, hx, rfl⟩ := List.mem_map.1 hy
      have := vv_inj e
      simp only at this
      subst this
      exact look_none hl hx
    exact ⟨hm.look_none kl_V ht hz (dom_V v hv) hn true, hm.look_none kl_V ht hz (dom_V v hv) hn false⟩
set_option maxRecDepth 100000 in
theorem may_is {w : World} (v : V) (hv : v.ok) : Calls Tryd.prog 12 #[.agg #[.int .u8 v.k, .int .i64 v.c, .int .i64 v.s, .int .i64 v.e]] w fun e w' => e = .returned (.bool (mayV v)) ∧ Below w.heap.size w w' := by
  have A := fun w => look_is (w := w) v hv
  have D := fun w => dMay_any v.c v.s w hv.2.1
  have X := Lib.hid (Four.new w v)
  have B := Lib.hid (ba w (.cells #[.int .u8 v.k, .int .i64 v.c, .int .i64 v.s, .int .i64 v.e] 27))
  cases hn : isNum v
  · have R : mayV v = (lookV v six).isSome := by unfold mayV; rw [hn]; rfl
    obtain ⟨ok, hok⟩ : ∃ b, Hid ((lookV v six).isSome = b) := ⟨_, rfl⟩
    obtain ⟨S, hS⟩ : ∃ s, Hid (bs ((lookV v six).getD []) = s) := ⟨_, rfl⟩
    unfold LookPost at A
    rw [hok.out, hS.out] at A
    rw [R, hok.out]
    have key : ¬ v.k = 1 ∨ v.k = 1 ∧ ¬ v.e = 0 := by
      unfold isNum at hn
      have := of_decide_eq_false hn
      by_cases h : v.k = 1
      · exact .inr ⟨h, fun e => this ⟨h, e⟩⟩
      · exact .inl h
    obtain ⟨k, c, s, e⟩ := v
    simp only at A D X B key ⊢
    clear hn R hv D hok hS
    rcases key with key | ⟨rfl, key⟩
    · go_enter Tryd.func12, Tryd.ntmps12
      go_upto_region 1 with fail
      obtain ⟨wa, hwa⟩ : ∃ v, Hid (v = w.alloc (.cells #[.int .u8 k, .int .i64 c, .int .i64 s, .int .i64 e] 27)) := ⟨_, rfl⟩
      obtain ⟨ia, hia⟩ : ∃ v, Hid (w.heap.size = v) := ⟨_, rfl⟩
      rw [← hwa.out] at X B ⊢
      rw [hia.out] at X ⊢
      have c0 := X.out.c0; have c1 := X.out.c1; have c2 := X.out.c2; have c3 := X.out.c3
      simp only at c0 c1 c2 c3
      clear hwa
      go_upto_region 3 with fail
      have X' := X.out.below (w' := wa.drew) ⟨rfl, rfl, rfl, Nat.le_refl _, fun _ _ => rfl⟩
      have HS0 : (fun w' : World => w'.cell? ⟨ia, 0, none⟩ = some (.int .u8 k) ∧ w'.cell? ⟨ia, 1, none⟩ = some (.int .i64 c) ∧ w'.cell? ⟨ia, 2, none⟩ = some (.int .i64 s) ∧ w'.cell? ⟨ia, 3, none⟩ = some (.int .i64 e)) wa.drew := ⟨c0, c1, c2, c3⟩
      have A' := A wa.drew
      clear A
      go_region_held3 (fun w' : World => w'.cell? ⟨ia, 0, none⟩ = some (.int .u8 k) ∧ w'.cell? ⟨ia, 1, none⟩ = some (.int .i64 c) ∧ w'.cell? ⟨ia, 2, none⟩ = some (.int .i64 s) ∧ w'.cell? ⟨ia, 3, none⟩ = some (.int .i64 e))
        (first | with_reducible exact HS0 | with_reducible assumption)
        (first
          | (go_at_call 28; (with_reducible refine A'.mono ?_); rintro e7 w7 ⟨b7, rfl, q7, l7, _⟩; have X7 := X'.below q7; have HS7 : w7.cell? ⟨ia, 0, none⟩ = some (.int .u8 k) ∧ w7.cell? ⟨ia, 1, none⟩ = some (.int .i64 c) ∧ w7.cell? ⟨ia, 2, none⟩ = some (.int .i64 s) ∧ w7.cell? ⟨ia, 3, none⟩ = some (.int .i64 e) := ⟨X7.c0, X7.c1, X7.c2, X7.c3⟩; have B7 := Lib.hid (bt (B.out.drew) q7); clear q7 A' X7))
      clear HS0 c0 c1 c2 c3
      go_wp2_with fail
      go_ret
      exact ⟨rfl, B7.out⟩
    · go_enter Tryd.func12, Tryd.ntmps12
      go_upto_region 1 with fail
      obtain ⟨wa, hwa⟩ : ∃ v, Hid (v = w.alloc (.cells #[.int .u8 1, .int .i64 c, .int .i64 s, .int .i64 e] 27)) := ⟨_, rfl⟩
      obtain ⟨ia, hia⟩ : ∃ v, Hid (w.heap.size = v) := ⟨_, rfl⟩
      rw [← hwa.out] at X B ⊢
      rw [hia.out] at X ⊢
      have c0 := X.out.c0; have c1 := X.out.c1; have c2 := X.out.c2; have c3 := X.out.c3
      simp only at c0 c1 c2 c3
      clear hwa
      go_upto_region 3 with fail
      have X' := X.out.below (w' := wa.drew) ⟨rfl, rfl, rfl, Nat.le_refl _, fun _ _ => rfl⟩
      have HS0 : (fun w' : World => w'.cell? ⟨ia, 0, none⟩ = some (.int .u8 1) ∧ w'.cell? ⟨ia, 1, none⟩ = some (.int .i64 c) ∧ w'.cell? ⟨ia, 2, none⟩ = some (.int .i64 s) ∧ w'.cell? ⟨ia, 3, none⟩ = some (.int .i64 e)) wa.drew := ⟨c0, c1, c2, c3⟩
      have A' := A wa.drew
      clear A
      go_region_held3 (fun w' : World => w'.cell? ⟨ia, 0, none⟩ = some (.int .u8 1) ∧ w'.cell? ⟨ia, 1, none⟩ = some (.int .i64 c) ∧ w'.cell? ⟨ia, 2, none⟩ = some (.int .i64 s) ∧ w'.cell? ⟨ia, 3, none⟩ = some (.int .i64 e))
        (first | with_reducible exact HS0 | with_reducible assumption)
        (first
          | (go_at_call 28; (with_reducible refine A'.mono ?_); rintro e7 w7 ⟨b7, rfl, q7, l7, _⟩; have X7 := X'.below q7; have HS7 : w7.cell? ⟨ia, 0, none⟩ = some (.int .u8 1) ∧ w7.cell? ⟨ia, 1, none⟩ = some (.int .i64 c) ∧ w7.cell? ⟨ia, 2, none⟩ = some (.int .i64 s) ∧ w7.cell? ⟨ia, 3, none⟩ = some (.int .i64 e) := ⟨X7.c0, X7.c1, X7.c2, X7.c3⟩; have B7 := Lib.hid (bt (B.out.drew) q7); clear q7 A' X7))
      clear HS0 c0 c1 c2 c3
      go_wp2_with fail
      go_ret
      exact ⟨rfl, B7.out⟩
  · have R : mayV v = mayB v.c v.s := by unfold mayV; rw [hn]; rfl
    rw [R]
    have e1 := num_eq hn
    obtain ⟨k, c, s, e⟩ := v
    simp only at A D X B e1 ⊢
    cases e1
    obtain ⟨ok, hok⟩ : ∃ b, Hid (mayB c s = b) := ⟨_, rfl⟩
    rw [hok.out] at D ⊢
    clear hn R hv A hok
    go_enter Tryd.func12, Tryd.ntmps12
    go_upto_region 1 with fail
    obtain ⟨wa, hwa⟩ : ∃ v, Hid (v = w.alloc (.cells #[.int .u8 1, .int .i64 c, .int .i64 s, .int .i64 0] 27)) := ⟨_, rfl⟩
    obtain ⟨ia, hia⟩ : ∃ v, Hid (w.heap.size = v) := ⟨_, rfl⟩
    rw [← hwa.out] at X B ⊢
    rw [hia.out] at X ⊢
    have c0 := X.out.c0; have c1 := X.out.c1; have c2 := X.out.c2; have c3 := X.out.c3
    simp only at c0 c1 c2 c3
    clear hwa
    go_wp2_with (go_at_call 32; (with_reducible refine (D _).mono ?_); rintro e7 w7 ⟨rfl, q7⟩; have B7 := Lib.hid (bt B.out q7); clear q7 D)
    go_ret
    exact ⟨rfl, B7.out⟩
end Go.Proofs.YtfonpegkaajnkaaDoor.Va
/-
  Decimals' texts: the known texts, walked.
-/
namespace Go.Proofs.YtfonpegkaajnkaaDoor.Tx
open Go Go.RowKit Dt
set_option linter.unusedSimpArgs false
set_option linter.unusedVariables false
attribute [local go_sem ↓] Go.wp_at_zero Go.wp_at_succ

def word5 : Nat → List UInt8
  | 0 => [49, 46, 53, 48]
  | 1 => [46, 53]
  | 2 => [48, 49]
  | 3 => [45, 48]
  | _ => [49, 46]
theorem word5_bad (k : Nat) (h : k < 5) : dparse (word5 k) = ((0, 0), 4) ∧ (word5 k).length ≤ 4 := by
  match k, h with
  | 0, _ => exact ⟨by decide +kernel, by decide⟩
  | 1, _ => exact ⟨by decide +kernel, by decide⟩
  | 2, _ => exact ⟨by decide +kernel, by decide⟩
  | 3, _ => exact ⟨by decide +kernel, by decide⟩
  | 4, _ => exact ⟨by decide +kernel, by decide⟩
theorem dparse_at {l : List UInt8} {a b e : Int} (h : dparse l = ((a, b), e)) (hl : l.length ≤ 1000) (w : World) (he : Env w) : Calls Tryd.prog 29 #[.string (bs l)] w fun e' w' => e' = .returned (.tuple #[.agg #[.int .i64 a, .int .i64 b], .int .i64 e]) ∧ Below w.heap.size w w' := by
  have := dparse_is (w := w) l hl he
  unfold DpPost at this
  rw [h] at this
  exact this
theorem text_any {w : World} (c s : Int) (hc : Fit c) (he : Env w) : Calls Tryd.prog 31 #[.agg #[.int .i64 c, .int .i64 s]] w (TextPost c s w) := by
  cases h : isB s
  · exact text_no c s hc he h
  · exact text_yes c s hc he h
end Go.Proofs.YtfonpegkaajnkaaDoor.Tx
