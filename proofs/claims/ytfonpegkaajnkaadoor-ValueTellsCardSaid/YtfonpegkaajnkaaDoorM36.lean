/-
  value.words, walked: the six words, whatever order they come into the map.
-/
import Derived.Test.YtfonpegkaajnkaaDoorM35
import Derived.Test.YtfonpegkaajnkaaDoorM0
import Derived.Test.YtfonpegkaajnkaaDoorM5
/-
  value.words, walked: the six words, whatever order they come into the map.
-/
namespace Go.Proofs.YtfonpegkaajnkaaDoor.Va
open Go Go.RowKit Dt Tx
set_option linter.unusedSimpArgs false
set_option linter.unusedVariables false
attribute [local go_sem ↓] Go.wp_at_zero Go.wp_at_succ

def keyI : Nat → V
  | 0 => ⟨0, 0, 0, 0⟩
  | 1 => ⟨2, 0, 0, 0⟩
  | 2 => ⟨3, 0, 0, 0⟩
  | 3 => ⟨4, 0, 0, 11⟩
  | 4 => ⟨4, 0, 0, 12⟩
  | _ => ⟨4, 0, 0, 13⟩
def wordI : Nat → List UInt8
  | 0 => wAbsent
  | 1 => wTrue
  | 2 => wFalse
  | 3 => wOver
  | 4 => wDiv
  | _ => wMissing
def entI (i : Nat) : Value × Value := (vv (keyI i), .string (bs (wordI i)))
def sixT : List (Value × Value) := six.map fun x => (vv x.1, .string (bs x.2))
theorem six_ent : sixT = (List.range 6).map entI := rfl
theorem key_inj {i j : Nat} (hi : i < 6) (hj : j < 6) (h : keyI i = keyI j) : i = j := by
  have : ∀ i, i < 6 → ∀ j, j < 6 → keyI i = keyI j → i = j := by decide
  exact this i hi j hj h
theorem key_ok (i : Nat) : (keyI i).ok := by
  unfold keyI; split <;> (unfold V.ok; refine ⟨by decide, by decide, by decide, by decide⟩)
theorem ent_nodup : ((List.range 6).map entI).Nodup := by
  rw [List.Nodup, List.pairwise_map]
  refine List.Pairwise.imp_of_mem ?_ (List.nodup_range (n := 6))
  intro a b ha hb hne e
  exact hne (key_inj (List.mem_range.1 ha) (List.mem_range.1 hb) (vv_inj (congrArg Prod.fst e)))
/-- what holds behind a set of the operations -/
structure Jw (w0 : World) (b : Nat) (l : Array Bool) (a : Act) (w : World) : Prop where
  size : l.size = 13
  ex : ∃ (m : Value) (k : Nat → Value), a = ⟨#[.map none, m, k 0, k 1, k 2, k 3, k 4, k 5, undef], []⟩ ∧ (∀ i, i < 6 → l.getD (2 * i + 1) false = true → k i = vv (keyI i)) ∧
    ((l.getD 0 false = false ∧ w = w0 ∧ ∀ i, i < 6 → l.getD (2 * i + 2) false = false) ∨
     (l.getD 0 false = true ∧ m = .map (some b) ∧ Below b w0 w ∧ ∃ T, MapAt w b domV T ∧ T.Nodup ∧ ∀ x, x ∈ T ↔ ∃ i, i < 6 ∧ l.getD (2 * i + 2) false = true ∧ x = entI i))
theorem Jw.start (w : World) : Jw w w.heap.size (Array.replicate 13 false) ⟨#[.map none, undef, undef, undef, undef, undef, undef, undef, undef], []⟩ w :=
  ⟨by simp, undef, fun _ => undef, rfl, fun i hi h => (by rw [none_set] at h; cases h), .inl ⟨none_set _ _, rfl, fun i hi => none_set _ _⟩⟩
theorem Jw.made {w0 w : World} {l : Array Bool} {m : Value} {k : Nat → Value} (h : Jw w0 w0.heap.size l ⟨#[.map none, m, k 0, k 1, k 2, k 3, k 4, k 5, undef], []⟩ w) (hf : l.getD 0 false = false) :
    Jw w0 w0.heap.size (l.setIfInBounds 0 true) ⟨#[.map none, .map (some w.heap.size), k 0, k 1, k 2, k 3, k 4, k 5, undef], []⟩ (w.alloc (.map #[] 0)) := by
  obtain ⟨hz, m', k', ea, hk, hm⟩ := h
  simp at ea
  obtain ⟨rfl, e0, e1, e2, e3, e4, e5⟩ := ea
  rcases hm with ⟨_, rfl, hn⟩ | ⟨h0, _⟩
  · refine ⟨by simpa using hz, _, k, rfl, fun i hi hl => ?_, .inr ⟨set_same (by omega), rfl, ba _ _, [], MapAt.new _ _, List.nodup_nil, fun x => ⟨fun hx => (by cases hx), ?_⟩⟩⟩
    · rw [set_other (by omega)] at hl
      have := hk i hi hl
      match i, hi with
      | 0, _ => rw [e0]; exact this
      | 1, _ => rw [e1]; exact this
      | 2, _ => rw [e2]; exact this
      | 3, _ => rw [e3]; exact this
      | 4, _ => rw [e4]; exact this
      | 5, _ => rw [e5]; exact this
    · rintro ⟨i, hi, hl, _⟩
      rw [set_other (by omega), hn i hi] at hl
      cases hl
  · rw [hf] at h0; cases h0
def WordsPost (w : World) (e : Ending) (w' : World) : Prop := ∃ b, e = .returned (.map (some b)) ∧ w.heap.size ≤ b ∧ MapAt w' b domV sixT ∧ Below w.heap.size w w'
theorem Jw.built {w0 w : World} {l : Array Bool} {m : Value} {k : Nat → Value} (j : Nat) (hj : j < 6) (h : Jw w0 w0.heap.size l ⟨#[.map none, m, k 0, k 1, k 2, k 3, k 4, k 5, undef], []⟩ w) (k' : Nat → Value) (hk' : k' = fun i => if i = j then vv (keyI j) else k i) :
    Jw w0 w0.heap.size (l.setIfInBounds (2 * j + 1) true) ⟨#[.map none, m, k' 0, k' 1, k' 2, k' 3, k' 4, k' 5, undef], []⟩ w := by
  obtain ⟨hz, m1, k1, ea, hk, hm⟩ := h
  simp at ea
  obtain ⟨rfl, e0, e1, e2, e3, e4, e5⟩ := ea
  refine ⟨by simpa using hz, m, k', rfl, fun i hi hl => ?_, ?_⟩
  · subst hk'
    by_cases hij : i = j
    · subst hij; simp
    · simp only [hij, if_false]
      rw [set_other (by omega)] at hl
      have := hk i hi hl
      match i, hi with
      | 0, _ => rw [e0]; exact this
      | 1, _ => rw [e1]; exact this
      | 2, _ => rw [e2]; exact this
      | 3, _ => rw [e3]; exact this
      | 4, _ => rw [e4]; exact this
      | 5, _ => rw [e5]; exact this
  · rcases hm with ⟨h0, hw, hn⟩ | ⟨h0, rfl, hb, T, h1, h2, h3⟩
    · refine .inl ⟨by rw [set_other (by omega)]; exact h0, hw, fun i hi => by rw [set_other (by omega)]; exact hn i hi⟩
    · refine .inr ⟨by rw [set_other (by omega)]; exact h0, rfl, hb, T, h1, h2, fun x => (h3 x).trans ⟨?_, ?_⟩⟩
      · rintro ⟨i, hi, hl, e⟩; exact ⟨i, hi, by rw [set_other (by omega)]; exact hl, e⟩
      · rintro ⟨i, hi, hl, e⟩; rw [set_other (by omega)] at hl; exact ⟨i, hi, hl, e⟩
theorem Jw.put {w0 w : World} {l : Array Bool} {m : Value} {k : Nat → Value} (j : Nat) (hj : j < 6) (h : Jw w0 w0.heap.size l ⟨#[.map none, m, k 0, k 1, k 2, k 3, k 4, k 5, undef], []⟩ w) (hf : l.getD (2 * j + 2) false = false) (h0 : l.getD 0 false = true) (h1 : l.getD (2 * j + 1) false = true) :
    m = .map (some w0.heap.size) ∧ k j = vv (keyI j) ∧ ∃ w', (Instr.mapUpdate 51 (.map (some w0.heap.size)) (vv (keyI j)) (.string (bs (wordI j)))).run Tryd.prog w = .ok () w' ∧ Jw w0 w0.heap.size (l.setIfInBounds (2 * j + 2) true) ⟨#[.map none, m, k 0, k 1, k 2, k 3, k 4, k 5, undef], []⟩ w' := by
  obtain ⟨hz, m1, k1, ea, hk, hm⟩ := h
  simp at ea
  obtain ⟨rfl, e0, e1, e2, e3, e4, e5⟩ := ea
  have hkj : k j = k1 j := by
    match j, hj with
    | 0, _ => exact e0
    | 1, _ => exact e1
    | 2, _ => exact e2
    | 3, _ => exact e3
    | 4, _ => exact e4
    | 5, _ => exact e5
  rcases hm with ⟨hn, _⟩ | ⟨_, rfl, hb, T, t1, t2, t3⟩
  · rw [h0] at hn; cases hn
  · refine ⟨rfl, hkj.trans (hk j hj h1), ?_⟩
    obtain ⟨w', hrun, t1', hbel, _, _⟩ := t1.put kl_V Tryd.underlying51 (x := vv (keyI j)) (v := .string (bs (wordI j))) (dom_V _ (key_ok j)) (fun y hy e => by
      obtain ⟨i, hi, hl, rfl⟩ := (t3 y).1 hy
      have := key_inj hi hj (vv_inj e)
      subst this
      rw [hf] at hl; cases hl)
    refine ⟨w', hrun, by simpa using hz, _, k1, by rw [e0, e1, e2, e3, e4, e5], fun i hi hl => hk i hi (by rw [set_other (by omega)] at hl; exact hl), .inr ⟨by rw [set_other (by omega)]; exact h0, rfl, hbel _ (Nat.le_refl _) _ hb, _, t1', ?_, ?_⟩⟩
    · refine List.nodup_cons.2 ⟨fun hx => ?_, t2⟩
      obtain ⟨i, hi, hl, e⟩ := (t3 _).1 hx
      have := key_inj hj hi (vv_inj (congrArg Prod.fst e))
      subst this
      rw [hf] at hl; cases hl
    · intro x
      rw [List.mem_cons, t3]
      constructor
      · rintro (rfl | ⟨i, hi, hl, e⟩)
        · exact ⟨j, hj, set_same (by omega), rfl⟩
        · refine ⟨i, hi, ?_, e⟩
          rw [set_other (fun q => ?_)]
          · exact hl
          · have : j = i := by omega
            subst this; rw [hf] at hl; cases hl
      · rintro ⟨i, hi, hl, e⟩
        by_cases hij : j = i
        · subst hij; exact .inl e
        · rw [set_other (by omega)] at hl; exact .inr ⟨i, hi, hl, e⟩
theorem Jw.full {w0 w : World} {l : Array Bool} {m : Value} {k : Nat → Value} (h : Jw w0 w0.heap.size l ⟨#[.map none, m, k 0, k 1, k 2, k 3, k 4, k 5, undef], []⟩ w) (h0 : l.getD 0 false = true) (ha : ∀ i, i < 6 → l.getD (2 * i + 2) false = true) :
    m = .map (some w0.heap.size) ∧ MapAt w w0.heap.size domV sixT ∧ Below w0.heap.size w0 w := by
  obtain ⟨hz, m1, k1, ea, hk, hm⟩ := h
  simp at ea
  obtain ⟨rfl, _⟩ := ea
  rcases hm with ⟨hn, _⟩ | ⟨_, rfl, hb, T, t1, t2, t3⟩
  · rw [h0] at hn; cases hn
  · refine ⟨rfl, t1.perm ((List.perm_ext_iff_of_nodup t2 ent_nodup).2 fun x => (t3 x).trans ⟨?_, ?_⟩), hb⟩
    · rintro ⟨i, hi, _, rfl⟩
      exact List.mem_map.2 ⟨i, List.mem_range.2 hi, rfl⟩
    · intro hx
      obtain ⟨i, hi, rfl⟩ := List.mem_map.1 hx
      exact ⟨i, List.mem_range.1 hi, ha i (List.mem_range.1 hi), rfl⟩
set_option maxRecDepth 100000 in
theorem words_is {w : World} : Calls Tryd.prog 28 #[] w (WordsPost w) := by
  go_enter Tryd.func28, Tryd.ntmps28
  go_upto_region 1 with fail
  refine wp_region_head 13 (by kernel_rfl) (by kernel_rfl) ?_
  refine wpAny_inv (Jw w.drew w.drew.heap.size) ?_ ?_ 13 _ _ _ (by decide) (Jw.start w.drew)
  · rintro l a w1 H' i hi
    obtain ⟨m, k, rfl⟩ : ∃ (m : Value) (k : Nat → Value), a = ⟨#[.map none, m, k 0, k 1, k 2, k 3, k 4, k 5, undef], []⟩ := by obtain ⟨_, m, k, e, _⟩ := H'; exact ⟨m, k, e⟩
    have H := H'
    have hz := H'.size
    obtain ⟨hf, o, ho, hd⟩ := mem_ready.1 hi
    clear H' hi
    have hi13 : i < 13 := by have := (Array.getElem?_eq_some_iff.1 ho).1; simpa using this
    have hfi : l.getD i false = false := by
      have : i < l.size := by omega
      simpa [Array.getD_eq_getD_getElem?, this] using hf
    generalize headQ _ _ _ _ = Q'
    match i, hi13, ho, hf, hfi, hd with
    | 0, _, ho, hf, hfi, hd =>
      cases ho
      exact wpOp_run rfl rfl (wp_makeMap rfl (H.made hfi))
    | 1, _, ho, hf, hfi, hd =>
      cases ho
      refine wpOp_run rfl rfl ?_
      have N := H.built 0 (by decide) _ rfl
      simp at N
      go_simp
      exact N
    | 2, _, ho, hf, hfi, hd =>
      cases ho
      obtain ⟨rfl, ek, w', hrun, N⟩ := H.put 0 (by decide) hfi (hd ⟨0, .data⟩ (by simp) rfl) (hd ⟨1, .data⟩ (by simp) rfl)
      exact wpOp_run rfl rfl (wp_insert (X := vv (keyI 0)) rfl rfl ek rfl hrun N)
    | 3, _, ho, hf, hfi, hd =>
      cases ho
      refine wpOp_run rfl rfl ?_
      have N := H.built 1 (by decide) _ rfl
      simp at N
      go_simp
      exact N
    | 4, _, ho, hf, hfi, hd =>
      cases ho
      obtain ⟨rfl, ek, w', hrun, N⟩ := H.put 1 (by decide) hfi (hd ⟨0, .data⟩ (by simp) rfl) (hd ⟨3, .data⟩ (by simp) rfl)
      exact wpOp_run rfl rfl (wp_insert (X := vv (keyI 1)) rfl rfl ek rfl hrun N)
    | 5, _, ho, hf, hfi, hd =>
      cases ho
      refine wpOp_run rfl rfl ?_
      have N := H.built 2 (by decide) _ rfl
      simp at N
      go_simp
      exact N
    | 6, _, ho, hf, hfi, hd =>
      cases ho
      obtain ⟨rfl, ek, w', hrun, N⟩ := H.put 2 (by decide) hfi (hd ⟨0, .data⟩ (by simp) rfl) (hd ⟨5, .data⟩ (by simp) rfl)
      exact wpOp_run rfl rfl (wp_insert (X := vv (keyI 2)) rfl rfl ek rfl hrun N)
    | 7, _, ho, hf, hfi, hd =>
      cases ho
      refine wpOp_run rfl rfl ?_
      have N := H.built 3 (by decide) _ rfl
      simp at N
      go_simp
      exact N
    | 8, _, ho, hf, hfi, hd =>
      cases ho
      obtain ⟨rfl, ek, w', hrun, N⟩ := H.put 3 (by decide) hfi (hd ⟨0, .data⟩ (by simp) rfl) (hd ⟨7, .data⟩ (by simp) rfl)
      exact wpOp_run rfl rfl (wp_insert (X := vv (keyI 3)) rfl rfl ek rfl hrun N)
    | 9, _, ho, hf, hfi, hd =>
      cases ho
      refine wpOp_run rfl rfl ?_
      have N := H.built 4 (by decide) _ rfl
      simp at N
      go_simp
      exact N
    | 10, _, ho, hf, hfi, hd =>
      cases ho
      obtain ⟨rfl, ek, w', hrun, N⟩ := H.put 4 (by decide) hfi (hd ⟨0, .data⟩ (by simp) rfl) (hd ⟨9, .data⟩ (by simp) rfl)
      exact wpOp_run rfl rfl (wp_insert (X := vv (keyI 4)) rfl rfl ek rfl hrun N)
    | 11, _, ho, hf, hfi, hd =>
      cases ho
      refine wpOp_run rfl rfl ?_
      have N := H.built 5 (by decide) _ rfl
      simp at N
      go_simp
      exact N
    | 12, _, ho, hf, hfi, hd =>
      cases ho
      obtain ⟨rfl, ek, w', hrun, N⟩ := H.put 5 (by decide) hfi (hd ⟨0, .data⟩ (by simp) rfl) (hd ⟨11, .data⟩ (by simp) rfl)
      exact wpOp_run rfl rfl (wp_insert (X := vv (keyI 5)) rfl rfl ek rfl hrun N)
  · intro l a w1 H' hr
    obtain ⟨m, k, rfl⟩ : ∃ (m : Value) (k : Nat → Value), a = ⟨#[.map none, m, k 0, k 1, k 2, k 3, k 4, k 5, undef], []⟩ := by obtain ⟨_, m, k, e, _⟩ := H'; exact ⟨m, k, e⟩
    have H := H'
    have hz := H'.size
    clear H'
    have all' := all_listed hr (by kernel_rfl) hz
    obtain ⟨rfl, M, B⟩ := H.full (all' 0 (by decide)) (fun i hi => all' _ (by omega))
    have M' := Lib.hid M; have B' := Lib.hid B
    simp only [List.drop_succ_cons, List.drop_zero, headQ]
    clear H all' hr M B hz
    obtain ⟨bb, hbb⟩ : ∃ b, Hid (w.drew.heap.size = b) := ⟨_, rfl⟩
    rw [hbb.out] at M' B' ⊢
    go_wp2_with fail
    go_ret
    exact ⟨bb, rfl, Nat.le_of_eq hbb.out, M'.out, by rw [← hbb.out] at B'; exact bt (⟨rfl, rfl, rfl, Nat.le_refl _, fun _ _ => rfl⟩ : Below w.heap.size w w.drew) B'.out⟩
end Go.Proofs.YtfonpegkaajnkaaDoor.Va
