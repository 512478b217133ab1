/-
  prorate: sums (an iterator) and sum, walked.
-/
import Derived.Test.YtngelemjpgglpaaM12
import Derived.Test.YtngelemjpgglpaaM13
import Derived.Shelf.Abstract
import Derived.Shelf.RegionOpen
import Derived.OwnWalkIn
import Derived.TacticsInMore
import Derived.LoopNIn
import Derived.LoopIn
import Derived.Sort.LoopGhostIn
import Derived.Sort.CutIn
import Derived.RangeFuncBox
/-
  prorate: sums (an iterator) and sum, walked.
-/
namespace Go.Proofs.Ytngelemjpgglpaa.Pro
open Go Go.RowKit Go.Shelf Itr
set_option linter.unusedSimpArgs false
set_option linter.unusedVariables false
attribute [local go_sem] Oper.semAt_some

/-- a row of whole numbers behind a slice -/
def ArgI (w : World) (v : Value) (ws : List Int) : Prop := ∃ (ao : Option Addr) (cap : Nat), v = .slice ao ws.length cap ∧ ws.length ≤ cap ∧ ∀ (i : Nat) (x : Int), ws[i]? = some x → ∃ b o : Nat, ao = some ⟨b, o, none⟩ ∧ b < w.heap.size ∧ w.cell? ⟨b, o + i, none⟩ = some (.int .i64 x)
theorem ArgI.below {w w' : World} {v : Value} {ws : List Int} (h : ArgI w v ws) (k : Below w.heap.size w w') : ArgI w' v ws := by
  obtain ⟨ao, cap, e, hc, h⟩ := h
  refine ⟨ao, cap, e, hc, fun i x hx => ?_⟩
  obtain ⟨b, o, h1, h2, h3⟩ := h i x hx
  exact ⟨b, o, h1, Nat.lt_of_lt_of_le h2 k.size, (k.cell (p := ⟨b, _, none⟩) h2).trans h3⟩
/-- the slice's block -/
def sliceBlock (v : Value) (g : Nat) : Prop := ∃ (o n c : Nat), v = .slice (some ⟨g, o, none⟩) n c
theorem ArgI.lt {w : World} {v : Value} {ws : List Int} (h : ArgI w v ws) (g : Nat) (hg : sliceBlock v g ∧ 0 < ws.length) : g < w.heap.size := by
  obtain ⟨ao, cap, rfl, hc, h⟩ := h
  obtain ⟨⟨o, n, c, e⟩, hl⟩ := hg
  obtain ⟨b, o', h1, h2, _⟩ := h 0 _ (List.getElem?_eq_getElem hl)
  rw [h1] at e
  cases e
  exact h2
theorem cell_same {w w' : World} {p : Addr} (h : w'.heap[p.block]? = w.heap[p.block]?) : w'.cell? p = w.cell? p := by
  unfold World.cell?; rw [h]
theorem ArgI.keep {T : Nat → Prop} {w w' : World} {v : Value} {ws : List Int} (h : ArgI w v ws) (k : Keep T w w') (hs : ∀ g, sliceBlock v g ∧ 0 < ws.length → T g) : ArgI w' v ws := by
  obtain ⟨ao, cap, e, hc, h⟩ := h
  refine ⟨ao, cap, e, hc, fun i x hx => ?_⟩
  obtain ⟨b, o, h1, h2, h3⟩ := h i x hx
  exact ⟨b, o, h1, Nat.lt_of_lt_of_le h2 k.size, (cell_same (p := ⟨b, _, none⟩) (k.same b (hs b ⟨⟨o, _, _, by rw [e, h1]⟩, by have := (List.getElem?_eq_some_iff.1 hx).1; omega⟩) h2)).trans h3⟩
/-- the sums that are told -/
def sumsL (ws : List Int) : List Int := (List.range ws.length).map fun i => pre ws (i + 1)
theorem sumsL_len (ws : List Int) : (sumsL ws).length = ws.length := by simp [sumsL]
theorem sumsL_get {ws : List Int} {k : Nat} (h : k < ws.length) : (sumsL ws)[k]? = some (pre ws (k + 1)) := by simp [sumsL, h]
theorem sumsL_take {ws : List Int} {k : Nat} (h : k < ws.length) : (sumsL ws).take (k + 1) = (sumsL ws).take k ++ [pre ws (k + 1)] := by
  rw [List.take_add_one, sumsL_get h]; rfl
/-- sums that a machine's number bears -/
def small (ws : List Int) : Prop := ∀ k, -9223372036854775808 ≤ pre ws k ∧ pre ws k ≤ 9223372036854775807
set_option maxRecDepth 100000 in
theorem sums_is {w : World} (v : Value) (hv : ∃ a n c, v = .slice a n c) :
    Calls Try.prog 28 #[v] w fun e w' => e = .returned (.func (.func 54) #[] #[.pointer (some ⟨w.heap.size, 0, none⟩)]) ∧ w' = w.alloc (.cells #[v] 24) := by
  obtain ⟨a, n, c, rfl⟩ := hv
  go_enter Try.func28, Try.ntmps28
  go_wp2
  go_ret
  exact ⟨rfl, rfl⟩
set_option maxRecDepth 100000 in
set_option maxHeartbeats 2000000 in
theorem sums1_at {α : Type} (f : α → Int) {L : List α} {w : World} {kb n : Nat} {v : Value} {ws : List Int} {T : Nat → Prop} (hL : L.map f = sumsL ws) (hb : w.heap[kb]? = some (.cells #[v] 24 (0, 0))) (ha : ArgI w v ws) (hs : small ws) (hl : ws.length ≤ 1000000)
    (hT : ∀ g, g = kb ∨ (sliceBlock v g ∧ 0 < ws.length) → T g) :
    SeqAt n Try.prog 54 #[.pointer (some ⟨kb, 0, none⟩)] (fun x : α => #[.int .i64 (f x)]) 0 T (fun xs => xs = L) (fun pre => pre <+: L) L.length w := by
  intro l J Jx W hsz hbw hJ hJx hY h0
  have hb1 := (hbw.block kb (Array.getElem?_eq_some_iff.1 hb).1).trans hb
  have ha1 := ha.below hbw
  have LL : Hid (L.length = ws.length) := by show _ = _; rw [← sumsL_len ws, ← hL, List.length_map]
  have LG : Hid (∀ (k : Nat) (y : α), L[k]? = some y → f y = pre ws (k + 1)) := fun k y hy => by
    have hk := (List.getElem?_eq_some_iff.1 hy).1
    have h1 : (L.map f)[k]? = some (f y) := by rw [List.getElem?_map, hy]; rfl
    rw [hL, sumsL_get (by rw [← LL.out]; exact hk)] at h1
    exact (Option.some.inj h1).symm
  obtain ⟨ao, cap, rfl, hcap, hcell⟩ := id ha1
  have c0 : W.cell? ⟨kb, 0, none⟩ = some (.slice ao ws.length cap) := by rw [cell_of_row W _ _ _ _ (0, 0) hb1]; rfl
  have HA := Lib.hid ha1
  have HS := Lib.hid hs
  have HL := Lib.hid hl
  have HTT := Lib.hid hT
  have HY := Lib.hid hY
  have J0 := Lib.hid h0
  have HB := Lib.hid hb1
  refine callsIn_of_wp Try.func54 rfl trivial ?_ rfl
  simp only [Try.ntmps54, List.size_toArray, List.length_cons, List.length_nil, Nat.reduceAdd, Nat.reduceSub, Array.replicate_succ, Array.replicate_zero, List.push_toArray, List.append_toArray, List.nil_append, List.cons_append]
  clear hcell ha1 ha hb hb1 hT hs hl hY h0 hL
  gi_wp2_with fail
  clear c0
  gi_loopg [3, 8] (ws.length + 1) (fun m u i wr => ∃ (k : Nat), m = ws.length - k + 1 ∧ u = .int .i64 (pre ws k) ∧ i = .int .i64 (k : Int) ∧ k ≤ ws.length ∧ Hid (ArgI wr (.slice ao ws.length cap) ws) ∧ Hid (J (L.take k) wr) ∧ Hid (W.heap.size ≤ wr.heap.size))
  case atStart => exact ⟨0, rfl, by rw [pre_zero], rfl, by omega, HA.out, by show J _ _; rw [List.take_zero]; exact J0.out, Nat.le_refl _⟩
  case round =>
    obtain ⟨wo, rfl⟩ : ∃ wo : World, wo = wr := ⟨_, rfl⟩
    clear HA J0
    obtain ⟨k, rfl, rfl, rfl, hk, HA, J1, S1⟩ := hrel
    by_cases hkl : k < ws.length
    · obtain ⟨x, hx⟩ : ∃ x, ws[k]? = some x := ⟨_, List.getElem?_eq_getElem hkl⟩
      obtain ⟨y, hy0⟩ : ∃ y, Hid (L[k]? = some y) := ⟨_, List.getElem?_eq_getElem (by rw [LL.out]; exact hkl)⟩
      have FY := LG.out k y hy0.out
      obtain ⟨_, _, e, _, hcell⟩ := HA.out
      cases e
      obtain ⟨bl, ol, rfl, hbl, c0⟩ := hcell k x hx
      have i0 : (0 : Int) ≤ (k : Int) := by omega
      have i1 : (k : Int) < ((ws.length : Nat) : Int) := by omega
      have HK := Lib.hid hkl
      have kw : IntKind.i64.wrap ((k : Int) + 1) = (k : Int) + 1 := by rw [IntWalk.i64_left]; exact IntWalk.wrap64_in _ (by have := HL.out; omega)
      have pw : IntKind.i64.wrap (pre ws k + x) = pre ws (k + 1) := by rw [pre_succ hx, IntWalk.i64_left]; exact IntWalk.wrap64_in _ (by have := HS.out (k + 1); rw [pre_succ hx] at this; omega)
      obtain ⟨fn, tmps, assign, body, hy, hR⟩ := HY.out (L.take k) y wo J1.out (by rw [List.length_take, LL.out]; omega) (by have := S1.out; omega)
      rw [FY] at hy
      clear FY
      obtain ⟨py, hpy⟩ : ∃ i, Hid (pre ws (k + 1) = i) := ⟨_, rfl⟩
      rw [hpy.out] at hy pw
      clear hx hcell hk
      gi_wp2
      refine ⟨(fun hd => by cases hd), hR.mono ?_⟩
      clear hR hy c0
      have ST : Hid (L.take (k + 1) = L.take k ++ [y]) := by show _ = _; rw [List.take_add_one, hy0.out]; rfl
      rintro e w6 (⟨rfl, hJ6, hk6⟩ | ⟨rfl, hJ6⟩)
      · have A6 := Lib.hid (HA.out.keep (T := fun g => g = kb ∨ (sliceBlock (.slice (some ⟨bl, ol, none⟩) ws.length cap) g ∧ 0 < ws.length)) (hk6.mono fun g hg _ => .inl (HTT.out g hg)) (fun g hg => .inr hg))
        have J6 : Hid (J (L.take (k + 1)) w6) := by show J _ _; rw [ST.out]; exact hJ6
        have S6 : Hid (W.heap.size ≤ w6.heap.size) := Nat.le_trans S1.out hk6.size
        clear hJ6 hk6
        gi_wp2
        gi_roundg (ws.length - (k + 1) + 1)
        case rel => exact ⟨k + 1, rfl, by rw [hpy.out], rfl, by have := HK.out; omega, A6.out, J6.out, S6.out⟩
        case measure => have := HK.out; omega
      · have J6 := Lib.hid hJ6
        clear hJ6
        gi_wp2
        refine bodyPost_ret (results_none rfl _ _ _) rfl ?_
        exact ⟨⟨_, rfl⟩, .inr ⟨L.take (k + 1), List.take_prefix _ _, by rw [ST.out]; exact J6.out⟩⟩
    · have hke : k = ws.length := by omega
      subst hke
      clear hkl hk
      gi_wp2
      go_end0
      refine ⟨⟨_, rfl⟩, .inl ⟨_, rfl, ?_⟩⟩
      have := J1.out
      rw [List.take_of_length_le (by rw [LL.out]; omega)] at this
      exact this
theorem enters_sums1 : ∀ args w, (callFunc 54 args).run Try.prog w = .ok (.enter 54 args) w := enters_of Try.func54 (by kernel_rfl) rfl
theorem sumsL_last (ws : List Int) : (sumsL ws).getLastD 0 = ws.sum := by
  cases h : ws.length with
  | zero => 
    have : ws = [] := List.eq_nil_of_length_eq_zero h
    subst this; rfl
  | succ k =>
    rw [List.getLastD_eq_getLast?, List.getLast?_eq_getElem?, sumsL_len, h, Nat.add_sub_cancel, sumsL_get (by omega), Option.getD_some, pre_all _ (by omega)]
set_option maxRecDepth 100000 in
set_option maxHeartbeats 2000000 in
theorem sum_is {w : World} {v : Value} {ws : List Int} (ha : ArgI w v ws) (hs : small ws) (hl : ws.length ≤ 1000000) :
    Calls Try.prog 24 #[v] w fun e w' => e = .returned (.int .i64 ws.sum) ∧ Below w.heap.size w w' := by
  obtain ⟨k, hk⟩ : ∃ i, Hid (w.heap.size = i) := ⟨_, rfl⟩
  have bO := (Boxed.new w 3 (.int .i64 0))
  have A := sums_is (w := w.alloc (.cells #[.int .i64 0] 3)) v (by obtain ⟨a, c, e, _⟩ := ha; exact ⟨_, _, _, e⟩)
  have B1 := ba w (.cells #[.int .i64 0] 3)
  have ha1 := ha.below B1
  obtain ⟨w1, hw1⟩ : ∃ v, Hid (v = w.alloc (.cells #[.int .i64 0] 3)) := ⟨_, rfl⟩
  have z1 : w1.heap.size = k + 1 := by rw [hw1.out, World.size_alloc, hk.out]
  rw [← hw1.out] at A bO B1 ha1
  rw [hk.out] at bO B1
  rw [z1] at A
  replace z1 := Lib.hid z1
  refine (callsIn_wide (n := 10)).1 (callsIn_of_wp_marks Try.func24 rfl trivial ?_ rfl)
  simp only [Try.ntmps24, List.size_toArray, List.length_cons, List.length_nil, Nat.reduceAdd, Nat.reduceSub, Array.replicate_succ, Array.replicate_zero, List.push_toArray, List.append_toArray, List.nil_append, List.cons_append]
  gi_upto_region 1 with fail
  rw [← hw1.out, hk.out]
  clear hw1
  gi_wp2_with (refine ⟨trivial, ?_⟩; gi_at_call 28; refine (callsIn_wide.2 A).mono ?_; rintro e w2 ⟨rfl, hw2⟩; replace hw2 := Lib.hid hw2; clear A)
  have bK : w2.heap[k + 1]? = some (.cells #[v] 24 (0, 0)) := by
    rw [hw2.out]
    have := heap_alloc_new w1 (.cells #[v] 24)
    rw [z1.out] at this; exact this
  have B2 : Below w1.heap.size w1 w2 := by rw [hw2.out]; exact ba _ _
  have z2 : w2.heap.size = k + 2 := by rw [hw2.out, World.size_alloc, z1.out]
  have ha2 := ha1.below B2
  have bO2 : Boxed w2 k 3 (.int .i64 0) := (B2.block k (by rw [z1.out]; omega)).trans bO
  have B02 : Below k w w2 := B1.trans (B2.mono (by rw [z1.out]; omega))
  clear bO B1 ha1
  refine rangeAtG (T := fun g => g = k + 1 ∨ (sliceBlock v g ∧ 0 < ws.length)) z2 (gf := 54) (lb := #[.pointer (some ⟨k + 1, 0, none⟩)]) rfl enters_sums1 (fun j hj => ?ht) (sums1_at (fun x => x) (List.map_id' _) bK ha2 hs hl (fun g hg => hg)) (fun x => rfl)
    (fun pre W => Boxed W k 3 (.int .i64 (pre.getLastD 0)) ∧ Below k w W) (fun _ _ _ => False) ?hi (fun _ _ _ _ _ h _ _ => h) ⟨bO2, B02⟩
    (fun pre x a' W => (Boxed W k 3 (.int .i64 x) ∧ Below k w W) ∧ a' = { tmps := #[v, undef, .pointer (some ⟨k, 0, none⟩), v, .func (.func 54) #[] #[.pointer (some ⟨k + 1, 0, none⟩)], .int .i64 x, undef], defers := [] }) ?ha ?assign ?body ?done ?stop
  case ht =>
    rcases hj with hj | hj
    · omega
    · have := ha.lt j hj; have := hk.out; omega
  case hi =>
    rintro pre X Y row ⟨h1, h2⟩ hg hr
    exact ⟨h1.kept hg (fun e => by have := (hr k e.symm).1; omega), h2.grown hg (by have := h2.size; have := hk.out; omega) (fun j e => by have := (hr j e).1; omega)⟩
  case ha =>
    rintro x a' pre X Y row ⟨⟨h1, h2⟩, h3⟩ hg hr
    exact ⟨⟨h1.kept hg (fun e => by have := (hr k e.symm).1; omega), h2.grown hg (by have := h2.size; have := hk.out; omega) (fun j e => by have := (hr j e).1; omega)⟩, h3⟩
  case assign =>
    rintro l pre x W K hsz ⟨h1, h2⟩ hK
    have hc := h1.cell
    have hf := h1.frozen
    have nt : ¬ ((k = k + 1 ∨ (sliceBlock v k ∧ 0 < ws.length)) ∨ Itr.Own (k + 2) 0 k) := by
      rintro ((h | h) | h)
      · omega
      · have := ha.lt k h; have := hk.out; omega
      · have := h.1; omega
    have hK2 := hK _ (W.setCell ⟨k, 0, none⟩ (.int .i64 x)) ((Keep.refl _ W).set (p := ⟨k, 0, none⟩) (.inr nt) _) ⟨⟨h1.set _, h2.setCell (Nat.le_refl _) _⟩, rfl⟩
    clear hK h1
    gi_wp2
    exact hK2
  case body =>
    rintro l pre x a' W hsz ⟨⟨h1, h2⟩, rfl⟩ hlt
    gi_wp2
    refine ⟨Keep.refl _ _, ?_, h2⟩
    rw [List.getLastD_eq_getLast?, List.getLast?_append]; exact h1
  case done =>
    rintro xs W rfl ⟨hv, hB⟩ hK
    rw [sumsL_last] at hv
    have hc := hv.cell
    have hf := hv.frozen
    gi_wp2
    refine ⟨by simp, .inl ⟨_, _, rfl, run_takeDeferred ((Below.heap_setCell _ _ _ _ (by show k + 2 ≠ k; omega)).trans hK), ?_⟩⟩
    have hv6 := hv.set (.int .i64 ws.sum)
    have hv7 : Boxed ((W.setCell ⟨k, 0, none⟩ (.int .i64 ws.sum)).putObj (k + 2) (.deferred none)) k 3 (.int .i64 ws.sum) := (World.putObj_heap_other (by omega)).trans hv6
    have hc7 := hv7.cell
    refine ⟨.int .i64 ws.sum, by simp [results, Try.results24, go_sem, hc7], rfl, ?_⟩
    rw [hk.out]
    have B6 : Below k w (W.setCell ⟨k, 0, none⟩ (.int .i64 ws.sum)) := hB.setCell (Nat.le_refl _) _
    exact B6.grown (grownBy_putObj' _ (k + 2) _) (by have := B6.size; have := hk.out; omega) (fun j e => by cases e; omega)
  case stop =>
    intro c pre W _ h _
    exact h.elim
end Go.Proofs.Ytngelemjpgglpaa.Pro
