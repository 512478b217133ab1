/-
  avl: sum works out a node's height and top.
-/
import Derived.Test.YtmgljgmfipodeaaM10
import Derived.Deep.RegionHeld3
import Derived.WalkMore
import Derived.Deep.DeepCutAuto
import Derived.BigQuiet
/-
  avl: sum works out a node's height and top.
-/
namespace Go.Proofs.Ytmgljgmfipodeaa.Av
open Go Go.RowKit
set_option linter.unusedSimpArgs false
set_option linter.unusedVariables false
attribute [local go_sem ↓] Go.wp_at_zero Go.wp_at_succ

section
variable {w : World} {B b g cap : Nat} {most root many : Int} {fv : Value} {ns : List Nd}
theorem height_st (a : Int) (h : St w B b g cap most root many fv ns) (ha : a < ns.length) :
    Calls Try.prog 44 #[.pointer (some ⟨b, 0, none⟩), .int .i64 a] w fun e w' => e = .returned (.int .i64 (hOf ns a)) ∧ w' = w := by
  refine height_any b g cap B ns a most root many fv w h.t h.r ?_
  rcases Int.lt_or_le a 0 with k | k
  · exact .inl k
  · refine .inr ⟨a.toNat, ns[a.toNat]'(by omega), by omega, List.getElem?_eq_getElem _⟩
theorem side_st (p : Nat) (r : Bool) (h : St w B b g cap most root many fv ns) (hp : p < ns.length) :
    Calls Try.prog 38 #[.pointer (some ⟨b, 0, none⟩), .int .i64 (p : Int), .bool r] w fun e w' => e = .returned (.int .i64 (sideN ns p r)) ∧ w' = w := by
  have e : ns[p]? = some ns[p] := List.getElem?_eq_getElem hp
  refine (side_any b g cap p B ns ns[p] most root many fv r w h.t h.r e).mono ?_
  rintro e' w' ⟨rfl, rfl⟩
  refine ⟨?_, rfl⟩
  unfold sideN
  rw [e]; rfl
theorem hang_st (p : Nat) (r : Bool) (d : Int) (h : St w B b g cap most root many fv ns) (hp : p < ns.length) :
    Calls Try.prog 39 #[.pointer (some ⟨b, 0, none⟩), .int .i64 (p : Int), .bool r, .int .i64 d] w fun e w' => e = .returned (.tuple #[]) ∧ St w' B b g cap most root many fv (hangN ns p r d) ∧ But (· = g) w w' := by
  have e : ns[p]? = some ns[p] := List.getElem?_eq_getElem hp
  refine (hang_any b g cap p B ns ns[p] most root many d fv r w h.t h.r e).mono ?_
  rintro e' w' ⟨rfl, rfl⟩
  refine ⟨rfl, ⟨?_, hang_row h.r e, h.ne⟩, (But.refl (· = g) _).set (show _ = g from rfl) _⟩
  have := h.t
  unfold TAt at this ⊢
  rw [Below.heap_setCell _ _ _ _ h.ne, hangN_len]
  exact this
end
/-- how far the node is worked out: k sides are done -/
def nodeAt (ns : List Nd) (p : Nat) (m : Int) (nd : Nd) (k : Nat) : Nd := { nd with h := m, top := if k = 0 then nd.x.t else if k = 1 then topL ns p nd else topR ns p nd (topL ns p nd) }
theorem tOf_set {ns : List Nd} {p s : Nat} {n : Nd} (h : s ≠ p) : tOf (ns.set p n) (s : Int) = tOf ns (s : Int) := by
  unfold tOf; rw [show ((s : Nat) : Int).toNat = s from rfl, List.getElem?_set_ne (Ne.symm h)]
/-- one side more -/
theorem nodeAt_step (ns : List Nd) (p : Nat) (m : Int) (nd : Nd) (k : Nat) (hk : k < 2) (s : Int) (hs : s = if k = 0 then nd.l else nd.r) :
    (s < 0 → nodeAt ns p m nd (k + 1) = nodeAt ns p m nd k) ∧
    ((0 ≤ s → s = (p : Int) → nodeAt ns p m nd (k + 1) = nodeAt ns p m nd k)) ∧
    ((0 ≤ s → s ≠ (p : Int) → (nodeAt ns p m nd (k + 1)).top = max (nodeAt ns p m nd k).top (tOf ns s))) := by
  have : k = 0 ∨ k = 1 := by omega
  rcases this with rfl | rfl
  · simp only [if_true] at hs
    subst hs
    unfold nodeAt topL
    refine ⟨fun h => ?_, fun h e => ?_, fun h e => ?_⟩
    · simp [h]
    · simp [e]
    · simp [show ¬ nd.l < 0 by omega, e]
  · simp only [Nat.one_ne_zero, if_false] at hs
    subst hs
    unfold nodeAt topR
    refine ⟨fun h => ?_, fun h e => ?_, fun h e => ?_⟩
    · simp [h]
    · simp [e]
    · simp [show ¬ nd.r < 0 by omega, e]
theorem nodeAt_next (ns : List Nd) (p : Nat) (m : Int) (nd : Nd) (k : Nat) (hk : k < 2) (s : Nat) (hs : (s : Int) = if k = 0 then nd.l else nd.r) (n : Nd) (hp : p < ns.length) (hn : (ns.set p (nodeAt ns p m nd k))[s]? = some n) :
    nodeAt ns p m nd (k + 1) = { nodeAt ns p m nd k with top := max (nodeAt ns p m nd k).top n.top } := by
  obtain ⟨_, b, c⟩ := nodeAt_step ns p m nd k hk s hs
  by_cases e : s = p
  · subst e
    rw [List.getElem?_set_self hp] at hn
    simp only [Option.some.injEq] at hn
    subst hn
    rw [b (by omega) rfl, show max (nodeAt ns s m nd k).top (nodeAt ns s m nd k).top = (nodeAt ns s m nd k).top by omega]
  · have c := c (by omega) (by omega)
    rw [List.getElem?_set_ne (Ne.symm e)] at hn
    have : tOf ns (s : Int) = n.top := by unfold tOf; rw [show ((s : Nat) : Int).toNat = s from rfl, hn]; rfl
    rw [this] at c
    rw [← c]; rfl
set_option maxRecDepth 100000 in
theorem sum_st {w : World} {B b g cap p : Nat} {most root many K : Int} {fv : Value} {ns : List Nd} (h : St w B b g cap most root many fv ns) (hp : p < ns.length) (hF : Fit ns K) (hK : K ≤ 1000000) :
    Calls Try.prog 43 #[.pointer (some ⟨b, 0, none⟩), .int .i64 (p : Int)] w fun e w' => e = .returned (.tuple #[]) ∧ St w' B b g cap most root many fv (sumN ns p) ∧ But (· = g) w w' := by
  obtain ⟨nd, hn⟩ : ∃ nd, ns[p]? = some nd := ⟨_, List.getElem?_eq_getElem hp⟩
  have ft := hF.at hn
  obtain ⟨a, ha⟩ : ∃ a, Hid (hOf ns nd.l = a) := ⟨_, rfl⟩
  obtain ⟨c, hc⟩ : ∃ c, Hid (hOf ns nd.r = c) := ⟨_, rfl⟩
  obtain ⟨m, hm⟩ : ∃ m, Hid (1 + max a c = m) := ⟨_, rfl⟩
  have ka := hF.hOf nd.l
  have kc := hF.hOf nd.r
  rw [ha.out] at ka
  rw [hc.out] at kc
  have c1 := h.t.c1
  have i0 : (0 : Int) ≤ (p : Int) := by omega
  have i1 : (p : Int) < ((ns.length : Nat) : Int) := by omega
  have q3 := h.cell p 3 nd (.int .i64 nd.l) hn (by omega) rfl
  have q4 := h.cell p 4 nd (.int .i64 nd.r) hn (by omega) rfl
  have q5 := h.cell p 5 nd (.int .i64 nd.h) hn (by omega) rfl
  have f5 := h.r.frozen (p * 8 + 5)
  have hw : IntKind.i64.wrap (1 + if a < c then c else a) = m := by have := hm.out; rw [IntKind.wrap_i64]; split <;> omega
  have H := Lib.hid h
  have HN := Lib.hid hn
  have FT := Lib.hid ft
  have HP := Lib.hid hp
  have HS : Hid (sumN ns p = ns.set p (nodeAt ns p m nd 2)) := by
    show _ = _
    unfold sumN
    rw [upd_some _ hn]
    unfold sumNd nodeAt
    rw [ha.out, hc.out, hm.out]; rfl
  clear h hF hn ft ka kc hp hK
  go_enter Try.func43, Try.ntmps43
  have ix0 : ∀ w', (Instr.index 100 (.agg #[.int .i64 nd.l, .int .i64 nd.r]) (.int .i64 0)).run Try.prog w' = .ok (.int .i64 nd.l) w' := fun _ => by kernel_rfl
  have ix1 : ∀ w', (Instr.index 100 (.agg #[.int .i64 nd.l, .int .i64 nd.r]) (.int .i64 1)).run Try.prog w' = .ok (.int .i64 nd.r) w' := fun _ => by kernel_rfl
  go_upto_region 1 with fail
  go_cut [] (fun wx => Hid (St wx B b g cap most root many fv (ns.set p { nd with h := m })) ∧ Hid (But (· = g) w wx))
  case first =>
    have HS0 : (fun w' : World => w'.cell? ⟨g, p * 8 + 3, none⟩ = some (.int .i64 nd.l) ∧ w'.cell? ⟨g, p * 8 + 4, none⟩ = some (.int .i64 nd.r)) w.drew := ⟨q3, q4⟩
    have A1 := height_st nd.l H.out.drew FT.out.1
    have A2 := height_st nd.r H.out.drew FT.out.2.1
    rw [ha.out] at A1
    rw [hc.out] at A2
    go_region_held3 (fun w' : World => w'.cell? ⟨g, p * 8 + 3, none⟩ = some (.int .i64 nd.l) ∧ w'.cell? ⟨g, p * 8 + 4, none⟩ = some (.int .i64 nd.r))
      (first | with_reducible exact HS0 | with_reducible assumption | exact ⟨(World.cell?_setCell_other w.drew ⟨g, p * 8 + 5, none⟩ ⟨g, p * 8 + 3, none⟩ _ (by simp)).trans q3, (World.cell?_setCell_other w.drew ⟨g, p * 8 + 5, none⟩ ⟨g, p * 8 + 4, none⟩ _ (by simp)).trans q4⟩)
      (first
        | (go_at_call 44; (with_reducible refine A1.mono ?_); rintro e w20 ⟨rfl, rfl⟩)
        | (go_at_call 44; (with_reducible refine A2.mono ?_); rintro e w20 ⟨rfl, rfl⟩))
    all_goals
      dsimp only [Exit.then]
      refine ‹∀ (a' : Act) (w' : World), Met _ a' w' → _› _ _ ?_
      go_meet
      case rel =>
        exact ⟨(H.out.set HN.out (by omega) rfl).drew, ((But.refl (· = g) _).set (show _ = g from rfl) _).drew⟩
  obtain ⟨H1, B1⟩ := hcut
  have e1 : (ns.set p { nd with h := m })[p]? = some { nd with h := m } := List.getElem?_set_self HP.out
  have r1 := H1.out.cell p 1 _ (.int .i64 nd.x.t) e1 (by omega) rfl
  have r6 := H1.out.cell p 6 _ (.int .i64 nd.top) e1 (by omega) rfl
  have f6 := H1.out.r.frozen (p * 8 + 6)
  clear q3 q4 q5 f5 hw c1
  go_upto_region 3 with fail
  have e2 : (ns.set p (nodeAt ns p m nd 0))[p]? = some (nodeAt ns p m nd 0) := List.getElem?_set_self HP.out
  have H2 := Lib.hid ((H1.out.set (nd' := nodeAt ns p m nd 0) (k := 6) (v := .int .i64 nd.x.t) e1 (by omega) rfl))
  have B2 := Lib.hid (But.set B1.out (p := ⟨g, p * 8 + 6, none⟩) (show _ = g from rfl) (.int .i64 nd.x.t))
  rw [List.set_set] at H2
  obtain ⟨wd, hwd⟩ : ∃ x, Hid (x = wc.setCell ⟨g, p * 8 + 6, none⟩ (.int .i64 nd.x.t)) := ⟨_, rfl⟩
  rw [← hwd.out] at H2 B2 ⊢
  clear r1 r6 f6 e1 H1 B1 hwd
  have q3 := H2.out.cell p 3 _ (.int .i64 nd.l) e2 (by omega) rfl
  have q4 := H2.out.cell p 4 _ (.int .i64 nd.r) e2 (by omega) rfl
  go_quiet (fail)
  clear q3 q4 e2
  go_wp2_with fail
  go_loopw [54] (fun i wr => ∃ k : Nat, i = .int .i64 (k : Int) ∧ k ≤ 2 ∧ Hid (St wr B b g cap most root many fv (ns.set p (nodeAt ns p m nd k))) ∧ Hid (But (· = g) w wr)) (fun i _ => 2 - (intOf i).toNat)
  case atStart => exact ⟨0, rfl, by omega, H2.out.heap rfl rfl, B2.out.drewN _⟩
  case round =>
    rename_i wr
    obtain ⟨wo, rfl⟩ : ∃ wo : World, wo = wr := ⟨_, rfl⟩
    clear H2 B2
    obtain ⟨k, rfl, hk, H3, B3⟩ := hrel
    have hk3 : k = 0 ∨ k = 1 ∨ k = 2 := by omega
    rcases hk3 with rfl | rfl | rfl
    · by_cases hs : nd.l < 0
      · have HZ := Lib.hid ((nodeAt_step ns p m nd 0 (by omega) nd.l rfl).1 hs)
        go_wp2_with fail
        go_roundw
        case rel => exact ⟨1, rfl, by omega, by rw [HZ.out]; exact H3, B3⟩
        case measure => simp [intOf]
      · obtain ⟨j, hj⟩ : ∃ j : Nat, (j : Int) = nd.l := ⟨nd.l.toNat, by omega⟩
        have jl : j < ns.length := by have := FT.out.1; omega
        obtain ⟨n, hn⟩ : ∃ n, (ns.set p (nodeAt ns p m nd 0))[j]? = some n := ⟨_, List.getElem?_eq_getElem (by rw [List.length_set]; exact jl)⟩
        have HZ := Lib.hid (nodeAt_next ns p m nd 0 (by omega) j hj n HP.out hn)
        have ep : (ns.set p (nodeAt ns p m nd 0))[p]? = some (nodeAt ns p m nd 0) := List.getElem?_set_self HP.out
        have c1 := H3.out.t.c1
        rw [List.length_set] at c1
        have j0 : (0 : Int) ≤ (j : Int) := by omega
        have j1 : (j : Int) < ((ns.length : Nat) : Int) := by omega
        obtain ⟨u, hu⟩ : ∃ u, Hid ((nodeAt ns p m nd 0).top = u) := ⟨_, rfl⟩
        obtain ⟨v, hv⟩ : ∃ v, Hid (n.top = v) := ⟨_, rfl⟩
        have q6 := H3.out.cell p 6 _ (.int .i64 u) ep (by omega) (by rw [← hu.out]; rfl)
        have qj := H3.out.cell j 6 _ (.int .i64 v) hn (by omega) (by rw [← hv.out]; rfl)
        have f6 := H3.out.r.frozen (p * 8 + 6)
        have H4 := Lib.hid (H3.out.set (nd' := nodeAt ns p m nd 1) (k := 6) (v := .int .i64 (if u < v then v else u)) ep (by omega) (by rw [HZ.out, hu.out, hv.out, show max u v = if u < v then v else u by split <;> omega]; rfl))
        rw [List.set_set] at H4
        have B4 := Lib.hid (But.set B3.out (p := ⟨g, p * 8 + 6, none⟩) (show _ = g from rfl) (.int .i64 (if u < v then v else u)))
        clear hn ep
        have ixj : ∀ w', (Instr.index 100 (.agg #[.int .i64 nd.l, .int .i64 nd.r]) (.int .i64 0)).run Try.prog w' = .ok (.int .i64 (j : Int)) w' := fun w' => by rw [hj]; exact ix0 w'
        rw [← hj] at hs
        clear ix0 ix1 hj
        go_wp2_with fail
        go_region
        go_wp2_with fail
        go_roundw
        case rel => exact ⟨1, rfl, by omega, H4.out.drew, B4.out.drew⟩
        case measure => simp [intOf]
    · by_cases hs : nd.r < 0
      · have HZ := Lib.hid ((nodeAt_step ns p m nd 1 (by omega) nd.r rfl).1 hs)
        go_wp2_with fail
        go_roundw
        case rel => exact ⟨2, rfl, by omega, by rw [HZ.out]; exact H3, B3⟩
        case measure => simp [intOf]
      · obtain ⟨j, hj⟩ : ∃ j : Nat, (j : Int) = nd.r := ⟨nd.r.toNat, by omega⟩
        have jl : j < ns.length := by have := FT.out.2.1; omega
        obtain ⟨n, hn⟩ : ∃ n, (ns.set p (nodeAt ns p m nd 1))[j]? = some n := ⟨_, List.getElem?_eq_getElem (by rw [List.length_set]; exact jl)⟩
        have HZ := Lib.hid (nodeAt_next ns p m nd 1 (by omega) j hj n HP.out hn)
        have ep : (ns.set p (nodeAt ns p m nd 1))[p]? = some (nodeAt ns p m nd 1) := List.getElem?_set_self HP.out
        have c1 := H3.out.t.c1
        rw [List.length_set] at c1
        have j0 : (0 : Int) ≤ (j : Int) := by omega
        have j1 : (j : Int) < ((ns.length : Nat) : Int) := by omega
        obtain ⟨u, hu⟩ : ∃ u, Hid ((nodeAt ns p m nd 1).top = u) := ⟨_, rfl⟩
        obtain ⟨v, hv⟩ : ∃ v, Hid (n.top = v) := ⟨_, rfl⟩
        have q6 := H3.out.cell p 6 _ (.int .i64 u) ep (by omega) (by rw [← hu.out]; rfl)
        have qj := H3.out.cell j 6 _ (.int .i64 v) hn (by omega) (by rw [← hv.out]; rfl)
        have f6 := H3.out.r.frozen (p * 8 + 6)
        have H4 := Lib.hid (H3.out.set (nd' := nodeAt ns p m nd 2) (k := 6) (v := .int .i64 (if u < v then v else u)) ep (by omega) (by rw [HZ.out, hu.out, hv.out, show max u v = if u < v then v else u by split <;> omega]; rfl))
        rw [List.set_set] at H4
        have B4 := Lib.hid (But.set B3.out (p := ⟨g, p * 8 + 6, none⟩) (show _ = g from rfl) (.int .i64 (if u < v then v else u)))
        clear hn ep
        have ixj : ∀ w', (Instr.index 100 (.agg #[.int .i64 nd.l, .int .i64 nd.r]) (.int .i64 1)).run Try.prog w' = .ok (.int .i64 (j : Int)) w' := fun w' => by rw [hj]; exact ix1 w'
        rw [← hj] at hs
        clear ix0 ix1 hj
        go_wp2_with fail
        go_region
        go_wp2_with fail
        go_roundw
        case rel => exact ⟨2, rfl, by omega, H4.out.drew, B4.out.drew⟩
        case measure => simp [intOf]
    · go_wp2
      go_end0
      rw [HS.out]
      exact ⟨rfl, H3.out, B3.out⟩
end Go.Proofs.Ytmgljgmfipodeaa.Av
