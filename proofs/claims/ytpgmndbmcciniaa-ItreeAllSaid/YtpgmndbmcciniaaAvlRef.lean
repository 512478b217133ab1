/-
  THE DOCUMENT's row, walked: place, Has, Insert, Delete, Same.
-/
import Derived.Test.YtpgmndbmcciniaaAvlLess
import Derived.Laws.AppendOwnNone
namespace Go.Proofs.Ytpgmndbmcciniaa.Av
open Go Go.RowKit
set_option linter.unusedSimpArgs false
set_option linter.unusedVariables false
attribute [local go_sem ↓] Go.wp_at_zero Go.wp_at_succ

/-- the document's tree in a world -/
structure RefIs (w : World) (r : Nat) (most : Int) (v : Value) (L : List It) : Prop where
  h : w.heap[r]? = some (.cells #[.int .i64 most, v] 31 (0, 0))
  row : RowT w 0 v L
  ne : v.ownBlock ≠ some r
section
variable {w w' : World} {r : Nat} {most : Int} {v : Value} {L : List It}
theorem RefIs.lt (h : RefIs w r most v L) : r < w.heap.size := (Array.getElem?_eq_some_iff.1 h.h).1
theorem RefIs.but {S : Nat → Prop} (h : RefIs w r most v L) (k : But S w w') (hr : ¬ S r) (hv : ∀ z, v.ownBlock = some z → ¬ S z) : RefIs w' r most v L :=
  ⟨by rw [k.block r h.lt hr]; exact h.h, owns_but h.row k hv, h.ne⟩
theorem RefIs.below (h : RefIs w r most v L) (k : Below w.heap.size w w') : RefIs w' r most v L := h.but (Below.but k (fun _ => False)) (fun z => z) (fun _ _ z => z)
theorem RefIs.c0 (h : RefIs w r most v L) : w.cell? ⟨r, 0, none⟩ = some (.int .i64 most) := by rw [cell_of_row w _ _ _ _ (0, 0) h.h]; rfl
theorem RefIs.c1 (h : RefIs w r most v L) : w.cell? ⟨r, 1, none⟩ = some v := by rw [cell_of_row w _ _ _ _ (0, 0) h.h]; rfl
theorem RefIs.f (h : RefIs w r most v L) (i : Nat) : w.frozen? ⟨r, i, none⟩ = false := frozen_of_row w _ _ _ _ h.h
theorem RefIs.set (h : RefIs w r most v L) {u : Value} {L' : List It} (hu : RowT w 0 u L') (hn : u.ownBlock ≠ some r) : RefIs (w.setCell ⟨r, 1, none⟩ u) r most u L' := by
  refine ⟨?_, owns_but hu ((But.refl (· = r) w).set (show _ = r from rfl) u) (fun z hz e => hn (by rw [hz, e])), hn⟩
  rw [heap_setCell_same w r 1 _ _ _ h.h]; rfl
end
set_option maxRecDepth 100000 in
set_option maxHeartbeats 1000000 in
theorem place_any {w : World} {r : Nat} {most : Int} {v : Value} {L : List It} {x : It} (h : RefIs w r most v L) (hs : Tr.Sorted L) (hl : L.length ≤ 1000000) :
    Calls Try.prog 29 #[.pointer (some ⟨r, 0, none⟩), .agg #[.int .i64 x.f, .int .i64 x.t, .int .i64 x.i]] w fun e w' => e = .returned (.tuple #[.int .i64 ((Tr.under x L).length : Int), .bool (decide (x ∈ L))]) ∧ Below w.heap.size w w' := by
  have B0 := ba w (.cells #[.int .i64 x.f, .int .i64 x.t, .int .i64 x.i] 33)
  have X0 := Lib.hid (itAt_new w x)
  have R0 := Lib.hid (h.below B0)
  replace B0 := Lib.hid B0
  obtain ⟨ao, cap, rfl, hc, hg⟩ := row_form h.row
  have HS := Lib.hid hs
  have HL := Lib.hid hl
  have HC := Lib.hid hc
  have UL : Hid ((Tr.under x L).length ≤ L.length) := under_le x L
  clear h hs hl hc hg
  go_enter Try.func29, Try.ntmps29
  go_wp2_with fail
  obtain ⟨wb, hwb⟩ : ∃ u, Hid (u = w.alloc (Obj.cells #[.int .i64 x.f, .int .i64 x.t, .int .i64 x.i] 33)) := ⟨_, rfl⟩
  rw [← hwb.out] at X0 R0 B0 ⊢
  obtain ⟨i3, hi3⟩ : ∃ i, Hid (w.heap.size = i) := ⟨_, rfl⟩
  rw [hi3.out] at X0 ⊢
  clear hwb
  go_loopw [6] (fun i wr => ∃ k : Nat, i = .int .i64 (k : Int) ∧ k ≤ (Tr.under x L).length ∧ Hid (RefIs wr r most (.slice ao L.length cap) L) ∧ Hid (ItAt wr i3 x) ∧ Hid (Below w.heap.size w wr)) (fun i _ => (Tr.under x L).length - (intOf i).toNat)
  case atStart => exact ⟨0, rfl, by omega, R0.out, X0.out, by first | exact B0.out | (show Below _ _ _; exact B0.out)⟩
  case round =>
    obtain ⟨wo, rfl⟩ : ∃ wo : World, wo = wr := ⟨_, rfl⟩
    clear R0 X0 B0
    obtain ⟨k, rfl, hk, R0, X0, B0⟩ := hrel
    have c1 := R0.out.c1
    have x0 := X0.out.c0
    have x1 := X0.out.c1
    have x2 := X0.out.c2
    by_cases hkl : k < L.length
    · obtain ⟨y, hy⟩ : ∃ y, L[k]? = some y := ⟨_, List.getElem?_eq_getElem hkl⟩
      obtain ⟨ao', cap', ee, _, hcells⟩ := rowT_cells R0.out.row
      simp only [Value.slice.injEq, true_and] at ee
      obtain ⟨e1, e2⟩ := ee
      subst e1; subst e2
      obtain ⟨bl, ol, rfl, hbl, y0, y1, y2⟩ := hcells k y hy
      have UA := under_at x L k y hk hy
      have i0 : (0 : Int) ≤ (k : Int) := by omega
      have i1 : (k : Int) < ((L.length : Nat) : Int) := by omega
      have d1 : decide ((k : Int) < ((L.length : Nat) : Int)) = true := by simp; omega
      have d2 : decide (k < L.length) = true := by simp; omega
      have HK := Lib.hid hkl
      have HB := Lib.hid hbl
      have kw : IntKind.i64.wrap ((k : Int) + 1) = (k : Int) + 1 := by rw [IntWalk.i64_left]; exact IntWalk.wrap64_in _ (by have := HL.out; omega)
      have A1 := rless_any y x wo.drew
      have mkS : ∀ w', Below wo.heap.size wo w' → (w'.cell? ⟨r, 1, none⟩ = some (.slice (some ⟨bl, ol, none⟩) L.length cap) ∧ w'.cell? ⟨i3, 0, none⟩ = some (.int .i64 x.f) ∧ w'.cell? ⟨i3, 1, none⟩ = some (.int .i64 x.t) ∧ w'.cell? ⟨i3, 2, none⟩ = some (.int .i64 x.i) ∧ w'.cell? ⟨bl, ol + k * 3, none⟩ = some (.int .i64 y.f) ∧ w'.cell? ⟨bl, ol + k * 3 + 1, none⟩ = some (.int .i64 y.t) ∧ w'.cell? ⟨bl, ol + k * 3 + 2, none⟩ = some (.int .i64 y.i)) := fun w' hb => ⟨(R0.out.below hb).c1, (X0.out.below hb).c0, (X0.out.below hb).c1, (X0.out.below hb).c2, (hb.cell (p := ⟨bl, _, none⟩) HB.out).trans y0, (hb.cell (p := ⟨bl, _, none⟩) HB.out).trans y1, (hb.cell (p := ⟨bl, _, none⟩) HB.out).trans y2⟩
      have HS0 := mkS _ ((Below.refl _ _).drew)
      by_cases hlt : y.lt x
      · rw [decide_eq_true hlt] at A1
        have HU := Lib.hid (UA.1 hlt)
        clear hcells hkl hbl UA hlt hk hy
        go_upto_region 2 with fail
        go_region_held3 (fun w' => w'.cell? ⟨r, 1, none⟩ = some (.slice (some ⟨bl, ol, none⟩) L.length cap) ∧ w'.cell? ⟨i3, 0, none⟩ = some (.int .i64 x.f) ∧ w'.cell? ⟨i3, 1, none⟩ = some (.int .i64 x.t) ∧ w'.cell? ⟨i3, 2, none⟩ = some (.int .i64 x.i) ∧ w'.cell? ⟨bl, ol + k * 3, none⟩ = some (.int .i64 y.f) ∧ w'.cell? ⟨bl, ol + k * 3 + 1, none⟩ = some (.int .i64 y.t) ∧ w'.cell? ⟨bl, ol + k * 3 + 2, none⟩ = some (.int .i64 y.i))
          (first | with_reducible exact HS0 | with_reducible assumption)
          (first
            | (go_at_call 41; (with_reducible refine A1.mono ?_); rintro e w7 ⟨rfl, b7⟩; have HS7 := mkS w7 (bt ((Below.refl _ _).drew) b7); have B7 := Lib.hid (bt ((Below.refl wo.heap.size wo).drew) b7); clear b7 A1))
        clear c1 x0 x1 x2 y0 y1 y2 HS0 mkS
        go_wp2_with fail
        go_roundw
        case rel => exact ⟨k + 1, rfl, by have := HU.out; omega, R0.out.below B7.out, X0.out.below B7.out, bt B0.out B7.out⟩
        case measure => show _ - ((k : Int) + 1).toNat < _ - ((k : Int)).toNat; have := HU.out; omega
      · rw [decide_eq_false hlt] at A1
        have hke : k = (Tr.under x L).length := by
          rcases Nat.lt_or_ge k (Tr.under x L).length with z | z
          · exact absurd (UA.2 z) hlt
          · omega
        have HE := Lib.hid hke
        have MA : Hid (decide (x ∈ L) = decide (y = x)) := by
          show _ = _
          have := mem_at x L HS.out
          rw [← hke, hy] at this
          simp only [Option.some.injEq] at this
          exact decide_eq_decide.2 this
        have YX : Hid (decide (y = x) = (decide (y.f = x.f) && (decide (y.t = x.t) && decide (y.i = x.i)))) := by
          show _ = _
          cases y; cases x
          simp only [It.mk.injEq, Bool.decide_and]
        clear hcells hkl hbl UA hlt hk hy hke
        go_upto_region 2 with fail
        go_region_held3 (fun w' => w'.cell? ⟨r, 1, none⟩ = some (.slice (some ⟨bl, ol, none⟩) L.length cap) ∧ w'.cell? ⟨i3, 0, none⟩ = some (.int .i64 x.f) ∧ w'.cell? ⟨i3, 1, none⟩ = some (.int .i64 x.t) ∧ w'.cell? ⟨i3, 2, none⟩ = some (.int .i64 x.i) ∧ w'.cell? ⟨bl, ol + k * 3, none⟩ = some (.int .i64 y.f) ∧ w'.cell? ⟨bl, ol + k * 3 + 1, none⟩ = some (.int .i64 y.t) ∧ w'.cell? ⟨bl, ol + k * 3 + 2, none⟩ = some (.int .i64 y.i))
          (first | with_reducible exact HS0 | with_reducible assumption)
          (first
            | (go_at_call 41; (with_reducible refine A1.mono ?_); rintro e w7 ⟨rfl, b7⟩; have HS7 := mkS w7 (bt ((Below.refl _ _).drew) b7); have B7 := Lib.hid (bt ((Below.refl wo.heap.size wo).drew) b7); clear b7 A1))
        clear c1 x0 x1 x2 y0 y1 y2 HS0 mkS
        go_upto_region 4 with fail
        obtain ⟨c1, x0, x1, x2, y0, y1, y2⟩ := HS7
        by_cases hf : y.f = x.f
        · by_cases ht : y.t = x.t
          · by_cases hi : y.i = x.i
            · have hxy : y = x := by cases y; cases x; simp_all
              have MT : Hid (x ∈ L) := (show x ∈ L from of_decide_eq_true (by rw [MA.out]; exact decide_eq_true hxy))
              subst hxy
              clear hf ht hi MA
              go_quiet (fail)
              clear c1 x0 x1 x2 y0 y1 y2
              go_wp2_with fail
              go_ret2
              exact ⟨by rw [decide_eq_true MT.out, ← HE.out]; rfl, bdN (bt B0.out B7.out) _⟩
            · have ND : Hid (¬ y = x) := fun z => hi (by rw [z])
              go_quiet (fail)
              clear c1 x0 x1 x2 y0 y1 y2
              go_wp2_with fail
              go_ret2
              exact ⟨by rw [MA.out, ← HE.out, decide_eq_false ND.out]; rfl, bdN (bt B0.out B7.out) _⟩
          · have ND : Hid (¬ y = x) := fun z => ht (by rw [z])
            go_quiet (fail)
            clear c1 x0 x1 x2 y0 y1 y2
            go_wp2_with fail
            go_ret2
            exact ⟨by rw [MA.out, ← HE.out, decide_eq_false ND.out]; rfl, bdN (bt B0.out B7.out) _⟩
        · have ND : Hid (¬ y = x) := fun z => hf (by rw [z])
          go_quiet (fail)
          clear c1 x0 x1 x2 y0 y1 y2
          go_wp2_with fail
          go_ret2
          exact ⟨by rw [MA.out, ← HE.out, decide_eq_false ND.out]; rfl, bdN (bt B0.out B7.out) _⟩
    · have hke : k = L.length := by have := UL.out; omega
      have HU : Hid ((Tr.under x L).length = L.length) := by have := UL.out; show _ = _; omega
      subst hke
      have MA : Hid (decide (x ∈ L) = false) := by
        show _ = _
        have := mem_at x L HS.out
        rw [HU.out, List.getElem?_eq_none (Nat.le_refl _)] at this
        exact decide_eq_false (fun z => by have := this.1 z; simp at this)
      clear hk hkl
      go_upto_region 2 with fail
      go_quiet (fail)
      go_upto_region 4 with fail
      go_quiet (fail)
      go_wp2_with fail
      go_ret2
      exact ⟨by rw [MA.out, HU.out]; rfl, bdN (bdN B0.out _) _⟩
end Go.Proofs.Ytpgmndbmcciniaa.Av
