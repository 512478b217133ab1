/-
  The document's Parts, walked.
-/
import Derived.Test.YtngelemjpgglpaaM48
import Derived.Test.YtngelemjpgglpaaM47
/-
  The document's Parts, walked.
-/
namespace Go.Proofs.Ytngelemjpgglpaa.Pro
open Go Go.RowKit
set_option linter.unusedSimpArgs false
set_option linter.unusedVariables false
attribute [local go_sem ↓] Go.wp_at_zero Go.wp_at_succ

/-- a row's last span, its end set -/
theorem span_set {w : World} {B g m cap j : Nat} {ps : List (Int × Int)} {s d : Int} (d' : Int) (hj : ps.length = j) (h : spanE.Row w B (.slice (some ⟨g, 0, none⟩) m cap) (ps ++ [(s, d)])) :
    w.cell? ⟨g, j * 2 + 1, none⟩ = some (.int .i64 d) ∧ w.frozen? ⟨g, j * 2 + 1, none⟩ = false ∧ B ≤ g ∧ m = j + 1 ∧
    spanE.Row (w.setCell ⟨g, j * 2 + 1, none⟩ (.int .i64 d')) B (.slice (some ⟨g, 0, none⟩) m cap) (ps ++ [(s, d')]) ∧ w.grownBy (w.setCell ⟨g, j * 2 + 1, none⟩ (.int .i64 d')) (some g) := by
  subst hj
  have hm : m = ps.length + 1 := by
    obtain ⟨ao, c, e, _⟩ := h.form
    simp only [Value.slice.injEq, List.length_append, List.length_singleton] at e
    exact e.2.1
  subst hm
  have hc : w.cell? ⟨g, ps.length * 2 + 1, none⟩ = some (.int .i64 d) := by
    obtain ⟨ao, c, e, _, hx⟩ := h.arg
    obtain ⟨b, o, e2, _, h3⟩ := hx ps.length (s, d) (by simp)
    subst e2
    simp only [Value.slice.injEq, Option.some.injEq, Addr.mk.injEq] at e
    obtain ⟨⟨rfl, rfl, _⟩, _⟩ := e
    have := h3 1 (.int .i64 d) rfl
    rwa [Nat.zero_add] at this
  have h' : w.ownsRow B spanE.e spanE.sz (.slice (some ⟨g, 0, none⟩) (ps.length + 1) cap) (ps.length + 1) ((ps ++ [(s, d)]).flatMap spanE.enc) := by
    have := h; unfold Elem.Row at this; rwa [List.length_append, List.length_singleton] at this
  have st := World.ownsRow.stored h' (ps.length * 2 + 1) (.int .i64 d')
  refine ⟨hc, h'.frozenAt _, (h.lt g rfl).1, rfl, ?_, st.2⟩
  unfold Elem.Row
  rw [List.length_append, List.length_singleton]
  have e : (ps ++ [(s, d')]).flatMap spanE.enc = ((ps ++ [(s, d)]).flatMap spanE.enc).set (ps.length * 2 + 1) (.int .i64 d') := by
    rw [List.flatMap_append, List.flatMap_append, List.set_append_right _ _ (by rw [Elem.flat]; show ps.length * 2 ≤ _; omega), Elem.flat]
    rw [show ps.length * 2 + 1 - ps.length * spanE.sz = 1 by show ps.length * 2 + 1 - ps.length * 2 = 1; omega]
    rfl
  rw [e]; exact st.1
set_option maxRecDepth 100000 in
set_option maxHeartbeats 4000000 in
theorem partsR_is (a z : Int) (w : World) (h1 : 1 ≤ a) (h2 : a < z) (h3 : z ≤ 3652060) (K : Nat) (HK0 : Cal.it a z K = z) (HI0 : ∀ i, i < K → Cal.it a z i < z) (hl : K ≤ 100000) :
    Calls Try.prog 19 #[.agg #[.int .i64 a, .int .i64 z]] w fun e w' => ∃ v, e = .returned v ∧ spanE.Row w' w.heap.size v (Cal.parts a z K) ∧ Below w.heap.size w w' := by
  have H1 := Lib.hid h1; have H2 := Lib.hid h2; have H3 := Lib.hid h3; have HKZ := Lib.hid HK0; have HI := Lib.hid HI0; have HL := Lib.hid hl
  have P0 : Hid ((w.alloc (.cells #[.int .i64 a, .int .i64 z] 44)).heap[w.heap.size]? = some (.cells #[.int .i64 a, .int .i64 z] 44 (0, 0))) := heap_alloc_new w _
  have B0 := Lib.hid (ba w (.cells #[.int .i64 a, .int .i64 z] 44))
  clear h1 h2 h3 HK0 HI0 hl
  go_enter Try.func19, Try.ntmps19
  go_upto_region 1 with fail
  obtain ⟨i0, hi0⟩ : ∃ k, Hid (w.heap.size = k) := ⟨_, rfl⟩
  obtain ⟨w0, hw0⟩ : ∃ x, Hid (x = w.alloc (.cells #[.int .i64 a, .int .i64 z] 44)) := ⟨_, rfl⟩
  rw [← hw0.out] at P0 B0 ⊢
  rw [hi0.out] at P0 ⊢
  clear hw0
  have p0 : w0.cell? ⟨i0, 0, none⟩ = some (.int .i64 a) := by rw [cell_of_row w0 _ _ _ _ (0, 0) P0.out]; rfl
  obtain ⟨RB, hRB⟩ : ∃ k, Hid (i0 + 1 = k) := ⟨_, rfl⟩
  go_wp2_with fail
  clear p0
  go_loopw [3, 4] (fun o d wr => ∃ (k : Nat) (dd : Int) (pa : Option Addr) (pc : Nat), o = .slice pa k pc ∧ d = .int .i64 dd ∧ k ≤ K ∧ a ≤ dd ∧ dd ≤ z ∧ ((k = 0 ∧ dd = a ∧ pa = none ∧ pc = 0) ∨ (∃ j, k = j + 1 ∧ Cal.it a z j < dd ∧ dd ≤ Cal.it a z (j + 1) ∧ spanE.Row wr RB (.slice pa k pc) (Cal.parts a z j ++ [(Cal.it a z j, dd)]))) ∧ Hid (wr.heap[i0]? = some (.cells #[.int .i64 a, .int .i64 z] 44 (0, 0))) ∧ Hid (Below w.heap.size w wr)) (fun _ d _ => (z - intOf d).toNat)
  case atStart => exact ⟨0, a, none, 0, rfl, rfl, by omega, Int.le_refl _, by have := H2.out; omega, .inl ⟨rfl, rfl, rfl, rfl⟩, P0, B0⟩
  case round =>
    obtain ⟨wo, rfl⟩ : ∃ wo : World, wo = wr := ⟨_, rfl⟩
    clear P0 B0
    obtain ⟨k, dd, pa, pc, rfl, rfl, hk, ha, hz, hcase, P1, B1⟩ := hrel
    have p1 : wo.cell? ⟨i0, 1, none⟩ = some (.int .i64 z) := by rw [cell_of_row wo _ _ _ _ (0, 0) P1.out]; rfl
    have LB : Hid (RB ≤ wo.heap.size) := by show _ ≤ _; rw [← hRB.out]; exact (Array.getElem?_eq_some_iff.1 P1.out).1
    by_cases hlt : dd < z
    · have dz : decide (dd < z) = true := by simpa using hlt
      have dw : IntKind.i64.wrap (dd + 1) = dd + 1 := by rw [IntWalk.i64_left]; exact IntWalk.wrap64_in _ (by have := H1.out; have := H3.out; omega)
      have RD := rdate_yes dd wo (by have := H1.out; omega) (by have := H3.out; omega)
      have HD : Hid (a ≤ dd ∧ dd < z) := ⟨ha, hlt⟩
      by_cases hap : Cal.it a z k = dd
      · have R1 : Hid (spanE.Row wo RB (.slice pa k pc) (Cal.parts a z k)) := by
          rcases hcase with ⟨rfl, _, rfl, rfl⟩ | ⟨j, rfl, g1, g2, R⟩
          · exact Elem.Row.nil _ _
          · show spanE.Row _ _ _ _
            rw [Cal.parts_succ, hap]; exact R
        have HK : Hid (k < K) := by
          show _ < _
          rcases Nat.lt_or_ge k K with h | h
          · exact h
          · exfalso
            have : k = K := by omega
            subst this; rw [HKZ.out] at hap; omega
        have HST := Lib.hid (Cal.it_step H1.out H2.out H3.out k (by rw [hap]; exact hlt))
        have HAP := Lib.hid hap
        have DAY : Hid (k = 0 ∨ ∀ y m d, Cal.IsDate dd y m d → d = 1) := by
          show _ ∨ _
          rcases hcase with ⟨rfl, _⟩ | ⟨j, rfl, g1, g2, _⟩
          · exact .inl rfl
          · right
            intro y m d hd
            have e : Cal.it a z (j + 1) = min (Cal.endOf (Cal.it a z j) + 1) z := rfl
            have bj := Cal.it_bd H1.out H2.out H3.out j
            have : Cal.endOf (Cal.it a z j) + 1 = dd := by omega
            obtain ⟨y', m', h'⟩ := Cal.endOf_next (n := Cal.it a z j) (by have := H1.out; omega) (by have := H3.out; omega) (by have := H3.out; omega)
            rw [this] at h'
            exact (Cal.isDate_uniq _ _ _ _ _ _ _ hd h').2.2
        clear hcase hk ha hz hlt hap
        by_cases hk0 : k = 0
        · have e0 : ((k : Int) == 0) = true := by simpa using hk0
          clear hk0
          go_upto_region 6 with (go_at_call 46; (with_reducible refine RD.mono ?_); rintro e w5 ⟨y, mo, d, hd, rfl, b5⟩; have R5 := Lib.hid (Elem.Row.below R1.out b5); have P5 : Hid (w5.heap[i0]? = some (.cells #[.int .i64 a, .int .i64 z] 44 (0, 0))) := (b5.block _ (Array.getElem?_eq_some_iff.1 P1.out).1).trans P1.out; have L5 : Hid (RB ≤ w5.heap.size) := Nat.le_trans LB.out b5.size; have B5 := Lib.hid (bt B1.out b5); clear b5 RD p1 R1 P1 B1 hd DAY LB)
          have b6 := ba w5 (.cells #[.int .i64 dd, .int .i64 dd] 44)
          have R6 := Lib.hid (Elem.Row.below R5.out b6); have B6 := Lib.hid (bt B5.out b6)
          have P6 : Hid ((w5.alloc (.cells #[.int .i64 dd, .int .i64 dd] 44)).heap[i0]? = some (.cells #[.int .i64 a, .int .i64 z] 44 (0, 0))) := (b6.block _ (Array.getElem?_eq_some_iff.1 P5.out).1).trans P5.out
          have L6 : Hid (RB ≤ (w5.alloc (.cells #[.int .i64 dd, .int .i64 dd] 44)).heap.size) := Nat.le_trans L5.out b6.size
          have SRC : Hid (spanE.Arg (w5.alloc (.cells #[.int .i64 dd, .int .i64 dd] 44)) (.slice (some ⟨w5.heap.size, 0, none⟩) 1 1) [(dd, dd)]) := Elem.arg_one (E := spanE) (w := w5) (dd, dd) _
          have HLP : Hid ((Cal.parts a z k).length + [(dd, dd)].length ≤ 1000001) := by show _ ≤ _; rw [Cal.parts_len, List.length_singleton]; have := HK.out; have := HL.out; omega
          clear b6 R5 P5 L5 B5
          go_upto_region 8 with (at_builtin; go_loud (refine Elem.app (E := spanE) rfl _ _ rfl RB _ _ _ [(dd, dd)] rfl rfl R6.out SRC.out HLP.out (by decide) L6.out ?_; intro v7 w7 r7 g7 _; have R7 := Lib.hid r7; have P7 : Hid (w7.heap[i0]? = some (.cells #[.int .i64 a, .int .i64 z] 44 (0, 0))) := (g7.block i0 (Array.getElem?_eq_some_iff.1 P6.out).1 (fun e => by have := (Elem.Row.lt R6.out i0 e.symm).1; have := hRB.out; omega)).trans P6.out; have B7 : Hid (Below w.heap.size w w7) := B6.out.grown g7 B6.out.size (fun q e => by have := (Elem.Row.lt R6.out q e).1; have := hRB.out; have := hi0.out; omega); clear r7 g7 R6 P6 L6 B6 SRC HLP))
          obtain ⟨g, m, cap, rfl⟩ : ∃ g m cap, v7 = .slice (some ⟨g, 0, none⟩) m cap := by
            obtain ⟨ao, cap, e, _, hg⟩ := R7.out.form
            obtain ⟨g, rfl⟩ := hg (by simp)
            exact ⟨g, _, cap, e⟩
          have ST := span_set (j := k) (dd + 1) (Cal.parts_len a z k) R7.out
          obtain ⟨c1, f1, lg, em, R8, G8⟩ := ST
          have R9 := Lib.hid R8; have G9 := Lib.hid G8; have LG := Lib.hid lg; have hm := Lib.hid em
          have hj0 : (0 : Int) ≤ (k : Int) := by omega
          have hj1 : (k : Int) < (m : Int) := by omega
          have lw : IntKind.i64.wrap ((m : Int) - 1) = (k : Int) := by rw [IntWalk.i64_left, IntWalk.wrap64_in _ (by have := HL.out; have := HK.out; omega)]; omega
          clear em R8 G8 lg R7
          go_wp2_with fail
          go_roundw
          case rel =>
            refine ⟨m, dd + 1, some ⟨g, 0, none⟩, cap, rfl, rfl, by have := hm.out; have := HK.out; omega, by have := HD.out.1; omega, by have := HD.out.2; omega, .inr ⟨k, hm.out, by rw [HAP.out]; omega, by have := HST.out; have := HAP.out; omega, by rw [HAP.out]; exact R9.out⟩, ?_, ?_⟩
            · exact (G9.out.block i0 (Array.getElem?_eq_some_iff.1 P7.out).1 (fun e => by simp only [Option.some.injEq] at e; have := LG.out; have := hRB.out; omega)).trans P7.out
            · exact B7.out.grown G9.out B7.out.size (fun q e => by simp only [Option.some.injEq] at e; have := LG.out; have := hRB.out; have := hi0.out; omega)
          case measure => show (z - (dd + 1)).toNat < (z - dd).toNat; have := HD.out.2; omega
        · have e0 : ((k : Int) == 0) = false := by simpa using hk0
          have DAY1 := Lib.hid (DAY.out.resolve_left hk0)
          clear hk0
          go_upto_region 6 with (go_at_call 46; (with_reducible refine RD.mono ?_); rintro e w5 ⟨y, mo, d, hd, rfl, b5⟩; obtain rfl := DAY1.out y mo d hd; have R5 := Lib.hid (Elem.Row.below R1.out b5); have P5 : Hid (w5.heap[i0]? = some (.cells #[.int .i64 a, .int .i64 z] 44 (0, 0))) := (b5.block _ (Array.getElem?_eq_some_iff.1 P1.out).1).trans P1.out; have L5 : Hid (RB ≤ w5.heap.size) := Nat.le_trans LB.out b5.size; have B5 := Lib.hid (bt B1.out b5); clear b5 RD p1 R1 P1 B1 hd DAY LB)
          have b6 := ba w5 (.cells #[.int .i64 dd, .int .i64 dd] 44)
          have R6 := Lib.hid (Elem.Row.below R5.out b6); have B6 := Lib.hid (bt B5.out b6)
          have P6 : Hid ((w5.alloc (.cells #[.int .i64 dd, .int .i64 dd] 44)).heap[i0]? = some (.cells #[.int .i64 a, .int .i64 z] 44 (0, 0))) := (b6.block _ (Array.getElem?_eq_some_iff.1 P5.out).1).trans P5.out
          have L6 : Hid (RB ≤ (w5.alloc (.cells #[.int .i64 dd, .int .i64 dd] 44)).heap.size) := Nat.le_trans L5.out b6.size
          have SRC : Hid (spanE.Arg (w5.alloc (.cells #[.int .i64 dd, .int .i64 dd] 44)) (.slice (some ⟨w5.heap.size, 0, none⟩) 1 1) [(dd, dd)]) := Elem.arg_one (E := spanE) (w := w5) (dd, dd) _
          have HLP : Hid ((Cal.parts a z k).length + [(dd, dd)].length ≤ 1000001) := by show _ ≤ _; rw [Cal.parts_len, List.length_singleton]; have := HK.out; have := HL.out; omega
          clear b6 R5 P5 L5 B5
          go_upto_region 8 with (at_builtin; go_loud (refine Elem.app (E := spanE) rfl _ _ rfl RB _ _ _ [(dd, dd)] rfl rfl R6.out SRC.out HLP.out (by decide) L6.out ?_; intro v7 w7 r7 g7 _; have R7 := Lib.hid r7; have P7 : Hid (w7.heap[i0]? = some (.cells #[.int .i64 a, .int .i64 z] 44 (0, 0))) := (g7.block i0 (Array.getElem?_eq_some_iff.1 P6.out).1 (fun e => by have := (Elem.Row.lt R6.out i0 e.symm).1; have := hRB.out; omega)).trans P6.out; have B7 : Hid (Below w.heap.size w w7) := B6.out.grown g7 B6.out.size (fun q e => by have := (Elem.Row.lt R6.out q e).1; have := hRB.out; have := hi0.out; omega); clear r7 g7 R6 P6 L6 B6 SRC HLP))
          obtain ⟨g, m, cap, rfl⟩ : ∃ g m cap, v7 = .slice (some ⟨g, 0, none⟩) m cap := by
            obtain ⟨ao, cap, e, _, hg⟩ := R7.out.form
            obtain ⟨g, rfl⟩ := hg (by simp)
            exact ⟨g, _, cap, e⟩
          have ST := span_set (j := k) (dd + 1) (Cal.parts_len a z k) R7.out
          obtain ⟨c1, f1, lg, em, R8, G8⟩ := ST
          have R9 := Lib.hid R8; have G9 := Lib.hid G8; have LG := Lib.hid lg; have hm := Lib.hid em
          have hj0 : (0 : Int) ≤ (k : Int) := by omega
          have hj1 : (k : Int) < (m : Int) := by omega
          have lw : IntKind.i64.wrap ((m : Int) - 1) = (k : Int) := by rw [IntWalk.i64_left, IntWalk.wrap64_in _ (by have := HL.out; have := HK.out; omega)]; omega
          clear em R8 G8 lg R7
          go_wp2_with fail
          go_roundw
          case rel =>
            refine ⟨m, dd + 1, some ⟨g, 0, none⟩, cap, rfl, rfl, by have := hm.out; have := HK.out; omega, by have := HD.out.1; omega, by have := HD.out.2; omega, .inr ⟨k, hm.out, by rw [HAP.out]; omega, by have := HST.out; have := HAP.out; omega, by rw [HAP.out]; exact R9.out⟩, ?_, ?_⟩
            · exact (G9.out.block i0 (Array.getElem?_eq_some_iff.1 P7.out).1 (fun e => by simp only [Option.some.injEq] at e; have := LG.out; have := hRB.out; omega)).trans P7.out
            · exact B7.out.grown G9.out B7.out.size (fun q e => by simp only [Option.some.injEq] at e; have := LG.out; have := hRB.out; have := hi0.out; omega)
          case measure => show (z - (dd + 1)).toNat < (z - dd).toNat; have := HD.out.2; omega
      · obtain ⟨j, rfl, g1, g2, R⟩ : ∃ j, k = j + 1 ∧ Cal.it a z j < dd ∧ dd < Cal.it a z (j + 1) ∧ spanE.Row wo RB (.slice pa k pc) (Cal.parts a z j ++ [(Cal.it a z j, dd)]) := by
          rcases hcase with ⟨rfl, rfl, _⟩ | ⟨j, rfl, g1, g2, R⟩
          · exact absurd rfl hap
          · exact ⟨j, rfl, g1, by omega, R⟩
        have HK : Hid (j < K) := by show _ < _; omega
        have DAY : Hid (∀ y m d, Cal.IsDate dd y m d → d ≠ 1) := by
          show ∀ y m d, _
          intro y m d hd
          have e : Cal.it a z (j + 1) = min (Cal.endOf (Cal.it a z j) + 1) z := rfl
          have bj := Cal.it_bd H1.out H2.out H3.out j
          obtain ⟨y', m', d', h', ne⟩ := Cal.endOf_same (n := Cal.it a z j) (x := dd) (by have := H1.out; omega) (by have := H3.out; omega) g1 (by omega)
          have := (Cal.isDate_uniq _ _ _ _ _ _ _ hd h').2.2
          omega
        have HST : Hid (Cal.it a z j < dd + 1 ∧ dd + 1 ≤ Cal.it a z (j + 1)) := by show _ ∧ _; omega
        have R1 := Lib.hid R
        obtain ⟨m, hm⟩ : ∃ m : Nat, Hid (j + 1 = m) := ⟨_, rfl⟩
        rw [hm.out] at R1 ⊢
        have e0 : ((m : Int) == 0) = false := by have := hm.out; simp; omega
        clear hcase hk ha hz hlt hap g1 g2 R
        go_upto_region 6 with (go_at_call 46; (with_reducible refine RD.mono ?_); rintro e w5 ⟨y, mo, d, hd, rfl, b5⟩; have D5 : (d == 1) = false := beq_eq_false_iff_ne.2 (DAY.out y mo d hd); have R5 := Lib.hid (Elem.Row.below R1.out b5); have P5 : Hid (w5.heap[i0]? = some (.cells #[.int .i64 a, .int .i64 z] 44 (0, 0))) := (b5.block _ (Array.getElem?_eq_some_iff.1 P1.out).1).trans P1.out; have B5 := Lib.hid (bt B1.out b5); clear b5 RD p1 R1 P1 B1 hd DAY)
        obtain ⟨g, rfl⟩ : ∃ g, pa = some ⟨g, 0, none⟩ := by
          obtain ⟨ao, cap, e, _, hg⟩ := R5.out.form
          obtain ⟨g, hg⟩ := hg (by simp)
          cases e; exact ⟨g, hg⟩
        have ST := span_set (j := j) (dd + 1) (Cal.parts_len a z j) R5.out
        obtain ⟨c1, f1, lg, em, R6, G6⟩ := ST
        have R7 := Lib.hid R6; have G7 := Lib.hid G6; have LG := Lib.hid lg
        have hj0 : (0 : Int) ≤ (j : Int) := by omega
        have hj1 : (j : Int) < (m : Int) := by omega
        have lw : IntKind.i64.wrap ((m : Int) - 1) = (j : Int) := by rw [IntWalk.i64_left, IntWalk.wrap64_in _ (by have := HL.out; have := HK.out; omega)]; omega
        clear em R6 G6 lg R5
        go_wp2_with fail
        go_roundw
        case rel =>
          refine ⟨m, dd + 1, some ⟨g, 0, none⟩, pc, rfl, rfl, by have := hm.out; have := HK.out; omega, by have := HD.out.1; omega, by have := HD.out.2; omega, .inr ⟨j, hm.out.symm, HST.out.1, HST.out.2, R7.out⟩, ?_, ?_⟩
          · exact (G7.out.block i0 (Array.getElem?_eq_some_iff.1 P5.out).1 (fun e => by simp only [Option.some.injEq] at e; have := LG.out; have := hRB.out; omega)).trans P5.out
          · exact B5.out.grown G7.out B5.out.size (fun q e => by simp only [Option.some.injEq] at e; have := LG.out; have := hRB.out; have := hi0.out; omega)
        case measure => show (z - (dd + 1)).toNat < (z - dd).toNat; have := HD.out.2; omega
    · have hdz : dd = z := by omega
      have dz : decide (dd < z) = false := by simpa using hlt
      have FIN : Hid (spanE.Row wo RB (.slice pa k pc) (Cal.parts a z K)) := by
        show spanE.Row _ _ _ _
        rcases hcase with ⟨rfl, rfl, _⟩ | ⟨j, rfl, g1, g2, R⟩
        · have := H2.out; omega
        · have bj := Cal.it_bd H1.out H2.out H3.out (j + 1)
          have e : Cal.it a z (j + 1) = z := by omega
          have : j + 1 = K := by
            rcases Nat.lt_or_ge (j + 1) K with h | h
            · have := HI.out _ h; omega
            · omega
          subst this
          rw [hdz] at R; rw [Cal.parts_succ, e]; exact R
      clear hcase hk ha hz hlt hdz
      go_wp2_with fail
      go_ret
      exact ⟨_, rfl, FIN.out.low (by have := hRB.out; have := hi0.out; omega), B1.out⟩
end Go.Proofs.Ytngelemjpgglpaa.Pro
