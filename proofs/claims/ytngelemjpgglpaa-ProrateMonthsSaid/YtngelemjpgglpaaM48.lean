/-
  prorate.Months, walked; prorate.Months of a period that may not be; how few months a short period has; spans.Same, walked.
-/
import Derived.Test.YtngelemjpgglpaaM40
import Derived.Test.YtngelemjpgglpaaM45
import Derived.Test.YtngelemjpgglpaaM47
/-
  prorate.Months, walked.
-/
namespace Go.Proofs.Ytngelemjpgglpaa.Pro
open Go Go.RowKit
set_option linter.unusedSimpArgs false
set_option linter.unusedVariables false
attribute [local go_sem ↓] Go.wp_at_zero Go.wp_at_succ

def spanE : Elem Try.prog (Int × Int) where
  sl := 45
  e := 44
  sz := 2
  bytes := 16
  z := .agg #[.int .i64 0, .int .i64 0]
  enc := fun x => [.int .i64 x.1, .int .i64 x.2]
  und := Try.underlying45
  info := by kernel_rfl
  zs := rfl
  pos := by decide
  len := fun _ => rfl
  one := fun x u hu => by simp only [List.mem_cons, List.not_mem_nil, or_false] at hu; rcases hu with rfl | rfl <;> rfl
/-- what Months tells of a period that may be -/
def MonPost (c n s a z : Int) (w : World) (e : Ending) (w' : World) : Prop :=
  Below w.heap.size w w' ∧ ∃ k : Nat, k ≤ 1000 ∧ (∀ i, i < k → Cal.it a z i < z) ∧
    ((k = 1000 ∧ Cal.it a z k < z ∧ e = .returned (.tuple #[.slice none 0 0, .slice none 0 0, .int .i64 3])) ∨
     (Cal.it a z k = z ∧ ∃ (row : List (Int × Nat)) (er : Int), sharesA c n s (Cal.days a z k) = (row, er) ∧
       ((er ≠ 0 ∧ e = .returned (.tuple #[.slice none 0 0, .slice none 0 0, .int .i64 er])) ∨
        (er = 0 ∧ ∃ vp vx, spanE.Row w' w.heap.size vp (Cal.parts a z k) ∧ decE.Row w' w.heap.size vx row ∧ e = .returned (.tuple #[vp, vx, .int .i64 0])))))
theorem end_c (a : Int) (w : World) (h1 : 1 ≤ a) (h2 : a ≤ 3652059) : Calls Try.prog 45 #[.int .i64 a] w fun e w' => e = .returned (.tuple #[.int .i64 (Cal.endOf a), .int .i64 0]) ∧ Below w.heap.size w w' := by
  obtain ⟨y, m, d, h⟩ := Cal.isDate_ex a h1 h2
  rw [Cal.endOf_is h]; exact end_in a y m d w h
theorem span_step {w wa w' : World} {c n a z : Int} {i RB k : Nat} {pa da : Option Addr} {pc dc : Nat} {v' : Value} {ps ps' : List (Int × Int)} {ds : List Int} (hw : w.heap.size = i) (hR : i + 2 ≤ RB)
    (RP : spanE.Row wa RB (.slice pa k pc) ps) (RD : intE.Row wa RB (.slice da k dc) ds) (P : wa.heap[i + 1]? = some (.cells #[.int .i64 a, .int .i64 z] 44 (0, 0))) (X : DAt wa i c n) (L : RB ≤ wa.heap.size) (B : Below w.heap.size w wa)
    (r : spanE.Row w' RB v' ps') (g : wa.grownBy w' (Value.slice pa k pc).ownBlock) :
    Hid (spanE.Row w' RB v' ps') ∧ Hid (intE.Row w' RB (.slice da k dc) ds) ∧ Hid (w'.heap[i + 1]? = some (.cells #[.int .i64 a, .int .i64 z] 44 (0, 0))) ∧ Hid (DAt w' i c n) ∧ Hid (RB ≤ w'.heap.size) ∧ Hid (Below w.heap.size w w') := by
  have ne : ∀ q, q < RB → w'.heap[q]? = wa.heap[q]? := fun q hq => g.block q (by omega) (fun e => by have := (Elem.Row.lt RP q e.symm).1; omega)
  exact ⟨r, Elem.Row.beside RD RP (by decide) g, (ne _ (by omega)).trans P, (ne _ (by omega)).trans X, Nat.le_trans L g.size, B.grown g (by omega) (fun q e => by have := (Elem.Row.lt RP q e).1; omega)⟩
theorem int_step {w wa w' : World} {c n a z : Int} {i RB k k' : Nat} {pa da : Option Addr} {pc dc : Nat} {v' : Value} {ps : List (Int × Int)} {ds ds' : List Int} (hw : w.heap.size = i) (hR : i + 2 ≤ RB)
    (RP : spanE.Row wa RB (.slice pa k pc) ps) (RD : intE.Row wa RB (.slice da k' dc) ds) (P : wa.heap[i + 1]? = some (.cells #[.int .i64 a, .int .i64 z] 44 (0, 0))) (X : DAt wa i c n) (L : RB ≤ wa.heap.size) (B : Below w.heap.size w wa)
    (r : intE.Row w' RB v' ds') (g : wa.grownBy w' (Value.slice da k' dc).ownBlock) :
    Hid (spanE.Row w' RB (.slice pa k pc) ps) ∧ Hid (intE.Row w' RB v' ds') ∧ Hid (w'.heap[i + 1]? = some (.cells #[.int .i64 a, .int .i64 z] 44 (0, 0))) ∧ Hid (DAt w' i c n) ∧ Hid (RB ≤ w'.heap.size) ∧ Hid (Below w.heap.size w w') := by
  have ne : ∀ q, q < RB → w'.heap[q]? = wa.heap[q]? := fun q hq => g.block q (by omega) (fun e => by have := (Elem.Row.lt RD q e.symm).1; omega)
  exact ⟨Elem.Row.beside RP RD (by decide) g, r, (ne _ (by omega)).trans P, (ne _ (by omega)).trans X, Nat.le_trans L g.size, B.grown g (by omega) (fun q e => by have := (Elem.Row.lt RD q e).1; omega)⟩
set_option maxRecDepth 100000 in
set_option maxHeartbeats 4000000 in
theorem months_in (c n s a z : Int) (w : World) (hc : fits c) (h1 : 1 ≤ a) (h2 : a < z) (h3 : z ≤ 3652060) :
    Calls Try.prog 18 #[.agg #[.int .i64 c, .int .i64 n], .int .i64 s, .agg #[.int .i64 a, .int .i64 z]] w (MonPost c n s a z w) := by
  have d1 : decide (a < 1) = false := by simp; omega
  have d2 : decide (z ≤ a) = false := by simp; omega
  have d3 : decide (3652060 < z) = false := by simp; omega
  have HC := Lib.hid hc
  have H1 := Lib.hid h1; have H2 := Lib.hid h2; have H3 := Lib.hid h3
  have X0 := Lib.hid (DAt.below (dAt_new w c n) (ba _ (.cells #[.int .i64 a, .int .i64 z] 44)))
  have P0 : Hid (((w.alloc (.cells #[.int .i64 c, .int .i64 n] 23)).alloc (.cells #[.int .i64 a, .int .i64 z] 44)).heap[w.heap.size + 1]? = some (.cells #[.int .i64 a, .int .i64 z] 44 (0, 0))) := by
    have h := heap_alloc_new (w.alloc (.cells #[.int .i64 c, .int .i64 n] 23)) (.cells #[.int .i64 a, .int .i64 z] 44)
    rw [World.size_alloc] at h; exact h
  have B0 := Lib.hid (bt (ba w (.cells #[.int .i64 c, .int .i64 n] 23)) (ba _ (.cells #[.int .i64 a, .int .i64 z] 44)))
  obtain ⟨P, hP⟩ : ∃ P, Hid (MonPost c n s a z w = P) := ⟨_, rfl⟩
  rw [hP.out]
  clear hc h1 h2 h3
  go_enter Try.func18, Try.ntmps18
  go_upto_region 1 with fail
  obtain ⟨i0, hi0⟩ : ∃ k, Hid (w.heap.size = k) := ⟨_, rfl⟩
  obtain ⟨w0, hw0⟩ : ∃ x, Hid (x = (w.alloc (.cells #[.int .i64 c, .int .i64 n] 23)).alloc (.cells #[.int .i64 a, .int .i64 z] 44)) := ⟨_, rfl⟩
  rw [← hw0.out] at X0 P0 B0 ⊢
  rw [hi0.out] at X0 P0 ⊢
  clear hw0
  have p0 : w0.cell? ⟨i0 + 1, 0, none⟩ = some (.int .i64 a) := by rw [cell_of_row w0 _ _ _ _ (0, 0) P0.out]; rfl
  have p1 : w0.cell? ⟨i0 + 1, 1, none⟩ = some (.int .i64 z) := by rw [cell_of_row w0 _ _ _ _ (0, 0) P0.out]; rfl
  go_wp2_with fail
  clear p0 p1 d1 d2 d3
  obtain ⟨RB, hRB⟩ : ∃ k, Hid (w0.heap.size = k) := ⟨_, rfl⟩
  have lRB : Hid (i0 + 2 ≤ RB) := by show _ ≤ _; rw [← hRB.out]; exact (Array.getElem?_eq_some_iff.1 P0.out).1
  go_loopw [9, 10, 11] (fun p d f wr => ∃ (k : Nat) (pa da : Option Addr) (pc dc : Nat), p = .slice pa k pc ∧ d = .slice da k dc ∧ f = .int .i64 (Cal.it a z k) ∧ k ≤ 1000 ∧ Hid (∀ i, i < k → Cal.it a z i < z) ∧ Hid (spanE.Row wr RB (.slice pa k pc) (Cal.parts a z k)) ∧ Hid (intE.Row wr RB (.slice da k dc) (Cal.days a z k)) ∧ Hid (wr.heap[i0 + 1]? = some (.cells #[.int .i64 a, .int .i64 z] 44 (0, 0))) ∧ Hid (DAt wr i0 c n) ∧ Hid (RB ≤ wr.heap.size) ∧ Hid (Below w.heap.size w wr)) (fun _ _ f _ => (z - intOf f).toNat)
  case atStart => exact ⟨0, none, none, 0, 0, rfl, rfl, rfl, by omega, fun i hi => by omega, Elem.Row.nil _ _, Elem.Row.nil _ _, P0, X0, by rw [← hRB.out]; exact Nat.le_refl _, B0⟩
  case round =>
    obtain ⟨wo, rfl⟩ : ∃ wo : World, wo = wr := ⟨_, rfl⟩
    clear P0 X0 B0
    obtain ⟨k, pa, da, pc, dc, rfl, rfl, rfl, hk, HI, RP, RD, P1, X1, L1, B1⟩ := hrel
    have bd := Cal.it_bd H1.out H2.out H3.out k
    obtain ⟨f, hf⟩ : ∃ x, Hid (Cal.it a z k = x) := ⟨_, rfl⟩
    rw [hf.out] at bd ⊢
    have p0 : wo.cell? ⟨i0 + 1, 0, none⟩ = some (.int .i64 a) := by rw [cell_of_row wo _ _ _ _ (0, 0) P1.out]; rfl
    have p1 : wo.cell? ⟨i0 + 1, 1, none⟩ = some (.int .i64 z) := by rw [cell_of_row wo _ _ _ _ (0, 0) P1.out]; rfl
    by_cases hz : f < z
    · have dz : decide (f < z) = true := by simpa using hz
      by_cases hk2 : k = 1000
      · subst hk2
        have HZ := Lib.hid hz
        clear hz hk bd
        go_wp2_with fail
        go_ret3
        rw [← hP.out]
        exact ⟨B1.out, 1000, Nat.le_refl _, HI.out, .inl ⟨rfl, by rw [hf.out]; exact HZ.out, rfl⟩⟩
      · have dk : ((k : Int) == 1000) = false := by simpa using (by omega : ¬ (k : Int) = 1000)
        have HK : Hid (k < 1000) := by show _ < _; omega
        have EB := Cal.endOf_bd (n := f) (by have := H1.out; omega) (by have := H3.out; omega)
        have EC := end_c f wo (by have := H1.out; omega) (by have := H3.out; omega)
        obtain ⟨g, hg⟩ : ∃ x, Hid (Cal.it a z (k + 1) = x) := ⟨_, rfl⟩
        have ST := Cal.it_step H1.out H2.out H3.out k (by rw [hf.out]; exact hz)
        rw [hf.out, hg.out] at ST
        have MN : Hid (min (Cal.endOf f + 1) z = g) := by show _ = _; rw [← hg.out, ← hf.out]; rfl
        obtain ⟨en, hen⟩ : ∃ x, Hid (Cal.endOf f = x) := ⟨_, rfl⟩
        rw [hen.out] at EB EC MN
        have ew : IntKind.i64.wrap (en + 1) = en + 1 := by rw [IntWalk.i64_left]; exact IntWalk.wrap64_in _ (by have := H1.out; have := H3.out; omega)
        have gw : IntKind.i64.wrap (g - f) = g - f := by rw [IntWalk.i64_left]; exact IntWalk.wrap64_in _ (by have := H1.out; have := H3.out; omega)
        have HST := Lib.hid ST; have HBD := Lib.hid bd; have HZ := Lib.hid hz
        have mn : min (en + 1) z = g := MN.out
        clear ST bd hk hk2 hz EB
        go_upto_region 10 with (go_at_call 45; (with_reducible refine EC.mono ?_); rintro e w2 ⟨rfl, b2⟩; have RP2 := Lib.hid (Elem.Row.below RP.out b2); have RD2 := Lib.hid (Elem.Row.below RD.out b2); have P2 : Hid (w2.heap[i0 + 1]? = some (.cells #[.int .i64 a, .int .i64 z] 44 (0, 0))) := (b2.block _ (Array.getElem?_eq_some_iff.1 P1.out).1).trans P1.out; have X2 := Lib.hid (DAt.below X1.out b2); have L2 : Hid (RB ≤ w2.heap.size) := Nat.le_trans L1.out b2.size; have B2 := Lib.hid (bt B1.out b2); clear b2 EC)
        clear p0 p1 RP RD P1 X1 L1 B1
        have p0 : w2.cell? ⟨i0 + 1, 0, none⟩ = some (.int .i64 a) := by rw [cell_of_row w2 _ _ _ _ (0, 0) P2.out]; rfl
        have p1 : w2.cell? ⟨i0 + 1, 1, none⟩ = some (.int .i64 z) := by rw [cell_of_row w2 _ _ _ _ (0, 0) P2.out]; rfl
        go_upto_region 11 with fail
        clear p0 p1
        have b3 := ba w2 (.cells #[.int .i64 f, .int .i64 g] 44)
        have RP3 := Lib.hid (Elem.Row.below RP2.out b3); have RD3 := Lib.hid (Elem.Row.below RD2.out b3); have X3 := Lib.hid (DAt.below X2.out b3); have B3 := Lib.hid (bt B2.out b3)
        have P3 : Hid ((w2.alloc (.cells #[.int .i64 f, .int .i64 g] 44)).heap[i0 + 1]? = some (.cells #[.int .i64 a, .int .i64 z] 44 (0, 0))) := (b3.block _ (Array.getElem?_eq_some_iff.1 P2.out).1).trans P2.out
        have L3 : Hid (RB ≤ (w2.alloc (.cells #[.int .i64 f, .int .i64 g] 44)).heap.size) := Nat.le_trans L2.out b3.size
        have SRC : Hid (spanE.Arg (w2.alloc (.cells #[.int .i64 f, .int .i64 g] 44)) (.slice (some ⟨w2.heap.size, 0, none⟩) 1 1) [(f, g)]) := Elem.arg_one (E := spanE) (w := w2) (f, g) _
        have EP : Hid (Cal.parts a z (k + 1) = Cal.parts a z k ++ [(f, g)]) := by show _ = _; rw [Cal.parts_succ, hf.out, hg.out]
        have ED : Hid (Cal.days a z (k + 1) = Cal.days a z k ++ [g - f]) := by show _ = _; rw [Cal.days_succ, hf.out, hg.out]
        have HLP : Hid ((Cal.parts a z k).length + [(f, g)].length ≤ 1000001) := by show _ ≤ _; rw [Cal.parts_len, List.length_singleton]; have := HK.out; omega
        have HLD : Hid ((Cal.days a z k).length + [g - f].length ≤ 1000001) := by show _ ≤ _; rw [Cal.days_len, List.length_singleton]; have := HK.out; omega
        clear b3 RP2 RD2 P2 X2 L2 B2
        go_wp2_with (at_builtin; go_loud (first
          | (refine Elem.app (E := spanE) rfl _ _ rfl RB _ _ _ [(f, g)] rfl rfl RP3.out SRC.out HLP.out (by decide) L3.out ?_
             intro v4 w4 r4 g4 _
             obtain ⟨RP4, RD4, P4, X4, L4, B4⟩ := span_step hi0.out lRB.out RP3.out RD3.out P3.out X3.out L3.out B3.out r4 g4
             obtain ⟨va, vcap, hv, _, _⟩ := r4.form
             rw [← EP.out, Cal.parts_len] at hv
             subst hv
             clear r4 g4
             have b5 := ba w4 (.cells #[.int .i64 (g - f)] 3)
             have RP5 := Lib.hid (Elem.Row.below RP4.out b5); have RD5 := Lib.hid (Elem.Row.below RD4.out b5); have X5 := Lib.hid (DAt.below X4.out b5); have B5 := Lib.hid (bt B4.out b5)
             have P5 : Hid ((w4.alloc (.cells #[.int .i64 (g - f)] 3)).heap[i0 + 1]? = some (.cells #[.int .i64 a, .int .i64 z] 44 (0, 0))) := (b5.block _ (Array.getElem?_eq_some_iff.1 P4.out).1).trans P4.out
             have L5 : Hid (RB ≤ (w4.alloc (.cells #[.int .i64 (g - f)] 3)).heap.size) := Nat.le_trans L4.out b5.size
             have SRD : Hid (intE.Arg (w4.alloc (.cells #[.int .i64 (g - f)] 3)) (.slice (some ⟨w4.heap.size, 0, none⟩) 1 1) [g - f]) := Elem.arg_one (E := intE) (w := w4) (g - f) _
             clear b5 RP4 RD4 P4 X4 L4 B4)
          | (refine Elem.app (E := intE) rfl _ _ rfl RB _ _ _ [g - f] rfl rfl RD5.out SRD.out HLD.out (by decide) L5.out ?_
             intro v6 w6 r6 g6 _
             obtain ⟨RP6, RD6, P6, X6, L6, B6⟩ := int_step hi0.out lRB.out RP5.out RD5.out P5.out X5.out L5.out B5.out r6 g6
             obtain ⟨vb, vdap, hv, _, _⟩ := r6.form
             rw [← ED.out, Cal.days_len] at hv
             subst hv
             clear r6 g6)))
        go_roundw
        case rel => exact ⟨k + 1, va, vb, vcap, vdap, rfl, rfl, by rw [hg.out], by have := HK.out; omega, fun i hi => by
          by_cases h : i = k
          · subst h; rw [hf.out]; exact HZ.out
          · exact HI.out i (by omega), by show spanE.Row _ _ _ _; rw [EP.out]; exact RP6.out, by show intE.Row _ _ _ _; rw [ED.out]; exact RD6.out, P6, X6, L6, B6⟩
        case measure => show (z - g).toNat < (z - f).toNat; have := HST.out; have := HZ.out; omega
    · have hfz : f = z := by omega
      have dz : decide (f < z) = false := by simpa using hz
      have X0 := X1.out.c0; have X01 := X1.out.c1
      obtain ⟨row, er, he⟩ : ∃ (row : List (Int × Nat)) (er : Int), Hid (sharesA c n s (Cal.days a z k) = (row, er)) := ⟨_, _, rfl⟩
      have SH := shares_any (w := wo) c n s HC.out (argI_of (Elem.Row.arg RD.out)) (by rw [Cal.days_len]; omega)
      unfold SharesPost at SH
      rw [he.out] at SH
      have HK := Lib.hid hk
      have HFZ := Lib.hid hfz
      clear hz hk bd hfz
      by_cases her : er = 0
      · subst her
        go_wp2_with (go_at_call 7; (with_reducible refine SH.mono ?_); rintro e w7 ⟨v7, rfl, r7, b7⟩; have RP7 := Lib.hid (Elem.Row.below RP.out b7); have R7 := Lib.hid r7; have B7 := Lib.hid (bt B1.out b7); clear b7 r7 SH X0 X01)
        go_ret3
        rw [← hP.out]
        exact ⟨B7.out, k, HK.out, HI.out, .inr ⟨by rw [hf.out]; exact HFZ.out, row, 0, he.out, .inr ⟨rfl, _, _, RP7.out.low (by have := hi0.out; have := lRB.out; omega), R7.out.low B1.out.size, rfl⟩⟩⟩
      · have ne : (er != 0) = true := by simpa using her
        have HER := Lib.hid her
        clear her
        go_wp2_with (go_at_call 7; (with_reducible refine SH.mono ?_); rintro e w7 ⟨v7, rfl, r7, b7⟩; have B7 := Lib.hid (bt B1.out b7); clear b7 r7 SH X0 X01)
        go_ret3
        rw [← hP.out]
        exact ⟨B7.out, k, HK.out, HI.out, .inr ⟨by rw [hf.out]; exact HFZ.out, row, er, he.out, .inl ⟨HER.out, rfl⟩⟩⟩
end Go.Proofs.Ytngelemjpgglpaa.Pro
/-
  prorate.Months of a period that may not be; how few months a short period has.
-/
namespace Go.Proofs.Ytngelemjpgglpaa.Cal
/-- from the second month on, months of 28 days or more -/
theorem it_step28 {a z : Int} (h1 : 1 ≤ a) (h2 : a < z) (h3 : z ≤ 3652060) (i : Nat) (h : it a z (i + 2) < z) : it a z (i + 1) + 28 ≤ it a z (i + 2) := by
  have b0 := it_bd h1 h2 h3 i
  have b1 := it_bd h1 h2 h3 (i + 1)
  have b2 := it_bd h1 h2 h3 (i + 2)
  have e1 : it a z (i + 1) = min (endOf (it a z i) + 1) z := rfl
  have e2 : it a z (i + 2) = min (endOf (it a z (i + 1)) + 1) z := rfl
  have hlt : it a z (i + 1) < z := by
    by_cases hq : it a z (i + 1) < z
    · exact hq
    · exfalso
      have : it a z (i + 1) = z := by omega
      rcases Int.lt_or_le z 3652060 with hz | hz
      · have := endOf_bd (n := it a z (i + 1)) (by omega) (by omega); omega
      · have : endOf (it a z (i + 1)) = it a z (i + 1) := by
          unfold endOf
          rw [dif_neg]
          rintro ⟨p, hp⟩
          have := isDate_bd _ _ _ _ hp
          omega
        omega
  have hi : it a z i < z := by
    by_cases hq : it a z i < z
    · exact hq
    · exfalso
      have : it a z i = z := by omega
      rw [this] at e1
      rcases Int.lt_or_le z 3652060 with hz | hz
      · have := endOf_bd (n := z) (by omega) (by omega); omega
      · have : endOf z = z := by
          unfold endOf
          rw [dif_neg]
          rintro ⟨p, hp⟩
          have := isDate_bd _ _ _ _ hp
          omega
        omega
  have e3 : it a z (i + 1) = endOf (it a z i) + 1 := by omega
  obtain ⟨y, m, hd⟩ := endOf_next (n := it a z i) (by omega) (by omega) (by omega)
  rw [← e3] at hd
  have hx := endOf_is hd
  obtain ⟨j1, j2, j3, j4⟩ := isDate_mst _ _ _ _ hd
  have l := mlen_bd _ j1
  omega
theorem it_few {a z : Int} (h1 : 1 ≤ a) (h2 : a < z) (h3 : z ≤ 3652060) : ∀ (i : Nat), it a z (i + 1) < z → a + 28 * i ≤ it a z (i + 1)
  | 0, _ => by have := (it_bd h1 h2 h3 1).1; show a + 28 * ((0 : Nat) : Int) ≤ _; simpa using this
  | i + 1, h => by
    have h : it a z (i + 2) < z := h
    show a + 28 * ((i + 1 : Nat) : Int) ≤ it a z (i + 2)
    have s := it_step28 h1 h2 h3 i h
    have b2 := it_bd h1 h2 h3 (i + 2)
    have h' : it a z (i + 1) < z := by omega
    have := it_few h1 h2 h3 i h'
    omega
end Go.Proofs.Ytngelemjpgglpaa.Cal
namespace Go.Proofs.Ytngelemjpgglpaa.Pro
open Go Go.RowKit
set_option linter.unusedSimpArgs false
set_option linter.unusedVariables false
attribute [local go_sem ↓] Go.wp_at_zero Go.wp_at_succ

set_option maxRecDepth 100000 in
set_option maxHeartbeats 4000000 in
theorem months_bad (c n s a z : Int) (w : World) (hb : a < 1 ∨ z ≤ a ∨ 3652060 < z) :
    Calls Try.prog 18 #[.agg #[.int .i64 c, .int .i64 n], .int .i64 s, .agg #[.int .i64 a, .int .i64 z]] w fun e w' => e = .returned (.tuple #[.slice none 0 0, .slice none 0 0, .int .i64 15]) ∧ Below w.heap.size w w' := by
  obtain ⟨D1, D2, D3, d1, d2, d3, dd⟩ : ∃ D1 D2 D3 : Bool, decide (a < 1) = D1 ∧ decide (z ≤ a) = D2 ∧ decide (3652060 < z) = D3 ∧ (D1 || D2 || D3) = true := ⟨_, _, _, rfl, rfl, rfl, by simpa [or_assoc] using hb⟩
  have X0 := Lib.hid (DAt.below (dAt_new w c n) (ba _ (.cells #[.int .i64 a, .int .i64 z] 44)))
  have P0 : Hid (((w.alloc (.cells #[.int .i64 c, .int .i64 n] 23)).alloc (.cells #[.int .i64 a, .int .i64 z] 44)).heap[w.heap.size + 1]? = some (.cells #[.int .i64 a, .int .i64 z] 44 (0, 0))) := by
    have h := heap_alloc_new (w.alloc (.cells #[.int .i64 c, .int .i64 n] 23)) (.cells #[.int .i64 a, .int .i64 z] 44)
    rw [World.size_alloc] at h; exact h
  have B0 := Lib.hid (bt (ba w (.cells #[.int .i64 c, .int .i64 n] 23)) (ba _ (.cells #[.int .i64 a, .int .i64 z] 44)))
  clear hb
  go_enter Try.func18, Try.ntmps18
  go_upto_region 1 with fail
  obtain ⟨i0, hi0⟩ : ∃ k, Hid (w.heap.size = k) := ⟨_, rfl⟩
  obtain ⟨w0, hw0⟩ : ∃ x, Hid (x = (w.alloc (.cells #[.int .i64 c, .int .i64 n] 23)).alloc (.cells #[.int .i64 a, .int .i64 z] 44)) := ⟨_, rfl⟩
  rw [← hw0.out] at X0 P0 B0 ⊢
  rw [hi0.out] at X0 P0 ⊢
  clear hw0
  have p0 : w0.cell? ⟨i0 + 1, 0, none⟩ = some (.int .i64 a) := by rw [cell_of_row w0 _ _ _ _ (0, 0) P0.out]; rfl
  have p1 : w0.cell? ⟨i0 + 1, 1, none⟩ = some (.int .i64 z) := by rw [cell_of_row w0 _ _ _ _ (0, 0) P0.out]; rfl
  cases D1 with
  | true =>
    go_wp2_with fail
    go_ret3
    exact ⟨rfl, by rw [hi0.out] at *; exact B0.out⟩
  | false =>
    cases D2 with
    | true =>
      go_wp2_with fail
      go_ret3
      exact ⟨rfl, by rw [hi0.out] at *; exact B0.out⟩
    | false =>
      cases D3 with
      | true =>
        go_wp2_with fail
        go_ret3
        exact ⟨rfl, by rw [hi0.out] at *; exact B0.out⟩
      | false => cases dd
end Go.Proofs.Ytngelemjpgglpaa.Pro
/-
  spans.Same, walked.
-/
namespace Go.Proofs.Ytngelemjpgglpaa.Pro
open Go Go.RowKit
set_option linter.unusedSimpArgs false
set_option linter.unusedVariables false
attribute [local go_sem ↓] Go.wp_at_zero Go.wp_at_succ

theorem argS {w : World} {v : Value} {xs : List (Int × Int)} (h : spanE.Arg w v xs) : ∃ (ao : Option Addr) (cap : Nat), v = .slice ao xs.length cap ∧ ∀ (i : Nat) (x : Int × Int), xs[i]? = some x → ∃ b o : Nat, ao = some ⟨b, o, none⟩ ∧ b < w.heap.size ∧
    w.cell? ⟨b, o + i * 2, none⟩ = some (.int .i64 x.1) ∧ w.cell? ⟨b, o + i * 2 + 1, none⟩ = some (.int .i64 (x.2 : Int)) := by
  obtain ⟨ao, cap, e, _, h⟩ := h
  refine ⟨ao, cap, e, fun i x hx => ?_⟩
  obtain ⟨b, o, h1, h2, h3⟩ := h i x hx
  exact ⟨b, o, h1, h2, h3 0 _ rfl, h3 1 _ rfl⟩
set_option maxRecDepth 100000 in
set_option maxHeartbeats 1000000 in
theorem spans_is {w : World} {va vb : Value} {xs ys : List (Int × Int)} (ha : spanE.Arg w va xs) (hb : spanE.Arg w vb ys) (hl : xs.length ≤ 1000000) :
    Calls Try.prog 20 #[va, vb] w fun e w' => e = .returned (.bool (decide (xs = ys))) ∧ Below w.heap.size w w' := by
  obtain ⟨aa, ca, rfl, h1⟩ := argS ha
  obtain ⟨ab, cb, rfl, h2⟩ := argS hb
  have HA := Lib.hid h1; have HB := Lib.hid h2; have HL := Lib.hid hl
  obtain ⟨R, hR⟩ : ∃ b, Hid (decide (xs = ys) = b) := ⟨_, rfl⟩
  rw [hR.out]
  clear ha hb h1 h2 hl
  by_cases hlen : xs.length = ys.length
  · have e0 : decide ((xs.length : Int) = (ys.length : Int)) = true := by simp; omega
    have e1 : ((xs.length : Int) != (ys.length : Int)) = false := by simp; omega
    have LE := Lib.hid hlen
    clear hlen
    go_enter Try.func20, Try.ntmps20
    go_wp2_with fail
    go_loopw [5] (fun i wr => ∃ (k : Nat), i = .int .i64 (k : Int) ∧ k ≤ xs.length ∧ Hid (xs.take k = ys.take k) ∧ Hid (Below w.heap.size w wr)) (fun i _ => xs.length - (intOf i).toNat)
    case atStart => exact ⟨0, rfl, by omega, rfl, Below.refl _ _⟩
    case round =>
      obtain ⟨wo, rfl⟩ : ∃ wo : World, wo = wr := ⟨_, rfl⟩
      obtain ⟨k, rfl, hk, HE, B⟩ := hrel
      by_cases hkl : k < xs.length
      · obtain ⟨x, hx⟩ : ∃ x, xs[k]? = some x := ⟨_, List.getElem?_eq_getElem hkl⟩
        obtain ⟨y, hy⟩ : ∃ y, ys[k]? = some y := ⟨_, List.getElem?_eq_getElem (by rw [← LE.out]; exact hkl)⟩
        obtain ⟨ba', oa, rfl, l1, c0, c1⟩ := HA.out k x hx
        obtain ⟨bb, ob, rfl, l2, d0, d1⟩ := HB.out k y hy
        have i0 : (0 : Int) ≤ (k : Int) := by omega
        have i1 : (k : Int) < ((xs.length : Nat) : Int) := by omega
        have i2 : (k : Int) < ((ys.length : Nat) : Int) := by have := LE.out; omega
        have c0' := (B.out.cell (p := ⟨ba', _, none⟩) l1).trans c0; have c1' := (B.out.cell (p := ⟨ba', _, none⟩) l1).trans c1
        have d0' := (B.out.cell (p := ⟨bb, _, none⟩) l2).trans d0; have d1' := (B.out.cell (p := ⟨bb, _, none⟩) l2).trans d1
        have HK := Lib.hid hkl
        have HX := Lib.hid hx; have HY := Lib.hid hy
        have kw : IntKind.i64.wrap ((k : Int) + 1) = (k : Int) + 1 := by rw [IntWalk.i64_left]; exact IntWalk.wrap64_in _ (by have := HL.out; omega)
        obtain ⟨x1, x2⟩ := x
        obtain ⟨y1, y2⟩ := y
        clear hx hy hkl hk c0 c1 d0 d1
        dsimp only at c0' c1' d0' d1'
        go_upto_region 6 with fail
        by_cases g1 : x1 = y1
        · subst g1
          by_cases g2 : x2 = y2
          · subst g2
            have HE2 : Hid (xs.take (k + 1) = ys.take (k + 1)) := by show _ = _; rw [List.take_add_one, List.take_add_one, HX.out, HY.out, HE.out]
            go_upto_region 6 with fail
            go_quiet (fail)
            go_wp2_with fail
            go_roundw
            case rel => exact ⟨k + 1, rfl, by have := HK.out; omega, HE2, below_drewN B.out _⟩
            case measure => show _ - ((k : Int) + 1).toNat < _ - ((k : Int)).toNat; have := HK.out; omega
          · have g3 : ¬ (x2 : Int) = (y2 : Int) := by omega
            have g4 : ((x2 : Int) == (y2 : Int)) = false := by simpa using g3
            have NE : Hid (decide (xs = ys) = false) := by
              show _ = _
              rw [decide_eq_false_iff_not]; intro e; subst e
              have := HX.out.symm.trans HY.out
              simp at this; exact g2 this
            clear g2
            go_upto_region 6 with fail
            go_quiet (fail)
            go_wp2_with fail
            obtain rfl : R = false := hR.out.symm.trans NE.out
            go_ret
            exact ⟨rfl, below_drewN B.out _⟩
        · have g4 : (x1 == y1) = false := by simpa using g1
          have NE : Hid (decide (xs = ys) = false) := by
            show _ = _
            rw [decide_eq_false_iff_not]; intro e; subst e
            have := HX.out.symm.trans HY.out
            simp at this; exact g1 this.1
          go_upto_region 6 with fail
          go_quiet (fail)
          go_wp2_with fail
          obtain rfl : R = false := hR.out.symm.trans NE.out
          go_ret
          exact ⟨rfl, below_drewN B.out _⟩
      · have hke : k = xs.length := by omega
        subst hke
        have EQ : Hid (decide (xs = ys) = true) := by
          show _ = _
          have h := HE.out
          rw [List.take_length, List.take_of_length_le (by have := LE.out; omega)] at h
          simpa using h
        clear hkl hk
        go_wp2_with fail
        obtain rfl : R = true := hR.out.symm.trans EQ.out
        go_ret
        exact ⟨rfl, B.out⟩
  · have e0 : decide ((xs.length : Int) = (ys.length : Int)) = false := by simp; omega
    have e1 : ((xs.length : Int) != (ys.length : Int)) = true := by simp; omega
    have NE : Hid (decide (xs = ys) = false) := by
      show _ = _
      rw [decide_eq_false_iff_not]; intro e; subst e; exact hlen rfl
    clear hlen
    go_enter Try.func20, Try.ntmps20
    go_wp2_with fail
    obtain rfl : R = false := hR.out.symm.trans NE.out
    go_ret
    exact ⟨rfl, Below.refl _ _⟩
end Go.Proofs.Ytngelemjpgglpaa.Pro
