/-
  corrodylaw29.ProrateMonths, the law walked.
-/
import Derived.Test.YtngelemjpgglpaaM40
import Derived.Test.YtngelemjpgglpaaM48
import Derived.Test.YtngelemjpgglpaaM49
/-
  corrodylaw29.ProrateMonths, the law walked.
-/
namespace Go.Proofs.Ytngelemjpgglpaa.Pro
open Go Go.RowKit
set_option linter.unusedSimpArgs false
set_option linter.unusedVariables false
attribute [local go_sem ↓] Go.wp_at_zero Go.wp_at_succ

/-- what Months tells of a short period -/
theorem months_short (c n s a z : Int) (w : World) (hc : fits c) (h1 : 1 ≤ a) (h2 : a < z) (h3 : z ≤ 3652060) (h4 : z ≤ a + 1500) :
    Calls Try.prog 18 #[.agg #[.int .i64 c, .int .i64 n], .int .i64 s, .agg #[.int .i64 a, .int .i64 z]] w fun e w' =>
      ∃ (k : Nat) (row : List (Int × Nat)) (er : Int) (vp vx : Value), e = .returned (.tuple #[vp, vx, .int .i64 er]) ∧ k ≤ 1000 ∧ Cal.it a z k = z ∧ (∀ i, i < k → Cal.it a z i < z) ∧ sharesA c n s (Cal.days a z k) = (row, er) ∧
        (er ≠ 0 → vp = .slice none 0 0 ∧ vx = .slice none 0 0) ∧ (er = 0 → spanE.Row w' w.heap.size vp (Cal.parts a z k) ∧ decE.Row w' w.heap.size vx row) ∧ Below w.heap.size w w' := by
  refine (months_in c n s a z w hc h1 h2 h3).mono ?_
  rintro e w' ⟨B, k, hk, HI, ⟨rfl, hlt, rfl⟩ | ⟨hz, row, er, he, ⟨hne, rfl⟩ | ⟨rfl, vp, vx, r1, r2, rfl⟩⟩⟩
  · have hf : a + 28 * ((999 : Nat) : Int) ≤ Cal.it a z 1000 := Cal.it_few h1 h2 h3 999 hlt
    omega
  · exact ⟨k, row, er, _, _, rfl, hk, hz, HI, he, fun _ => ⟨rfl, rfl⟩, fun h => absurd h hne, B⟩
  · exact ⟨k, row, 0, _, _, rfl, hk, hz, HI, he, fun h => absurd rfl h, fun _ => ⟨r1, r2⟩, B⟩
theorem argS2 {w : World} {v : Value} {xs : List (Int × Int)} (h : spanE.Arg w v xs) : ∃ (ao : Option Addr) (cap : Nat), v = .slice ao xs.length cap ∧ ∀ (i : Nat) (x : Int × Int), xs[i]? = some x → ∃ b o : Nat, ao = some ⟨b, o, none⟩ ∧ b < w.heap.size ∧
    w.cell? ⟨b, o + i * 2, none⟩ = some (.int .i64 x.1) ∧ w.cell? ⟨b, o + i * 2 + 1, none⟩ = some (.int .i64 x.2) := argS h
theorem parts_get (a z : Int) {k i : Nat} (h : i < k) : (Cal.parts a z k)[i]? = some (Cal.it a z i, Cal.it a z (i + 1)) := by
  unfold Cal.parts
  rw [List.getElem?_map, List.getElem?_range h]; rfl
set_option maxRecDepth 100000 in
set_option maxHeartbeats 4000000 in
theorem monLaw_short (c n s a z : Int) (w : World) (hc : fits c) (h1 : 1 ≤ a) (h2 : a < z) (h3 : z ≤ 3652060) (h4 : z ≤ a + 1500) :
    Calls Try.prog 5 #[.agg #[.int .i64 c, .int .i64 n], .int .i64 s, .agg #[.int .i64 a, .int .i64 z]] w fun e w' => e = .returned (.bool true) ∧ Below w.heap.size w w' := by
  have d1 : decide (a < 1) = false := by simp; omega
  have d2 : decide (z ≤ a) = false := by simp; omega
  have d3 : decide (3652060 < z) = false := by simp; omega
  have zw : IntKind.i64.wrap (z - a) = z - a := by rw [IntWalk.i64_left]; exact IntWalk.wrap64_in _ (by omega)
  have d4 : decide (32000 < z - a) = false := by simp; omega
  have d5 : decide (1500 < z - a) = false := by simp; omega
  have HC := Lib.hid hc
  have H1 := Lib.hid h1; have H2 := Lib.hid h2; have H3 := Lib.hid h3
  have X0 := Lib.hid (DAt.below (dAt_new w c n) (ba _ (.cells #[.int .i64 a, .int .i64 z] 44)))
  have P0 : Hid (((w.alloc (.cells #[.int .i64 c, .int .i64 n] 23)).alloc (.cells #[.int .i64 a, .int .i64 z] 44)).heap[w.heap.size + 1]? = some (.cells #[.int .i64 a, .int .i64 z] 44 (0, 0))) := by
    have h := heap_alloc_new (w.alloc (.cells #[.int .i64 c, .int .i64 n] 23)) (.cells #[.int .i64 a, .int .i64 z] 44)
    rw [World.size_alloc] at h; exact h
  have B0 := Lib.hid (bt (ba w (.cells #[.int .i64 c, .int .i64 n] 23)) (ba _ (.cells #[.int .i64 a, .int .i64 z] 44)))
  obtain ⟨P, hP⟩ : ∃ P : Ending → World → Prop, Hid ((fun e w' => e = .returned (.bool true) ∧ Below w.heap.size w w') = P) := ⟨_, rfl⟩
  rw [hP.out]
  obtain ⟨i0, hi0⟩ : ∃ k, Hid (w.heap.size = k) := ⟨_, rfl⟩
  go_enter Try.func5, Try.ntmps5
  go_upto_region 1 with fail
  obtain ⟨w0, hw0⟩ : ∃ x, Hid (x = (w.alloc (.cells #[.int .i64 c, .int .i64 n] 23)).alloc (.cells #[.int .i64 a, .int .i64 z] 44)) := ⟨_, rfl⟩
  rw [← hw0.out] at X0 P0 B0 ⊢
  rw [hi0.out] at X0 P0 ⊢
  clear hw0
  have p0 : w0.cell? ⟨i0 + 1, 0, none⟩ = some (.int .i64 a) := by rw [cell_of_row w0 _ _ _ _ (0, 0) P0.out]; rfl
  have p1 : w0.cell? ⟨i0 + 1, 1, none⟩ = some (.int .i64 z) := by rw [cell_of_row w0 _ _ _ _ (0, 0) P0.out]; rfl
  have x0 := X0.out.c0; have x1 := X0.out.c1
  have MS := months_short c n s a z w0 hc h1 h2 h3 h4
  clear hc h1 h2 h3 h4
  go_upto_region 2 with (go_at_call 18; (with_reducible refine MS.mono ?_); rintro e w2 ⟨k, row, er, vp, vx, rfl, hk, hz, HI, he, hn, hr, b2⟩; have X2 := Lib.hid (DAt.below X0.out b2); have P2 : Hid (w2.heap[i0 + 1]? = some (.cells #[.int .i64 a, .int .i64 z] 44 (0, 0))) := (b2.block _ (Array.getElem?_eq_some_iff.1 P0.out).1).trans P0.out; have B2 := Lib.hid (bt B0.out b2); have HK := Lib.hid hk; have HZ := Lib.hid hz; have HHI := Lib.hid HI; have HE := Lib.hid he; have HN := Lib.hid hn; have HR := Lib.hid hr; clear b2 hk hz HI he hn hr p0 p1 x0 x1 X0 P0 B0 MS)
  have p0 : w2.cell? ⟨i0 + 1, 0, none⟩ = some (.int .i64 a) := by rw [cell_of_row w2 _ _ _ _ (0, 0) P2.out]; rfl
  have p1 : w2.cell? ⟨i0 + 1, 1, none⟩ = some (.int .i64 z) := by rw [cell_of_row w2 _ _ _ _ (0, 0) P2.out]; rfl
  have PS := partsR_is a z w2 H1.out H2.out H3.out k HZ.out HHI.out (by have := HK.out; omega)
  go_upto_region 9 with (go_at_call 19; (with_reducible refine PS.mono ?_); rintro e w3 ⟨vq, rfl, rq, b3⟩; have RQ := Lib.hid rq; have X3 := Lib.hid (DAt.below X2.out b3); have D3 := Lib.hid b3; have B3 := Lib.hid (bt B2.out b3); clear b3 rq PS p0 p1 P2 X2)
  obtain ⟨qa, qc, rfl, cq⟩ := argS2 (Elem.Row.arg RQ.out)
  rw [Cal.parts_len]
  have CQ := Lib.hid cq
  clear cq d1 d2 d3 d4 d5 zw
  obtain ⟨RB, hRB⟩ : ∃ k, Hid (w3.heap.size = k) := ⟨_, rfl⟩
  go_wp2_with fail
  go_loopw [11, 82] (fun d i wr => ∃ (j : Nat) (da : Option Addr) (dc : Nat), d = .slice da j dc ∧ i = .int .i64 (j : Int) ∧ j ≤ k ∧ Hid (intE.Row wr RB (.slice da j dc) (Cal.days a z j)) ∧ Hid (Below w3.heap.size w3 wr)) (fun _ i _ => k - (intOf i).toNat)
  case atStart => exact ⟨0, none, 0, rfl, rfl, by omega, Elem.Row.nil _ _, Below.refl _ _⟩
  case round =>
    obtain ⟨wo, rfl⟩ : ∃ wo : World, wo = wr := ⟨_, rfl⟩
    obtain ⟨j, da, dc, rfl, rfl, hj, RD, BD⟩ := hrel
    by_cases hjk : j < k
    · have dj : decide ((j : Int) < (k : Int)) = true := by simpa using hjk
      obtain ⟨bq, oq, rfl, lq, q0, q1⟩ := CQ.out j _ (parts_get a z hjk)
      obtain ⟨f, hf⟩ : ∃ x, Hid (Cal.it a z j = x) := ⟨_, rfl⟩
      obtain ⟨g, hg⟩ : ∃ x, Hid (Cal.it a z (j + 1) = x) := ⟨_, rfl⟩
      have c0 := (BD.out.cell (p := ⟨bq, oq + j * 2, none⟩) lq).trans q0
      have c1 := (BD.out.cell (p := ⟨bq, oq + j * 2 + 1, none⟩) lq).trans q1
      dsimp only at c0 c1
      rw [hf.out] at c0; rw [hg.out] at c1
      have bf := Cal.it_bd H1.out H2.out H3.out j
      have bg := Cal.it_bd H1.out H2.out H3.out (j + 1)
      rw [hf.out] at bf; rw [hg.out] at bg
      have gw : IntKind.i64.wrap (g - f) = g - f := by rw [IntWalk.i64_left]; exact IntWalk.wrap64_in _ (by have := H1.out; have := H3.out; omega)
      have jw : IntKind.i64.wrap ((j : Int) + 1) = (j : Int) + 1 := by rw [IntWalk.i64_left]; exact IntWalk.wrap64_in _ (by have := HK.out; omega)
      have i1 : (0 : Int) ≤ (j : Int) := by omega
      have i2 : (j : Int) < (k : Int) := by omega
      have HJ := Lib.hid hjk
      clear bf bg hjk hj q0 q1
      go_upto_region 13 with fail
      clear c0 c1
      have b5 := ba wo (.cells #[.int .i64 f, .int .i64 g] 44)
      have e0 : (wo.alloc (.cells #[.int .i64 f, .int .i64 g] 44)).cell? ⟨wo.heap.size, 0, none⟩ = some (.int .i64 f) := by rw [cell_of_row _ _ _ _ _ (0, 0) (heap_alloc_new wo _)]; rfl
      have e1 : (wo.alloc (.cells #[.int .i64 f, .int .i64 g] 44)).cell? ⟨wo.heap.size, 1, none⟩ = some (.int .i64 g) := by rw [cell_of_row _ _ _ _ _ (0, 0) (heap_alloc_new wo _)]; rfl
      obtain ⟨w5, hw5⟩ : ∃ x, Hid (x = wo.alloc (.cells #[.int .i64 f, .int .i64 g] 44)) := ⟨_, rfl⟩
      rw [← hw5.out] at b5 e0 e1 ⊢
      clear hw5
      obtain ⟨ib, hib⟩ : ∃ q, Hid (wo.heap.size = q) := ⟨_, rfl⟩
      rw [hib.out] at e0 e1 ⊢
      have b6 := bt b5 (ba w5 (.cells #[.int .i64 (g - f)] 3))
      have RD6 := Lib.hid (Elem.Row.below RD.out b6); have D6 := Lib.hid (bt BD.out b6)
      have L6 : Hid (RB ≤ (w5.alloc (.cells #[.int .i64 (g - f)] 3)).heap.size) := by show _ ≤ _; rw [← hRB.out]; exact D6.out.size
      have SRC : Hid (intE.Arg (w5.alloc (.cells #[.int .i64 (g - f)] 3)) (.slice (some ⟨w5.heap.size, 0, none⟩) 1 1) [g - f]) := Elem.arg_one (E := intE) (w := w5) (g - f) _
      have ED : Hid (Cal.days a z (j + 1) = Cal.days a z j ++ [g - f]) := by show _ = _; rw [Cal.days_succ, hf.out, hg.out]
      have HLN : Hid ((Cal.days a z j).length + [g - f].length ≤ 1000001) := by show _ ≤ _; rw [Cal.days_len, List.length_singleton]; have := HK.out; have := HJ.out; omega
      clear b5 b6 RD BD
      go_wp2_with (at_builtin; go_loud (refine Elem.app (E := intE) rfl _ _ rfl RB _ _ _ [g - f] rfl rfl RD6.out SRC.out HLN.out (by decide) L6.out ?_; intro v7 w7 r7 g7 _; have R7 := Lib.hid r7; have D7 : Hid (Below w3.heap.size w3 w7) := D6.out.grown g7 D6.out.size (fun q e => by have := (Elem.Row.lt RD6.out q e).1; have := hRB.out; omega); obtain ⟨va, vcap, hv, _, _⟩ := r7.form; rw [← ED.out, Cal.days_len] at hv; subst hv; clear r7 g7))
      go_roundw
      case rel => exact ⟨j + 1, va, vcap, rfl, rfl, by have := HJ.out; omega, by show intE.Row _ _ _ _; rw [ED.out]; exact R7.out, D7⟩
      case measure => show k - ((j : Int) + 1).toNat < k - ((j : Int)).toNat; have := HJ.out; omega
    · have hjk2 : j = k := by omega
      subst hjk2
      have dj : decide ((j : Int) < (j : Int)) = false := by simp
      clear hjk hj
      have x0 := (DAt.below X3.out BD.out).c0; have x1 := (DAt.below X3.out BD.out).c1
      have SR := sharesR_any (w := wo) c n s HC.out (argI_of (Elem.Row.arg RD.out))
      unfold SharesPost at SR
      rw [HE.out] at SR
      by_cases her : er = 0
      · obtain ⟨rp, rx⟩ := HR.out her
        subst her
        obtain ⟨vpa, vpc, rfl, _, _⟩ := rp.form
        obtain ⟨vxa, vxc, rfl, _, _⟩ := rx.form
        rw [Cal.parts_len] at rp ⊢
        have RP := Lib.hid rp; have RX := Lib.hid rx
        clear rp rx
        go_upto_region 18 with (go_at_call 8; (with_reducible refine SR.mono ?_); rintro e w7 ⟨v7, rfl, r7, b7⟩; have R7 := Lib.hid (Elem.Row.arg r7); have D7 := Lib.hid (bt BD.out b7); clear b7 r7 SR x0 x1)
        have b27 := Lib.hid (bt D3.out D7.out)
        have S1 := spans_is (Elem.Arg.below (Elem.Row.arg RP.out) b27.out) (Elem.Arg.below (Elem.Row.arg RQ.out) D7.out) (by rw [Cal.parts_len]; have := HK.out; omega)
        rw [show decide (Cal.parts a z j = Cal.parts a z j) = true by simp, Cal.parts_len] at S1
        have HROWL : Hid (row.length ≤ 1000000) := by
          show _ ≤ _
          have h : (sharesA c n s (Cal.days a z j)).1.length ≤ 1000 := by
            unfold sharesA
            repeat' split
            all_goals first | (simp; done) | (rw [rowA_len, Cal.days_len]; exact HK.out)
          rw [HE.out] at h
          have h2 : row.length ≤ 1000 := h
          omega
        go_wp2_with (first
          | (go_at_call 20; (with_reducible refine S1.mono ?_); rintro e w8 ⟨rfl, b8⟩
             have SM := same_is (Elem.Arg.below (Elem.Row.arg RX.out) (bt b27.out b8)) (Elem.Arg.below R7.out b8) HROWL.out
             rw [show decide (row = row) = true by simp] at SM
             have D8 := Lib.hid (bt D7.out b8); clear b8 S1)
          | (go_at_call 9; (with_reducible refine SM.mono ?_); rintro e w9 ⟨rfl, b9⟩
             have KN := known_is w9
             have D9 := Lib.hid (bt D8.out b9); clear b9 SM)
          | (go_at_call 6; (with_reducible refine KN.mono ?_); rintro e w10 ⟨rfl, b10⟩
             have D10 := Lib.hid (bt B3.out (bt D9.out b10)); clear b10 KN))
        show P (.returned (.bool true)) _
        rw [← hP.out]
        exact ⟨rfl, D10.out⟩
      · obtain ⟨rfl, rfl⟩ := HN.out her
        have ne : (er != 0) = true := by simpa using her
        have ee : (er == er) = true := by simp
        clear her
        go_upto_region 17 with (go_at_call 8; (with_reducible refine SR.mono ?_); rintro e w7 ⟨v7, rfl, r7, b7⟩; have D7 := Lib.hid (bt BD.out b7); have B7 := Lib.hid (bt B3.out D7.out); clear b7 r7 SR x0 x1)
        have KN := known_is w7
        go_wp2_with (go_at_call 6; (with_reducible refine KN.mono ?_); rintro e w8 ⟨rfl, b8⟩; have D8 := Lib.hid (bt B7.out b8); clear b8 KN)
        show P (.returned (.bool true)) _
        rw [← hP.out]
        exact ⟨rfl, D8.out⟩
end Go.Proofs.Ytngelemjpgglpaa.Pro
