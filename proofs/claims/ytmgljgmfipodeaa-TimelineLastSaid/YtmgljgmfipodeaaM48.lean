/-
  corrodylaw11.TimelineLast, walked.
-/
import Derived.Test.YtmgljgmfipodeaaM46
import Derived.Test.YtmgljgmfipodeaaM47
/-
  corrodylaw11.TimelineLast, walked.
-/
namespace Go.Proofs.Ytmgljgmfipodeaa.Tl
open Go Go.RowKit Av Itr
set_option linter.unusedSimpArgs false
set_option linter.unusedVariables false
attribute [local go_sem ↓] Go.wp_at_zero Go.wp_at_succ

set_option maxRecDepth 100000 in
theorem last_many (vl : Value) (l : List (Int × Int × Int)) (o : Int × Int × Int) (day : Int) (w : World) (hl : opE.Arg w vl l) (h60 : ¬ l.length ≤ 60) :
    Calls Try.prog 3 #[vl, .agg #[.int .i64 o.1, .int .i64 o.2.1, .int .i64 o.2.2], .int .i64 day] w fun e w' => e = .returned (.bool true) ∧ Below w.heap.size w w' := by
  obtain ⟨al, cl, rfl, _⟩ := argOp hl
  have d1 : decide (60 < l.length) = true := by simp; omega
  have d2 : (60 : Int) < (l.length : Int) := by omega
  have B0 := ba w (.cells #[.int .i64 o.1, .int .i64 o.2.1, .int .i64 o.2.2] 26)
  have KN := knownT_any (w.alloc (.cells #[.int .i64 o.1, .int .i64 o.2.1, .int .i64 o.2.2] 26))
  clear hl h60
  go_enter Try.func3, Try.ntmps3
  go_wp2_with (go_at_call 5; go_loud ((with_reducible refine KN.mono ?_); rintro e w4 ⟨rfl, b4⟩; have B4 := Lib.hid b4; clear b4 KN))
  go_ret
  exact ⟨rfl, bt B0 B4.out⟩
set_option maxRecDepth 100000 in
set_option maxHeartbeats 4000000 in
theorem last_main (vl : Value) (l : List (Int × Int × Int)) (o : Int × Int × Int) (day : Int) (w : World) (hl : opE.Arg w vl l) (h60 : l.length ≤ 60) (hd1 : -9223372036854775808 ≤ day) (hd2 : day ≤ 9223372036854775807) :
    Calls Try.prog 3 #[vl, .agg #[.int .i64 o.1, .int .i64 o.2.1, .int .i64 o.2.2], .int .i64 day] w fun e w' => e = .returned (.bool true) ∧ Below w.heap.size w w' := by
  obtain ⟨al, cl, rfl, hcell⟩ := argOp hl
  obtain ⟨sF, sT, v⟩ := o
  have d1 : decide (60 < l.length) = false := by simp; omega
  have d2 : ¬ (60 : Int) < (l.length : Int) := by omega
  have B0 := ba w (.cells #[.int .i64 sF, .int .i64 sT, .int .i64 v] 26)
  have O0 := heap_alloc_new w (.cells #[.int .i64 sF, .int .i64 sT, .int .i64 v] 26)
  have HL := Lib.hid h60
  have HC := Lib.hid hcell
  have HD := Lib.hid (And.intro hd1 hd2)
  clear hl h60 hcell hd1 hd2
  dsimp only
  go_enter Try.func3, Try.ntmps3
  go_upto_region 3 with fail
  obtain ⟨wa, hwa⟩ : ∃ z, Hid (z = w.alloc (.cells #[.int .i64 sF, .int .i64 sT, .int .i64 v] 26)) := ⟨_, rfl⟩
  rw [← hwa.out] at B0 O0 ⊢
  obtain ⟨i0, hi0⟩ : ∃ i, Hid (w.heap.size = i) := ⟨_, rfl⟩
  have ILT : Hid (i0 < wa.heap.size) := by show _ < _; rw [← hi0.out]; exact (Array.getElem?_eq_some_iff.1 O0).1
  rw [hi0.out] at O0 ⊢
  have HO := Lib.hid O0
  have HB0 := Lib.hid B0
  clear O0 B0 hwa
  go_upto_region 4 with (go_at_call 6; (with_reducible refine (new_tl (w := wa)).mono ?_); rintro e w1 ⟨b, rfl, t1⟩; have T1 := Lib.hid t1; clear t1)
  go_wp2_with fail
  go_loopw [21] (fun i wr => ∃ (k : Nat) (F : Int → Int), i = .int .i64 (k : Int) ∧ k ≤ l.length ∧ Hid (TlIs wa wr b F (2 * k))) (fun i _ => l.length - (intOf i).toNat)
  case atStart => exact ⟨0, F0, rfl, by omega, T1.out⟩
  case round =>
    obtain ⟨wo, rfl⟩ : ∃ wo : World, wo = wr := ⟨_, rfl⟩
    clear T1
    obtain ⟨k, F, rfl, hk, TT⟩ := hrel
    by_cases hkl : k < l.length
    · obtain ⟨x, hx⟩ : ∃ x, l[k]? = some x := ⟨_, List.getElem?_eq_getElem hkl⟩
      obtain ⟨bl, ol, rfl, hbl, c0, c1, c2⟩ := HC.out k x hx
      have BB := HB0.out.trans (TT.out.bel.mono HB0.out.size)
      have e0 := (BB.cell (p := ⟨bl, _, none⟩) hbl).trans c0
      have e1 := (BB.cell (p := ⟨bl, _, none⟩) hbl).trans c1
      have e2 := (BB.cell (p := ⟨bl, _, none⟩) hbl).trans c2
      have j0 : (0 : Int) ≤ (k : Int) := by omega
      have j1 : (k : Int) < ((l.length : Nat) : Int) := by omega
      have HK := Lib.hid hkl
      have kw : IntKind.i64.wrap ((k : Int) + 1) = (k : Int) + 1 := by rw [IntWalk.i64_left]; exact IntWalk.wrap64_in _ (by have := HL.out; omega)
      have A1 := put_tl (sF := x.1) (sT := x.2.1) (v := x.2.2) (TT.out.below (ba wo (Obj.cells #[.int .i64 x.1, .int .i64 x.2.1, .int .i64 x.2.2] 26))) (by have := HL.out; omega)
      clear hx c0 c1 c2 hbl hk hkl BB
      go_wp2_with (go_at_call 7; (with_reducible refine A1.mono ?_); rintro e w5 ⟨rfl, t5⟩; have T5 := Lib.hid t5; clear t5 A1)
      go_roundw
      case rel => exact ⟨k + 1, _, rfl, by have := HK.out; omega, by show TlIs _ _ _ _ (2 * (k + 1)); exact T5.out⟩
      case measure => show _ - ((k : Int) + 1).toNat < _ - ((k : Int)).toNat; have := HK.out; omega
    · have hke : k = l.length := by omega
      subst hke
      clear hkl hk
      have kf : ¬ ((l.length : Int) < (l.length : Int)) := by omega
      have A1 := at_tl (day := day) TT.out HD.out.1 HD.out.2
      obtain ⟨p, hp⟩ : ∃ p, Hid (F day = p) := ⟨_, rfl⟩
      rw [hp.out] at A1
      go_upto_region 12 with (go_at_call 8; (with_reducible refine A1.mono ?_); rintro e w2 ⟨rfl, t2, _⟩; have T2 := Lib.hid t2; clear t2 A1)
      have O2 := (T2.out.bel.block i0 ILT.out).trans HO.out
      have o0 : w2.cell? ⟨i0, 0, none⟩ = some (.int .i64 sF) := by rw [cell_of_row w2 _ _ _ _ (0, 0) O2]; rfl
      have o1 : w2.cell? ⟨i0, 1, none⟩ = some (.int .i64 sT) := by rw [cell_of_row w2 _ _ _ _ (0, 0) O2]; rfl
      have o2 : w2.cell? ⟨i0, 2, none⟩ = some (.int .i64 v) := by rw [cell_of_row w2 _ _ _ _ (0, 0) O2]; rfl
      have A2 := put_tl (sF := sF) (sT := sT) (v := v) T2.out (by have := HL.out; omega)
      obtain ⟨c, hc⟩ : ∃ c : Int, Hid ((if mayS sF sT = true then (0 : Int) else 15) = c) := ⟨_, rfl⟩
      rw [hc.out] at A2
      clear O2 kf
      go_upto_region 13 with (go_at_call 7; (with_reducible refine A2.mono ?_); rintro e w3 ⟨rfl, t3⟩; have T3 := Lib.hid t3; clear t3 A2)
      clear o0 o1 o2
      have O3 := (T3.out.bel.block i0 ILT.out).trans HO.out
      have o0 : w3.cell? ⟨i0, 0, none⟩ = some (.int .i64 sF) := by rw [cell_of_row w3 _ _ _ _ (0, 0) O3]; rfl
      have o1 : w3.cell? ⟨i0, 1, none⟩ = some (.int .i64 sT) := by rw [cell_of_row w3 _ _ _ _ (0, 0) O3]; rfl
      have o2 : w3.cell? ⟨i0, 2, none⟩ = some (.int .i64 v) := by rw [cell_of_row w3 _ _ _ _ (0, 0) O3]; rfl
      have A3 := at_tl (day := day) T3.out HD.out.1 HD.out.2
      have KN := knownT_any
      obtain ⟨r, hr⟩ : ∃ r, Hid (putF F sF sT v day = r) := ⟨_, rfl⟩
      rw [hr.out] at A3
      have WD : Hid (day < 1 ∨ 3652059 < day → r = 0) := fun h => by rw [← hr.out]; exact T3.out.wide h
      clear O3
      replace KN := Lib.hid KN
      -- the end, at what the variable holds
      by_cases hm : mayS sF sT = true
      · obtain rfl : 0 = c := by rw [← hc.out, if_pos hm]
        have rv : r = upd F sF sT v day := by rw [← hr.out]; unfold putF; rw [if_pos hm]
        by_cases h1 : sF ≤ day
        · have k1 : decide (sF ≤ day) = true := by simpa using h1
          by_cases h2 : day < sT
          · have k2 : decide (day < sT) = true := by simpa using h2
            obtain rfl : v = r := by rw [rv]; exact (upd_in h1 h2).symm
            clear rv hm
            by_cases g1 : 1 ≤ day
            · by_cases g2 : day ≤ 3652059
              · have q1 : decide (1 ≤ day) = true := by simpa using g1
                have q2 : decide (day ≤ 3652059) = true := by simpa using g2
                go_wp2_with (first
                  | (go_at_call 8; (with_reducible refine A3.mono ?_); rintro e w4 ⟨rfl, t4, _⟩; have T4 := Lib.hid t4; have KN4 := KN.out w4; clear t4 A3)
                  | (go_at_call 5; (with_reducible refine KN4.mono ?_); rintro e w5 ⟨rfl, b5⟩; have B5 := Lib.hid b5; clear b5))
                go_ret
                exact ⟨rfl, HB0.out.trans ((T4.out.bel.trans (B5.out.mono T4.out.bel.size)).mono HB0.out.size)⟩
              · have q1 : decide (1 ≤ day) = true := by simpa using g1
                have q2 : decide (day ≤ 3652059) = false := by simpa using g2
                obtain rfl : 0 = v := (WD.out (by omega)).symm
                go_wp2_with (first
                  | (go_at_call 8; (with_reducible refine A3.mono ?_); rintro e w4 ⟨rfl, t4, _⟩; have T4 := Lib.hid t4; have KN4 := KN.out w4; clear t4 A3)
                  | (go_at_call 5; (with_reducible refine KN4.mono ?_); rintro e w5 ⟨rfl, b5⟩; have B5 := Lib.hid b5; clear b5))
                go_ret
                exact ⟨rfl, HB0.out.trans ((T4.out.bel.trans (B5.out.mono T4.out.bel.size)).mono HB0.out.size)⟩
            · have q1 : decide (1 ≤ day) = false := by simpa using g1
              obtain rfl : 0 = v := (WD.out (by omega)).symm
              go_wp2_with (first
                | (go_at_call 8; (with_reducible refine A3.mono ?_); rintro e w4 ⟨rfl, t4, _⟩; have T4 := Lib.hid t4; have KN4 := KN.out w4; clear t4 A3)
                | (go_at_call 5; (with_reducible refine KN4.mono ?_); rintro e w5 ⟨rfl, b5⟩; have B5 := Lib.hid b5; clear b5))
              go_ret
              exact ⟨rfl, HB0.out.trans ((T4.out.bel.trans (B5.out.mono T4.out.bel.size)).mono HB0.out.size)⟩
          · have k2 : decide (day < sT) = false := by simpa using h2
            obtain rfl : p = r := by rw [rv, upd_out (by omega)]; exact hp.out.symm
            clear rv hm
            by_cases g1 : 1 ≤ day
            · by_cases g2 : day ≤ 3652059
              · have q1 : decide (1 ≤ day) = true := by simpa using g1
                have q2 : decide (day ≤ 3652059) = true := by simpa using g2
                go_wp2_with (first
                  | (go_at_call 8; (with_reducible refine A3.mono ?_); rintro e w4 ⟨rfl, t4, _⟩; have T4 := Lib.hid t4; have KN4 := KN.out w4; clear t4 A3)
                  | (go_at_call 5; (with_reducible refine KN4.mono ?_); rintro e w5 ⟨rfl, b5⟩; have B5 := Lib.hid b5; clear b5))
                go_ret
                exact ⟨rfl, HB0.out.trans ((T4.out.bel.trans (B5.out.mono T4.out.bel.size)).mono HB0.out.size)⟩
              · have q1 : decide (1 ≤ day) = true := by simpa using g1
                have q2 : decide (day ≤ 3652059) = false := by simpa using g2
                obtain rfl : 0 = p := (WD.out (by omega)).symm
                go_wp2_with (first
                  | (go_at_call 8; (with_reducible refine A3.mono ?_); rintro e w4 ⟨rfl, t4, _⟩; have T4 := Lib.hid t4; have KN4 := KN.out w4; clear t4 A3)
                  | (go_at_call 5; (with_reducible refine KN4.mono ?_); rintro e w5 ⟨rfl, b5⟩; have B5 := Lib.hid b5; clear b5))
                go_ret
                exact ⟨rfl, HB0.out.trans ((T4.out.bel.trans (B5.out.mono T4.out.bel.size)).mono HB0.out.size)⟩
            · have q1 : decide (1 ≤ day) = false := by simpa using g1
              obtain rfl : 0 = p := (WD.out (by omega)).symm
              go_wp2_with (first
                | (go_at_call 8; (with_reducible refine A3.mono ?_); rintro e w4 ⟨rfl, t4, _⟩; have T4 := Lib.hid t4; have KN4 := KN.out w4; clear t4 A3)
                | (go_at_call 5; (with_reducible refine KN4.mono ?_); rintro e w5 ⟨rfl, b5⟩; have B5 := Lib.hid b5; clear b5))
              go_ret
              exact ⟨rfl, HB0.out.trans ((T4.out.bel.trans (B5.out.mono T4.out.bel.size)).mono HB0.out.size)⟩
        · have k1 : decide (sF ≤ day) = false := by simpa using h1
          obtain rfl : p = r := by rw [rv, upd_out (by omega)]; exact hp.out.symm
          clear rv hm
          by_cases g1 : 1 ≤ day
          · by_cases g2 : day ≤ 3652059
            · have q1 : decide (1 ≤ day) = true := by simpa using g1
              have q2 : decide (day ≤ 3652059) = true := by simpa using g2
              go_wp2_with (first
                | (go_at_call 8; (with_reducible refine A3.mono ?_); rintro e w4 ⟨rfl, t4, _⟩; have T4 := Lib.hid t4; have KN4 := KN.out w4; clear t4 A3)
                | (go_at_call 5; (with_reducible refine KN4.mono ?_); rintro e w5 ⟨rfl, b5⟩; have B5 := Lib.hid b5; clear b5))
              go_ret
              exact ⟨rfl, HB0.out.trans ((T4.out.bel.trans (B5.out.mono T4.out.bel.size)).mono HB0.out.size)⟩
            · have q1 : decide (1 ≤ day) = true := by simpa using g1
              have q2 : decide (day ≤ 3652059) = false := by simpa using g2
              obtain rfl : 0 = p := (WD.out (by omega)).symm
              go_wp2_with (first
                | (go_at_call 8; (with_reducible refine A3.mono ?_); rintro e w4 ⟨rfl, t4, _⟩; have T4 := Lib.hid t4; have KN4 := KN.out w4; clear t4 A3)
                | (go_at_call 5; (with_reducible refine KN4.mono ?_); rintro e w5 ⟨rfl, b5⟩; have B5 := Lib.hid b5; clear b5))
              go_ret
              exact ⟨rfl, HB0.out.trans ((T4.out.bel.trans (B5.out.mono T4.out.bel.size)).mono HB0.out.size)⟩
          · have q1 : decide (1 ≤ day) = false := by simpa using g1
            obtain rfl : 0 = p := (WD.out (by omega)).symm
            go_wp2_with (first
              | (go_at_call 8; (with_reducible refine A3.mono ?_); rintro e w4 ⟨rfl, t4, _⟩; have T4 := Lib.hid t4; have KN4 := KN.out w4; clear t4 A3)
              | (go_at_call 5; (with_reducible refine KN4.mono ?_); rintro e w5 ⟨rfl, b5⟩; have B5 := Lib.hid b5; clear b5))
            go_ret
            exact ⟨rfl, HB0.out.trans ((T4.out.bel.trans (B5.out.mono T4.out.bel.size)).mono HB0.out.size)⟩
      · obtain rfl : 15 = c := by rw [← hc.out, if_neg hm]
        obtain rfl : p = r := by rw [← hr.out]; unfold putF; rw [if_neg hm]; exact hp.out.symm
        clear hm
        by_cases g1 : 1 ≤ day
        · by_cases g2 : day ≤ 3652059
          · have q1 : decide (1 ≤ day) = true := by simpa using g1
            have q2 : decide (day ≤ 3652059) = true := by simpa using g2
            go_wp2_with (first
              | (go_at_call 8; (with_reducible refine A3.mono ?_); rintro e w4 ⟨rfl, t4, _⟩; have T4 := Lib.hid t4; have KN4 := KN.out w4; clear t4 A3)
              | (go_at_call 5; (with_reducible refine KN4.mono ?_); rintro e w5 ⟨rfl, b5⟩; have B5 := Lib.hid b5; clear b5))
            go_ret
            exact ⟨rfl, HB0.out.trans ((T4.out.bel.trans (B5.out.mono T4.out.bel.size)).mono HB0.out.size)⟩
          · have q1 : decide (1 ≤ day) = true := by simpa using g1
            have q2 : decide (day ≤ 3652059) = false := by simpa using g2
            obtain rfl : 0 = p := (WD.out (by omega)).symm
            go_wp2_with (first
              | (go_at_call 8; (with_reducible refine A3.mono ?_); rintro e w4 ⟨rfl, t4, _⟩; have T4 := Lib.hid t4; have KN4 := KN.out w4; clear t4 A3)
              | (go_at_call 5; (with_reducible refine KN4.mono ?_); rintro e w5 ⟨rfl, b5⟩; have B5 := Lib.hid b5; clear b5))
            go_ret
            exact ⟨rfl, HB0.out.trans ((T4.out.bel.trans (B5.out.mono T4.out.bel.size)).mono HB0.out.size)⟩
        · have q1 : decide (1 ≤ day) = false := by simpa using g1
          obtain rfl : 0 = p := (WD.out (by omega)).symm
          go_wp2_with (first
            | (go_at_call 8; (with_reducible refine A3.mono ?_); rintro e w4 ⟨rfl, t4, _⟩; have T4 := Lib.hid t4; have KN4 := KN.out w4; clear t4 A3)
            | (go_at_call 5; (with_reducible refine KN4.mono ?_); rintro e w5 ⟨rfl, b5⟩; have B5 := Lib.hid b5; clear b5))
          go_ret
          exact ⟨rfl, HB0.out.trans ((T4.out.bel.trans (B5.out.mono T4.out.bel.size)).mono HB0.out.size)⟩
theorem last_law (vl : Value) (l : List (Int × Int × Int)) (o : Int × Int × Int) (day : Int) (w : World) (hl : opE.Arg w vl l) (hd : -9223372036854775808 ≤ day ∧ day ≤ 9223372036854775807) :
    Calls Try.prog 3 #[vl, .agg #[.int .i64 o.1, .int .i64 o.2.1, .int .i64 o.2.2], .int .i64 day] w fun e w' => e = .returned (.bool true) ∧ Below w.heap.size w w' := by
  by_cases h : l.length ≤ 60
  · exact last_main vl l o day w hl h hd.1 hd.2
  · exact last_many vl l o day w hl h
end Go.Proofs.Ytmgljgmfipodeaa.Tl
