/-
  A timeline that some puts have made, in a world; corrodylaw11: known.
-/
import Derived.Test.YtmgljgmfipodeaaM37
import Derived.Test.YtmgljgmfipodeaaM44
import Derived.Test.YtmgljgmfipodeaaM45
/-
  A timeline that some puts have made, in a world; corrodylaw11: known.
-/
namespace Go.Proofs.Ytmgljgmfipodeaa.Tl
open Go Go.RowKit Av Itr
set_option linter.unusedSimpArgs false
set_option linter.unusedVariables false
attribute [local go_sem ↓] Go.wp_at_zero Go.wp_at_succ

def putF (F : Int → Int) (sF sT v : Int) : Int → Int := if mayS sF sT = true then upd F sF sT v else F
/-- a timeline whose days have the values F, made behind w -/
def TlIs (w W : World) (b : Nat) (F : Int → Int) (n : Nat) : Prop := ∃ T E L vals free, LineIs W w.heap.size b T L vals free ∧ Inv E L vals free ∧ E.length ≤ n ∧ Fn L vals F ∧ Sharp L F ∧ Below w.heap.size w W
section
variable {w W W' : World} {b n : Nat} {F : Int → Int}
theorem TlIs.bel (h : TlIs w W b F n) : Below w.heap.size w W := by obtain ⟨_, _, _, _, _, _, _, _, _, _, h⟩ := h; exact h
theorem TlIs.below (h : TlIs w W b F n) (k : Below W.heap.size W W') : TlIs w W' b F n := by
  obtain ⟨T, E, L, vals, free, h1, h2, h3, h4, h5, h6⟩ := h
  exact ⟨T, E, L, vals, free, h1.below k, h2, h3, h4, h5, bt h6 k⟩
theorem TlIs.to (h : TlIs w W b F n) {G : Int → Int} (e : G = F) : TlIs w W b G n := by subst e; exact h
theorem TlIs.wide (h : TlIs w W b F n) {d : Int} (hd : d < 1 ∨ 3652059 < d) : F d = 0 := by
  obtain ⟨T, E, L, vals, free, h1, h2, h3, h4, h5, h6⟩ := h
  exact Fn.wide h2 h4 hd
theorem new_tl {w : World} : Calls Try.prog 6 #[] w fun e w' => ∃ b, e = .returned (.pointer (some ⟨b, 0, none⟩)) ∧ TlIs w w' b F0 0 := by
  refine newL_is.mono ?_
  rintro e w' ⟨b, T, rfl, h1, h2⟩
  exact ⟨b, rfl, T, [], [], [], [], h1, Inv.zero, Nat.le_refl _, Fn.zero, sharp_nil _, h2⟩
theorem put_tl {sF sT v : Int} (h : TlIs w W b F n) (hn : n ≤ 900) : Calls Try.prog 7 #[.pointer (some ⟨b, 0, none⟩), .agg #[.int .i64 sF, .int .i64 sT], .int .i64 v] W fun e w' => e = .returned (.int .i64 (if mayS sF sT = true then 0 else 15)) ∧ TlIs w w' b (putF F sF sT v) (n + 2) := by
  obtain ⟨T, E, L, vals, free, h1, h2, h3, h4, h5, h6⟩ := h
  have hT : ∀ j, T j → w.heap.size ≤ j := fun j hj => (h1.lt j hj).2
  cases hm : mayS sF sT with
  | false =>
    refine (put_bad h1 hm).mono ?_
    rintro e w' ⟨rfl, k⟩
    have kb := k.bel hT h6.size
    obtain ⟨T', k1⟩ := k.is
    refine ⟨by simp, T', E, L, vals, free, k1, h2, by omega, ?_, ?_, h6.trans kb⟩
    · unfold putF; rw [hm, if_neg (by simp)]; exact h4
    · unfold putF; rw [hm, if_neg (by simp)]; exact h5
  | true =>
    refine (put_good h1 h2 h4 (by omega) hm).mono ?_
    rintro e w' ⟨rfl, L', vals', free', i1, i2, i3, k⟩
    have kb := k.bel hT h6.size
    obtain ⟨T', k1⟩ := k.is
    refine ⟨by simp, T', _, L', vals', free', k1, i1, by simp only [List.length_cons]; omega, ?_, ?_, h6.trans kb⟩
    · unfold putF; rw [hm, if_pos rfl]; exact i2
    · unfold putF; rw [hm, if_pos rfl]; exact i3 h5
theorem at_tl {day : Int} (h : TlIs w W b F n) (hd1 : -9223372036854775808 ≤ day) (hd2 : day ≤ 9223372036854775807) : Calls Try.prog 8 #[.pointer (some ⟨b, 0, none⟩), .int .i64 day] W fun e w' => e = .returned (.int .i64 (F day)) ∧ TlIs w w' b F n ∧ Below W.heap.size W w' := by
  have h0 := h
  obtain ⟨T, E, L, vals, free, h1, h2, h3, h4, h5, h6⟩ := h
  refine (at_is h1 h2 h4 hd1 hd2).mono ?_
  rintro e w' ⟨rfl, k⟩
  exact ⟨rfl, h0.below k, k⟩
theorem pieces_one (h : TlIs w W b F1 n) : Calls Try.prog 11 #[.pointer (some ⟨b, 0, none⟩)] W fun e w' => e = .returned (.int .i64 1) ∧ w' = W := by
  obtain ⟨T, E, L, vals, free, h1, h2, h3, h4, h5, h6⟩ := h
  have := pieces_is h1
  rw [one_piece h2 h4 h5 h1.sorted] at this
  exact this
theorem pieces_two (h : TlIs w W b F2 n) : Calls Try.prog 11 #[.pointer (some ⟨b, 0, none⟩)] W fun e w' => e = .returned (.int .i64 2) ∧ w' = W := by
  obtain ⟨T, E, L, vals, free, h1, h2, h3, h4, h5, h6⟩ := h
  have := pieces_is h1
  obtain ⟨i, j, e, _⟩ := two_pieces h2 h4 h5 h1.sorted
  rw [e] at this
  exact this
def knownS : List (Int × Int × Int) := [(1, 3, 0), (3, 4, 5), (4, 6, 0), (6, 9, 5), (9, 10, 0)]
theorem segs_two (h : TlIs w W b F2 n) (hn : n ≤ 1000) : Calls Try.prog 9 #[.pointer (some ⟨b, 0, none⟩), .agg #[.int .i64 1, .int .i64 10]] W fun e w' => ∃ v, e = .returned v ∧ segE.Row w' W.heap.size v knownS ∧ Below W.heap.size W w' := by
  obtain ⟨T, E, L, vals, free, h1, h2, h3, h4, h5, h6⟩ := h
  have S := segs_good (sF := 1) (sT := 10) h1 h2 (by omega) (by decide)
  obtain ⟨i, j, e, hi, hj⟩ := two_pieces h2 h4 h5 h1.sorted
  have eX : overS 1 10 L = [⟨3, 4, i⟩, ⟨6, 9, j⟩] := by rw [e]; rfl
  rw [eX, known_segs hi hj] at S
  exact S
theorem put_f {F : Int → Int} {a z v : Int} (h : mayS a z = true) : putF F a z v = upd F a z v := by unfold putF; rw [if_pos h]
end
theorem same_known {w6 : World} {v6 : Value} {B : Nat} (h : segE.Row w6 B v6 knownS) : Calls Try.prog 12 #[v6, .slice (some ⟨w6.heap.size, 0, none⟩) 5 5] (w6.alloc (.cells #[.int .i64 1, .int .i64 3, .int .i64 0, .int .i64 3, .int .i64 4, .int .i64 5, .int .i64 4, .int .i64 6, .int .i64 0, .int .i64 6, .int .i64 9, .int .i64 5, .int .i64 9, .int .i64 10, .int .i64 0] 43)) fun e w' => e = .returned (.bool true) ∧ Below w6.heap.size w6 w' := by
  have S := same_is (xs := knownS) (Elem.Arg.below h.arg (ba w6 (.cells #[.int .i64 1, .int .i64 3, .int .i64 0, .int .i64 3, .int .i64 4, .int .i64 5, .int .i64 4, .int .i64 6, .int .i64 0, .int .i64 6, .int .i64 9, .int .i64 5, .int .i64 9, .int .i64 10, .int .i64 0] 43))) (Elem.arg_lit (E := rsegE) (w := w6) knownS 5 rfl 43) (by decide)
  exact S.mono fun e w' h => ⟨h.1, bt (ba w6 _) h.2⟩
set_option maxRecDepth 100000 in
set_option maxHeartbeats 2000000 in
theorem knownT_any (w : World) : Calls Try.prog 5 #[] w fun e w' => e = .returned (.bool true) ∧ Below w.heap.size w w' := by
  go_enter Try.func5, Try.ntmps5
  go_upto_region 4 with (go_at_call 6; (with_reducible refine (new_tl (w := w)).mono ?_); rintro e w1 ⟨b, rfl, t1⟩; have T1 := Lib.hid t1; clear t1)
  have A1 := put_tl (sF := 3) (sT := 7) (v := 5) T1.out (by omega)
  rw [show mayS 3 7 = true by decide, if_pos rfl] at A1
  go_upto_region 5 with (go_at_call 7; (with_reducible refine A1.mono ?_); rintro e w2 ⟨rfl, t2⟩; have T2 := Lib.hid t2; clear t2 A1)
  have A2 := put_tl (sF := 5) (sT := 9) (v := 5) T2.out (by omega)
  rw [show mayS 5 9 = true by decide, if_pos rfl] at A2
  go_upto_region 6 with (go_at_call 7; (with_reducible refine A2.mono ?_); rintro e w3 ⟨rfl, t3⟩; have T3 := Lib.hid (t3.to (G := F1) (by rw [put_f (by decide), put_f (by decide)]; rfl)); clear t3 A2)
  have A3 := pieces_one T3.out
  have A4 := put_tl (sF := 4) (sT := 6) (v := 0) T3.out (by omega)
  rw [show mayS 4 6 = true by decide, if_pos rfl] at A4
  go_upto_region 8 with (first
    | (go_at_call 11; (with_reducible refine A3.mono ?_); rintro e w20 ⟨rfl, hq⟩; obtain rfl := hq.symm; clear A3)
    | (go_at_call 7; (with_reducible refine A4.mono ?_); rintro e w4 ⟨rfl, t4⟩; have T4 := Lib.hid (t4.to (G := F2) (by rw [put_f (by decide)]; rfl)); clear t4 A4))
  have A5 := put_tl (sF := 0) (sT := 6) (v := 1) T4.out (by omega)
  rw [show mayS 0 6 = false by decide, if_neg (by simp)] at A5
  go_upto_region 9 with (go_at_call 7; (with_reducible refine A5.mono ?_); rintro e w5 ⟨rfl, t5⟩; have T5 := Lib.hid (t5.to (G := F2) (by unfold putF; rw [if_neg (by decide)])); clear t5 A5)
  have A6 := pieces_two T5.out
  have A7 := segs_two T5.out (by omega)
  clear T1 T2 T3 T4
  go_wp2_with (first
    | (go_at_call 11; (with_reducible refine A6.mono ?_); rintro e w20 ⟨rfl, hq⟩; obtain rfl := hq.symm; clear A6)
    | (go_at_call 9; (with_reducible refine A7.mono ?_); rintro e w6 ⟨v6, rfl, r6, b6⟩; have R6 := Lib.hid r6; have B6 := Lib.hid b6; clear r6 b6 A7)
    | (go_at_call 12; go_loud ((with_reducible refine (same_known R6.out).mono ?_); rintro e w7 ⟨rfl, b7⟩; have B7 := Lib.hid b7; clear b7)))
  go_ret
  exact ⟨rfl, bt T5.out.bel (bt B6.out B7.out)⟩
end Go.Proofs.Ytmgljgmfipodeaa.Tl
