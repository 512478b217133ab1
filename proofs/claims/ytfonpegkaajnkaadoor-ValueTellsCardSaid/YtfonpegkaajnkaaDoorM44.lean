/-
  Values: the known texts, walked; ValueParses: walked; A laid sentinel's cell; What the rows' condition gives: the library's table, its number, its error.
-/
import Derived.Test.YtfonpegkaajnkaaDoorM43
import Derived.Test.YtfonpegkaajnkaaDoorRows
import Derived.Test.YtfonpegkaajnkaaDoorM5
import Derived.Lib.LaidTab
import Derived.LaidSub
import Derived.Shelf.Vars
/-
  Values: the known texts, walked.
-/
namespace Go.Proofs.YtfonpegkaajnkaaDoor.Va
open Go Go.RowKit Dt Tx
set_option linter.unusedSimpArgs false
set_option linter.unusedVariables false
attribute [local go_sem ↓] Go.wp_at_zero Go.wp_at_succ

theorem parse_at {w : World} (L : List UInt8) (S : ByteArray) (hS : bs L = S) (hl : L.length ≤ 1000) (he : Env w) {k c s e f : Int} (h : parseV L = (⟨k, c, s, e⟩, f)) :
    Calls Tryd.prog 9 #[.string S] w fun e' w' => e' = .returned (.tuple #[.agg #[.int .u8 k, .int .i64 c, .int .i64 s, .int .i64 e], .int .i64 f]) ∧ Below w.heap.size w w' := by
  have := parse_is L hl he
  unfold VPost at this
  rw [h, hS] at this
  exact this
set_option maxRecDepth 100000 in
set_option maxHeartbeats 1000000 in
theorem knownV_is {w : World} (he : Env w) : Calls Tryd.prog 8 #[] w fun e w' => e = .returned (.bool true) ∧ Below w.heap.size w w' := by
  have HE := Lib.hid he
  have P1 := fun w (h : Env w) => parse_at (w := w) [116, 114, 117, 101] ⟨#[116, 114, 117, 101]⟩ rfl (by decide) h (show parseV _ = (⟨2, 0, 0, 0⟩, 0) by decide +kernel)
  have P2 := fun w (h : Env w) => parse_at (w := w) [45, 49, 46, 53] ⟨#[45, 49, 46, 53]⟩ rfl (by decide) h (show parseV _ = (⟨1, -15, 1, 0⟩, 0) by decide +kernel)
  have P3 := fun w (h : Env w) => parse_at (w := w) [100, 105, 118] ⟨#[100, 105, 118]⟩ rfl (by decide) h (show parseV _ = (⟨4, 0, 0, 12⟩, 0) by decide +kernel)
  have P4 := fun w (h : Env w) => parse_at (w := w) [48, 49] ⟨#[48, 49]⟩ rfl (by decide) h (show parseV _ = (⟨0, 0, 0, 0⟩, 4) by decide +kernel)
  have TR := fun w => truth_is (w := w) true
  simp only [if_true] at TR
  have P1' := P1 w he
  clear he P1
  go_enter Tryd.func8, Tryd.ntmps8
  go_upto_region 2 with (go_at_call 9; (with_reducible refine P1'.mono ?_); rintro e1 w1 ⟨rfl, q1⟩; have B1 := Lib.hid (bt q1 (ba w1 (.cells #[.int .u8 2, .int .i64 0, .int .i64 0, .int .i64 0] 27))); have X1 := Lib.hid (Four.new w1 ⟨2, 0, 0, 0⟩); clear q1 P1')
  obtain ⟨v1, hv1⟩ : ∃ v, Hid (v = w1.alloc (.cells #[.int .u8 2, .int .i64 0, .int .i64 0, .int .i64 0] 27)) := ⟨_, rfl⟩
  obtain ⟨i1, hi1⟩ : ∃ v, Hid (w1.heap.size = v) := ⟨_, rfl⟩
  rw [← hv1.out] at B1 X1 ⊢
  rw [hi1.out] at X1 ⊢
  have P2' := P2 v1 (HE.out.below B1.out)
  clear hv1 hi1 P2
  go_upto_region 3 with (go_at_call 9; (with_reducible refine P2'.mono ?_); rintro e2 w2 ⟨rfl, q2⟩; have B2 := Lib.hid (bt B1.out (bt q2 (ba w2 (.cells #[.int .u8 1, .int .i64 (-15), .int .i64 1, .int .i64 0] 27)))); have X2 := Lib.hid ((X1.out.below q2).below (ba w2 (.cells #[.int .u8 1, .int .i64 (-15), .int .i64 1, .int .i64 0] 27))); have Y2 := Lib.hid (Four.new w2 ⟨1, -15, 1, 0⟩); clear q2 P2')
  obtain ⟨v2, hv2⟩ : ∃ v, Hid (v = w2.alloc (.cells #[.int .u8 1, .int .i64 (-15), .int .i64 1, .int .i64 0] 27)) := ⟨_, rfl⟩
  obtain ⟨i2, hi2⟩ : ∃ v, Hid (w2.heap.size = v) := ⟨_, rfl⟩
  rw [← hv2.out] at B2 X2 Y2 ⊢
  rw [hi2.out] at Y2 ⊢
  have P3' := P3 v2 (HE.out.below B2.out)
  clear hv2 hi2 P3 B1 X1
  go_upto_region 4 with (go_at_call 9; (with_reducible refine P3'.mono ?_); rintro e3 w3 ⟨rfl, q3⟩; have B3 := Lib.hid (bt B2.out (bt q3 (ba w3 (.cells #[.int .u8 4, .int .i64 0, .int .i64 0, .int .i64 12] 27)))); have X3 := Lib.hid ((X2.out.below q3).below (ba w3 (.cells #[.int .u8 4, .int .i64 0, .int .i64 0, .int .i64 12] 27))); have Y3 := Lib.hid ((Y2.out.below q3).below (ba w3 (.cells #[.int .u8 4, .int .i64 0, .int .i64 0, .int .i64 12] 27))); have Z3 := Lib.hid (Four.new w3 ⟨4, 0, 0, 12⟩); clear q3 P3')
  obtain ⟨v3, hv3⟩ : ∃ v, Hid (v = w3.alloc (.cells #[.int .u8 4, .int .i64 0, .int .i64 0, .int .i64 12] 27)) := ⟨_, rfl⟩
  obtain ⟨i3, hi3⟩ : ∃ v, Hid (w3.heap.size = v) := ⟨_, rfl⟩
  rw [← hv3.out] at B3 X3 Y3 Z3 ⊢
  rw [hi3.out] at Z3 ⊢
  have P4' := P4 v3 (HE.out.below B3.out)
  clear hv3 hi3 P4 B2 X2 Y2
  go_upto_region 5 with (go_at_call 9; (with_reducible refine P4'.mono ?_); rintro e4 w4 ⟨rfl, q4⟩; have B4 := Lib.hid (bt B3.out (bt q4 (ba w4 (.cells #[.int .u8 0, .int .i64 0, .int .i64 0, .int .i64 0] 27)))); have X4 := Lib.hid ((X3.out.below q4).below (ba w4 (.cells #[.int .u8 0, .int .i64 0, .int .i64 0, .int .i64 0] 27))); have Y4 := Lib.hid ((Y3.out.below q4).below (ba w4 (.cells #[.int .u8 0, .int .i64 0, .int .i64 0, .int .i64 0] 27))); have Z4 := Lib.hid ((Z3.out.below q4).below (ba w4 (.cells #[.int .u8 0, .int .i64 0, .int .i64 0, .int .i64 0] 27))); clear q4 P4')
  obtain ⟨v4, hv4⟩ : ∃ v, Hid (v = w4.alloc (.cells #[.int .u8 0, .int .i64 0, .int .i64 0, .int .i64 0] 27)) := ⟨_, rfl⟩
  rw [← hv4.out] at B4 X4 Y4 Z4 ⊢
  clear hv4 B3 X3 Y3 Z3
  have dr : Below v4.heap.size v4 v4.drew := ⟨rfl, rfl, rfl, Nat.le_refl _, fun _ _ => rfl⟩
  have mk : ∀ w', Below v4.heap.size v4 w' → w'.cell? ⟨i1, 0, none⟩ = some (.int .u8 2) ∧ w'.cell? ⟨i1, 1, none⟩ = some (.int .i64 0) ∧ w'.cell? ⟨i1, 2, none⟩ = some (.int .i64 0) ∧ w'.cell? ⟨i1, 3, none⟩ = some (.int .i64 0) ∧ w'.cell? ⟨i2, 0, none⟩ = some (.int .u8 1) ∧ w'.cell? ⟨i2, 1, none⟩ = some (.int .i64 (-15)) ∧ w'.cell? ⟨i2, 2, none⟩ = some (.int .i64 1) ∧ w'.cell? ⟨i2, 3, none⟩ = some (.int .i64 0) ∧ w'.cell? ⟨i3, 0, none⟩ = some (.int .u8 4) ∧ w'.cell? ⟨i3, 1, none⟩ = some (.int .i64 0) ∧ w'.cell? ⟨i3, 2, none⟩ = some (.int .i64 0) ∧ w'.cell? ⟨i3, 3, none⟩ = some (.int .i64 12) := fun w' h =>
    ⟨(X4.out.below h).c0, (X4.out.below h).c1, (X4.out.below h).c2, (X4.out.below h).c3, (Y4.out.below h).c0, (Y4.out.below h).c1, (Y4.out.below h).c2, (Y4.out.below h).c3, (Z4.out.below h).c0, (Z4.out.below h).c1, (Z4.out.below h).c2, (Z4.out.below h).c3⟩
  have HS0 := mk v4.drew dr
  go_region_held3 (fun w' : World => w'.cell? ⟨i1, 0, none⟩ = some (.int .u8 2) ∧ w'.cell? ⟨i1, 1, none⟩ = some (.int .i64 0) ∧ w'.cell? ⟨i1, 2, none⟩ = some (.int .i64 0) ∧ w'.cell? ⟨i1, 3, none⟩ = some (.int .i64 0) ∧ w'.cell? ⟨i2, 0, none⟩ = some (.int .u8 1) ∧ w'.cell? ⟨i2, 1, none⟩ = some (.int .i64 (-15)) ∧ w'.cell? ⟨i2, 2, none⟩ = some (.int .i64 1) ∧ w'.cell? ⟨i2, 3, none⟩ = some (.int .i64 0) ∧ w'.cell? ⟨i3, 0, none⟩ = some (.int .u8 4) ∧ w'.cell? ⟨i3, 1, none⟩ = some (.int .i64 0) ∧ w'.cell? ⟨i3, 2, none⟩ = some (.int .i64 0) ∧ w'.cell? ⟨i3, 3, none⟩ = some (.int .i64 12))
    (first | with_reducible exact HS0 | with_reducible assumption)
    (first
      | (go_at_call 17; (with_reducible refine (TR _).mono ?_); rintro e7 w7 ⟨rfl, q7⟩; have HS7 := mk w7 (bt dr q7); have B7 := Lib.hid (bt B4.out (bt dr q7)); clear q7 TR))
  clear HS0 mk dr
  go_wp2_with fail
  go_ret
  exact ⟨rfl, B7.out⟩
end Go.Proofs.YtfonpegkaajnkaaDoor.Va
/-
  ValueParses: walked.
-/
namespace Go.Proofs.YtfonpegkaajnkaaDoor.Va
open Go Go.RowKit Dt Tx
set_option linter.unusedSimpArgs false
set_option linter.unusedVariables false
attribute [local go_sem ↓] Go.wp_at_zero Go.wp_at_succ

theorem six_ok {v : V} {l : List UInt8} (h : (v, l) ∈ six) : v.ok := by
  simp only [six, List.mem_cons, Prod.mk.injEq, List.mem_nil_iff, or_false] at h
  rcases h with ⟨rfl, _⟩ | ⟨rfl, _⟩ | ⟨rfl, _⟩ | ⟨rfl, _⟩ | ⟨rfl, _⟩ | ⟨rfl, _⟩ <;> exact ⟨by decide, by decide, by decide, by decide⟩
theorem parse_cases (l : List UInt8) : (∃ v, parseV l = (v, 0) ∧ mayV v = true ∧ textV v = l ∧ v.ok) ∨ parseV l = (⟨0, 0, 0, 0⟩, 4) := by
  cases hl : lookW l six with
  | some u =>
    have hm := lookW_six hl
    have e := parseV_word hm
    obtain ⟨h1, h2, _⟩ := parse_may e
    exact .inl ⟨u, e, h1, h2, six_ok hm⟩
  | none =>
    by_cases h0 : (dparse l).2 = 0
    · have e : parseV l = (⟨1, (dparse l).1.1, (dparse l).1.2, 0⟩, 0) := by unfold parseV; rw [hl]; simp only [h0, if_true]
      obtain ⟨h1, h2, h3⟩ := parse_may e
      obtain ⟨D, hd, hD, _⟩ := read_text (c := (dparse l).1.1) (d := (dparse l).1.2) (l := l) (by rw [← h0])
      refine .inl ⟨_, e, h1, h2, ⟨by show (0 : Int) ≤ 1; decide, by show (1 : Int) ≤ 255; decide⟩, h3, ?_, by show fits 0; decide⟩
      show fits (dparse l).1.2
      rw [hd]; unfold fits; omega
    · refine .inr ?_
      unfold parseV; rw [hl]; simp only [h0, if_false]
set_option maxRecDepth 100000 in
set_option maxHeartbeats 4000000 in
theorem parses_law {w : World} (s : ByteArray) (he : Env w) : Calls Tryd.prog 3 #[.string s] w fun e w' => e = .returned (.bool true) ∧ Below w.heap.size w w' := by
  obtain ⟨l, rfl⟩ : ∃ l, bs l = s := ⟨_, bs_of s⟩
  have hz : (bs l).size = l.length := bs_size l
  obtain ⟨N, hN⟩ : ∃ N, Hid (l.length = N) := ⟨_, rfl⟩
  rw [hN.out] at hz
  have HE := Lib.hid he
  by_cases h100 : 100 < N
  · have d1 : decide (100 < N) = true := by simpa using h100
    have d2 : decide (100 < (N : Int)) = true := by simp; omega
    have K := knownV_is he
    obtain ⟨S, hS⟩ : ∃ S, Hid (bs l = S) := ⟨_, rfl⟩
    rw [hS.out] at hz ⊢
    clear h100 he hS
    go_enter Tryd.func3, Tryd.ntmps3
    go_wp2_with (go_at_call 8; (with_reducible refine K.mono ?_); rintro e w1 ⟨rfl, b1⟩; have B1 := Lib.hid b1; clear b1)
    go_ret
    exact ⟨rfl, B1.out⟩
  · have d1 : decide (100 < N) = false := by simpa using h100
    have d2 : decide (100 < (N : Int)) = false := by simp; omega
    have hlen : l.length ≤ 1000 := by rw [hN.out]; omega
    have P := parse_is l hlen he
    have Q := fun w => rparse_is (w := w) l hlen
    unfold VPost at P Q
    rcases parse_cases l with ⟨v, hv, hm, ht, hok⟩ | hv
    · rw [hv] at P Q
      have M := fun w => may_is (w := w) v hok
      have T := fun w h => text_is (w := w) v hok h
      rw [hm] at M
      rw [ht] at T
      obtain ⟨S, hS⟩ : ∃ S, Hid (bs l = S) := ⟨_, rfl⟩
      rw [hS.out] at hz P Q T ⊢
      have es := self_toList S
      obtain ⟨k, c, s, e⟩ := v
      simp only at P Q M T
      clear hv hm ht hok hlen h100 he hS
      go_enter Tryd.func3, Tryd.ntmps3
      go_upto_region 4 with (go_at_call 9; (with_reducible refine P.mono ?_); rintro e1 w1 ⟨rfl, q1⟩; have B1 := Lib.hid (bt q1 (ba w1 (.cells #[.int .u8 k, .int .i64 c, .int .i64 s, .int .i64 e] 27))); have X1 := Lib.hid (Four.new w1 ⟨k, c, s, e⟩); clear q1 P)
      obtain ⟨v1, hv1⟩ : ∃ v, Hid (v = w1.alloc (.cells #[.int .u8 k, .int .i64 c, .int .i64 s, .int .i64 e] 27)) := ⟨_, rfl⟩
      obtain ⟨i1, hi1⟩ : ∃ v, Hid (w1.heap.size = v) := ⟨_, rfl⟩
      rw [← hv1.out] at B1 X1 ⊢
      rw [hi1.out] at X1 ⊢
      clear hv1 hi1
      go_upto_region 5 with (go_at_call 10; (with_reducible refine (Q _).mono ?_); rintro e2 w2 ⟨rfl, q2⟩; have B2 := Lib.hid (bt B1.out (bt q2 (ba w2 (.cells #[.int .u8 k, .int .i64 c, .int .i64 s, .int .i64 e] 27)))); have X2 := Lib.hid ((X1.out.below q2).below (ba w2 (.cells #[.int .u8 k, .int .i64 c, .int .i64 s, .int .i64 e] 27))); have Y2 := Lib.hid (Four.new w2 ⟨k, c, s, e⟩); clear q2 Q)
      obtain ⟨v2, hv2⟩ : ∃ v, Hid (v = w2.alloc (.cells #[.int .u8 k, .int .i64 c, .int .i64 s, .int .i64 e] 27)) := ⟨_, rfl⟩
      obtain ⟨i2, hi2⟩ : ∃ v, Hid (w2.heap.size = v) := ⟨_, rfl⟩
      rw [← hv2.out] at B2 X2 Y2 ⊢
      rw [hi2.out] at Y2 ⊢
      have T' := T v2 (HE.out.below B2.out)
      have KN := fun w' (b : Below v2.heap.size v2 w') => knownV_is ((HE.out.below B2.out).below b)
      clear hv2 hi2 T B1 X1
      have c0 := X2.out.c0; have c1 := X2.out.c1; have c2 := X2.out.c2; have c3 := X2.out.c3
      have d0 := Y2.out.c0; have d1' := Y2.out.c1; have d2' := Y2.out.c2; have d3 := Y2.out.c3
      simp only at c0 c1 c2 c3 d0 d1' d2' d3
      go_wp2_with (first | (go_at_call 11; (with_reducible refine T'.mono ?_); rintro e3 w3 ⟨rfl, q3⟩; have B3 := Lib.hid q3; have X3 := Lib.hid (X2.out.below q3); have g0 := X3.out.c0; have g1 := X3.out.c1; have g2 := X3.out.c2; have g3 := X3.out.c3; simp only at g0 g1 g2 g3; clear q3 T') | (go_at_call 12; (with_reducible refine (M _).mono ?_); rintro e4 w4 ⟨rfl, q4⟩; have B4 := Lib.hid (bt B3.out q4); have KN' := KN w4 B4.out; clear q4 M KN) | (go_at_call 8; (with_reducible refine KN'.mono ?_); rintro e9 w9 ⟨rfl, b9⟩; have B9 := Lib.hid (bt B2.out (bt B4.out b9)); clear b9 KN'))
      go_ret
      exact ⟨rfl, B9.out⟩
    · rw [hv] at P Q
      obtain ⟨S, hS⟩ : ∃ S, Hid (bs l = S) := ⟨_, rfl⟩
      rw [hS.out] at hz P Q ⊢
      simp only at P Q
      clear hv hlen h100 he hS
      go_enter Tryd.func3, Tryd.ntmps3
      go_upto_region 4 with (go_at_call 9; (with_reducible refine P.mono ?_); rintro e1 w1 ⟨rfl, q1⟩; have B1 := Lib.hid (bt q1 (ba w1 (.cells #[.int .u8 0, .int .i64 0, .int .i64 0, .int .i64 0] 27))); have X1 := Lib.hid (Four.new w1 ⟨0, 0, 0, 0⟩); clear q1 P)
      obtain ⟨v1, hv1⟩ : ∃ v, Hid (v = w1.alloc (.cells #[.int .u8 0, .int .i64 0, .int .i64 0, .int .i64 0] 27)) := ⟨_, rfl⟩
      obtain ⟨i1, hi1⟩ : ∃ v, Hid (w1.heap.size = v) := ⟨_, rfl⟩
      rw [← hv1.out] at B1 X1 ⊢
      rw [hi1.out] at X1 ⊢
      clear hv1 hi1
      go_upto_region 5 with (go_at_call 10; (with_reducible refine (Q _).mono ?_); rintro e2 w2 ⟨rfl, q2⟩; have B2 := Lib.hid (bt B1.out (bt q2 (ba w2 (.cells #[.int .u8 0, .int .i64 0, .int .i64 0, .int .i64 0] 27)))); have X2 := Lib.hid ((X1.out.below q2).below (ba w2 (.cells #[.int .u8 0, .int .i64 0, .int .i64 0, .int .i64 0] 27))); have Y2 := Lib.hid (Four.new w2 ⟨0, 0, 0, 0⟩); clear q2 Q)
      obtain ⟨v2, hv2⟩ : ∃ v, Hid (v = w2.alloc (.cells #[.int .u8 0, .int .i64 0, .int .i64 0, .int .i64 0] 27)) := ⟨_, rfl⟩
      obtain ⟨i2, hi2⟩ : ∃ v, Hid (w2.heap.size = v) := ⟨_, rfl⟩
      rw [← hv2.out] at B2 X2 Y2 ⊢
      rw [hi2.out] at Y2 ⊢
      have K := knownV_is (HE.out.below B2.out)
      clear hv2 hi2 B1 X1
      have c0 := X2.out.c0; have c1 := X2.out.c1; have c2 := X2.out.c2; have c3 := X2.out.c3
      have d0 := Y2.out.c0; have d1' := Y2.out.c1; have d2' := Y2.out.c2; have d3 := Y2.out.c3
      simp only at c0 c1 c2 c3 d0 d1' d2' d3
      go_wp2_with (go_at_call 8; (with_reducible refine K.mono ?_); rintro e9 w9 ⟨rfl, b9⟩; have B9 := Lib.hid (bt B2.out b9); clear b9 K)
      go_ret
      exact ⟨rfl, B9.out⟩
end Go.Proofs.YtfonpegkaajnkaaDoor.Va
/-
  A laid sentinel's cell.
-/
namespace Go.Proofs.YtfonpegkaajnkaaDoor.Tx
open Go Go.RowKit
theorem iface_of_trod {H : Type} {enc : TypeId × Value → H} {P : Program} {w : World} {base : Nat} {sp : Nat → Bool} {held : Bool} {fuel : Nat} {t : TypeId} {cs : List Value} {x} {n : String} {d : DataW H} {p : List MemPlace}
    (ht : P.underlying t = some (.interface x)) (h : DataW.trod enc P w base sp held fuel t cs = some (.iface n d, p)) : ∃ u v, cs = [.iface u v] := by
  cases fuel with
  | zero => simp [DataW.trod] at h
  | succ fuel =>
    match cs, h with
    | [], h => simp [DataW.trod, ht] at h
    | [v], h => cases v <;> simp [DataW.trod, ht] at h ⊢
    | a :: b :: r, h => simp [DataW.trod, ht] at h
theorem iface_of_head {P : Program} {W : World} {name : String} {n : String} {d : DataW Unit} {rest : List (String × DataW Unit)} {g : Nat} {t : TypeId} {x}
    (hg : P.globalNamed name = some g) (hty : (P.globals[g]?).map (·.type) = some t) (ht : P.underlying t = some (.interface x))
    (h : laidMet P ((name, .iface n d) :: rest) W) : ∃ u v, W.cell? ⟨g, 0, none⟩ = some (.iface u v) := by
  obtain ⟨ps, ⟨g', t', cs, fuel, p, q, hg', ht', hvar, hd, _, _⟩, _⟩ := h
  obtain rfl := Option.some.inj (hg.symm.trans hg')
  obtain rfl := Option.some.inj (hty.symm.trans ht')
  obtain ⟨u, v, hcs⟩ := iface_of_trod ht hd
  refine ⟨u, v, ?_⟩
  have e : cs = #[.iface u v] := Array.ext' hcs
  rw [e] at hvar
  exact World.var?_cell hg hvar 0
end Go.Proofs.YtfonpegkaajnkaaDoor.Tx
/-
  What the rows' condition gives: the library's table, its number, its error.
-/
namespace Go.Proofs.YtfonpegkaajnkaaDoor.Va
open Go Go.RowKit Tx
theorem env_of {W : World} (hL : laidMetH Tryd.prog Rows.valueParsesRow.laid W) (hS : W.ShapedOpen Tryd.prog) : Env W := by
  refine ⟨?_, ?_, ?_⟩
  · have h1 : laidMetH Tryd.prog [("internal/strconv.uint64pow10", Rows.laid_internal_strconv_uint64pow10)] W := laidMetH.filter (fun x => x.1 == "internal/strconv.uint64pow10") hL
    exact Lib.tabIs_of_head (rest := []) gTab (by kernel_rfl) Tryd.underlying181 Tryd.underlying89 (by kernel_rfl) (by kernel_rfl) h1
  · exact cell_of_shapedOpen_int (zero := #[.int .i64 0]) (t := 3) hS (of_decide_eq_true (by kernel_rfl)) (by kernel_rfl) (by kernel_rfl) (by kernel_rfl) (by kernel_rfl) Tryd.underlying3
  · have h1 : laidMetH Tryd.prog [("strconv.ErrRange", Rows.laid_strconv_ErrRange)] W := laidMetH.filter (fun x => x.1 == "strconv.ErrRange") hL
    exact iface_of_head (rest := []) (show Tryd.prog.globalNamed "strconv.ErrRange" = some 6 by kernel_rfl) (by kernel_rfl) Tryd.underlying77 h1
end Go.Proofs.YtfonpegkaajnkaaDoor.Va
