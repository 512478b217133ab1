/-
  THE WALK of the reference's Wide.
-/
import Derived.Test.YtlbmmnjecemkeaaNumEven
namespace Go.Proofs.Ytlbmmnjecemkeaa
open Go.RowKit
attribute [local go_sem ↓] Go.wp_at_zero Go.wp_at_succ

def wz (n : Bool) (hi lo : Int) : Int := if n = true then -(hi * 18446744073709551616 + lo) else hi * 18446744073709551616 + lo
theorem cell_keep {w w' : World} {b o : Nat} {v : Value} (h : Below w.heap.size w w') (d : w.cell? ⟨b, o, none⟩ = some v) (hb : b < w.heap.size) : w'.cell? ⟨b, o, none⟩ = some v := (h.cell (p := ⟨b, o, none⟩) hb).trans d
/-- a variable of type api.Wide in block b -/
def WAt (w : World) (b : Nat) (n : Bool) (hi lo : Int) : Prop := w.heap[b]? = some (.cells #[.bool n, .int .u64 hi, .int .u64 lo] 24 (0, 0))
theorem wAt_new (w : World) (n : Bool) (hi lo : Int) : WAt (w.alloc (.cells #[.bool n, .int .u64 hi, .int .u64 lo] 24)) w.heap.size n hi lo := heap_alloc_new w _
section
variable {w : World} {b : Nat} {n : Bool} {hi lo : Int}
theorem WAt.lt (h : WAt w b n hi lo) : b < w.heap.size := (Array.getElem?_eq_some_iff.1 h).1
theorem WAt.below {w' : World} (h : WAt w b n hi lo) (hb : Below w.heap.size w w') : WAt w' b n hi lo := by
  unfold WAt; rw [hb.block b h.lt]; exact h
theorem WAt.belowB {w' : World} {B : Nat} (h : WAt w b n hi lo) (hb : Below B w w') (hB : b < B) : WAt w' b n hi lo := by
  unfold WAt; rw [hb.block b hB]; exact h
theorem WAt.c0 (h : WAt w b n hi lo) : w.cell? ⟨b, 0, none⟩ = some (.bool n) := by rw [cell_of_row w _ _ _ _ (0, 0) h]; rfl
theorem WAt.c1 (h : WAt w b n hi lo) : w.cell? ⟨b, 1, none⟩ = some (.int .u64 hi) := by rw [cell_of_row w _ _ _ _ (0, 0) h]; rfl
theorem WAt.c2 (h : WAt w b n hi lo) : w.cell? ⟨b, 2, none⟩ = some (.int .u64 lo) := by rw [cell_of_row w _ _ _ _ (0, 0) h]; rfl
theorem WAt.f0 (h : WAt w b n hi lo) : w.frozen? ⟨b, 0, none⟩ = false := frozen_of_row w _ _ _ _ h
theorem WAt.f1 (h : WAt w b n hi lo) : w.frozen? ⟨b, 1, none⟩ = false := frozen_of_row w _ _ _ _ h
theorem WAt.f2 (h : WAt w b n hi lo) : w.frozen? ⟨b, 2, none⟩ = false := frozen_of_row w _ _ _ _ h
theorem wAt_set3 (m : Bool) (x y : Int) (h : WAt w b n hi lo) : WAt (((w.setCell ⟨b, 0, none⟩ (.bool m)).setCell ⟨b, 1, none⟩ (.int .u64 x)).setCell ⟨b, 2, none⟩ (.int .u64 y)) b m x y := heap_set (.int .u64 y) (heap_set (.int .u64 x) (heap_set (.bool m) h))
end
/-- behind 'n := Add(..)' -/
def WideMid (w4 : World) (z : Int) (s4 : Value) (wx : World) : Prop :=
  ∃ (b4 : Nat) (bo : Bool) (ao : Option Addr) (no co : Nat), s4 = .pointer (some ⟨b4, 0, none⟩) ∧ wx.cell? ⟨b4, 1, none⟩ = some (.slice ao no co) ∧ Num 22 wx (.agg #[.bool bo, .slice ao no co]) z ∧ Below w4.heap.size w4 wx

set_option maxRecDepth 100000 in
set_option maxHeartbeats 4000000 in
theorem wide_any (n : Bool) (hi lo : Int) (w : World) (h1 : 0 ≤ hi ∧ hi < 18446744073709551616) (h2 : 0 ≤ lo ∧ lo < 18446744073709551616) :
    Calls Try.prog 16 #[.agg #[.bool n, .int .u64 hi, .int .u64 lo]] w (NumPost 22 (wz n hi lo) w) := by
  have H1 := Lib.hid h1; have H2 := Lib.hid h2
  clear h1 h2
  go_enter Try.func16, Try.ntmps16
  go_wp2_with fail
  refine (word_any 4294967296 _ (by omega) (by omega)).mono ?_
  rintro e w1 ⟨v1, hv1, rfl, b1⟩
  have V1 := Lib.hid hv1
  have X1 := Lib.hid (WAt.below (WAt.below (wAt_new w n hi lo) (ba _ (.cells #[.bool false, .slice none 0 0] 34))) b1)
  have Y1 : Hid (BoxAt w1 (w.heap.size + 1) (.bool false) (.slice none 0 0)) := by
    have := boxAt_below (boxAt_new (w.alloc (.cells #[.bool n, .int .u64 hi, .int .u64 lo] 24)) (.bool false) (.slice none 0 0)) b1
    rw [World.size_alloc] at this; exact this
  have B1 := Lib.hid (bt (ba _ _) (bt (ba _ _) b1))
  clear hv1 b1
  go_wp2_with fail
  refine (word_any 4294967296 _ (by omega) (by omega)).mono ?_
  rintro e w2 ⟨v2, hv2, rfl, b2⟩
  have V2 := Lib.hid hv2
  have B2 := Lib.hid b2
  clear hv2 b2
  go_wp2_with fail
  refine (mul_any 7 7 v1 v2 4294967296 4294967296 _ (num_below V1.out B2.out) V2.out (by omega) (by omega)).mono ?_
  rintro e w3 ⟨v3, hv3, rfl, b3⟩
  obtain ⟨q3, a3, n3, c3, rfl⟩ := num_agg hv3
  have V3 : Hid (Num 14 w3 (.agg #[.bool q3, .slice a3 n3 c3]) 18446744073709551616) := hv3
  have B3 := Lib.hid (bt B2.out b3)
  clear hv3 b3
  go_upto_region 2 with fail
  generalize hW : World.alloc w3 _ = W4
  have T3 : Hid (BoxAt W4 w3.heap.size (.bool q3) (.slice a3 n3 c3)) := by rw [← hW]; exact boxAt_new w3 _ _
  have B4 : Hid (Below w1.heap.size w1 W4) := by rw [← hW]; exact bt B3.out (ba _ _)
  have V4 : Hid (Num 14 W4 (.agg #[.bool q3, .slice a3 n3 c3]) 18446744073709551616) := by rw [← hW]; exact num_below V3.out (ba _ _)
  have X4 := Lib.hid (WAt.below X1.out B4.out)
  have Y4 := Lib.hid (boxAt_below Y1.out B4.out)
  have BW := Lib.hid (bt B1.out B4.out)
  clear hW
  have l1 := X4.out.lt; have l2 := T3.out.lt
  have d1 := X4.out.c1; have d2 := X4.out.c2; have d3 := T3.out.c0; have d4 := T3.out.c1
  go_cut [4] (fun s4 wx => WideMid W4 (hi * 18446744073709551616 + lo) s4 wx)
  case first =>
    have mkS : ∀ w', Below W4.heap.size W4 w' → (Below W4.heap.size W4 w' ∧ w'.cell? ⟨w.heap.size, 1, none⟩ = some (.int .u64 hi) ∧ w'.cell? ⟨w.heap.size, 2, none⟩ = some (.int .u64 lo) ∧ w'.cell? ⟨w3.heap.size, 0, none⟩ = some (.bool q3) ∧ w'.cell? ⟨w3.heap.size, 1, none⟩ = some (.slice a3 n3 c3)) :=
      fun w' h => ⟨h, cell_keep h d1 l1, cell_keep h d2 l1, cell_keep h d3 l2, cell_keep h d4 l2⟩
    have HS0 := mkS _ ((Below.refl _ _).drew)
    have mkA := fun w' o (h : Below W4.heap.size W4 w' ∧ w'.cell? ⟨w.heap.size, 1, none⟩ = some (.int .u64 hi) ∧ w'.cell? ⟨w.heap.size, 2, none⟩ = some (.int .u64 lo) ∧ w'.cell? ⟨w3.heap.size, 0, none⟩ = some (.bool q3) ∧ w'.cell? ⟨w3.heap.size, 1, none⟩ = some (.slice a3 n3 c3)) => mkS (w'.alloc o) (h.1.alloc h.1.size o)
    have mkT := fun w' b u0 u1 (hb : W4.heap.size ≤ b) (h : Below W4.heap.size W4 w' ∧ w'.cell? ⟨w.heap.size, 1, none⟩ = some (.int .u64 hi) ∧ w'.cell? ⟨w.heap.size, 2, none⟩ = some (.int .u64 lo) ∧ w'.cell? ⟨w3.heap.size, 0, none⟩ = some (.bool q3) ∧ w'.cell? ⟨w3.heap.size, 1, none⟩ = some (.slice a3 n3 c3)) => mkS ((w'.setCell ⟨b, 0, none⟩ u0).setCell ⟨b, 1, none⟩ u1) ((h.1.setCell hb _).setCell hb _)
    go_region_held3 (fun w' => Below W4.heap.size W4 w' ∧ w'.cell? ⟨w.heap.size, 1, none⟩ = some (.int .u64 hi) ∧ w'.cell? ⟨w.heap.size, 2, none⟩ = some (.int .u64 lo) ∧ w'.cell? ⟨w3.heap.size, 0, none⟩ = some (.bool q3) ∧ w'.cell? ⟨w3.heap.size, 1, none⟩ = some (.slice a3 n3 c3))
      (first | exact HS0 | assumption | exact mkA _ _ (by assumption) | exact mkT _ _ _ _ (by first | omega | (simp only [World.size_alloc, hdrew]; omega) | (simp; omega)) (by assumption))
      (first
        | (go_at_call 17; refine (word_any _ _ (by first | exact H1.out.1 | exact H2.out.1) (by first | exact H1.out.2 | exact H2.out.2)).mono ?_; rintro e w5 ⟨v5, hz, rfl, b5⟩; have HS5 := mkS _ (bt (And.left (by assumption)) b5); have z5 := HS5.1.size; (first | (have N5 : Hid (Num 7 w5 v5 hi) := hz; have B5 := Lib.hid b5; (first | (have QA := Lib.hid (boxAt_below QA.out b5); (have QA0 := BoxAt.c0 (Hid.out QA); have QA1 := BoxAt.c1 (Hid.out QA); have QA2 := BoxAt.f0 (Hid.out QA); have QA3 := BoxAt.f1 (Hid.out QA); have QAl := BoxAt.lt (Hid.out QA))) | (have QA := boxAt_below (boxAt_new _ _ _) (undrew b5); (try simp only [hdrew] at QA); have QA := Lib.hid QA; (have QA0 := BoxAt.c0 (Hid.out QA); have QA1 := BoxAt.c1 (Hid.out QA); have QA2 := BoxAt.f0 (Hid.out QA); have QA3 := BoxAt.f1 (Hid.out QA); have QAl := BoxAt.lt (Hid.out QA))) | (have QA := boxAt_below (boxAt_new _ _ _) b5; (try simp only [hdrew] at QA); have QA := Lib.hid QA; (have QA0 := BoxAt.c0 (Hid.out QA); have QA1 := BoxAt.c1 (Hid.out QA); have QA2 := BoxAt.f0 (Hid.out QA); have QA3 := BoxAt.f1 (Hid.out QA); have QAl := BoxAt.lt (Hid.out QA))) | skip)) | (have N7 : Hid (Num 7 w5 v5 lo) := hz; have B7 := Lib.hid b5; (first | (have QA := Lib.hid (boxAt_below QA.out b5); (have QA0 := BoxAt.c0 (Hid.out QA); have QA1 := BoxAt.c1 (Hid.out QA); have QA2 := BoxAt.f0 (Hid.out QA); have QA3 := BoxAt.f1 (Hid.out QA); have QAl := BoxAt.lt (Hid.out QA))) | (have QA := boxAt_below (boxAt_new _ _ _) (undrew b5); (try simp only [hdrew] at QA); have QA := Lib.hid QA; (have QA0 := BoxAt.c0 (Hid.out QA); have QA1 := BoxAt.c1 (Hid.out QA); have QA2 := BoxAt.f0 (Hid.out QA); have QA3 := BoxAt.f1 (Hid.out QA); have QAl := BoxAt.lt (Hid.out QA))) | (have QA := boxAt_below (boxAt_new _ _ _) b5; (try simp only [hdrew] at QA); have QA := Lib.hid QA; (have QA0 := BoxAt.c0 (Hid.out QA); have QA1 := BoxAt.c1 (Hid.out QA); have QA2 := BoxAt.f0 (Hid.out QA); have QA3 := BoxAt.f1 (Hid.out QA); have QAl := BoxAt.lt (Hid.out QA))) | skip))); clear hz b5)
        | (go_at_call 25; refine (mul_any 7 14 _ _ hi 18446744073709551616 _ (by first | exact N5.out | exact num_below N5.out (ba _ _)) (num_below V4.out (And.left (by assumption))) (by omega) (by omega)).mono ?_; rintro e w6 ⟨v6, hz, rfl, b6⟩; have N6 := Lib.hid hz; have B6 := Lib.hid b6; have HS6 := mkS _ (bt (And.left (by assumption)) b6); have z6 := HS6.1.size; (first | (have QA := Lib.hid (boxAt_below QA.out b6); (have QA0 := BoxAt.c0 (Hid.out QA); have QA1 := BoxAt.c1 (Hid.out QA); have QA2 := BoxAt.f0 (Hid.out QA); have QA3 := BoxAt.f1 (Hid.out QA); have QAl := BoxAt.lt (Hid.out QA))) | (have QA := boxAt_below (boxAt_new _ _ _) (undrew b6); (try simp only [hdrew] at QA); have QA := Lib.hid QA; (have QA0 := BoxAt.c0 (Hid.out QA); have QA1 := BoxAt.c1 (Hid.out QA); have QA2 := BoxAt.f0 (Hid.out QA); have QA3 := BoxAt.f1 (Hid.out QA); have QAl := BoxAt.lt (Hid.out QA))) | (have QA := boxAt_below (boxAt_new _ _ _) b6; (try simp only [hdrew] at QA); have QA := Lib.hid QA; (have QA0 := BoxAt.c0 (Hid.out QA); have QA1 := BoxAt.c1 (Hid.out QA); have QA2 := BoxAt.f0 (Hid.out QA); have QA3 := BoxAt.f1 (Hid.out QA); have QAl := BoxAt.lt (Hid.out QA))) | skip); clear hz b6)
        | (go_at_call 27; refine (add_any (7 + 14) 7 _ _ (hi * 18446744073709551616) lo _ (by first | exact num_below N6.out B7.out | exact num_below N6.out (bt (ba _ _) B7.out) | exact num_below N6.out (bt B7.out (ba _ _))) (by first | exact N7.out | exact num_below N7.out (ba _ _)) (by omega) (by omega)).mono ?_; rintro e w8 ⟨v8, hz, rfl, b8⟩; obtain ⟨q8, a8, n8, c8, rfl⟩ := num_agg hz; have N8 := Lib.hid (num_mono hz (show _ ≤ 22 by omega)); have HS8 := mkS _ (bt (And.left (by assumption)) b8); have z8 := HS8.1.size; (first | (have QA := Lib.hid (boxAt_below QA.out b8); (have QA0 := BoxAt.c0 (Hid.out QA); have QA1 := BoxAt.c1 (Hid.out QA); have QA2 := BoxAt.f0 (Hid.out QA); have QA3 := BoxAt.f1 (Hid.out QA); have QAl := BoxAt.lt (Hid.out QA))) | (have QA := boxAt_below (boxAt_new _ _ _) (undrew b8); (try simp only [hdrew] at QA); have QA := Lib.hid QA; (have QA0 := BoxAt.c0 (Hid.out QA); have QA1 := BoxAt.c1 (Hid.out QA); have QA2 := BoxAt.f0 (Hid.out QA); have QA3 := BoxAt.f1 (Hid.out QA); have QAl := BoxAt.lt (Hid.out QA))) | (have QA := boxAt_below (boxAt_new _ _ _) b8; (try simp only [hdrew] at QA); have QA := Lib.hid QA; (have QA0 := BoxAt.c0 (Hid.out QA); have QA1 := BoxAt.c1 (Hid.out QA); have QA2 := BoxAt.f0 (Hid.out QA); have QA3 := BoxAt.f1 (Hid.out QA); have QAl := BoxAt.lt (Hid.out QA))) | skip); clear hz b8))
    all_goals
      dsimp only [Exit.then]
      refine ‹∀ (a' : Act) (w' : World), Met _ a' w' → _› _ _ ?_
      go_meet
      case rel =>
        refine ⟨_, q8, a8, n8, c8, rfl, ?_, ?_, ?_⟩
        · go_simp
        · first | exact num_set2 _ _ N8.out QA.out | exact num_set2 _ _ (num_below N8.out (ba _ _)) (boxAt_new _ _ _) | exact num_below N8.out (ba _ _)
        · (repeat (first | exact HS8.1 | refine Below.setCell ?_ (by first | omega | (simp only [World.size_alloc, hdrew]; omega) | (simp; omega)) _ | refine Below.alloc ?_ (by first | omega | (simp only [World.size_alloc, hdrew]; omega) | (simp; omega)) _ | refine Below.drew ?_))
  case rest =>
    obtain ⟨b4, bo, ao, no, co, rfl, hc1, hnum, hbl⟩ := hcut
    have N9 := Lib.hid hnum
    have X9 := Lib.hid (WAt.below X4.out hbl)
    have Y9 := Lib.hid (boxAt_below Y4.out hbl)
    have BX := Lib.hid (bt BW.out hbl)
    obtain ⟨ds, hr, hc, hv, hl, hm, hsg⟩ := num_row hnum
    have HD : Hid (RowW wc (.slice ao no co) ds ∧ Nm.Canon ds ∧ Nm.val ds = (hi * 18446744073709551616 + lo).natAbs ∧ ds.length ≤ 22) := ⟨hr, hc, hv, hl⟩
    clear d1 d2 d3 d4 l1 l2 hnum hbl hr hc hv hl hm hsg
    have d0 := X9.out.c0
    go_wp2_with fail
    refine (short_any n _ ds _ HD.out.1 HD.out.2.1.1).mono ?_
    rintro e w9 ⟨v9, hv9, rfl, b9⟩
    obtain ⟨q9, a9, n9, c9, rfl⟩ := num_agg hv9
    have N10 : Hid (Num 22 w9 (.agg #[.bool q9, .slice a9 n9 c9]) (wz n hi lo)) := by
      have := num_mono hv9 HD.out.2.2.2
      have e : sg n (Nm.val ds) = wz n hi lo := by
        rw [HD.out.2.2.1]; have := H1.out; have := H2.out; unfold sg wz; cases n <;> simp <;> omega
      rw [e] at this; exact this
    have Y10 := Lib.hid (boxAt_below Y9.out b9)
    have BY := Lib.hid (bt BX.out b9)
    have r0 := Y10.out.c0; have r1 := Y10.out.c1; have r2 := Y10.out.f0; have r3 := Y10.out.f1
    clear hv9 b9
    go_wp2_with fail
    refine bodyPost_ret (v := .agg #[.bool q9, .slice a9 n9 c9]) (by simp [results, Try.results16, go_sem, r0, r1]) rfl ⟨_, num_set2 _ _ N10.out Y10.out, rfl, (BY.out.setCell (by simp) _).setCell (by simp) _⟩
end Go.Proofs.Ytlbmmnjecemkeaa
