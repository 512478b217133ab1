/-
  The law ProrateSums, whatever comes.
-/
import Derived.Test.YtngelemjpgglpaaM42
/-
  The law ProrateSums, whatever comes.
-/
namespace Go.Proofs.Ytngelemjpgglpaa.Pro
open Go Go.RowKit
set_option linter.unusedSimpArgs false
set_option linter.unusedVariables false
attribute [local go_sem ↓] Go.wp_at_zero Go.wp_at_succ

set_option maxRecDepth 100000 in
set_option maxHeartbeats 2000000 in
theorem sumsLaw_big (c n s : Int) (v : Value) (ws : List Int) (w : World) (ha : ArgI w v ws) (hl : 60 < ws.length) :
    Calls Try.prog 4 #[.agg #[.int .i64 c, .int .i64 n], .int .i64 s, v] w fun e w' => e = .returned (.bool true) ∧ Below w.heap.size w w' := by
  obtain ⟨ao, cap, rfl, hcap, hcell⟩ := id ha
  have KN := known_is (w.alloc (.cells #[.int .i64 c, .int .i64 n] 23))
  have d1 : decide (60 < (ws.length : Int)) = true := by simp; omega
  have e1 : decide (60 < ws.length) = true := by simp; omega
  clear hcell ha hl
  go_enter Try.func4, Try.ntmps4
  go_wp2_with (go_at_call 6; (with_reducible refine KN.mono ?_); rintro e w2 ⟨rfl, b2⟩; have B2 := Lib.hid (bt (ba w _) b2); clear b2 KN)
  go_ret
  exact ⟨rfl, B2.out⟩
set_option maxRecDepth 100000 in
set_option maxHeartbeats 2000000 in
theorem sumsLaw_err (c n s er : Int) (v : Value) (ws : List Int) (w : World) (hc : fits c) (ha : ArgI w v ws) (hl : ws.length ≤ 60) (he : er ≠ 0) (hsa : sharesA c n s ws = ([], er)) :
    Calls Try.prog 4 #[.agg #[.int .i64 c, .int .i64 n], .int .i64 s, v] w fun e w' => e = .returned (.bool true) ∧ Below w.heap.size w w' := by
  obtain ⟨ao, cap, rfl, hcap, hcell⟩ := id ha
  have B0 := Lib.hid (ba w (.cells #[.int .i64 c, .int .i64 n] 23))
  have SH := shares_any (w := w.alloc (.cells #[.int .i64 c, .int .i64 n] 23)) c n s hc (ArgI.below ha B0.out) (by omega)
  unfold SharesPost at SH
  rw [hsa] at SH
  have HSH := Lib.hid SH
  have d1 : decide (60 < (ws.length : Int)) = false := by simp; omega
  have e1 : decide (60 < ws.length) = false := by simp; omega
  have e2 : (er != 0) = true := by simpa using he
  clear hcell ha hl he hsa SH hc
  go_enter Try.func4, Try.ntmps4
  go_upto_region 4 with (go_at_call 7; (with_reducible refine HSH.out.mono ?_); rintro e w1 ⟨v1, rfl, r1, b1⟩; have R1 := Lib.hid r1; have B1 := Lib.hid (bt B0.out b1); clear r1 b1 HSH)
  obtain ⟨xa, xcap, rfl, _, _⟩ := R1.out.form
  have KN := known_is w1
  go_wp2_with (go_at_call 6; (with_reducible refine KN.mono ?_); rintro e w2 ⟨rfl, b2⟩; have B2 := Lib.hid (bt B1.out b2); clear b2 KN)
  go_ret
  exact ⟨rfl, B2.out⟩
/-- THE LAW -/
theorem prorateSums_law (c n s : Int) (v : Value) (ws : List Int) (w : World) (hc : fits c) (ha : intE.Arg w v ws) :
    Calls Try.prog 4 #[.agg #[.int .i64 c, .int .i64 n], .int .i64 s, v] w fun e w' => e = .returned (.bool true) ∧ Below w.heap.size w w' := by
  by_cases hl : 60 < ws.length
  · exact sumsLaw_big c n s v ws w (argI_of ha) hl
  · obtain ⟨row, er, h⟩ : ∃ (row : List (Int × Nat)) (er : Int), sharesA c n s ws = (row, er) := ⟨_, _, rfl⟩
    by_cases he : er = 0
    · subst he
      obtain ⟨m, S, al, rfl, rfl, hm, hS, ho, hal, h0, hb, hr, hfit⟩ := sharesA_ok h
      rw [hr] at h
      exact sumsLaw_ok c m S al v ws w _ hc (argI_of ha) (by omega) hm hS ho hal h0 hb rfl hfit h
    · have hr := sharesA_err h he
      subst hr
      exact sumsLaw_err c n s er v ws w hc (argI_of ha) (by omega) he h
end Go.Proofs.Ytngelemjpgglpaa.Pro
