/-
  ValueTells: plain.
-/
import Derived.Test.YtfonpegkaajnkaaDoorM45
/-
  ValueTells: plain.
-/
namespace Go.Proofs.YtfonpegkaajnkaaDoor.Va
open Go Go.RowKit Dt Tx
set_option linter.unusedSimpArgs false
set_option linter.unusedVariables false
attribute [local go_sem ↓] Go.wp_at_zero Go.wp_at_succ

theorem textS_len (c s : Int) (hc : Fit c) : (textS c s).length ≤ 1000 := by
  unfold textS
  split
  · rename_i hb
    unfold dtxt
    have h1 := refT_len (canC c s).natAbs (canS c s)
    have h2 := lenT_le (a := (canC c s).natAbs) (D := canS c s) (by have := trim_fit c s.toNat hc; unfold canC; unfold Fit at this; omega) (canS_le hb)
    have h3 : (sgn (decide (canC c s < 0))).length ≤ 1 := by unfold sgn; split <;> simp
    rw [List.length_append]; omega
  · simp
theorem textV_len (v : V) (hc : fits v.c) : (textV v).length ≤ 1000 := by
  unfold textV
  split
  · split
    · exact textS_len _ _ hc
    · simp
  · cases hl : lookV v six with
    | none => simp
    | some l =>
      have hm := lookV_six hl
      simp only [six, List.mem_cons, Prod.mk.injEq, List.mem_nil_iff, or_false] at hm
      rcases hm with ⟨_, rfl⟩ | ⟨_, rfl⟩ | ⟨_, rfl⟩ | ⟨_, rfl⟩ | ⟨_, rfl⟩ | ⟨_, rfl⟩ <;> simp [wAbsent, wTrue, wFalse, wOver, wDiv, wMissing]
theorem parse_any {w : World} (L : List UInt8) (S : ByteArray) (hS : bs L = S) (hl : L.length ≤ 1000) (he : Env w) {v : V} {f : Int} (h : parseV L = (v, f)) :
    Calls Tryd.prog 9 #[.string S] w fun e' w' => e' = .returned (.tuple #[.agg #[.int .u8 v.k, .int .i64 v.c, .int .i64 v.s, .int .i64 v.e], .int .i64 f]) ∧ Below w.heap.size w w' := by
  have := parse_is L hl he
  unfold VPost at this
  rw [h, hS] at this
  exact this
end Go.Proofs.YtfonpegkaajnkaaDoor.Va
