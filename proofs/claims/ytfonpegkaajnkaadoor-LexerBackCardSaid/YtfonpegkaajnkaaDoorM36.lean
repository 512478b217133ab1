/-
  Decimals' texts: the known texts, walked.
-/
import Derived.Test.YtfonpegkaajnkaaDoorM35
import Derived.Test.YtfonpegkaajnkaaDoorM6
/-
  Decimals' texts: the known texts, walked.
-/
namespace Go.Proofs.YtfonpegkaajnkaaDoor.Tx
open Go Go.RowKit Dt
set_option linter.unusedSimpArgs false
set_option linter.unusedVariables false
attribute [local go_sem ↓] Go.wp_at_zero Go.wp_at_succ

def word5 : Nat → List UInt8
  | 0 => [49, 46, 53, 48]
  | 1 => [46, 53]
  | 2 => [48, 49]
  | 3 => [45, 48]
  | _ => [49, 46]
theorem word5_bad (k : Nat) (h : k < 5) : dparse (word5 k) = ((0, 0), 4) ∧ (word5 k).length ≤ 4 := by
  match k, h with
  | 0, _ => exact ⟨by decide +kernel, by decide⟩
  | 1, _ => exact ⟨by decide +kernel, by decide⟩
  | 2, _ => exact ⟨by decide +kernel, by decide⟩
  | 3, _ => exact ⟨by decide +kernel, by decide⟩
  | 4, _ => exact ⟨by decide +kernel, by decide⟩
theorem dparse_at {l : List UInt8} {a b e : Int} (h : dparse l = ((a, b), e)) (hl : l.length ≤ 1000) (w : World) (he : Env w) : Calls Tryd.prog 29 #[.string (bs l)] w fun e' w' => e' = .returned (.tuple #[.agg #[.int .i64 a, .int .i64 b], .int .i64 e]) ∧ Below w.heap.size w w' := by
  have := dparse_is (w := w) l hl he
  unfold DpPost at this
  rw [h] at this
  exact this
theorem text_any {w : World} (c s : Int) (hc : Fit c) (he : Env w) : Calls Tryd.prog 31 #[.agg #[.int .i64 c, .int .i64 s]] w (TextPost c s w) := by
  cases h : isB s
  · exact text_no c s hc he h
  · exact text_yes c s hc he h
end Go.Proofs.YtfonpegkaajnkaaDoor.Tx
