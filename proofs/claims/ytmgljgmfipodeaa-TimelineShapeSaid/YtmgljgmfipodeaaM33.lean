/-
  Rows of whole numbers.
-/
import Derived.Test.YtmgljgmfipodeaaM32
/-
  Rows of whole numbers.
-/
namespace Go.Proofs.Ytmgljgmfipodeaa
open Go Go.RowKit
def intE : Elem Try.prog Int where
  sl := 36
  e := 3
  sz := 1
  bytes := 8
  z := .int .i64 0
  enc := fun x => [.int .i64 x]
  und := Try.underlying36
  info := by kernel_rfl
  zs := rfl
  pos := by decide
  len := fun _ => rfl
  one := fun x u hu => by simp only [List.mem_cons, List.not_mem_nil, or_false] at hu; rcases hu with rfl; rfl
end Go.Proofs.Ytmgljgmfipodeaa
