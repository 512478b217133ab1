/-
  Rows of whole numbers.
-/
import Derived.Test.YthbgkokepnifdaaDoorElem
namespace Go.Proofs.YthbgkokepnifdaaDoor
open Go Go.RowKit
def intE : Elem Tryd.prog Int where
  sl := 51
  e := 3
  sz := 1
  bytes := 8
  z := .int .i64 0
  enc := fun x => [.int .i64 x]
  und := Tryd.underlying51
  info := by kernel_rfl
  zs := rfl
  pos := by decide
  len := fun _ => rfl
  one := fun x u hu => by simp only [List.mem_cons, List.not_mem_nil, or_false] at hu; rcases hu with rfl; rfl
end Go.Proofs.YthbgkokepnifdaaDoor
