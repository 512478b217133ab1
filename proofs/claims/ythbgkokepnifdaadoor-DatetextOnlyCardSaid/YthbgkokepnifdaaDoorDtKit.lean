/-
  Datetext: rows of strings; what of the world the library reads.
-/
import Derived.Test.YthbgkokepnifdaaDoorDtPlain
import Derived.Test.YthbgkokepnifdaaDoorDtShelf
import Derived.Test.YthbgkokepnifdaaDoorElem
import Derived.Test.YthbgkokepnifdaaDoorIntE
import Derived.Lib.OthersKept
import Derived.Lib.SmallJoins
import Derived.BigQuiet
import Derived.Deep.DeepCutAuto
import Derived.Deep.RegionHeld3
import Derived.Deep.RegionLaw
import Derived.WalkMore
import Derived.Deep.DrawnRows
namespace Go.Proofs.YthbgkokepnifdaaDoor.Dt
open Go Go.RowKit
def strE : Elem Tryd.prog ByteArray where
  sl := 52
  e := 9
  sz := 1
  bytes := 16
  z := .string ByteArray.empty
  enc := fun x => [.string x]
  und := Tryd.underlying52
  info := by kernel_rfl
  zs := rfl
  pos := by decide
  len := fun _ => rfl
  one := fun x u hu => by simp only [List.mem_cons, List.not_mem_nil, or_false] at hu; rcases hu with rfl; rfl
/-- what the library reads: a table, a number -/
structure Env (w : World) : Prop where
  tab : Lib.TabIs Tryd.prog w "internal/strconv.uint64pow10" .u64 Lib.pow10Tab
  mx : ∃ m : Int, w.cell? ⟨0, 0, none⟩ = some (.int .i64 m)
theorem gTab : Tryd.prog.globalNamed "internal/strconv.uint64pow10" = some 1 := by kernel_rfl
theorem Env.lt {w : World} (h : Env w) : 0 < w.heap.size := by
  obtain ⟨m, hm⟩ := h.mx
  exact World.block_lt_of_cell? w _ hm
theorem Env.below {w w' : World} (h : Env w) (k : Below w.heap.size w w') : Env w' := by
  refine ⟨?_, ?_⟩
  · have := h.tab
    unfold Lib.TabIs World.var? at this ⊢
    rw [gTab] at this ⊢
    simp only [Option.bind_some] at this ⊢
    cases e : w.heap[1]? with
    | none => rw [e] at this; cases this
    | some o => rw [k.block 1 (Array.getElem?_eq_some_iff.1 e).1, e]; rw [e] at this; exact this
  · obtain ⟨m, hm⟩ := h.mx
    exact ⟨m, (k.cell (p := ⟨0, 0, none⟩) h.lt).trans hm⟩
theorem grow_below (w : World) (n : Nat) (os : Array Obj) : Below w.heap.size w (Sort.grow (w.drewN n) os) :=
  ⟨rfl, rfl, rfl, by show w.heap.size ≤ (w.heap ++ os).size; simp, fun k hk => by show (w.heap ++ os)[k]? = _; rw [Array.getElem?_append_left hk]⟩
theorem drewN_below (w : World) (n : Nat) : Below w.heap.size w (w.drewN n) := ⟨rfl, rfl, rfl, Nat.le_refl _, fun _ _ => rfl⟩
/-- a number's numeral -/
theorem itoa_any {w : World} (n : Nat) (hn : n < 10000) (h : Env w) : Calls Tryd.prog 28 #[.int .i64 (n : Int)] w fun e w' => e = .returned (.string ⟨(Lib.decDigits n).toArray⟩) ∧ Below w.heap.size w w' := by
  refine (Tryd.strconv_Itoa (n : Int) (by omega) (by omega) w h.tab).mono ?_
  rintro e w' ⟨rfl, k, os, rfl⟩
  refine ⟨?_, grow_below _ _ _⟩
  unfold Lib.itoa
  rw [if_neg (by omega), Int.toNat_natCast]
end Go.Proofs.YthbgkokepnifdaaDoor.Dt
