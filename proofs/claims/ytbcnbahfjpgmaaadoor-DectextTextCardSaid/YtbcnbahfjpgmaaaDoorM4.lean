/-
  SMALL LEMMAS that the walks of this seat share; Decimals' texts: strings as rows of bytes; the library's functions as they are asked here.
-/
import Derived.Test.YtbcnbahfjpgmaaaDoorRows
import Derived.WalkKit
import Derived.WalkSpells
import Derived.WalkLawsBesides
import Derived.Lib.Hide
import Derived.OpenShut
import Derived.Test.YtbcnbahfjpgmaaaDoorM2
import Derived.Test.YtbcnbahfjpgmaaaDoorM3
import Derived.Lib.SmallJoins
import Derived.Lib.OthersKept
import Derived.BigQuiet
import Derived.Deep.DeepCutAuto
import Derived.Deep.RegionHeld3
import Derived.Deep.RegionLaw
import Derived.WalkMore
import Derived.Deep.DrawnRows
import Derived.Laws.ResultCell
import Derived.Laws.Rows
/-
  SMALL LEMMAS that the walks of this seat share.
-/
namespace Go.Proofs.YtbcnbahfjpgmaaaDoor
open Go.RowKit

theorem ret2 {k1 k2 : IntKind} {a b c d : Int} (h : a = b) (h' : c = d) : Ending.returned (.tuple #[.int k1 a, .int k2 c]) = .returned (.tuple #[.int k1 b, .int k2 d]) := by rw [h, h']
theorem ret1 {k : IntKind} {a b : Int} (h : a = b) : Ending.returned (.int k a) = .returned (.int k b) := by rw [h]
/-- two steps, each of which leaves all that was there ahead of it -/
theorem bt {a b c : World} (h : Below a.heap.size a b) (k : Below b.heap.size b c) : Below a.heap.size a c := h.trans (k.mono h.size)
theorem bcell {W w1 : World} (hb : Below W.heap.size W w1) : (∀ b o, b < W.heap.size → w1.cell? ⟨b, o, none⟩ = W.cell? ⟨b, o, none⟩) ∧ (∀ b o, b < W.heap.size → w1.frozen? ⟨b, o, none⟩ = W.frozen? ⟨b, o, none⟩) :=
  ⟨fun b o h => hb.cell (p := ⟨b, o, none⟩) h, fun b o h => hb.frozen (p := ⟨b, o, none⟩) h⟩
/-- a new block leaves all that was there -/
theorem ba (w : World) (o : Obj) : Below w.heap.size w (w.alloc o) := (Below.refl _ _).alloc (Nat.le_refl _) _
end Go.Proofs.YtbcnbahfjpgmaaaDoor
/-
  Decimals' texts: strings as rows of bytes; the library's functions as they are asked here.
-/
namespace Go.Proofs.YtbcnbahfjpgmaaaDoor.Tx
open Go Go.RowKit Dt

def bs (l : List UInt8) : ByteArray := ⟨l.toArray⟩
theorem bs_size (l : List UInt8) : (bs l).size = l.length := by unfold bs; rfl
theorem bs_cat (l k : List UInt8) : bs l ++ bs k = bs (l ++ k) := by
  unfold bs
  apply ByteArray.ext
  rw [ByteArray.data_append]
  simp
theorem bs_of (s : ByteArray) : bs s.data.toList = s := by unfold bs; simp
theorem bs_list (l : List UInt8) : (bs l).data.toList = l := by unfold bs; simp
theorem bs_toList (l : List UInt8) : (bs l).toList = l := by unfold bs; simp
theorem self_toList (S : ByteArray) : (S.toList == S.toList) = true := by simp
theorem slice_lo (l : List UInt8) (i j : Nat) : (bs l).extract i j = bs ((l.drop i).take (j - i)) := by
  unfold bs
  apply ByteArray.ext
  rw [ByteArray.data_extract]
  simp [List.extract_eq_take_drop]
theorem at_byte (l : List UInt8) (k : Nat) (c : UInt8) (h : l[k]? = some c) (w : World) : (Instr.index 9 (.string (bs l)) (.int .i64 (k : Int))).run Tryd.prog w = .ok (.int .u8 (c.toNat : Int)) w := by
  rw [run_index_string w 9 (bs l) .i64 (k : Int) Tryd.underlying9]
  obtain ⟨hk, he⟩ := List.getElem?_eq_some_iff.1 h
  rw [dif_pos ⟨by omega, by rw [bs_size]; omega⟩]
  have : (bs l)[((k : Int)).toNat]'(by rw [bs_size]; simpa using hk) = c := by
    show l.toArray[((k : Int)).toNat]'_ = c
    simp only [Int.toNat_natCast, List.getElem_toArray]
    exact he
  rw [this]
theorem take_snoc {l : List UInt8} {k : Nat} {c : UInt8} (h : l[k]? = some c) : l.take (k + 1) = l.take k ++ [c] := by rw [List.take_add_one, h]; rfl
theorem grow_below (w : World) (n : Nat) (os : Array Obj) : Below w.heap.size w (Sort.grow (w.drewN n) os) :=
  ⟨rfl, rfl, rfl, by show w.heap.size ≤ (w.heap ++ os).size; simp, fun k hk => by show (w.heap ++ os)[k]? = _; rw [Array.getElem?_append_left hk]⟩
theorem drewN_below (w : World) (n : Nat) : Below w.heap.size w (w.drewN n) := ⟨rfl, rfl, rfl, Nat.le_refl _, fun _ _ => rfl⟩
/-- what the library reads: a table, a number, an error -/
structure Env (w : World) : Prop where
  tab : Lib.TabIs Tryd.prog w "internal/strconv.uint64pow10" .u64 Lib.pow10Tab
  mx : ∃ m : Int, w.cell? ⟨1, 0, none⟩ = some (.int .i64 m)
  er : ∃ te pe, w.cell? ⟨3, 0, none⟩ = some (.iface te pe)
theorem gTab : Tryd.prog.globalNamed "internal/strconv.uint64pow10" = some 0 := by kernel_rfl
theorem Env.below {w w' : World} (h : Env w) (k : Below w.heap.size w w') : Env w' := by
  have l1 : 1 < w.heap.size := by obtain ⟨m, hm⟩ := h.mx; exact World.block_lt_of_cell? w _ hm
  have l2 : 3 < w.heap.size := by obtain ⟨m, p, hm⟩ := h.er; exact World.block_lt_of_cell? w _ hm
  refine ⟨?_, ?_, ?_⟩
  · have := h.tab
    unfold Lib.TabIs World.var? at this ⊢
    rw [gTab] at this ⊢
    simp only [Option.bind_some] at this ⊢
    cases e : w.heap[0]? with
    | none => rw [e] at this; cases this
    | some o => rw [k.block _ (Array.getElem?_eq_some_iff.1 e).1, e]; rw [e] at this; exact this
  · obtain ⟨m, hm⟩ := h.mx
    exact ⟨m, (k.cell (p := ⟨_, 0, none⟩) l1).trans hm⟩
  · obtain ⟨m, p, hm⟩ := h.er
    exact ⟨m, p, (k.cell (p := ⟨_, 0, none⟩) l2).trans hm⟩
theorem fmt_is {w : World} (n : Int) (h : Fit n) (he : Env w) : Calls Tryd.prog 14 #[.int .i64 n, .int .i64 10] w fun e w' => e = .returned (.string (bs (Lib.itoa n))) ∧ Below w.heap.size w w' := by
  refine (Tryd.strconv_FormatInt_10 n h.1 h.2 w he.tab).mono ?_
  rintro e w' ⟨rfl, k, os, rfl⟩
  exact ⟨rfl, grow_below _ _ _⟩
/-- without its sign -/
def body (l : List UInt8) : List UInt8 := if l.head? = some 45 then l.drop 1 else l
def cutP (l : List UInt8) : List UInt8 × List UInt8 × Bool := Lib.cut l [46]
theorem trim_is {w : World} (l : List UInt8) : Calls Tryd.prog 19 #[.string (bs l), .string ⟨#[45]⟩] w fun e w' => e = .returned (.string (bs (body l))) ∧ w' = w := by
  refine (Tryd.strings_TrimPrefix (bs l) ⟨#[45]⟩ w).mono ?_
  rintro e w' ⟨rfl, rfl⟩
  refine ⟨?_, rfl⟩
  rw [bs_list]
  have : Lib.trimPrefix l [45] = body l := by
    unfold Lib.trimPrefix body Lib.hasPrefix
    cases l with
    | nil => rfl
    | cons c r =>
      by_cases h : c = 45
      · subst h; rfl
      · have : ¬ (45 : UInt8) = c := fun k => h k.symm
        simp [h, this, List.isPrefixOf]
  show Ending.returned (.string ⟨(Lib.trimPrefix l [45]).toArray⟩) = _
  rw [this]; rfl
theorem cut_is {w : World} (l : List UInt8) (hl : l.length < 4294967281) (he : Env w) : Calls Tryd.prog 18 #[.string (bs l), .string ⟨#[46]⟩] w fun e w' => e = .returned (.tuple #[.string (bs (cutP l).1), .string (bs (cutP l).2.1), .bool (cutP l).2.2]) ∧ Below w.heap.size w w' := by
  obtain ⟨m, hm⟩ := he.mx
  refine (Tryd.strings_Cut (bs l) ⟨#[46]⟩ m w (by rw [bs_size]; exact hl) hm).mono ?_
  rintro e w' ⟨rfl, n, rfl⟩
  refine ⟨?_, drewN_below _ _⟩
  rw [bs_list]
  rfl
/-- what ParseInt tells of a sign and digits -/
def IntPost (z : Int) (w : World) (e : Ending) (w' : World) : Prop := ((Fit z ∧ e = .returned (.tuple #[.int .i64 z, .nilIface])) ∨ (¬ Fit z ∧ ∃ (v : Int) (t : TypeId) (p : Value), e = .returned (.tuple #[.int .i64 v, .iface t p]))) ∧ Below w.heap.size w w'
theorem pint_is {w : World} (neg : Bool) (D : List UInt8) (hD : digs D = true) (hl : D.length < 1000) (he : Env w) : Calls Tryd.prog 21 #[.string (bs (sgn neg ++ D)), .int .i64 10, .int .i64 64] w (IntPost (sg neg (val D)) w) := by
  have hs : (bs (sgn neg ++ D)).size ≤ 1001 := by rw [bs_size, List.length_append]; have : (sgn neg).length ≤ 1 := by cases neg <;> decide
                                                  omega
  have hi := int_of neg D hD
  by_cases h : Fit (sg neg (val D))
  · rw [if_pos h] at hi
    refine (Tryd.strconv_ParseInt_10_at64_ok (bs (sgn neg ++ D)) (by omega) _ (by rw [bs_list]; exact hi) w).mono ?_
    rintro e w' ⟨rfl, hw⟩
    refine ⟨.inl ⟨h, rfl⟩, ?_⟩
    rcases hw with rfl | ⟨t, rfl⟩
    · exact Below.refl _ _
    · exact Lib.bytesWorld_below _ _ _
  · rw [if_neg h] at hi
    obtain ⟨te, pe, hv⟩ := he.er
    refine (Tryd.strconv_ParseInt_10_at64_range (bs (sgn neg ++ D)) (by omega) (by rw [bs_list]; exact hi) _ w hv (.inr ⟨te, pe, rfl⟩)).mono ?_
    rintro e w' ⟨N, rfl, _, _, hb⟩
    exact ⟨.inr ⟨h, _, _, _, rfl⟩, hb⟩
end Go.Proofs.YtbcnbahfjpgmaaaDoor.Tx
