/-
  datetext: what a text's span is; plain.
-/
import Derived.Test.YthbgkokepnifdaaDoorDtParseW
import Derived.Lib.IndexMore
namespace Go.Proofs.YthbgkokepnifdaaDoor.Dt
open Go

/-- two ends' readings: a span's -/
def spanRes (ok : Bool) (x y : Int × Int) : (Int × Int) × Int := if ok = false ∨ x.2 = 4 ∨ y.2 = 4 then ((0, 0), 4) else if x.2 ≠ 0 ∨ y.2 ≠ 0 ∨ y.1 < x.1 then ((0, 0), 15) else ((x.1, y.1 + 1), 0)
def cut2 (l : List UInt8) : List UInt8 × List UInt8 × Bool := Lib.cut l [46, 46]
def parseSp (l : List UInt8) : (Int × Int) × Int := spanRes (cut2 l).2.2 (parseS (cut2 l).1) (parseS (cut2 l).2.1)
def refSp (l : List UInt8) : (Int × Int) × Int := if l.length = 22 ∧ (l.drop 10).take 2 = [46, 46] then spanRes true (parseS (l.take 10)) (parseS (l.drop 12)) else ((0, 0), 4)
theorem spanRes_no (x y : Int × Int) : spanRes false x y = ((0, 0), 4) := by unfold spanRes; rw [if_pos (.inl rfl)]
theorem spanRes_x {x : Int × Int} (h : x.2 = 4) (ok : Bool) (y : Int × Int) : spanRes ok x y = ((0, 0), 4) := by unfold spanRes; rw [if_pos (.inr (.inl h))]
theorem spanRes_y {y : Int × Int} (h : y.2 = 4) (ok : Bool) (x : Int × Int) : spanRes ok x y = ((0, 0), 4) := by unfold spanRes; rw [if_pos (.inr (.inr h))]
theorem cut2_cases (l : List UInt8) : cut2 l = (l, [], false) ∨ ∃ i : Nat, cut2 l = (l.take i, l.drop (i + 2), true) ∧ i + 2 ≤ l.length ∧ (l.drop i).take 2 = [46, 46] ∧ ∀ j, j < i → (l.drop j).take 2 ≠ [46, 46] := by
  unfold cut2 Lib.cut
  rcases Lib.index_spec l [46, 46] with ⟨h, _⟩ | ⟨i, h, hi, ho, hn⟩
  · rw [h]; exact .inl rfl
  · rw [h]
    have room : i + 2 ≤ l.length := by
      rcases Lib.occAt_room ho with k | k
      · exact k
      · cases k
    refine .inr ⟨i, by rw [if_pos (by omega), Int.toNat_natCast]; rfl, room, ?_, fun j hj => ?_⟩
    · have e := Lib.occAt_iff_take l [46, 46] i room
      rw [ho] at e
      simpa using e.symm
    · have e := Lib.occAt_iff_take l [46, 46] j (by show j + 2 ≤ _; omega)
      rw [hn j hj] at e
      have e2 := e.symm
      rw [beq_eq_false_iff_ne] at e2
      exact e2
theorem dot_bad {l : List UInt8} {j : Nat} (h : l[j]? = some 46) (hj : j < 10) : parseS l = (0, 4) := parse_at hj h (by unfold okAt; split <;> rfl)
theorem take2_first {l : List UInt8} {i : Nat} (h : (l.drop i).take 2 = [46, 46]) : l[i]? = some 46 := by
  have := congrArg (fun x => x[0]?) h
  simpa [List.getElem?_take, List.getElem?_drop] using this
theorem ref_same (l : List UInt8) : refSp l = parseSp l := by
  unfold refSp parseSp
  rcases cut2_cases l with e | ⟨i, e, hi, ho, hn⟩
  · rw [e, spanRes_no]
    split
    · rename_i c
      have ix := Lib.index_spec l [46, 46]
      unfold cut2 Lib.cut at e
      split at e
      · simp at e
      · rename_i c2
        rcases ix with ⟨_, h⟩ | ⟨i, h, _⟩
        · have := h 10 (by omega)
          rw [Lib.occAt_iff_take l [46, 46] 10 (by show 12 ≤ _; omega)] at this
          rw [show ([46, 46] : List UInt8).length = 2 from rfl, c.2] at this
          simp at this
        · omega
    · rfl
  · rw [e]
    dsimp only
    have fst := take2_first ho
    by_cases c : l.length = 22 ∧ (l.drop 10).take 2 = [46, 46]
    · rw [if_pos c]
      by_cases hi10 : i = 10
      · subst hi10; rfl
      · have lt : i < 10 := by
          rcases Nat.lt_or_ge i 10 with h | h
          · exact h
          · exact absurd c.2 (hn 10 (by omega))
        have p1 : parseS (l.take i) = (0, 4) := parse_len (by rw [List.length_take]; omega)
        have p2 : parseS (l.take 10) = (0, 4) := dot_bad (j := i) (by rw [List.getElem?_take, if_pos lt]; exact fst) lt
        rw [p1, p2, spanRes_x rfl, spanRes_x rfl]
    · rw [if_neg c]
      by_cases h1 : i = 10
      · subst h1
        have : l.length ≠ 22 := fun h => c ⟨h, ho⟩
        rw [spanRes_y (by rw [parse_len (by rw [List.length_drop]; omega)])]
      · rw [spanRes_x (by rw [parse_len (by rw [List.length_take]; omega)])]
end Go.Proofs.YthbgkokepnifdaaDoor.Dt
