/-
  datetext: Parse, walked.
-/
import Derived.Test.YthbgkokepnifdaaDoorDtRParse
import Derived.Laws.RangeAny
namespace Go.Proofs.YthbgkokepnifdaaDoor.Dt
open Go Go.RowKit
set_option linter.unusedSimpArgs false
set_option linter.unusedVariables false
attribute [local go_sem ↓] Go.wp_at_zero Go.wp_at_succ

def part (k : Nat) : Nat := if k ≤ 4 then 0 else if k ≤ 7 then 1 else 2
/-- the text so far is of the form; its numbers so far -/
structure SoFar (l : List UInt8) (k : Nat) (y m d : Int) (p : Nat) : Prop where
  ns : nums (l.take k) = (y, m, d, p)
  at_ : p = part k
  ok : ∀ j c, j < k → l[j]? = some c → okAt j c = true
  y : 0 ≤ y ∧ y < 10 ^ k
  m : 0 ≤ m ∧ m < 10 ^ k
  d : 0 ≤ d ∧ d < 10 ^ k
theorem SoFar.none (l : List UInt8) : SoFar l 0 0 0 0 0 := ⟨rfl, rfl, fun j c h => absurd h (Nat.not_lt_zero _), by decide, by decide, by decide⟩
theorem pow_up {x : Int} {k : Nat} (h : 0 ≤ x ∧ x < 10 ^ k) : 0 ≤ x ∧ x < 10 ^ (k + 1) := by rw [Int.pow_succ]; omega
theorem pow_dig {x v : Int} {k : Nat} (h : 0 ≤ x ∧ x < 10 ^ k) (h1 : 0 ≤ v) (h2 : v < 10) : 0 ≤ x * 10 + v ∧ x * 10 + v < 10 ^ (k + 1) := by rw [Int.pow_succ]; omega
theorem SoFar.oks {l : List UInt8} {k p : Nat} {y m d : Int} (h : SoFar l k y m d p) {c : UInt8} (hc : l[k]? = some c) (o : okAt k c = true) : ∀ j c, j < k + 1 → l[j]? = some c → okAt j c = true := fun j c' hj hc' => by
  by_cases e : j = k
  · subst e; rw [hc] at hc'; cases hc'; exact o
  · exact h.ok j c' (by omega) hc'
theorem SoFar.dash {l : List UInt8} {k p : Nat} {y m d : Int} (h : SoFar l k y m d p) (hc : l[k]? = some 45) (o : okAt k 45 = true) (h47 : k = 4 ∨ k = 7) : SoFar l (k + 1) y m d (p + 1) := by
  refine ⟨?_, ?_, h.oks hc o, pow_up h.y, pow_up h.m, pow_up h.d⟩
  · rw [take_snoc hc, nums_snoc, h.ns]; rfl
  · rw [h.at_]; unfold part; rcases h47 with rfl | rfl <;> rfl
theorem part_dig {k : Nat} (h : ¬ (k = 4 ∨ k = 7)) : part (k + 1) = part k := by
  unfold part
  by_cases h1 : k ≤ 4
  · rw [if_pos h1, if_pos (by omega)]
  · rw [if_neg h1, if_neg (show ¬ k + 1 ≤ 4 by omega)]
    by_cases h2 : k ≤ 7
    · rw [if_pos h2, if_pos (by omega)]
    · rw [if_neg h2, if_neg (show ¬ k + 1 ≤ 7 by omega)]
theorem SoFar.dig {l : List UInt8} {k p : Nat} {y m d : Int} (h : SoFar l k y m d p) {c : UInt8} (hc : l[k]? = some c) (o : okAt k c = true) (h47 : ¬ (k = 4 ∨ k = 7)) :
    (p = 0 → SoFar l (k + 1) (y * 10 + dv c) m d 0) ∧ (p = 1 → SoFar l (k + 1) y (m * 10 + dv c) d 1) ∧ (p = 2 → SoFar l (k + 1) y m (d * 10 + dv c) 2) := by
  have hd : isDg c = true := by unfold okAt at o; rw [if_neg h47] at o; exact o
  have n45 := dg_ne hd
  have v1 : (0 : Int) ≤ (dv c : Int) := by omega
  have v2 : (dv c : Int) < 10 := by have := dv_lt hd; omega
  have st : nums (l.take (k + 1)) = stepN (y, m, d, p) c := by rw [take_snoc hc, nums_snoc, h.ns]
  refine ⟨fun e => ?_, fun e => ?_, fun e => ?_⟩
  · subst e
    exact ⟨by rw [st]; unfold stepN; rw [if_neg n45], by rw [part_dig h47]; exact h.at_, h.oks hc o, pow_dig h.y v1 v2, pow_up h.m, pow_up h.d⟩
  · subst e
    exact ⟨by rw [st]; unfold stepN; rw [if_neg n45], by rw [part_dig h47]; exact h.at_, h.oks hc o, pow_up h.y, pow_dig h.m v1 v2, pow_up h.d⟩
  · subst e
    exact ⟨by rw [st]; unfold stepN; rw [if_neg n45], by rw [part_dig h47]; exact h.at_, h.oks hc o, pow_up h.y, pow_up h.m, pow_dig h.d v1 v2⟩
theorem SoFar.end_ {l : List UInt8} {p : Nat} {y m d : Int} (h : SoFar l 10 y m d p) (hl : l.length = 10) :
    (Cal.Valid y m d → parseS l = (Cal.dayN y m d, 0)) ∧ (¬ (1 ≤ d ∧ d ≤ Cal.len y m) → parseS l = (0, 15)) ∧ ((1 ≤ d ∧ d ≤ Cal.len y m) → Cal.Valid y m d) := by
  have hf : formB l = true := by
    unfold formB
    simp only [Bool.and_eq_true, decide_eq_true_eq, List.all_eq_true, List.mem_range]
    refine ⟨hl, fun j hj => h.ok j _ hj ?_⟩
    rw [List.getD_eq_getElem?_getD, List.getElem?_eq_getElem (by omega)]; rfl
  have n := h.ns
  rw [List.take_of_length_le (by omega)] at n
  refine ⟨fun v => ?_, fun v => ?_, fun v => Cal.valid_of _ _ _ v.1 v.2⟩
  · unfold parseS validB
    rw [if_pos hf, n]
    obtain ⟨_, _, _, _, v5, v6⟩ := v
    exact if_pos (by simpa using ⟨v5, v6⟩)
  · unfold parseS validB
    rw [if_pos hf, n]
    exact if_neg (by simpa using v)
/-- the three numbers in memory -/
def Tri (w : World) (b : Nat) (y m d : Int) : Prop := w.heap[b]? = some (.cells #[.int .i64 y, .int .i64 m, .int .i64 d] 35 (0, 0))
section
variable {w : World} {b : Nat} {y m d : Int}
theorem Tri.lt (h : Tri w b y m d) : b < w.heap.size := (Array.getElem?_eq_some_iff.1 h).1
theorem Tri.c0 (h : Tri w b y m d) : w.cell? ⟨b, 0, none⟩ = some (.int .i64 y) := by rw [cell_of_row w _ _ _ _ (0, 0) h]; rfl
theorem Tri.c1 (h : Tri w b y m d) : w.cell? ⟨b, 1, none⟩ = some (.int .i64 m) := by rw [cell_of_row w _ _ _ _ (0, 0) h]; rfl
theorem Tri.c2 (h : Tri w b y m d) : w.cell? ⟨b, 2, none⟩ = some (.int .i64 d) := by rw [cell_of_row w _ _ _ _ (0, 0) h]; rfl
theorem Tri.f (h : Tri w b y m d) (i : Nat) : w.frozen? ⟨b, i, none⟩ = false := frozen_of_row w _ _ _ _ h
theorem Tri.s0 (h : Tri w b y m d) (x : Int) : Tri (w.setCell ⟨b, 0, none⟩ (.int .i64 x)) b x m d := by show _ = _; rw [heap_setCell_same w b 0 _ _ _ h]; rfl
theorem Tri.s1 (h : Tri w b y m d) (x : Int) : Tri (w.setCell ⟨b, 1, none⟩ (.int .i64 x)) b y x d := by show _ = _; rw [heap_setCell_same w b 1 _ _ _ h]; rfl
theorem Tri.s2 (h : Tri w b y m d) (x : Int) : Tri (w.setCell ⟨b, 2, none⟩ (.int .i64 x)) b y m x := by show _ = _; rw [heap_setCell_same w b 2 _ _ _ h]; rfl
theorem Tri.it (h : Tri w b y m d) {k : Nat} (hk : b ≠ k) (s : ByteArray) (pos : Nat) : Tri (w.iterAt k s pos) b y m d := by show _ = _; rw [Lib.iterAt_other _ _ _ _ _ hk]; exact h
end
/-- a place's byte, its rune -/
theorem rune_at {l : List UInt8} {k : Nat} {c : UInt8} (hc : l[k]? = some c) : k < (bs l).size ∧ (c.toNat < 128 → Utf8.decode (bs l) k = (c.toNat, 1)) ∧ (128 ≤ c.toNat → 128 ≤ (Utf8.decode (bs l) k).1) := by
  obtain ⟨hk, he⟩ := List.getElem?_eq_some_iff.1 hc
  have hs : k < (bs l).size := by rw [bs_size]; exact hk
  have e : (bs l)[k]'hs = c := he
  refine ⟨hs, fun h => ?_, fun h => ?_⟩
  · rw [decode_ascii (bs l) k hs (by rw [e]; exact h), e]
  · exact (decode_high (bs l) k hs (by rw [e]; exact h)).1
/-- the form's byte -/
theorem form_at (k : Nat) (hk : k < 10) (w : World) : (Instr.index 9 (.string ⟨#[48, 48, 48, 48, 45, 48, 48, 45, 48, 48]⟩) (.int .i64 (k : Int))).run Tryd.prog w = .ok (.int .u8 (if k = 4 ∨ k = 7 then 45 else 48)) w := by
  have h := fun c => at_byte [48, 48, 48, 48, 45, 48, 48, 45, 48, 48] k c
  match k, hk with
  | 0, _ => exact h 48 rfl w
  | 1, _ => exact h 48 rfl w
  | 2, _ => exact h 48 rfl w
  | 3, _ => exact h 48 rfl w
  | 4, _ => exact h 45 rfl w
  | 5, _ => exact h 48 rfl w
  | 6, _ => exact h 48 rfl w
  | 7, _ => exact h 45 rfl w
  | 8, _ => exact h 48 rfl w
  | 9, _ => exact h 48 rfl w
end Go.Proofs.YthbgkokepnifdaaDoor.Dt
