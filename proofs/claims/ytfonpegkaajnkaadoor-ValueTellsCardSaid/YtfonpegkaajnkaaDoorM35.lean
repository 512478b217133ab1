/-
  Values: which may be, their texts, what a text is read as; plain; Values as keys of a map.
-/
import Derived.Test.YtfonpegkaajnkaaDoorM32
import Derived.Test.YtfonpegkaajnkaaDoorM34
import Derived.Test.YtfonpegkaajnkaaDoorM1
import Derived.DeepKeys4
/-
  Values: which may be, their texts, what a text is read as; plain.
-/
namespace Go.Proofs.YtfonpegkaajnkaaDoor.Va
open Go Dt Tx

def wAbsent : List UInt8 := [97, 98, 115, 101, 110, 116]
def wTrue : List UInt8 := [116, 114, 117, 101]
def wFalse : List UInt8 := [102, 97, 108, 115, 101]
def wOver : List UInt8 := [111, 118, 101, 114]
def wDiv : List UInt8 := [100, 105, 118]
def wMissing : List UInt8 := [109, 105, 115, 115, 105, 110, 103]
/-- a value: kind, number's two, error -/
structure V where
  k : Int
  c : Int
  s : Int
  e : Int
deriving DecidableEq
def V.ok (v : V) : Prop := (0 ≤ v.k ∧ v.k ≤ 255) ∧ fits v.c ∧ fits v.s ∧ fits v.e
def six : List (V × List UInt8) := [(⟨0, 0, 0, 0⟩, wAbsent), (⟨2, 0, 0, 0⟩, wTrue), (⟨3, 0, 0, 0⟩, wFalse), (⟨4, 0, 0, 11⟩, wOver), (⟨4, 0, 0, 12⟩, wDiv), (⟨4, 0, 0, 13⟩, wMissing)]
def lookV (v : V) : List (V × List UInt8) → Option (List UInt8)
  | [] => none
  | x :: r => if v = x.1 then some x.2 else lookV v r
def lookW (l : List UInt8) : List (V × List UInt8) → Option V
  | [] => none
  | x :: r => if l = x.2 then some x.1 else lookW l r
def isNum (v : V) : Bool := decide (v.k = 1 ∧ v.e = 0)
def mayV (v : V) : Bool := if isNum v = true then mayB v.c v.s else (lookV v six).isSome
def textV (v : V) : List UInt8 := if isNum v = true then (if mayB v.c v.s = true then textS v.c v.s else []) else (lookV v six).getD []
def parseV (l : List UInt8) : V × Int :=
  match lookW l six with
  | some v => (v, 0)
  | none => if (dparse l).2 = 0 then (⟨1, (dparse l).1.1, (dparse l).1.2, 0⟩, 0) else (⟨0, 0, 0, 0⟩, 4)

theorem lookV_six {v : V} {l : List UInt8} (h : lookV v six = some l) : (v, l) ∈ six := by
  simp only [six, lookV] at h
  simp only [six]
  repeat' (split at h)
  all_goals first
    | (rename_i e; cases h; subst e; simp)
    | cases h
theorem lookW_six {v : V} {l : List UInt8} (h : lookW l six = some v) : (v, l) ∈ six := by
  simp only [six, lookW] at h
  simp only [six]
  repeat' (split at h)
  all_goals first
    | (rename_i e; cases h; subst e; simp)
    | cases h
theorem six_look {v : V} {l : List UInt8} (h : (v, l) ∈ six) : lookV v six = some l ∧ lookW l six = some v ∧ isNum v = false ∧ l ≠ [] := by
  simp only [six, List.mem_cons, Prod.mk.injEq, List.mem_nil_iff, or_false] at h
  rcases h with ⟨rfl, rfl⟩ | ⟨rfl, rfl⟩ | ⟨rfl, rfl⟩ | ⟨rfl, rfl⟩ | ⟨rfl, rfl⟩ | ⟨rfl, rfl⟩ <;> exact ⟨by decide, by decide, by decide, by decide⟩
theorem may_canon {c s : Int} (h : mayB c s = true) : isB s = true ∧ (s.toNat = 0 ∨ c % 10 ≠ 0) := by
  unfold mayB at h
  simp only [Bool.and_eq_true, Bool.or_eq_true, decide_eq_true_eq, Bool.not_eq_true', decide_eq_false_iff_not] at h
  exact ⟨h.1, h.2.imp (fun e => by omega) id⟩
theorem may_trim {c s : Int} (h : mayB c s = true) : canC c s = c ∧ (canS c s : Int) = s := by
  obtain ⟨hb, hc⟩ := may_canon h
  obtain ⟨n, rfl, hn⟩ := isB_nat hb
  rw [Int.toNat_natCast] at hc
  unfold canC canS
  rw [Int.toNat_natCast, trim_self c n hc]
  exact ⟨rfl, rfl⟩
theorem may_text {c s : Int} (hc : fits c) (h : mayB c s = true) : dparse (textS c s) = ((c, s), 0) := by
  obtain ⟨hb, _⟩ := may_canon h
  obtain ⟨e1, e2⟩ := may_trim h
  unfold textS
  rw [if_pos hb, read_back (canC c s) (canS c s) (by rw [e1]; exact hc) (canS_le hb) (trim_canon c s.toNat), e1, e2]
/-- no word is a number's text -/
theorem six_none {v : V} {l : List UInt8} (h : (v, l) ∈ six) (a b : Int) : dparse l ≠ ((a, b), 0) := by
  intro k
  obtain ⟨x, t, e, g⟩ := read_head k
  simp only [six, List.mem_cons, Prod.mk.injEq, List.mem_nil_iff, or_false] at h
  rcases h with ⟨_, rfl⟩ | ⟨_, rfl⟩ | ⟨_, rfl⟩ | ⟨_, rfl⟩ | ⟨_, rfl⟩ | ⟨_, rfl⟩ <;> (cases e; revert g; decide)
theorem num_eq {v : V} (h : isNum v = true) : v = ⟨1, v.c, v.s, 0⟩ := by
  obtain ⟨k, c, s, e⟩ := v
  simp [isNum] at h
  obtain ⟨rfl, rfl⟩ := h
  rfl
theorem parse_text {v : V} (hc : fits v.c) (h : mayV v = true) : parseV (textV v) = (v, 0) := by
  unfold mayV at h
  unfold textV
  cases hn : isNum v
  · rw [hn] at h
    simp only [Bool.false_eq_true, if_false] at h ⊢
    cases hl : lookV v six with
    | none => rw [hl] at h; cases h
    | some l =>
      have m := six_look (lookV_six hl)
      unfold parseV
      rw [Option.getD_some, m.2.1]
  · rw [hn] at h
    simp only [if_true] at h ⊢
    rw [if_pos h]
    have d := may_text hc h
    unfold parseV
    cases hl : lookW (textS v.c v.s) six with
    | some u => exact absurd d (six_none (lookW_six hl) _ _)
    | none => rw [d]; simp only [if_true]; rw [← num_eq hn]
theorem text_nil {v : V} (hc : fits v.c) : textV v = [] ↔ mayV v = false := by
  constructor
  · intro h
    cases hm : mayV v
    · rfl
    · have := parse_text hc hm
      rw [h] at this
      have e : (parseV []).2 = 4 := by decide +kernel
      rw [this] at e; cases e
  · intro h
    unfold mayV at h
    unfold textV
    cases hn : isNum v
    · rw [hn] at h
      simp only [Bool.false_eq_true, if_false] at h ⊢
      cases hl : lookV v six with
      | none => rfl
      | some l => rw [hl] at h; cases h
    · rw [hn] at h
      simp only [if_true] at h ⊢
      rw [h]; rfl
/-- what is read may be, and has that text -/
theorem parse_may {l : List UInt8} {v : V} (h : parseV l = (v, 0)) : mayV v = true ∧ textV v = l ∧ fits v.c := by
  unfold parseV at h
  cases hl : lookW l six with
  | some u =>
    rw [hl] at h
    cases h
    have hm := lookW_six hl
    have m := six_look hm
    refine ⟨by unfold mayV; rw [m.2.2.1, m.1]; rfl, by unfold textV; rw [m.2.2.1, m.1]; rfl, ?_⟩
    simp only [six, List.mem_cons, Prod.mk.injEq, List.mem_nil_iff, or_false] at hm
    rcases hm with ⟨rfl, _⟩ | ⟨rfl, _⟩ | ⟨rfl, _⟩ | ⟨rfl, _⟩ | ⟨rfl, _⟩ | ⟨rfl, _⟩ <;> decide
  | none =>
    rw [hl] at h
    simp only at h
    split at h
    · rename_i e0
      cases h
      obtain ⟨D, hd, hD, hf, hcan, ht⟩ := read_text (c := (dparse l).1.1) (d := (dparse l).1.2) (l := l) (by rw [← e0])
      have hb : isB (dparse l).1.2 = true := by rw [hd]; unfold isB; simp; omega
      have hm : mayB (dparse l).1.1 (dparse l).1.2 = true := by
        unfold mayB
        rw [hb]
        simp only [Bool.true_and, Bool.or_eq_true, decide_eq_true_eq, Bool.not_eq_true', decide_eq_false_iff_not]
        exact hcan.imp (fun e => by omega) id
      obtain ⟨e1, e2⟩ := may_trim hm
      refine ⟨by unfold mayV isNum; simp [hm], ?_, hf⟩
      unfold textV isNum
      simp only [and_self, decide_true, if_true, hm]
      unfold textS
      rw [if_pos hb, e1]
      have : canS (dparse l).1.1 (dparse l).1.2 = D := by omega
      rw [this]; exact ht
    · cases h
theorem text_same {v w : V} (hc : fits v.c) (hd : fits w.c) (h : mayV v = true) (k : mayV w = true) : textV v = textV w ↔ v = w := by
  constructor
  · intro e
    have a := parse_text hc h
    have b := parse_text hd k
    rw [e, b] at a
    cases a; rfl
  · rintro rfl; rfl
end Go.Proofs.YtfonpegkaajnkaaDoor.Va
/-
  Values as keys of a map.
-/
namespace Go.Proofs.YtfonpegkaajnkaaDoor.Va
open Go Go.RowKit Dt Tx
set_option linter.unusedSimpArgs false

def vv (v : V) : Value := .agg #[.int .u8 v.k, .int .i64 v.c, .int .i64 v.s, .int .i64 v.e]
theorem vv_inj {a b : V} (h : vv a = vv b) : a = b := by
  obtain ⟨k, c, s, e⟩ := a
  obtain ⟨k', c', s', e'⟩ := b
  simp [vv] at h
  obtain ⟨rfl, rfl, rfl, rfl⟩ := h
  rfl
def domV (x : Value) : Prop := ∃ l, keyOf Tryd.prog 27 x = some l
theorem kl_V : KL Tryd.prog 27 domV :=
  KL.of_keyed (Maps.Keyed.of_law (deep_law_laid (by kernel_rfl) (m := 3) (by omega) (of_decide_eq_true (by kernel_rfl)) (by kernel_rfl) (by rw [Tryd.underlying27])))
theorem lits_V (v : V) (h : v.ok) (d : Nat) : ∃ l, Tryd.prog.keyLits (d + 3) 27 (vv v).cells.toList = some l := by
  obtain ⟨h1, h2, h3, h4⟩ := h
  have w1 : (Lit.int .u8 v.k).wf = true := by simp [Lit.wf, IntKind.has, IntKind.min, IntKind.max, IntKind.signed, IntKind.bits]; omega
  have w2 : (Lit.int .i64 v.c).wf = true := by have := h2.1; have := h2.2; refine WalkArith.wf_i64 ?_ <;> omega
  have w3 : (Lit.int .i64 v.s).wf = true := by have := h3.1; have := h3.2; refine WalkArith.wf_i64 ?_ <;> omega
  have w4 : (Lit.int .i64 v.e).wf = true := by have := h4.1; have := h4.2; refine WalkArith.wf_i64 ?_ <;> omega
  have c1 : Tryd.prog.cellsOf 27 = 4 := by kernel_rfl
  have c2 : Tryd.prog.cellsOf 24 = 2 := by kernel_rfl
  have c3 : Tryd.prog.cellsOf 5 = 1 := by kernel_rfl
  have c4 : Tryd.prog.cellsOf 25 = 1 := by kernel_rfl
  have c5 : Tryd.prog.cellsOf 3 = 1 := by kernel_rfl
  have c6 : Tryd.prog.cellsOf 2 = 1 := by kernel_rfl
  simp +decide [Program.keyLits, Tryd.underlying27, Tryd.underlying24, Tryd.underlying5, Tryd.underlying3, Tryd.underlying2, Tryd.underlying25, vv, Value.cells, w1, w2, w3, w4, c1, c2, c3, c4, c5, c6]
theorem dom_V (v : V) (h : v.ok) : domV (vv v) := by
  obtain ⟨n, hn⟩ : ∃ n, Tryd.prog.types.size + 1 = n + 3 := ⟨Tryd.prog.types.size - 2, by
    have : 3 ≤ Tryd.prog.types.size := of_decide_eq_true (by kernel_rfl)
    omega⟩
  obtain ⟨l, hl⟩ := lits_V v h n
  have hk : Tryd.prog.keyType 27 = true := by kernel_rfl
  have hf : (vv v).formed Tryd.prog 27 = true := by
    have c1 : Tryd.prog.cellsOf 27 = 4 := by kernel_rfl
    simp [vv, Value.formed, Tryd.underlying27, c1]
  unfold domV keyOf
  rw [Tryd.underlying27]
  simp only [hk, hf, hn, hl, Bool.and_self, if_true, Option.map_some]
  exact ⟨_, rfl⟩
end Go.Proofs.YtfonpegkaajnkaaDoor.Va
