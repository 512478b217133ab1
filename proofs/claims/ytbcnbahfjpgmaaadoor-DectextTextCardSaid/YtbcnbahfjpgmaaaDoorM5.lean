/-
  dectext: digits, walked; dectext: Parse, walked.
-/
import Derived.Test.YtbcnbahfjpgmaaaDoorM4
/-
  dectext: digits, walked.
-/
namespace Go.Proofs.YtbcnbahfjpgmaaaDoor.Tx
open Go Go.RowKit Dt
set_option linter.unusedSimpArgs false
set_option linter.unusedVariables false
attribute [local go_sem ↓] Go.wp_at_zero Go.wp_at_succ

set_option maxRecDepth 100000 in
set_option maxHeartbeats 1000000 in
theorem digits_is {w : World} (l : List UInt8) (hl : l.length ≤ 1000) : Calls Tryd.prog 20 #[.string (bs l)] w fun e w' => e = .returned (.bool (digs l)) ∧ w' = w := by
  have hz : (bs l).size = l.length := bs_size l
  have hne : ((bs l).toList == []) = l.isEmpty := by rw [bs_toList]; cases l <;> rfl
  obtain ⟨N, hN⟩ : ∃ N, Hid (l.length = N) := ⟨_, rfl⟩
  rw [hN.out] at hz hl
  obtain ⟨E, hE⟩ : ∃ E, Hid (l.isEmpty = E) := ⟨_, rfl⟩
  rw [hE.out] at hne
  obtain ⟨S, hS⟩ : ∃ S, Hid (bs l = S) := ⟨bs l, Lib.hid rfl⟩
  rw [hS.out] at hz hne ⊢
  have HL := Lib.hid hl
  clear hl
  go_enter Tryd.func20, Tryd.ntmps20
  go_wp2_with fail
  go_loopw [6] (fun i wr => ∃ k : Nat, i = .int .i64 (k : Int) ∧ k ≤ N ∧ Hid ((l.take k).all isDg = true) ∧ wr = w) (fun i _ => N - (intOf i).toNat)
  case atStart => exact ⟨0, rfl, by omega, rfl, rfl⟩
  case round =>
    obtain ⟨k, rfl, hk, hD, rfl⟩ := hrel
    by_cases hkl : k < N
    · obtain ⟨c, hc⟩ : ∃ c, l[k]? = some c := ⟨_, List.getElem?_eq_getElem (by rw [hN.out]; exact hkl)⟩
      have kc := at_byte l k c hc
      rw [hS.out] at kc
      obtain ⟨x, hxc⟩ : ∃ x, Hid (c.toNat = x) := ⟨_, rfl⟩
      rw [hxc.out] at kc
      have HK := Lib.hid hkl
      have sn := take_snoc hc
      have kw : IntKind.i64.wrap ((k : Int) + 1) = (k : Int) + 1 := by rw [IntWalk.i64_left]; exact IntWalk.wrap64_in _ (by have := HL.out; omega)
      have dk1 : decide (k < N) = true := by simpa using hkl
      have dk2 : decide ((k : Int) < (N : Int)) = true := by simp; omega
      have bad : isDg c = false → digs l = false := fun h => by
        unfold digs
        have : l.all isDg = false := by
          cases e : l.all isDg
          · rfl
          · rw [List.all_eq_true.1 e c (List.mem_of_getElem? hc)] at h; exact Bool.noConfusion h
        rw [this, Bool.and_false]
      have isd : isDg c = (decide (48 ≤ x) && decide (x ≤ 57)) := by unfold isDg; rw [hxc.out]
      by_cases q1 : x < 48
      · have d1 : decide (x < 48) = true := by simpa using q1
        have d2 : decide ((x : Int) < 48) = true := by simp; omega
        have r := Lib.hid (bad (by rw [isd]; simp; omega))
        clear q1 hkl hk hc bad isd sn
        go_wp2_with fail
        go_ret
        exact ⟨congrArg (fun i => Ending.returned (Value.bool i)) r.out.symm, rfl⟩
      · have d1 : decide (x < 48) = false := by simpa using q1
        have d2 : decide ((x : Int) < 48) = false := by simp; omega
        by_cases q2 : 57 < x
        · have d3 : decide (57 < x) = true := by simpa using q2
          have d4 : decide (57 < (x : Int)) = true := by simp; omega
          have r := Lib.hid (bad (by rw [isd]; simp; omega))
          clear q1 q2 hkl hk hc bad isd sn
          go_wp2_with fail
          go_ret
          exact ⟨congrArg (fun i => Ending.returned (Value.bool i)) r.out.symm, rfl⟩
        · have d3 : decide (57 < x) = false := by simpa using q2
          have d4 : decide (57 < (x : Int)) = false := by simp; omega
          have hd : isDg c = true := by rw [isd]; simp; omega
          have NX : Hid ((l.take (k + 1)).all isDg = true) := by
            show _ = _
            rw [sn]; simp only [List.all_append, List.all_cons, List.all_nil, Bool.and_true, Bool.and_eq_true]; exact ⟨hD.out, hd⟩
          clear q1 q2 hkl hk hc bad isd sn hd
          go_wp2_with fail
          refine ⟨⟨k + 1, rfl, HK.out, NX, trivial⟩, ?_⟩
          show N - ((k : Int) + 1).toNat < N - (k : Int).toNat
          have := HK.out; omega
    · have hke : k = N := by omega
      subst hke
      have e : l.take k = l := List.take_of_length_le (by rw [hN.out]; exact Nat.le_refl _)
      have r : Hid (digs l = !E) := by
        show _ = _
        unfold digs
        rw [e] at hD
        rw [hD.out, hE.out, Bool.and_true]
      have dk0 : ¬ (k : Int) < (k : Int) := by omega
      clear hkl hk e
      go_wp2_with fail
      go_ret
      exact ⟨congrArg (fun i => Ending.returned (Value.bool i)) r.out.symm, rfl⟩
end Go.Proofs.YtbcnbahfjpgmaaaDoor.Tx
/-
  dectext: Parse, walked.
-/
namespace Go.Proofs.YtbcnbahfjpgmaaaDoor.Tx
open Go Go.RowKit Dt
set_option linter.unusedSimpArgs false
set_option linter.unusedVariables false
attribute [local go_sem ↓] Go.wp_at_zero Go.wp_at_succ

def neg (l : List UInt8) : Bool := decide (l.head? = some 45)
def wBad (v : List UInt8) : Bool := !digs v || (decide (1 < v.length) && decide (v.head? = some 48))
def rBad (r : List UInt8) : Bool := !digs r || decide (9 < r.length) || decide (r.getLast? = some 48)
/-- what a text is read as: a number, an error -/
def dparse (l : List UInt8) : (Int × Int) × Int :=
  if 21 < l.length then ((0, 0), 3)
  else if wBad (cutP (body l)).1 = true ∨ ((cutP (body l)).2.2 = true ∧ rBad (cutP (body l)).2.1 = true) ∨ l = [45, 48] then ((0, 0), 4)
  else if Fit (sg (neg l) (val ((cutP (body l)).1 ++ (cutP (body l)).2.1))) then ((sg (neg l) (val ((cutP (body l)).1 ++ (cutP (body l)).2.1)), ((cutP (body l)).2.1.length : Int)), 0)
  else ((0, 0), 11)
def DpPost (r : (Int × Int) × Int) (w : World) (e : Ending) (w' : World) : Prop := e = .returned (.tuple #[.agg #[.int .i64 r.1.1, .int .i64 r.1.2], .int .i64 r.2]) ∧ Below w.heap.size w w'
theorem DpPost.mk {r : (Int × Int) × Int} {a b e : Int} {w w' : World} (h : r = ((a, b), e)) (hb : Below w.heap.size w w') : DpPost r w (.returned (.tuple #[.agg #[.int .i64 a, .int .i64 b], .int .i64 e])) w' := by
  subst h; exact ⟨rfl, hb⟩
/-- a number in memory -/
def Two (w : World) (b : Nat) (x y : Int) : Prop := w.heap[b]? = some (.cells #[.int .i64 x, .int .i64 y] 23 (0, 0))
section
variable {w : World} {b : Nat} {x y : Int}
theorem Two.lt (h : Two w b x y) : b < w.heap.size := (Array.getElem?_eq_some_iff.1 h).1
theorem Two.c0 (h : Two w b x y) : w.cell? ⟨b, 0, none⟩ = some (.int .i64 x) := by rw [cell_of_row w _ _ _ _ (0, 0) h]; rfl
theorem Two.c1 (h : Two w b x y) : w.cell? ⟨b, 1, none⟩ = some (.int .i64 y) := by rw [cell_of_row w _ _ _ _ (0, 0) h]; rfl
theorem Two.f (h : Two w b x y) (i : Nat) : w.frozen? ⟨b, i, none⟩ = false := frozen_of_row w _ _ _ _ h
theorem Two.below {w' : World} (h : Two w b x y) (k : Below w.heap.size w w') : Two w' b x y := (k.block b h.lt).trans h
theorem Two.set (h : Two w b x y) (x' y' : Int) : Two ((w.setCell ⟨b, 0, none⟩ (.int .i64 x')).setCell ⟨b, 1, none⟩ (.int .i64 y')) b x' y' := by
  have h1 : Two (w.setCell ⟨b, 0, none⟩ (.int .i64 x')) b x' y := by show _ = _; rw [heap_setCell_same w b 0 _ _ _ h]; rfl
  show _ = _
  rw [heap_setCell_same _ b 1 _ _ _ h1]; rfl
theorem results_cell2 {P : Program} {fn : Func} {p u : Tmp} {ty : TypeId} (h : fn.results = #[.cell p ty, .tmp u]) (tmps : Array Value) (w : World) (g : Nat) (t : TypeId) (cs : Array Value) (fr : Nat × Nat) (d : TypeDesc)
    (hp : tmps.getD p undef = .pointer (some ⟨g, 0, none⟩)) (hg : w.heap[g]? = some (.cells cs t fr))
    (hu : P.underlying ty = some d) (hd : (match d with | .struct _ | .array _ _ => true | _ => false) = true) (hi : (P.info? ty).map (·.size) = some cs.size) :
    (results fn tmps).run P w = .ok (.tuple #[.agg cs, tmps.getD u undef]) w := by
  rw [results_cell_tmp h, hp]
  simp [asAddr, run_loadVar_row w g t ty cs fr d hg hu hd hi, Result.andThen]
theorem Two.new (w : World) (x y : Int) : Two (w.alloc (.cells #[.int .i64 x, .int .i64 y] 23)) w.heap.size x y := by
  show (w.heap.push _)[w.heap.size]? = _
  rw [Array.getElem?_push_size]
end
theorem body_len (l : List UInt8) : (body l).length ≤ l.length := by
  unfold body; split
  · rw [List.length_drop]; omega
  · exact Nat.le_refl _
theorem cutP_cases (l : List UInt8) : cutP l = (l, [], false) ∨ ∃ i : Nat, cutP l = (l.take i, l.drop (i + 1), true) ∧ i < l.length ∧ l[i]? = some 46 ∧ ∀ j, j < i → l[j]? ≠ some 46 := by
  unfold cutP Lib.cut
  have hd : ∀ j, j < l.length → (Lib.occAt l [46] j = true ↔ l[j]? = some 46) := fun j hj => by
    rw [Lib.occAt_iff_take l [46] j (by show j + 1 ≤ _; omega), List.length_singleton, List.take_one, List.head?_drop, List.getElem?_eq_getElem hj]
    simp
  rcases Lib.index_spec l [46] with ⟨h, _⟩ | ⟨i, h, hi, ho, hn⟩
  · rw [h]; exact .inl rfl
  · rw [h]
    have room : i + 1 ≤ l.length := by
      rcases Lib.occAt_room ho with k | k
      · exact k
      · cases k
    refine .inr ⟨i, by rw [if_pos (by omega), Int.toNat_natCast]; rfl, room, (hd i room).1 ho, fun j hj k => ?_⟩
    have := (hd j (by omega)).2 k
    rw [hn j hj] at this
    cases this
theorem cutP_len (l : List UInt8) : (cutP l).1.length + (cutP l).2.1.length ≤ l.length := by
  rcases cutP_cases l with e | ⟨i, e, _⟩
  · rw [e]; simp
  · rw [e]; dsimp only; rw [List.length_take, List.length_drop]; omega
theorem digs_ne {l : List UInt8} (h : digs l = true) : l ≠ [] := by intro e; subst e; cases h
theorem digs_app {a b : List UInt8} (h : digs a = true) (k : b.all isDg = true) : digs (a ++ b) = true := by
  have hn := digs_ne h
  unfold digs at h ⊢
  simp only [Bool.and_eq_true] at h ⊢
  refine ⟨?_, by rw [List.all_append, h.2, k]; rfl⟩
  cases a with
  | nil => exact absurd rfl hn
  | cons c r => rfl
theorem digs_all {a : List UInt8} (h : digs a = true) : a.all isDg = true := by unfold digs at h; simp only [Bool.and_eq_true] at h; exact h.2
end Go.Proofs.YtbcnbahfjpgmaaaDoor.Tx
