/-
  datetext: the document's number, walked.
-/
import Derived.Test.YthbgkokepnifdaaDoorDtSpan
namespace Go.Proofs.YthbgkokepnifdaaDoor.Dt
open Go Go.RowKit
set_option linter.unusedSimpArgs false
set_option linter.unusedVariables false
attribute [local go_sem ↓] Go.wp_at_zero Go.wp_at_succ

/-- digits' number -/
def val (l : List UInt8) : Nat := l.foldl (fun n c => n * 10 + dv c) 0
theorem val_snoc (l : List UInt8) (c : UInt8) : val (l ++ [c]) = val l * 10 + dv c := by unfold val; rw [List.foldl_append]; rfl
theorem val_lt' : ∀ (l : List UInt8) (a k : Nat), a < 10 ^ k → l.all isDg = true → l.foldl (fun n c => n * 10 + dv c) a < 10 ^ (k + l.length)
  | [], a, k, h, _ => by simpa using h
  | c :: l, a, k, h, hd => by
    simp only [List.all_cons, Bool.and_eq_true] at hd
    have hc := dv_lt hd.1
    have := val_lt' l (a * 10 + dv c) (k + 1) (by rw [Nat.pow_succ]; omega) hd.2
    rw [List.foldl_cons, List.length_cons, show k + (l.length + 1) = k + 1 + l.length by omega]
    exact this
theorem val_lt (l : List UInt8) (h : l.all isDg = true) : val l < 10 ^ l.length := by
  have := val_lt' l 0 0 (by decide) h
  rw [Nat.zero_add] at this
  exact this
def numR (l : List UInt8) : Int := if l.all isDg = true then (val l : Int) else -1
theorem at_byte (l : List UInt8) (k : Nat) (c : UInt8) (h : l[k]? = some c) (w : World) : (Instr.index 9 (.string (bs l)) (.int .i64 (k : Int))).run Tryd.prog w = .ok (.int .u8 (c.toNat : Int)) w := by
  rw [run_index_string w 9 (bs l) .i64 (k : Int) Tryd.underlying9]
  obtain ⟨hk, he⟩ := List.getElem?_eq_some_iff.1 h
  rw [dif_pos ⟨by omega, by rw [bs_size]; omega⟩]
  have : (bs l)[((k : Int)).toNat]'(by rw [bs_size]; simpa using hk) = c := by
    show l.toArray[((k : Int)).toNat]'_ = c
    simp only [Int.toNat_natCast, List.getElem_toArray]
    exact he
  rw [this]
theorem take_snoc {l : List UInt8} {k : Nat} {c : UInt8} (h : l[k]? = some c) : l.take (k + 1) = l.take k ++ [c] := by rw [List.take_add_one, h]; rfl
theorem pow4 (k : Nat) (h : k ≤ 4) : 10 ^ k ≤ 10000 := by
  have := Nat.pow_le_pow_right (n := 10) (by decide) h
  simpa using this
set_option maxRecDepth 100000 in
set_option maxHeartbeats 1000000 in
theorem number_is {w : World} (l : List UInt8) (hl : l.length ≤ 4) : Calls Tryd.prog 16 #[.string (bs l)] w fun e w' => e = .returned (.int .i64 (numR l)) ∧ w = w' := by
  have hz : (bs l).size = l.length := bs_size l
  obtain ⟨N, hN⟩ : ∃ N, Hid (l.length = N) := ⟨_, rfl⟩
  rw [hN.out] at hz hl
  obtain ⟨S, hS⟩ : ∃ S, Hid (bs l = S) := ⟨bs l, Lib.hid rfl⟩
  rw [hS.out] at hz ⊢
  have HL := Lib.hid hl
  clear hl
  go_enter Tryd.func16, Tryd.ntmps16
  go_wp2_with fail
  go_loopw [3, 4] (fun n i wr => ∃ k : Nat, n = .int .i64 ((val (l.take k) : Nat) : Int) ∧ i = .int .i64 (k : Int) ∧ k ≤ N ∧ Hid ((l.take k).all isDg = true) ∧ w = wr) (fun _ i _ => N - (intOf i).toNat)
  case atStart => exact ⟨0, rfl, rfl, by omega, rfl, rfl⟩
  case round =>
    obtain ⟨k, rfl, rfl, hk, hD, rfl⟩ := hrel
    have vlt : val (l.take k) < 10000 := Nat.lt_of_lt_of_le (val_lt _ hD.out) (Nat.le_trans (Nat.pow_le_pow_right (by decide) (by rw [List.length_take]; exact Nat.min_le_left _ _)) (pow4 k (by have := HL.out; omega)))
    obtain ⟨v, hv⟩ : ∃ v, Hid (val (l.take k) = v) := ⟨_, rfl⟩
    rw [hv.out] at vlt ⊢
    by_cases hkl : k < N
    · obtain ⟨c, hc⟩ : ∃ c, l[k]? = some c := ⟨_, List.getElem?_eq_getElem (by rw [hN.out]; exact hkl)⟩
      have kc := at_byte l k c hc
      rw [hS.out] at kc
      have hx := c.toNat_lt
      obtain ⟨x, hxc⟩ : ∃ x, Hid (c.toNat = x) := ⟨_, rfl⟩
      rw [hxc.out] at kc hx
      have HC := Lib.hid hc
      have HK := Lib.hid hkl
      have sn := take_snoc hc
      have kw : IntKind.i64.wrap ((k : Int) + 1) = (k : Int) + 1 := by rw [IntWalk.i64_left]; exact IntWalk.wrap64_in _ (by have := HL.out; omega)
      have dk1 : decide (k < N) = true := by simpa using hkl
      have dk2 : decide ((k : Int) < (N : Int)) = true := by simp; omega
      have bad : isDg c = false → numR l = -1 := fun h => by
        unfold numR
        rw [if_neg]
        intro k'
        rw [List.all_eq_true.1 k' c (List.mem_of_getElem? hc)] at h
        exact Bool.noConfusion h
      have isd : isDg c = (decide (48 ≤ x) && decide (x ≤ 57)) := by unfold isDg; rw [hxc.out]
      by_cases q1 : x < 48
      · have d1 : decide (x < 48) = true := by simpa using q1
        have d2 : decide ((x : Int) < 48) = true := by simp; omega
        have r := Lib.hid (bad (by rw [isd]; simp; omega))
        clear q1 hkl hk hc hx bad isd sn
        go_wp2_with fail
        go_ret
        exact ⟨congrArg (fun i => Ending.returned (Value.int .i64 i)) r.out.symm, rfl⟩
      · have d1 : decide (x < 48) = false := by simpa using q1
        have d2 : decide ((x : Int) < 48) = false := by simp; omega
        by_cases q2 : 57 < x
        · have d3 : decide (57 < x) = true := by simpa using q2
          have d4 : decide (57 < (x : Int)) = true := by simp; omega
          have r := Lib.hid (bad (by rw [isd]; simp; omega))
          clear q1 q2 hkl hk hc hx bad isd sn
          go_wp2_with fail
          go_ret
          exact ⟨congrArg (fun i => Ending.returned (Value.int .i64 i)) r.out.symm, rfl⟩
        · have d3 : decide (57 < x) = false := by simpa using q2
          have d4 : decide (57 < (x : Int)) = false := by simp; omega
          have u1 : IntKind.u8.wrap ((x : Int) - 48) = (x : Int) - 48 := by rw [IntKind.wrap_u8]; omega
          have u2 : IntKind.i64.wrap ((v : Int) * 10) = (v : Int) * 10 := by rw [IntWalk.i64_left]; exact IntWalk.wrap64_in _ (by omega)
          have u3 : IntKind.i64.wrap ((v : Int) * 10 + ((x : Int) - 48)) = (v : Int) * 10 + ((x : Int) - 48) := by rw [IntWalk.i64_left]; exact IntWalk.wrap64_in _ (by omega)
          have u4 : IntKind.i64.wrap ((x : Int) - 48) = (x : Int) - 48 := by rw [IntWalk.i64_left]; exact IntWalk.wrap64_in _ (by omega)
          have hd : isDg c = true := by rw [isd]; simp; omega
          have NX : Hid (((val (l.take (k + 1)) : Nat) : Int) = (v : Int) * 10 + ((x : Int) - 48) ∧ (l.take (k + 1)).all isDg = true) := by
            refine ⟨?_, ?_⟩
            · rw [sn, val_snoc, hv.out]; unfold dv; rw [hxc.out]; omega
            · rw [sn]; simp only [List.all_append, List.all_cons, List.all_nil, Bool.and_true, Bool.and_eq_true]; exact ⟨hD.out, hd⟩
          clear q1 q2 hkl hk hc hx bad isd sn hd
          go_wp2_with fail
          refine ⟨⟨k + 1, by rw [NX.out.1], rfl, HK.out, NX.out.2, trivial⟩, ?_⟩
          show N - ((k : Int) + 1).toNat < N - (k : Int).toNat
          have := HK.out; omega
    · have hke : k = N := by omega
      subst hke
      have e : l.take k = l := List.take_of_length_le (by rw [hN.out]; exact Nat.le_refl _)
      have r : Hid (numR l = (v : Int)) := by
        show _ = _
        unfold numR
        rw [e] at hD hv
        rw [if_pos hD.out, hv.out]
      have dk0 : ¬ (k : Int) < (k : Int) := by omega
      clear hkl hk e
      go_wp2_with fail
      go_ret
      exact ⟨congrArg (fun i => Ending.returned (Value.int .i64 i)) r.out.symm, rfl⟩
end Go.Proofs.YthbgkokepnifdaaDoor.Dt
