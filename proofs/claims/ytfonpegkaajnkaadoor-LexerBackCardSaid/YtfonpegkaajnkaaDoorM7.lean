/-
  lexer: bytes, while, named, number, walked.
-/
import Derived.Test.YtfonpegkaajnkaaDoorM6
import Derived.Test.YtfonpegkaajnkaaDoorM4
import Derived.Lib.SmallJoins
import Derived.Laws.RangeAny
import Derived.Laws.RangeString
import Derived.Lib.OthersKept
/-
  lexer: bytes, while, named, number, walked.
-/
namespace Go.Proofs.YtfonpegkaajnkaaDoor.Lx
open Go Go.RowKit Dt Tx
set_option linter.unusedSimpArgs false
set_option linter.unusedVariables false
attribute [local go_sem ↓] Go.wp_at_zero Go.wp_at_succ

theorem letter_is (c : UInt8) (w : World) : Calls Tryd.prog 41 #[.int .u8 (c.toNat : Int)] w fun e w' => e = .returned (.bool (isLo c)) ∧ w' = w := by
  unfold isLo
  obtain ⟨n, hn⟩ : ∃ n, Hid (c.toNat = n) := ⟨_, rfl⟩
  rw [hn.out]
  by_cases h1 : 97 ≤ n
  · by_cases h2 : n ≤ 122
    · have d1 : decide ((97 : Int) ≤ (n : Int)) = true := by simp; omega
      have d2 : decide ((n : Int) ≤ 122) = true := by simp; omega
      go_enter Tryd.func41, Tryd.ntmps41
      go_wp2_with fail
      go_ret
      exact ⟨by simp [h1, h2], rfl⟩
    · have d1 : decide ((97 : Int) ≤ (n : Int)) = true := by simp; omega
      have d2 : decide ((n : Int) ≤ 122) = false := by simp; omega
      go_enter Tryd.func41, Tryd.ntmps41
      go_wp2_with fail
      go_ret
      exact ⟨by simp [h1, h2], rfl⟩
  · have d1 : decide ((97 : Int) ≤ (n : Int)) = false := by simp; omega
    go_enter Tryd.func41, Tryd.ntmps41
    go_wp2_with fail
    go_ret
    exact ⟨by simp [h1], rfl⟩
theorem small_is (c : UInt8) (w : World) : Calls Tryd.prog 39 #[.int .u8 (c.toNat : Int)] w fun e w' => e = .returned (.bool (isLo c)) ∧ w' = w := by
  unfold isLo
  obtain ⟨n, hn⟩ : ∃ n, Hid (c.toNat = n) := ⟨_, rfl⟩
  rw [hn.out]
  by_cases h1 : 97 ≤ n
  · by_cases h2 : n ≤ 122
    · have d1 : decide ((97 : Int) ≤ (n : Int)) = true := by simp; omega
      have d2 : decide ((n : Int) ≤ 122) = true := by simp; omega
      go_enter Tryd.func39, Tryd.ntmps39
      go_wp2_with fail
      go_ret
      exact ⟨by simp [h1, h2], rfl⟩
    · have d1 : decide ((97 : Int) ≤ (n : Int)) = true := by simp; omega
      have d2 : decide ((n : Int) ≤ 122) = false := by simp; omega
      go_enter Tryd.func39, Tryd.ntmps39
      go_wp2_with fail
      go_ret
      exact ⟨by simp [h1, h2], rfl⟩
  · have d1 : decide ((97 : Int) ≤ (n : Int)) = false := by simp; omega
    go_enter Tryd.func39, Tryd.ntmps39
    go_wp2_with fail
    go_ret
    exact ⟨by simp [h1], rfl⟩
theorem digit_is (c : UInt8) (w : World) : Calls Tryd.prog 75 #[.int .u8 (c.toNat : Int)] w fun e w' => e = .returned (.bool (isDg c)) ∧ w' = w := by
  unfold isDg
  obtain ⟨n, hn⟩ : ∃ n, Hid (c.toNat = n) := ⟨_, rfl⟩
  rw [hn.out]
  by_cases h1 : 48 ≤ n
  · by_cases h2 : n ≤ 57
    · have d1 : decide ((48 : Int) ≤ (n : Int)) = true := by simp; omega
      have d2 : decide ((n : Int) ≤ 57) = true := by simp; omega
      go_enter Tryd.func75, Tryd.ntmps75
      go_wp2_with fail
      go_ret
      exact ⟨by simp [h1, h2], rfl⟩
    · have d1 : decide ((48 : Int) ≤ (n : Int)) = true := by simp; omega
      have d2 : decide ((n : Int) ≤ 57) = false := by simp; omega
      go_enter Tryd.func75, Tryd.ntmps75
      go_wp2_with fail
      go_ret
      exact ⟨by simp [h1, h2], rfl⟩
  · have d1 : decide ((48 : Int) ≤ (n : Int)) = false := by simp; omega
    go_enter Tryd.func75, Tryd.ntmps75
    go_wp2_with fail
    go_ret
    exact ⟨by simp [h1], rfl⟩
theorem rdigit_is (c : UInt8) (w : World) : Calls Tryd.prog 40 #[.int .u8 (c.toNat : Int)] w fun e w' => e = .returned (.bool (isDg c)) ∧ w' = w := by
  unfold isDg
  obtain ⟨n, hn⟩ : ∃ n, Hid (c.toNat = n) := ⟨_, rfl⟩
  rw [hn.out]
  by_cases h1 : 48 ≤ n
  · by_cases h2 : n ≤ 57
    · have d1 : decide ((48 : Int) ≤ (n : Int)) = true := by simp; omega
      have d2 : decide ((n : Int) ≤ 57) = true := by simp; omega
      go_enter Tryd.func40, Tryd.ntmps40
      go_wp2_with fail
      go_ret
      exact ⟨by simp [h1, h2], rfl⟩
    · have d1 : decide ((48 : Int) ≤ (n : Int)) = true := by simp; omega
      have d2 : decide ((n : Int) ≤ 57) = false := by simp; omega
      go_enter Tryd.func40, Tryd.ntmps40
      go_wp2_with fail
      go_ret
      exact ⟨by simp [h1, h2], rfl⟩
  · have d1 : decide ((48 : Int) ≤ (n : Int)) = false := by simp; omega
    go_enter Tryd.func40, Tryd.ntmps40
    go_wp2_with fail
    go_ret
    exact ⟨by simp [h1], rfl⟩
/-- a function on bytes, as a value -/
structure ByteFn (F : Nat) (p : UInt8 → Bool) : Prop where
  is : ∀ (c : UInt8) (w : World), Calls Tryd.prog F #[.int .u8 (c.toNat : Int)] w fun e w' => e = .returned (.bool (p c)) ∧ w' = w
  high : ∀ c : UInt8, 128 ≤ c.toNat → p c = false
theorem isLo_high (c : UInt8) (h : 128 ≤ c.toNat) : isLo c = false := by unfold isLo; simp; omega
theorem isDg_high (c : UInt8) (h : 128 ≤ c.toNat) : isDg c = false := by unfold isDg; simp; omega
theorem dg_fn : ByteFn 75 isDg := ⟨digit_is, isDg_high⟩
theorem named1_is (c : UInt8) (w : World) : Calls Tryd.prog 78 #[.int .u8 (c.toNat : Int)] w fun e w' => e = .returned (.bool (isAl c)) ∧ w' = w := by
  have A := letter_is c w
  have D := digit_is c w
  unfold isAl
  obtain ⟨x, hx⟩ : ∃ x : Int, Hid ((c.toNat : Int) = x) := ⟨_, rfl⟩
  rw [hx.out] at A D ⊢
  obtain ⟨dg, hdg⟩ : ∃ x, Hid (isDg c = x) := ⟨_, rfl⟩
  rw [hdg.out] at D ⊢
  cases hl : isLo c
  · rw [hl] at A
    clear hl hdg hx
    go_enter Tryd.func78, Tryd.ntmps78
    go_wp2_with (first | (go_at_call 41; (with_reducible refine A.mono ?_); rintro e1 w1 ⟨rfl, rfl⟩; clear A) | (go_at_call 75; (with_reducible refine D.mono ?_); rintro e2 w2 ⟨rfl, rfl⟩; clear D))
    go_ret
    exact ⟨by simp, rfl⟩
  · rw [hl] at A
    clear hl hdg hx
    go_enter Tryd.func78, Tryd.ntmps78
    go_wp2_with (first | (go_at_call 41; (with_reducible refine A.mono ?_); rintro e1 w1 ⟨rfl, rfl⟩; clear A) | (go_at_call 75; (with_reducible refine D.mono ?_); rintro e2 w2 ⟨rfl, rfl⟩; clear D))
    go_ret
    exact ⟨by simp, rfl⟩
theorem al_fn : ByteFn 78 isAl := ⟨named1_is, fun c h => by unfold isAl; rw [isLo_high c h, isDg_high c h]; rfl⟩
theorem iterPos_of {w : World} {k : Nat} {S : ByteArray} {p : Nat} (h : w.heap[k]? = some (.stringIter S p)) : w.iterPos k = p := by simp only [World.iterPos, h]
set_option maxRecDepth 100000 in
set_option maxHeartbeats 1000000 in
theorem while_dg {w : World} (l : List UInt8) : Calls Tryd.prog 77 #[.string (bs l), .func (.func 75) #[] #[]] w fun e w' => e = .returned (.int .i64 (wh isDg l : Int)) ∧ Below w.heap.size w w' := by
  have hz : (bs l).size = l.length := bs_size l
  obtain ⟨N, hN⟩ : ∃ N, Hid (l.length = N) := ⟨_, rfl⟩
  rw [hN.out] at hz
  obtain ⟨S, hS⟩ : ∃ S, Hid (bs l = S) := ⟨_, rfl⟩
  rw [hS.out] at hz ⊢
  have HF := Lib.hid dg_fn
  go_enter Tryd.func77, Tryd.ntmps77
  go_wp2_with fail
  go_loopw [5] (fun _ wr => ∃ k : Nat, Hid (∀ i, i < k → (l[i]?).any isDg = true) ∧ k ≤ N ∧ Hid (wr.heap[w.heap.size]? = some (.stringIter S k)) ∧ Hid (Below w.heap.size w wr)) (fun _ wr => N - wr.iterPos w.heap.size)
  case atStart =>
    refine ⟨0, fun i hi => absurd hi (Nat.not_lt_zero i), Nat.zero_le _, ?_, (Below.refl _ w).alloc (Nat.le_refl _) _⟩
    show _ = _
    have := World.iter_heap w S 0
    simpa using this
  case round =>
    obtain ⟨wo, rfl⟩ : ∃ wo : World, wo = wr := ⟨_, rfl⟩
    obtain ⟨k, HA, hk, HI, B⟩ := hrel
    by_cases hkl : k < N
    · obtain ⟨c, hc⟩ : ∃ c, l[k]? = some c := ⟨_, List.getElem?_eq_getElem (by rw [hN.out]; exact hkl)⟩
      obtain ⟨r0, r1⟩ : k < S.size ∧ (c.toNat < 128 → Utf8.decode S k = (c.toNat, 1)) := by
        rw [← hS.out]
        have hs : k < (bs l).size := by rw [bs_size, hN.out]; exact hkl
        have e : (bs l)[k]'hs = c := by
          obtain ⟨hk', he⟩ := List.getElem?_eq_some_iff.1 hc
          exact he
        exact ⟨hs, fun h => by rw [decode_ascii (bs l) k hs (by rw [e]; exact h), e]⟩
      have kc := at_byte l k c hc
      rw [hS.out] at kc
      have P := HF.out.is c
      have hh := HF.out.high c
      obtain ⟨x, hx⟩ : ∃ x, Hid (c.toNat = x) := ⟨_, rfl⟩
      obtain ⟨rn, hrn⟩ : ∃ x, Hid ((Utf8.decode S k).1 = x) := ⟨_, rfl⟩
      obtain ⟨d, hd⟩ : ∃ x, Hid ((Utf8.decode S k).2 = x) := ⟨_, rfl⟩
      have hnx : ∀ ty, (Instr.next (.pointer (some ⟨w.heap.size, 0, none⟩)) true ty).run Tryd.prog wo = .ok (.tuple #[.bool true, .int .i64 (k : Int), .int .i32 (rn : Int)]) (wo.iterAt w.heap.size S (k + d)) := fun ty => by
        rw [Lib.run_next_any_at wo w.heap.size S k ty HI.out r0, hrn.out, hd.out]
      have HI2 := Lib.hid (Lib.iterAt_heap wo w.heap.size S k (k + d) HI.out)
      have BX := Lib.hid (Lib.below_iterAt B.out (k := w.heap.size) (Nat.le_refl _) S (k + d))
      obtain ⟨w2, hw2⟩ : ∃ v, Hid (v = wo.iterAt w.heap.size S (k + d)) := ⟨_, rfl⟩
      rw [← hw2.out] at hnx HI2 BX
      have HK := Lib.hid hkl
      have i0 : (0 : Int) ≤ (k : Int) := by omega
      cases hpc : isDg c
      · have W := Lib.hid (show wh isDg l = k from wh_eq HA.out (by rw [hc]; exact hpc))
        rw [hpc] at P
        rw [hx.out] at P kc
        clear hc r0 r1 hk hkl hw2 HI hh hrn hd hpc hx
        go_wp2_with (go_at_call 75; (with_reducible refine (P _).mono ?_); rintro e7 w7 ⟨rfl, rfl⟩; clear P)
        go_ret
        exact ⟨by first | (rw [W.out]; done) | (rw [W.out]; rfl), BX.out⟩
      · have hc128 : c.toNat < 128 := by
          rcases Nat.lt_or_ge c.toNat 128 with h | h
          · exact h
          · rw [hh h] at hpc; cases hpc
        have hd1 : d = 1 := by rw [← hd.out, r1 hc128]
        subst hd1
        have HA2 : Hid (∀ i, i < k + 1 → (l[i]?).any isDg = true) := fun i hi => by
          rcases Nat.lt_or_ge i k with h | h
          · exact HA.out i h
          · have : i = k := by omega
            subst this; rw [hc]; exact hpc
        rw [hpc] at P
        rw [hx.out] at P kc
        have HI' := HI
        clear hc r0 r1 hk hkl hw2 HI hh hrn hpc hx hd hc128
        go_wp2_with (go_at_call 75; (with_reducible refine (P _).mono ?_); rintro e7 w7 ⟨rfl, rfl⟩; clear P)
        refine ⟨⟨k + 1, HA2, HK.out, HI2, BX⟩, ?_⟩
        show N - World.iterPos _ _ < N - wo.iterPos _
        rw [iterPos_of HI2.out, iterPos_of HI'.out]; have := HK.out; omega
    · have hkN : k = N := by omega
      subst hkN
      have W := Lib.hid (show wh isDg l = k from wh_eq HA.out (by rw [List.getElem?_eq_none (by rw [hN.out]; exact Nat.le_refl _)]; rfl))
      have hnx : ∀ ty, (Instr.next (.pointer (some ⟨w.heap.size, 0, none⟩)) true ty).run Tryd.prog wo = .ok (.tuple #[.bool false]) wo := fun ty => Lib.run_next_end_at wo w.heap.size S k ty HI.out (by rw [hz]; exact Nat.lt_irrefl _)
      clear hk hkl HI
      go_wp2_with fail
      go_ret
      exact ⟨by first | (rw [W.out]; done) | (rw [W.out]; rfl), B.out⟩
set_option maxRecDepth 100000 in
set_option maxHeartbeats 1000000 in
theorem while_al {w : World} (l : List UInt8) : Calls Tryd.prog 77 #[.string (bs l), .func (.func 78) #[] #[]] w fun e w' => e = .returned (.int .i64 (wh isAl l : Int)) ∧ Below w.heap.size w w' := by
  have hz : (bs l).size = l.length := bs_size l
  obtain ⟨N, hN⟩ : ∃ N, Hid (l.length = N) := ⟨_, rfl⟩
  rw [hN.out] at hz
  obtain ⟨S, hS⟩ : ∃ S, Hid (bs l = S) := ⟨_, rfl⟩
  rw [hS.out] at hz ⊢
  have HF := Lib.hid al_fn
  go_enter Tryd.func77, Tryd.ntmps77
  go_wp2_with fail
  go_loopw [5] (fun _ wr => ∃ k : Nat, Hid (∀ i, i < k → (l[i]?).any isAl = true) ∧ k ≤ N ∧ Hid (wr.heap[w.heap.size]? = some (.stringIter S k)) ∧ Hid (Below w.heap.size w wr)) (fun _ wr => N - wr.iterPos w.heap.size)
  case atStart =>
    refine ⟨0, fun i hi => absurd hi (Nat.not_lt_zero i), Nat.zero_le _, ?_, (Below.refl _ w).alloc (Nat.le_refl _) _⟩
    show _ = _
    have := World.iter_heap w S 0
    simpa using this
  case round =>
    obtain ⟨wo, rfl⟩ : ∃ wo : World, wo = wr := ⟨_, rfl⟩
    obtain ⟨k, HA, hk, HI, B⟩ := hrel
    by_cases hkl : k < N
    · obtain ⟨c, hc⟩ : ∃ c, l[k]? = some c := ⟨_, List.getElem?_eq_getElem (by rw [hN.out]; exact hkl)⟩
      obtain ⟨r0, r1⟩ : k < S.size ∧ (c.toNat < 128 → Utf8.decode S k = (c.toNat, 1)) := by
        rw [← hS.out]
        have hs : k < (bs l).size := by rw [bs_size, hN.out]; exact hkl
        have e : (bs l)[k]'hs = c := by
          obtain ⟨hk', he⟩ := List.getElem?_eq_some_iff.1 hc
          exact he
        exact ⟨hs, fun h => by rw [decode_ascii (bs l) k hs (by rw [e]; exact h), e]⟩
      have kc := at_byte l k c hc
      rw [hS.out] at kc
      have P := HF.out.is c
      have hh := HF.out.high c
      obtain ⟨x, hx⟩ : ∃ x, Hid (c.toNat = x) := ⟨_, rfl⟩
      obtain ⟨rn, hrn⟩ : ∃ x, Hid ((Utf8.decode S k).1 = x) := ⟨_, rfl⟩
      obtain ⟨d, hd⟩ : ∃ x, Hid ((Utf8.decode S k).2 = x) := ⟨_, rfl⟩
      have hnx : ∀ ty, (Instr.next (.pointer (some ⟨w.heap.size, 0, none⟩)) true ty).run Tryd.prog wo = .ok (.tuple #[.bool true, .int .i64 (k : Int), .int .i32 (rn : Int)]) (wo.iterAt w.heap.size S (k + d)) := fun ty => by
        rw [Lib.run_next_any_at wo w.heap.size S k ty HI.out r0, hrn.out, hd.out]
      have HI2 := Lib.hid (Lib.iterAt_heap wo w.heap.size S k (k + d) HI.out)
      have BX := Lib.hid (Lib.below_iterAt B.out (k := w.heap.size) (Nat.le_refl _) S (k + d))
      obtain ⟨w2, hw2⟩ : ∃ v, Hid (v = wo.iterAt w.heap.size S (k + d)) := ⟨_, rfl⟩
      rw [← hw2.out] at hnx HI2 BX
      have HK := Lib.hid hkl
      have i0 : (0 : Int) ≤ (k : Int) := by omega
      cases hpc : isAl c
      · have W := Lib.hid (show wh isAl l = k from wh_eq HA.out (by rw [hc]; exact hpc))
        rw [hpc] at P
        rw [hx.out] at P kc
        clear hc r0 r1 hk hkl hw2 HI hh hrn hd hpc hx
        go_wp2_with (go_at_call 78; (with_reducible refine (P _).mono ?_); rintro e7 w7 ⟨rfl, rfl⟩; clear P)
        go_ret
        exact ⟨by first | (rw [W.out]; done) | (rw [W.out]; rfl), BX.out⟩
      · have hc128 : c.toNat < 128 := by
          rcases Nat.lt_or_ge c.toNat 128 with h | h
          · exact h
          · rw [hh h] at hpc; cases hpc
        have hd1 : d = 1 := by rw [← hd.out, r1 hc128]
        subst hd1
        have HA2 : Hid (∀ i, i < k + 1 → (l[i]?).any isAl = true) := fun i hi => by
          rcases Nat.lt_or_ge i k with h | h
          · exact HA.out i h
          · have : i = k := by omega
            subst this; rw [hc]; exact hpc
        rw [hpc] at P
        rw [hx.out] at P kc
        have HI' := HI
        clear hc r0 r1 hk hkl hw2 HI hh hrn hpc hx hd hc128
        go_wp2_with (go_at_call 78; (with_reducible refine (P _).mono ?_); rintro e7 w7 ⟨rfl, rfl⟩; clear P)
        refine ⟨⟨k + 1, HA2, HK.out, HI2, BX⟩, ?_⟩
        show N - World.iterPos _ _ < N - wo.iterPos _
        rw [iterPos_of HI2.out, iterPos_of HI'.out]; have := HK.out; omega
    · have hkN : k = N := by omega
      subst hkN
      have W := Lib.hid (show wh isAl l = k from wh_eq HA.out (by rw [List.getElem?_eq_none (by rw [hN.out]; exact Nat.le_refl _)]; rfl))
      have hnx : ∀ ty, (Instr.next (.pointer (some ⟨w.heap.size, 0, none⟩)) true ty).run Tryd.prog wo = .ok (.tuple #[.bool false]) wo := fun ty => Lib.run_next_end_at wo w.heap.size S k ty HI.out (by rw [hz]; exact Nat.lt_irrefl _)
      clear hk hkl HI
      go_wp2_with fail
      go_ret
      exact ⟨by first | (rw [W.out]; done) | (rw [W.out]; rfl), B.out⟩
theorem named_is {w : World} (l : List UInt8) : Calls Tryd.prog 42 #[.string (bs l)] w fun e w' => e = .returned (.int .i64 (wh isAl l : Int)) ∧ Below w.heap.size w w' := by
  have W := while_al (w := w) l
  obtain ⟨S, hS⟩ : ∃ S, Hid (bs l = S) := ⟨_, rfl⟩
  rw [hS.out] at W ⊢
  obtain ⟨x, hx⟩ : ∃ x : Int, Hid ((wh isAl l : Int) = x) := ⟨_, rfl⟩
  rw [hx.out] at W ⊢
  clear hS hx
  go_enter Tryd.func42, Tryd.ntmps42
  go_wp2_with (go_at_call 77; (with_reducible refine W.mono ?_); rintro e1 w1 ⟨rfl, b1⟩; have B1 := Lib.hid b1; clear b1 W)
  go_ret
  exact ⟨rfl, B1.out⟩
theorem slice_from (l : List UInt8) (k : Nat) (hk : k ≤ l.length) (w : World) : (Instr.slice 9 (.string (bs l)) (some (.int .i64 (k : Int))) none none).run Tryd.prog w = .ok (.string (bs (l.drop k))) w := by
  rw [run_slice_string_l (P := Tryd.prog) w (t := 9) (s := bs l) (ht := Tryd.underlying9) (kl := .i64) (l := (k : Int)) (h0 := by omega) (h1 := by rw [bs_size]; omega)]
  rw [slice_lo, bs_size, Int.toNat_natCast, List.take_of_length_le (by rw [List.length_drop]; omega)]
theorem slice_to (l : List UInt8) (k : Nat) (hk : k ≤ l.length) (w : World) : (Instr.slice 9 (.string (bs l)) none (some (.int .i64 (k : Int))) none).run Tryd.prog w = .ok (.string (bs (l.take k))) w := by
  rw [run_slice_string_h (P := Tryd.prog) w (t := 9) (s := bs l) (ht := Tryd.underlying9) (kh := .i64) (h := (k : Int)) (h0 := by omega) (h2 := by rw [bs_size]; omega)]
  rw [slice_lo]; rfl
theorem slice_both (l : List UInt8) (i k : Nat) (hi : i ≤ k) (hk : k ≤ l.length) (w : World) : (Instr.slice 9 (.string (bs l)) (some (.int .i64 (i : Int))) (some (.int .i64 (k : Int))) none).run Tryd.prog w = .ok (.string (bs ((l.drop i).take (k - i)))) w := by
  rw [run_slice_string (P := Tryd.prog) w 9 (bs l) .i64 .i64 (i : Int) (k : Int) Tryd.underlying9 (by omega) (by omega) (by rw [bs_size]; omega)]
  rw [slice_lo, Int.toNat_natCast, Int.toNat_natCast]
theorem wrap_add (a b : Nat) (h : a + b ≤ 1000000) : IntKind.i64.wrap ((a : Int) + (b : Int)) = ((a + b : Nat) : Int) := by
  rw [IntWalk.i64_left, IntWalk.wrap64_in _ (by omega)]; push_cast; rfl
theorem wrap_one (a : Nat) (h : a ≤ 1000000) : IntKind.i64.wrap ((a : Int) + 1) = (a : Int) + 1 := by
  rw [IntWalk.i64_left, IntWalk.wrap64_in _ (by omega)]
set_option maxRecDepth 100000 in
set_option maxHeartbeats 1000000 in
theorem number_is {w : World} (l : List UInt8) (hl : l.length ≤ 1000) : Calls Tryd.prog 76 #[.string (bs l)] w fun e w' => e = .returned (.int .i64 (numL l : Int)) ∧ Below w.heap.size w w' := by
  have hz : (bs l).size = l.length := bs_size l
  have W := while_dg (w := w) l
  have hn := wh_le isDg l
  have E : numL l = if ptB l (wh isDg l) = true then wh isDg l + 1 + wh isDg (l.drop (wh isDg l + 1)) else wh isDg l := rfl
  have W2 := fun w => while_dg (w := w) (l.drop (wh isDg l + 1))
  have hn2 := wh_le isDg (l.drop (wh isDg l + 1))
  rw [List.length_drop] at hn2
  have kw := wrap_one (wh isDg l) (by omega)
  have kw2 := wrap_add (wh isDg l) (1 + wh isDg (l.drop (wh isDg l + 1))) (by omega)
  have kw3 := wrap_add 1 (wh isDg (l.drop (wh isDg l + 1))) (by omega)
  have SL : (h : wh isDg l + 1 ≤ l.length) → ∀ w, (Instr.slice 9 (.string (bs l)) (some (.int .i64 ((wh isDg l : Int) + 1))) none none).run Tryd.prog w = .ok (.string (bs (l.drop (wh isDg l + 1)))) w := fun h => slice_from l (wh isDg l + 1) h
  have KC := fun c (h : l[wh isDg l]? = some c) => at_byte l (wh isDg l) c h
  have KD : (c : UInt8) → (h : l[wh isDg l + 1]? = some c) → ∀ w, (Instr.index 9 (.string (bs l)) (.int .i64 ((wh isDg l : Int) + 1))).run Tryd.prog w = .ok (.int .u8 (c.toNat : Int)) w := fun c h => at_byte l (wh isDg l + 1) c h
  have PT : ptB l (wh isDg l) = (decide (wh isDg l + 1 < l.length) && (l[wh isDg l]? == some 46) && (l[wh isDg l + 1]?).any isDg) := rfl
  obtain ⟨n, hnn⟩ : ∃ n, Hid (wh isDg l = n) := ⟨_, rfl⟩
  rw [hnn.out] at W hn E W2 hn2 kw kw2 kw3 SL KC KD PT
  obtain ⟨m, hm⟩ : ∃ q, Hid (wh isDg (l.drop (n + 1)) = q) := ⟨_, rfl⟩
  rw [hm.out] at E W2 hn2 kw2 kw3
  obtain ⟨N, hN⟩ : ∃ N, Hid (l.length = N) := ⟨_, rfl⟩
  rw [hN.out] at hz hl hn hn2 PT SL
  obtain ⟨S, hS⟩ : ∃ S, Hid (bs l = S) := ⟨_, rfl⟩
  rw [hS.out] at hz W SL KC KD ⊢
  obtain ⟨T, hT⟩ : ∃ S, Hid (bs (l.drop (n + 1)) = S) := ⟨_, rfl⟩
  rw [hT.out] at W2 SL
  by_cases h1 : n + 1 < N
  · have d1 : decide ((n : Int) + 1 < (N : Int)) = true := by simp; omega
    obtain ⟨c, hc⟩ : ∃ c, l[n]? = some c := ⟨_, List.getElem?_eq_getElem (by rw [hN.out]; omega)⟩
    obtain ⟨d, hd⟩ : ∃ c, l[n + 1]? = some c := ⟨_, List.getElem?_eq_getElem (by rw [hN.out]; omega)⟩
    have kc := KC c hc
    have kd := KD d hd
    have i0 : (0 : Int) ≤ (n : Int) := by omega
    by_cases h2 : c = 46
    · subst h2
      have D := fun w => digit_is d w
      cases h3 : isDg d
      · rw [h3] at D
        have E2 := Lib.hid (show numL l = n by rw [E, if_neg (by rw [PT, hd]; simp [h3])])
        obtain ⟨y, hy⟩ : ∃ y, Hid (d.toNat = y) := ⟨_, rfl⟩
        rw [hy.out] at D kd
        have i1 : (0 : Int) ≤ (n : Int) + 1 := by omega
        clear E PT KC KD SL W2 kw2 kw3 hn2 hn hm hnn hT hS hN hc hd hy h1 h3 hl
        go_enter Tryd.func76, Tryd.ntmps76
        go_wp2_with (first | (go_at_call 77; (with_reducible refine W.mono ?_); rintro e1 w1 ⟨rfl, b1⟩; have B1 := Lib.hid b1; clear b1 W) | (go_at_call 75; (with_reducible refine (D _).mono ?_); rintro e2 w2 ⟨rfl, rfl⟩; clear D))
        go_ret
        exact ⟨by rw [E2.out]; rfl, B1.out⟩
      · rw [h3] at D
        have E2 := Lib.hid (show numL l = n + 1 + m by rw [E, if_pos (by rw [PT, hd]; simp [h3, h1, hc])])
        have E3 := Lib.hid (show n + 1 + m = n + (1 + m) by omega)
        have sl := SL (by omega)
        obtain ⟨y, hy⟩ : ∃ y, Hid (d.toNat = y) := ⟨_, rfl⟩
        rw [hy.out] at D kd
        have i1 : (0 : Int) ≤ (n : Int) + 1 := by omega
        have kw3' : IntKind.i64.wrap (1 + (m : Int)) = ((1 + m : Nat) : Int) := kw3
        obtain ⟨q, hq⟩ : ∃ q : Nat, Hid (1 + m = q) := ⟨_, rfl⟩
        rw [hq.out] at kw2 kw3' E3
        clear E PT KC KD SL hn2 hn hm hnn hT hS hN hc hd hy h1 h3 hl kw3 hq
        go_enter Tryd.func76, Tryd.ntmps76
        go_wp2_with (first | (go_at_call 77; (with_reducible refine W.mono ?_); rintro e1 w1 ⟨rfl, b1⟩; have B1 := Lib.hid b1; clear b1 W) | (go_at_call 75; (with_reducible refine (D _).mono ?_); rintro e2 w2 ⟨rfl, rfl⟩; clear D) | (go_at_call 77; (with_reducible refine (W2 _).mono ?_); rintro e3 w3 ⟨rfl, b3⟩; have B3 := Lib.hid (bt B1.out b3); clear b3 W2))
        go_ret
        exact ⟨by rw [E2.out, E3.out]; rfl, B3.out⟩
    · have E2 := Lib.hid (show numL l = n by rw [E, if_neg (by rw [PT, hc]; simp [h2])])
      have h2n : ¬ c.toNat = 46 := fun e => h2 (UInt8.toNat.inj e)
      obtain ⟨y, hy⟩ : ∃ y, Hid (c.toNat = y) := ⟨_, rfl⟩
      rw [hy.out] at kc h2n
      have e1 : ((y : Int) == 46) = false := by simp; omega
      have e2 : decide ((y : Int) = 46) = false := by simp; omega
      have e3 : decide (y = 46) = false := by simpa using h2n
      clear E PT KC KD kd SL W2 kw2 kw3 hn2 hn hm hnn hT hS hN hc hd hy h1 h2 h2n hl
      go_enter Tryd.func76, Tryd.ntmps76
      go_wp2_with (first | (go_at_call 77; (with_reducible refine W.mono ?_); rintro e1 w1 ⟨rfl, b1⟩; have B1 := Lib.hid b1; clear b1 W))
      go_ret
      exact ⟨by rw [E2.out]; rfl, B1.out⟩
  · have d1 : decide ((n : Int) + 1 < (N : Int)) = false := by simp; omega
    have E2 := Lib.hid (show numL l = n by rw [E, if_neg (by rw [PT]; simp [h1])])
    clear E PT KC KD SL W2 kw2 kw3 hn2 hn hm hnn hT hS hN h1 hl
    go_enter Tryd.func76, Tryd.ntmps76
    go_wp2_with (first | (go_at_call 77; (with_reducible refine W.mono ?_); rintro e1 w1 ⟨rfl, b1⟩; have B1 := Lib.hid b1; clear b1 W))
    go_ret
    exact ⟨by rw [E2.out]; rfl, B1.out⟩
end Go.Proofs.YtfonpegkaajnkaaDoor.Lx
