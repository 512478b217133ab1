/-
  lexer: sign, walked.
-/
import Derived.Test.YtfonpegkaajnkaaDoorM7
import Derived.LoopN
/-
  lexer: sign, walked.
-/
namespace Go.Proofs.YtfonpegkaajnkaaDoor.Lx
open Go Go.RowKit Dt Tx
set_option linter.unusedSimpArgs false
set_option linter.unusedVariables false
attribute [local go_sem ↓] Go.wp_at_zero Go.wp_at_succ

theorem pre2 (a b : UInt8) (l : List UInt8) : Lib.hasPrefix l [a, b] = (l.take 2 == [a, b]) := by
  unfold Lib.hasPrefix
  match l with
  | [] => rfl
  | [x] => simp [List.isPrefixOf]
  | x :: y :: r =>
    have bc : ∀ a b : UInt8, (a == b) = (b == a) := fun a b => by
      by_cases h : a = b
      · subst h; rfl
      · rw [beq_eq_false_iff_ne.2 h, beq_eq_false_iff_ne.2 (Ne.symm h)]
    simp only [List.isPrefixOf, List.take_succ_cons, List.take_zero]
    rw [bc a x, bc b y]
    simp
theorem ib_low (L : List UInt8) (c : UInt8) : -1 ≤ Lib.indexByte L c := by
  induction L with
  | nil => simp [Lib.indexByte]
  | cons x r ih =>
    unfold Lib.indexByte
    split
    · decide
    · split
      · decide
      · omega
theorem ib_has (L : List UInt8) (c : UInt8) : decide (0 ≤ Lib.indexByte L c) = L.contains c := by
  induction L with
  | nil => simp [Lib.indexByte]
  | cons x r ih =>
    unfold Lib.indexByte
    have h := ib_low r c
    by_cases hx : x = c
    · subst hx; simp
    · have hx' : ¬ c = x := fun e => hx e.symm
      have e1 : (x == c) = false := by simpa using hx
      rw [e1]
      simp only [Bool.false_eq_true, if_false, List.contains_cons]
      have e2 : (c == x) = false := by simpa using hx'
      rw [e2, Bool.false_or, ← ih]
      split
      · rename_i h1
        have : Lib.indexByte r c = -1 := by simpa using h1
        rw [this]
      · rename_i h1
        have : ¬ Lib.indexByte r c = -1 := by simpa using h1
        have h0 : 0 ≤ Lib.indexByte r c := by omega
        rw [decide_eq_true h0, decide_eq_true (by omega)]
set_option maxRecDepth 100000 in
set_option maxHeartbeats 1000000 in
theorem sign_is {w : World} (l : List UInt8) (x : UInt8) (h : l[0]? = some x) : Calls Tryd.prog 74 #[.string (bs l)] w fun e w' => e = .returned (.int .i64 (sgnL l : Int)) ∧ w' = w := by
  have P0 := fun w => Tryd.strings_HasPrefix (bs l) ⟨#[60, 61]⟩ w
  have P1 := fun w => Tryd.strings_HasPrefix (bs l) ⟨#[62, 61]⟩ w
  have P2 := fun w => Tryd.strings_HasPrefix (bs l) ⟨#[60, 62]⟩ w
  have kc : ∀ w, (Instr.index 9 (.string (bs l)) (.int .i64 0)).run Tryd.prog w = .ok (.int .u8 (x.toNat : Int)) w := at_byte l 0 x h
  have I := fun w => Tryd.strings_IndexByte ⟨#[61, 60, 62, 43, 45, 42, 47, 40, 41, 44]⟩ (x.toNat : Int) w
  have E : sgnL l = if twoS l = true then 2 else if (l[0]?).any oneS = true then 1 else 0 := rfl
  have T : twoS l = (l.take 2 == [60, 61] || l.take 2 == [62, 61] || l.take 2 == [60, 62]) := rfl
  rw [bs_list] at P0 P1 P2
  simp only [Int.toNat_natCast] at I
  rw [show (⟨#[60, 61]⟩ : ByteArray).data.toList = [60, 61] from rfl, pre2] at P0
  rw [show (⟨#[62, 61]⟩ : ByteArray).data.toList = [62, 61] from rfl, pre2] at P1
  rw [show (⟨#[60, 62]⟩ : ByteArray).data.toList = [60, 62] from rfl, pre2] at P2
  rw [h] at E
  have ON : oneS x = decide (0 ≤ Lib.indexByte [61, 60, 62, 43, 45, 42, 47, 40, 41, 44] x) := (ib_has _ _).symm
  rw [show (x.toNat.toUInt8) = x from by simp] at I
  obtain ⟨z, hz⟩ : ∃ z, Hid (Lib.indexByte [61, 60, 62, 43, 45, 42, 47, 40, 41, 44] x = z) := ⟨_, rfl⟩
  rw [hz.out] at I ON
  simp only [Option.any_some] at E
  obtain ⟨S, hS⟩ : ∃ S, Hid (bs l = S) := ⟨_, rfl⟩
  rw [hS.out] at P0 P1 P2 kc ⊢
  obtain ⟨y, hy⟩ : ∃ y, Hid (x.toNat = y) := ⟨_, rfl⟩
  rw [hy.out] at kc I
  have j0 : ∀ w, (Instr.index 130 (.agg #[.string ⟨#[60, 61]⟩, .string ⟨#[62, 61]⟩, .string ⟨#[60, 62]⟩]) (.int .i64 0)).run Tryd.prog w = .ok (.string ⟨#[60, 61]⟩) w := fun w => by kernel_rfl
  have j1 : ∀ w, (Instr.index 130 (.agg #[.string ⟨#[60, 61]⟩, .string ⟨#[62, 61]⟩, .string ⟨#[60, 62]⟩]) (.int .i64 1)).run Tryd.prog w = .ok (.string ⟨#[62, 61]⟩) w := fun w => by kernel_rfl
  have j2 : ∀ w, (Instr.index 130 (.agg #[.string ⟨#[60, 61]⟩, .string ⟨#[62, 61]⟩, .string ⟨#[60, 62]⟩]) (.int .i64 2)).run Tryd.prog w = .ok (.string ⟨#[60, 62]⟩) w := fun w => by kernel_rfl
  have hon : oneS x = true ∧ decide ((0 : Int) ≤ z) = true ∨ oneS x = false ∧ decide ((0 : Int) ≤ z) = false := by
    rw [ON]; cases decide ((0 : Int) ≤ z) <;> simp
  obtain ⟨b0, hb0⟩ : ∃ b, Hid ((l.take 2 == [60, 61]) = b) := ⟨_, rfl⟩
  obtain ⟨b1, hb1⟩ : ∃ b, Hid ((l.take 2 == [62, 61]) = b) := ⟨_, rfl⟩
  obtain ⟨b2, hb2⟩ : ∃ b, Hid ((l.take 2 == [60, 62]) = b) := ⟨_, rfl⟩
  rw [hb0.out] at P0 T
  rw [hb1.out] at P1 T
  rw [hb2.out] at P2 T
  rw [T] at E
  have arms : True := trivial
  clear h T ON hz hS hy hb0 hb1 hb2
  cases b0
  · cases b1
    · cases b2
      · rcases hon with ⟨o1, o2⟩ | ⟨o1, o2⟩
        all_goals
          have E2 : sgnL l = if oneS x = true then 1 else 0 := E
          rw [o1] at E2
          have E2 := Lib.hid E2
          clear E o1
          go_enter Tryd.func74, Tryd.ntmps74
          go_wp2_with fail
          refine wp_loop_rounds 4 ?_
          rw [rounds_succ]
          go_wp2_with (go_at_call 107; (with_reducible refine (P0 _).mono ?_); rintro e1 w1 ⟨rfl, rfl⟩; clear P0)
          rw [rounds_succ]
          go_wp2_with (go_at_call 107; (with_reducible refine (P1 _).mono ?_); rintro e1 w1 ⟨rfl, rfl⟩; clear P1)
          rw [rounds_succ]
          go_wp2_with (go_at_call 107; (with_reducible refine (P2 _).mono ?_); rintro e1 w1 ⟨rfl, rfl⟩; clear P2)
          rw [rounds_succ]
          go_wp2_with (go_at_call 108; (with_reducible refine (I _).mono ?_); rintro e1 w1 ⟨rfl, rfl⟩; clear I)
          go_ret
          exact ⟨by rw [E2.out]; rfl, rfl⟩
      · skip
        have E2 := Lib.hid E
        clear E hon
        go_enter Tryd.func74, Tryd.ntmps74
        go_wp2_with fail
        refine wp_loop_rounds 4 ?_
        rw [rounds_succ]
        go_wp2_with (go_at_call 107; (with_reducible refine (P0 _).mono ?_); rintro e1 w1 ⟨rfl, rfl⟩; clear P0)
        rw [rounds_succ]
        go_wp2_with (go_at_call 107; (with_reducible refine (P1 _).mono ?_); rintro e1 w1 ⟨rfl, rfl⟩; clear P1)
        rw [rounds_succ]
        go_wp2_with (go_at_call 107; (with_reducible refine (P2 _).mono ?_); rintro e1 w1 ⟨rfl, rfl⟩; clear P2)
        go_ret
        exact ⟨by rw [E2.out]; rfl, rfl⟩
    · skip
      have E2 := Lib.hid E
      clear E hon
      go_enter Tryd.func74, Tryd.ntmps74
      go_wp2_with fail
      refine wp_loop_rounds 4 ?_
      rw [rounds_succ]
      go_wp2_with (go_at_call 107; (with_reducible refine (P0 _).mono ?_); rintro e1 w1 ⟨rfl, rfl⟩; clear P0)
      rw [rounds_succ]
      go_wp2_with (go_at_call 107; (with_reducible refine (P1 _).mono ?_); rintro e1 w1 ⟨rfl, rfl⟩; clear P1)
      go_ret
      exact ⟨by rw [E2.out]; rfl, rfl⟩
  · skip
    have E2 := Lib.hid E
    clear E hon
    go_enter Tryd.func74, Tryd.ntmps74
    go_wp2_with fail
    refine wp_loop_rounds 4 ?_
    rw [rounds_succ]
    go_wp2_with (go_at_call 107; (with_reducible refine (P0 _).mono ?_); rintro e1 w1 ⟨rfl, rfl⟩; clear P0)
    go_ret
    exact ⟨by rw [E2.out]; rfl, rfl⟩
end Go.Proofs.YtfonpegkaajnkaaDoor.Lx
