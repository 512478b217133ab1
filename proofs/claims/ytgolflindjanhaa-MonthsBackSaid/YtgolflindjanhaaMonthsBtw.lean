/-
  THE WALKS of Between, the program's and the reference's; the statements' known answers of layer 5.
-/
import Derived.Test.YtgolflindjanhaaMonthsRef
namespace Go.Proofs.Ytgolflindjanhaa
open Go.RowKit

/-- what Between hands back of two days -/
def BtwPost (P : Int → Prop) (w : World) (e : Ending) (w' : World) : Prop := ∃ n : Int, P n ∧ e = .returned (.tuple #[.int .i64 n, .int .i64 0]) ∧ Below w.heap.size w w'
def RBtwPost (P : Int → Prop) (w : World) (e : Ending) (w' : World) : Prop := ∃ n : Int, P n ∧ e = .returned (.int .i64 n) ∧ Below w.heap.size w w'

set_option maxHeartbeats 1000000 in
theorem btw_none (a b : Int) (w : World) (h : ¬ ((1 ≤ a ∧ a ≤ 3652059) ∧ (1 ≤ b ∧ b ≤ 3652059))) :
    Calls Try.prog 18 #[.int .i64 a, .int .i64 b] w fun e w' => e = .returned (.tuple #[.int .i64 0, .int .i64 15]) ∧ Below w.heap.size w w' := by
  by_cases ha : 1 ≤ a ∧ a ≤ 3652059
  · have hb : ¬ (1 ≤ b ∧ b ≤ 3652059) := fun k => h ⟨ha, k⟩
    have HA := Lib.hid ha
    have HB := Lib.hid hb
    clear h ha hb
    go_enter Try.func18, Try.ntmps18
    go_wp2_with fail
    refine (date_yes a _ HA.out.1 HA.out.2).mono ?_
    rintro e w1 ⟨y, m, d, hd, rfl, b1⟩
    clear hd
    go_wp2_with fail
    refine (date_no b _ HB.out).mono ?_
    rintro e w2 ⟨rfl, b2⟩
    go_wp2_with fail
    go_ret2
    exact ⟨rfl, bt b1 b2⟩
  · by_cases hb : 1 ≤ b ∧ b ≤ 3652059
    · have HA := Lib.hid ha
      have HB := Lib.hid hb
      clear h ha hb
      go_enter Try.func18, Try.ntmps18
      go_wp2_with fail
      refine (date_no a _ HA.out).mono ?_
      rintro e w1 ⟨rfl, b1⟩
      go_wp2_with fail
      refine (date_yes b _ HB.out.1 HB.out.2).mono ?_
      rintro e w2 ⟨y, m, d, hd, rfl, b2⟩
      clear hd
      go_wp2_with fail
      go_ret2
      exact ⟨rfl, bt b1 b2⟩
    · have HA := Lib.hid ha
      have HB := Lib.hid hb
      clear h ha hb
      go_enter Try.func18, Try.ntmps18
      go_wp2_with fail
      refine (date_no a _ HA.out).mono ?_
      rintro e w1 ⟨rfl, b1⟩
      go_wp2_with fail
      refine (date_no b _ HB.out).mono ?_
      rintro e w2 ⟨rfl, b2⟩
      go_wp2_with fail
      go_ret2
      exact ⟨rfl, bt b1 b2⟩

set_option maxHeartbeats 2000000 in
theorem btw_le (a b : Int) (w : World) (ha : 1 ≤ a ∧ a ≤ 3652059) (hb : 1 ≤ b ∧ b ≤ 3652059) (hab : a ≤ b) :
    Calls Try.prog 18 #[.int .i64 a, .int .i64 b] w (BtwPost (Cal.IsBtw a b) w) := by
  go_enter Try.func18, Try.ntmps18
  go_wp2_with fail
  refine (date_yes a _ ha.1 ha.2).mono ?_
  rintro e w1 ⟨y, m, d, hd, rfl, b1⟩
  have HD := Lib.hid hd
  clear hd
  go_wp2_with fail
  refine (date_yes b _ hb.1 hb.2).mono ?_
  rintro e w2 ⟨z, k, l, hd', rfl, b2⟩
  have HD' := Lib.hid hd'
  clear hd'
  have HB : Hid (Cal.IsBtw a b (if b < Cal.mv (Cal.mk z k) d then Cal.mk z k - Cal.mk y m - 1 else Cal.mk z k - Cal.mk y m)) := Cal.isBtw_of a b y m d z k l HD.out HD'.out hab
  obtain ⟨⟨h1, h2, h3, h4, h5, h6⟩, _⟩ := id HD.out
  obtain ⟨⟨k1, k2, k3, k4, k5, k6⟩, _⟩ := id HD'.out
  clear h6 k6
  have HN : Hid ((z - y) * 12 + k - m = Cal.mk z k - Cal.mk y m) := by show _ = _; unfold Cal.mk; omega
  have HJ : Hid (Cal.InM (Cal.mk y m + ((z - y) * 12 + k - m))) := by
    have i := Cal.mk_in z k k1 k2 k3 k4
    have e : Cal.mk y m + ((z - y) * 12 + k - m) = Cal.mk z k := by unfold Cal.mk; omega
    show Cal.InM _; rw [e]; exact i
  have HV : Hid (Cal.mv (Cal.mk y m + ((z - y) * 12 + k - m)) d = Cal.mv (Cal.mk z k) d) := by
    have e : Cal.mk y m + ((z - y) * 12 + k - m) = Cal.mk z k := by unfold Cal.mk; omega
    show _ = _; rw [e]
  go_wp2_with fail
  refine (add_in a _ y m d _ HD.out HJ.out).mono ?_
  rintro e w3 ⟨rfl, b3⟩
  rw [HV.out]
  by_cases hc : b < Cal.mv (Cal.mk z k) d
  · have HB2 : Hid (Cal.IsBtw a b ((z - y) * 12 + k - m - 1)) := by have q := HB.out; rw [if_pos hc, ← HN.out] at q; exact q
    go_wp2_with fail
    go_ret2
    exact ⟨_, HB2.out, rfl, bt b1 (bt b2 b3)⟩
  · have HB2 : Hid (Cal.IsBtw a b ((z - y) * 12 + k - m)) := by have q := HB.out; rw [if_neg hc, ← HN.out] at q; exact q
    go_wp2_with fail
    go_ret2
    exact ⟨_, HB2.out, rfl, bt b1 (bt b2 b3)⟩

set_option maxHeartbeats 2000000 in
theorem btw_any (a b : Int) (w : World) (ha : 1 ≤ a ∧ a ≤ 3652059) (hb : 1 ≤ b ∧ b ≤ 3652059) :
    Calls Try.prog 18 #[.int .i64 a, .int .i64 b] w (BtwPost (Cal.BtwS a b) w) := by
  by_cases hab : a ≤ b
  · exact (btw_le a b w ha hb hab).mono fun _ _ ⟨n, h, e, bl⟩ => ⟨n, .inl ⟨hab, h⟩, e, bl⟩
  · have hba : b < a := by omega
    go_enter Try.func18, Try.ntmps18
    go_wp2_with fail
    refine (date_yes a _ ha.1 ha.2).mono ?_
    rintro e w1 ⟨y, m, d, hd, rfl, b1⟩
    clear hd
    go_wp2_with fail
    refine (date_yes b _ hb.1 hb.2).mono ?_
    rintro e w2 ⟨z, k, l, hd', rfl, b2⟩
    clear hd'
    go_wp2_with fail
    refine (btw_le b a _ hb ha (by omega)).mono ?_
    rintro e w3 ⟨n, hn, rfl, b3⟩
    have HN := Lib.hid hn
    obtain ⟨n1, n2, _, _⟩ := hn
    go_wp2_with fail
    go_ret2
    exact ⟨-n, .inr ⟨hba, by rw [Int.neg_neg]; exact HN.out⟩, rfl, bt b1 (bt b2 b3)⟩

set_option maxHeartbeats 2000000 in
theorem rbtw_le (a b : Int) (w : World) (ha : 1 ≤ a ∧ a ≤ 3652059) (hb : 1 ≤ b ∧ b ≤ 3652059) (hab : a ≤ b) :
    Calls Try.prog 20 #[.int .i64 a, .int .i64 b] w (RBtwPost (Cal.IsBtw a b) w) := by
  have hba : decide (b < a) = false := by simp; omega
  go_enter Try.func20, Try.ntmps20
  go_wp2_with fail
  refine (rdate_yes a _ ha.1 ha.2).mono ?_
  rintro e w1 ⟨y, m, d, hd, rfl, b1⟩
  have HD := Lib.hid hd
  clear hd
  go_wp2_with fail
  refine (rdate_yes b _ hb.1 hb.2).mono ?_
  rintro e w2 ⟨z, k, l, hd', rfl, b2⟩
  have HD' := Lib.hid hd'
  clear hd'
  obtain ⟨N, HB⟩ : ∃ N, Hid (Cal.IsBtw a b N ∧ N ≤ (z - y) * 12 + k - m) := by
    refine ⟨_, Cal.isBtw_of a b y m d z k l HD.out HD'.out hab, ?_⟩
    have e : (z - y) * 12 + k - m = Cal.mk z k - Cal.mk y m := by unfold Cal.mk; omega
    rw [e]; split <;> omega
  obtain ⟨⟨h1, h2, h3, h4, h5, h6⟩, _⟩ := id HD.out
  obtain ⟨⟨k1, k2, k3, k4, k5, k6⟩, _⟩ := id HD'.out
  obtain ⟨⟨n1, n2, _, _⟩, n3⟩ := id HB.out
  clear h6 k6
  go_wp2_with fail
  go_loopw [13] (fun v wr => ∃ n : Int, N ≤ n ∧ n ≤ 130000 ∧ v = .int .i64 n ∧ Below w.heap.size w wr) (fun v _ => (intOf v).toNat)
  case atStart => exact ⟨_, by omega, by omega, rfl, bt b1 b2⟩
  case round =>
    rename_i wr
    obtain ⟨n, m1, m2, rfl, bn⟩ := hrel
    by_cases hn : 0 < n
    · by_cases hq : N < n
      · go_wp2_with fail
        refine (radd_any a n _ (by omega)).mono ?_
        rintro e w3 ⟨x, ok, hx, rfl, b3⟩
        have HX := Lib.hid hx
        clear hx
        cases ok
        · go_wp2_with fail
          go_roundw
          case rel => exact ⟨n - 1, by omega, by omega, rfl, bt bn b3⟩
          case measure => simp [intOf]; omega
        · have hbx : b < x := (HB.out.1).2.2.2 n x hq (by simpa using HX.out)
          have hd : decide (x ≤ b) = false := by simp; omega
          go_wp2_with fail
          go_roundw
          case rel => exact ⟨n - 1, by omega, by omega, rfl, bt bn b3⟩
          case measure => simp [intOf]; omega
      · obtain rfl : n = N := by omega
        go_wp2_with fail
        refine (radd_any a n _ (by omega)).mono ?_
        rintro e w3 ⟨x, ok, hx, rfl, b3⟩
        have HX : Hid (ok = true ∧ x ≤ b) := by
          obtain ⟨_, _, ⟨x', q1, q2⟩, _⟩ := HB.out.1
          obtain ⟨rfl, q3⟩ := Cal.addIs_uniq _ _ _ _ _ _ hx q1
          refine ⟨?_, q2⟩
          cases ok
          · simp at q3
          · rfl
        clear hx
        obtain ⟨rfl, hxb⟩ := id HX.out
        have hd : decide (x ≤ b) = true := by simpa using hxb
        go_wp2_with fail
        go_ret
        exact ⟨n, HB.out.1, rfl, bt bn b3⟩
    · obtain rfl : N = 0 := by omega
      have hd : decide (0 < n) = false := by simp; omega
      go_wp2_with fail
      go_ret
      exact ⟨0, HB.out.1, rfl, bn⟩

set_option maxHeartbeats 2000000 in
theorem rbtw_any (a b : Int) (w : World) (ha : 1 ≤ a ∧ a ≤ 3652059) (hb : 1 ≤ b ∧ b ≤ 3652059) :
    Calls Try.prog 20 #[.int .i64 a, .int .i64 b] w (RBtwPost (Cal.BtwS a b) w) := by
  by_cases hab : a ≤ b
  · exact (rbtw_le a b w ha hb hab).mono fun _ _ ⟨n, h, e, bl⟩ => ⟨n, .inl ⟨hab, h⟩, e, bl⟩
  · have hba : b < a := by omega
    go_enter Try.func20, Try.ntmps20
    go_wp2_with fail
    refine (rbtw_le b a _ hb ha (by omega)).mono ?_
    rintro e w3 ⟨n, hn, rfl, b3⟩
    have HN := Lib.hid hn
    obtain ⟨n1, n2, _, _⟩ := hn
    go_wp2_with fail
    go_ret
    exact ⟨-n, .inr ⟨hba, by rw [Int.neg_neg]; exact HN.out⟩, rfl, b3⟩
end Go.Proofs.Ytgolflindjanhaa
