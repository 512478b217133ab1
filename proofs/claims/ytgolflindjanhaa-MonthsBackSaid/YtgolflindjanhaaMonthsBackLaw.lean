/-
  THE WALK of MonthsBack.
-/
import Derived.Test.YtgolflindjanhaaMonthsLaws
namespace Go.Proofs.Ytgolflindjanhaa
open Go.RowKit

set_option maxHeartbeats 1000000 in
theorem monthsBack_walk (a n : Int) (_ : (Lit.int .i64 a).wf = true) (wf : (Lit.int .i64 n).wf = true) (w : World) :
    Calls Try.prog 8 #[.int .i64 a, .int .i64 n] w fun e w' => e = .returned (.bool true) ∧ Below w.heap.size w w' := by
  have HB := Lib.hid (bounds_i64 wf)
  clear wf
  go_enter Try.func8, Try.ntmps8
  go_wp2_with fail
  refine (add_any a n _ HB.out).mono ?_
  rintro e w1 ⟨x, er, hx, rfl, b1⟩
  have hx0 := hx
  rcases hx0 with ⟨y, m, d, hd, q1, q2, rfl⟩ | ⟨rfl, rfl, _⟩
  · clear q1 q2
    obtain ⟨z, o, l, M, B, hz, hq, hl, hM, hL, hxM, l1, l2, hI, hBB, hBa, f1, f2, f3, f4, f5, f6, f7, f8, f9, f10, f11, f12, f13⟩ := Cal.back_facts a n x y m d hd hx
    have HD := Lib.hid hd
    have HZ := Lib.hid hz
    have HI := Lib.hid hI
    have HBB := Lib.hid hBB
    have HM := Lib.hid hM
    have HL := Lib.hid hL
    have HQ : (z * 12 + o != y * 12 + m + n) = false := by simpa using hq
    have lb := Cal.len_bd z o
    have ab := Cal.isDate_bd _ _ _ _ hd
    have xb := Cal.isDate_bd _ _ _ _ hz
    have X1 : M + 1 ≤ x := by omega
    have X2 : x ≤ M + Cal.len z o := by omega
    have HXM := Lib.hid hxM
    have HBA := Lib.hid hBa
    have HHL := Lib.hid hl
    clear hx hd hz hq hI hBB hM hL hxM hBa hl l1 l2
    go_wp2_with fail
    refine (rdate_yes a _ ab.1 ab.2).mono ?_
    rintro e w2 ⟨y', m', d', hd', rfl, b2⟩
    obtain ⟨e1, e2, e3⟩ := Cal.isDate_uniq _ _ _ _ _ _ _ HD.out hd'
    subst e1 e2 e3
    clear hd'
    go_wp2_with fail
    refine (rdate_yes x _ xb.1 xb.2).mono ?_
    rintro e w3 ⟨z', o', l', hd', rfl, b3⟩
    obtain ⟨e1, e2, e3⟩ := Cal.isDate_uniq _ _ _ _ _ _ _ HZ.out hd'
    subst e1 e2 e3
    clear hd'
    have E1 : ((M + Cal.len z o - (M + 1) + 1 == Cal.len z o)) = true := by rw [beq_iff_eq]; omega
    by_cases h28 : 28 < d
    · by_cases hd : d ≤ Cal.len z o
      · have hl2 : l = d := by have q := HHL.out; unfold Cal.mn at q; rw [if_pos hd] at q; exact q
        subst hl2
        go_wp2_with (go_at_call 14; refine (rlength_any _ _ _).mono ?_; rintro e w4 ⟨rfl, rfl⟩)
        refine (begin_in x z o _ _ HZ.out).mono ?_
        rintro e w5 ⟨rfl, b5⟩
        rw [HM.out]
        go_wp2_with fail
        refine (end_in x z o _ _ HZ.out).mono ?_
        rintro e w6 ⟨rfl, b6⟩
        rw [HM.out, HL.out]
        go_wp2_with fail
        refine (add_k x (-n) z o _ _ _ HZ.out HI.out HBB.out).mono ?_
        rintro e w7 ⟨rfl, b7⟩
        go_wp2_with (first | (go_at_call 14; refine (rlength_any _ _ _).mono ?_; rintro e w8 ⟨rfl, rfl⟩) | (go_at_call 19; refine (known5 _).mono ?_; rintro e w9 ⟨rfl, b9⟩))
        go_ret
        exact ⟨rfl, bt b1 (bt b2 (bt b3 (bt b5 (bt b6 (bt b7 b9)))))⟩
      · have hl2 : l = Cal.len z o := by have q := HHL.out; unfold Cal.mn at q; rw [if_neg hd] at q; exact q
        subst hl2
        go_wp2_with (go_at_call 14; refine (rlength_any _ _ _).mono ?_; rintro e w4 ⟨rfl, rfl⟩)
        refine (begin_in x z o _ _ HZ.out).mono ?_
        rintro e w5 ⟨rfl, b5⟩
        rw [HM.out]
        go_wp2_with fail
        refine (end_in x z o _ _ HZ.out).mono ?_
        rintro e w6 ⟨rfl, b6⟩
        rw [HM.out, HL.out]
        go_wp2_with fail
        refine (add_k x (-n) z o _ _ _ HZ.out HI.out HBB.out).mono ?_
        rintro e w7 ⟨rfl, b7⟩
        go_wp2_with (first | (go_at_call 14; refine (rlength_any _ _ _).mono ?_; rintro e w8 ⟨rfl, rfl⟩) | (go_at_call 19; refine (known5 _).mono ?_; rintro e w9 ⟨rfl, b9⟩))
        go_ret
        exact ⟨rfl, bt b1 (bt b2 (bt b3 (bt b5 (bt b6 (bt b7 b9)))))⟩
    · have hBA : B = a := HBA.out (by omega)
      subst hBA
      by_cases hd : d ≤ Cal.len z o
      · have hl2 : l = d := by have q := HHL.out; unfold Cal.mn at q; rw [if_pos hd] at q; exact q
        subst hl2
        go_wp2_with (go_at_call 14; refine (rlength_any _ _ _).mono ?_; rintro e w4 ⟨rfl, rfl⟩)
        refine (begin_in x z o _ _ HZ.out).mono ?_
        rintro e w5 ⟨rfl, b5⟩
        rw [HM.out]
        go_wp2_with fail
        refine (end_in x z o _ _ HZ.out).mono ?_
        rintro e w6 ⟨rfl, b6⟩
        rw [HM.out, HL.out]
        go_wp2_with fail
        refine (add_k x (-n) z o _ _ _ HZ.out HI.out HBB.out).mono ?_
        rintro e w7 ⟨rfl, b7⟩
        go_wp2_with (first | (go_at_call 14; refine (rlength_any _ _ _).mono ?_; rintro e w8 ⟨rfl, rfl⟩) | (go_at_call 19; refine (known5 _).mono ?_; rintro e w9 ⟨rfl, b9⟩))
        go_ret
        exact ⟨rfl, bt b1 (bt b2 (bt b3 (bt b5 (bt b6 (bt b7 b9)))))⟩
      · have hl2 : l = Cal.len z o := by have q := HHL.out; unfold Cal.mn at q; rw [if_neg hd] at q; exact q
        subst hl2
        go_wp2_with (go_at_call 14; refine (rlength_any _ _ _).mono ?_; rintro e w4 ⟨rfl, rfl⟩)
        refine (begin_in x z o _ _ HZ.out).mono ?_
        rintro e w5 ⟨rfl, b5⟩
        rw [HM.out]
        go_wp2_with fail
        refine (end_in x z o _ _ HZ.out).mono ?_
        rintro e w6 ⟨rfl, b6⟩
        rw [HM.out, HL.out]
        go_wp2_with fail
        refine (add_k x (-n) z o _ _ _ HZ.out HI.out HBB.out).mono ?_
        rintro e w7 ⟨rfl, b7⟩
        go_wp2_with (first | (go_at_call 14; refine (rlength_any _ _ _).mono ?_; rintro e w8 ⟨rfl, rfl⟩) | (go_at_call 19; refine (known5 _).mono ?_; rintro e w9 ⟨rfl, b9⟩))
        go_ret
        exact ⟨rfl, bt b1 (bt b2 (bt b3 (bt b5 (bt b6 (bt b7 b9)))))⟩
  · go_wp2_with (go_at_call 19; refine (known5 _).mono ?_; rintro e w2 ⟨rfl, b2⟩)
    go_ret
    exact ⟨rfl, bt b1 b2⟩
end Go.Proofs.Ytgolflindjanhaa
