/-
  THE WALKS of package months and of the reference's months.
-/
import Derived.Test.YtgolflindjanhaaCivilRDate
import Derived.Test.YtgolflindjanhaaMonthsPlain
namespace Go.Proofs.Ytgolflindjanhaa
open Go.RowKit

set_option maxHeartbeats 1000000 in
theorem add_none (a n : Int) (w : World) (h : ¬ (1 ≤ a ∧ a ≤ 3652059)) :
    Calls Try.prog 21 #[.int .i64 a, .int .i64 n] w fun e w' => e = .returned (.tuple #[.int .i64 0, .int .i64 15]) ∧ Below w.heap.size w w' := by
  go_enter Try.func21, Try.ntmps21
  go_wp2_with (first | (go_at_call 16; refine (date_no _ _ h).mono ?_; rintro e w1 ⟨rfl, b1⟩) | go_in)
  go_ret2
  exact ⟨rfl, b1⟩

set_option maxHeartbeats 1000000 in
theorem add_in (a n y m d : Int) (w : World) (h : Cal.IsDate a y m d) (hj : Cal.InM (Cal.mk y m + n)) :
    Calls Try.prog 21 #[.int .i64 a, .int .i64 n] w fun e w' => e = .returned (.tuple #[.int .i64 (Cal.mv (Cal.mk y m + n) d), .int .i64 0]) ∧ Below w.heap.size w w' := by
  have hb := Cal.isDate_bd _ _ _ _ h
  have HD : Hid (Cal.IsDate a y m d) := h
  have HJ : Hid (Cal.InM (Cal.mk y m + n)) := hj
  obtain ⟨⟨h1, h2, h3, h4, h5, h6⟩, _⟩ := h
  obtain ⟨j1, j2⟩ := hj
  have l1 := Cal.len_bd y m
  unfold Cal.mk at j1 j2
  clear h6
  go_enter Try.func21, Try.ntmps21
  go_wp2_with (first | (go_at_call 16; refine (date_yes _ _ hb.1 hb.2).mono ?_; rintro e w1 ⟨y', m', d', hd', rfl, b1⟩; obtain ⟨e1, e2, e3⟩ := Cal.isDate_uniq _ _ _ _ _ _ _ HD.out hd'; subst e1 e2 e3; clear hd') | (go_at_call 13; refine (length_any _ _ _).mono ?_; rintro e w2 ⟨rfl, b2⟩)  | (go_at_call 34; go_in) | (go_at_call 35; go_in) )
  all_goals
    refine (day_k _ _ _ (Cal.mv (Cal.mk y m + n) d) _ ?v ?e).mono ?_
    case v => exact (Cal.on_k y m d n _ HJ.out h5 (by unfold Cal.mn; split <;> first | rfl | omega)).1
    case e => exact (Cal.on_k y m d n _ HJ.out h5 (by unfold Cal.mn; split <;> first | rfl | omega)).2
    rintro e w3 ⟨rfl, b3⟩
    go_wp2_with fail
    go_ret2
    exact ⟨rfl, bt b1 (bt b2 b3)⟩

set_option maxHeartbeats 1000000 in
theorem add_out (a n y m d : Int) (w : World) (h : Cal.IsDate a y m d) (hj : ¬ Cal.InM (Cal.mk y m + n)) (wf : -9223372036854775808 ≤ n ∧ n ≤ 9223372036854775807) :
    Calls Try.prog 21 #[.int .i64 a, .int .i64 n] w fun e w' => e = .returned (.tuple #[.int .i64 0, .int .i64 15]) ∧ Below w.heap.size w w' := by
  have hb := Cal.isDate_bd _ _ _ _ h
  have HD : Hid (Cal.IsDate a y m d) := h
  obtain ⟨⟨h1, h2, h3, h4, h5, h6⟩, _⟩ := h
  unfold Cal.InM Cal.mk at hj
  clear h6
  by_cases c : n < -(y * 12 + m - 13)
  · clear hj
    go_enter Try.func21, Try.ntmps21
    go_wp2_with (first | (go_at_call 16; refine (date_yes _ _ hb.1 hb.2).mono ?_; rintro e w1 ⟨y', m', d', hd', rfl, b1⟩; obtain ⟨e1, e2, e3⟩ := Cal.isDate_uniq _ _ _ _ _ _ _ HD.out hd'; subst e1 e2 e3; clear hd') | (go_at_call 34; go_in))
    go_ret2
    exact ⟨rfl, b1⟩
  · have c2 : ¬ n < 119988 - (y * 12 + m - 13) := by omega
    clear hj
    go_enter Try.func21, Try.ntmps21
    go_wp2_with (first | (go_at_call 16; refine (date_yes _ _ hb.1 hb.2).mono ?_; rintro e w1 ⟨y', m', d', hd', rfl, b1⟩; obtain ⟨e1, e2, e3⟩ := Cal.isDate_uniq _ _ _ _ _ _ _ HD.out hd'; subst e1 e2 e3; clear hd') | (go_at_call 34; go_in))
    go_ret2
    exact ⟨rfl, b1⟩

set_option maxHeartbeats 1000000 in
theorem begin_none (a : Int) (w : World) (h : ¬ (1 ≤ a ∧ a ≤ 3652059)) :
    Calls Try.prog 23 #[.int .i64 a] w fun e w' => e = .returned (.tuple #[.int .i64 0, .int .i64 15]) ∧ Below w.heap.size w w' := by
  go_enter Try.func23, Try.ntmps23
  go_wp2_with (first | (go_at_call 16; refine (date_no _ _ h).mono ?_; rintro e w1 ⟨rfl, b1⟩) | go_in)
  go_ret2
  exact ⟨rfl, b1⟩
set_option maxHeartbeats 1000000 in
theorem begin_in (a y m d : Int) (w : World) (h : Cal.IsDate a y m d) :
    Calls Try.prog 23 #[.int .i64 a] w fun e w' => e = .returned (.tuple #[.int .i64 (Cal.mst (Cal.mk y m) + 1), .int .i64 0]) ∧ Below w.heap.size w w' := by
  have hb := Cal.isDate_bd _ _ _ _ h
  have HD : Hid (Cal.IsDate a y m d) := h
  obtain ⟨⟨h1, h2, h3, h4, h5, h6⟩, _⟩ := h
  have HJ : Hid (Cal.InM (Cal.mk y m)) := Cal.mk_in y m h1 h2 h3 h4
  have HL : Hid (Cal.len ((y * 12 + m - 13) / 12 + 1) ((y * 12 + m - 13) % 12 + 1) = Cal.mlen (Cal.mk y m)) := Cal.len_mk y m
  have HB : Hid (28 ≤ Cal.mlen (Cal.mk y m) ∧ Cal.mlen (Cal.mk y m) ≤ 31) := Cal.mlen_bd _ HJ.out
  have l1 := Cal.len_bd y m
  clear h6
  go_enter Try.func23, Try.ntmps23
  go_wp2_with (first | (go_at_call 16; refine (date_yes _ _ hb.1 hb.2).mono ?_; rintro e w1 ⟨y', m', d', hd', rfl, b1⟩; obtain ⟨e1, e2, e3⟩ := Cal.isDate_uniq _ _ _ _ _ _ _ HD.out hd'; subst e1 e2 e3; clear hd') | (go_at_call 13; refine (length_any _ _ _).mono ?_; rintro e w2 ⟨rfl, b2⟩)  | (go_at_call 34; go_in) | (go_at_call 36; go_in) )
  have hl := HL.out
  have hbd := HB.out
  refine (day_k _ _ _ (Cal.mst (Cal.mk y m) + 1) _ ?v ?e).mono ?_
  case v => exact (Cal.on_b y m _ HJ.out (by omega) (by omega)).1
  case e => exact (Cal.on_b y m _ HJ.out (by omega) (by omega)).2.trans (by rfl)
  clear hl hbd
  rintro e w3 ⟨rfl, b3⟩
  go_wp2_with fail
  go_ret2
  exact ⟨rfl, bt b1 (bt b2 b3)⟩

set_option maxHeartbeats 1000000 in
theorem end_none (a : Int) (w : World) (h : ¬ (1 ≤ a ∧ a ≤ 3652059)) :
    Calls Try.prog 24 #[.int .i64 a] w fun e w' => e = .returned (.tuple #[.int .i64 0, .int .i64 15]) ∧ Below w.heap.size w w' := by
  go_enter Try.func24, Try.ntmps24
  go_wp2_with (first | (go_at_call 16; refine (date_no _ _ h).mono ?_; rintro e w1 ⟨rfl, b1⟩) | go_in)
  go_ret2
  exact ⟨rfl, b1⟩
set_option maxHeartbeats 1000000 in
theorem end_in (a y m d : Int) (w : World) (h : Cal.IsDate a y m d) :
    Calls Try.prog 24 #[.int .i64 a] w fun e w' => e = .returned (.tuple #[.int .i64 (Cal.mst (Cal.mk y m) + Cal.mlen (Cal.mk y m)), .int .i64 0]) ∧ Below w.heap.size w w' := by
  have hb := Cal.isDate_bd _ _ _ _ h
  have HD : Hid (Cal.IsDate a y m d) := h
  obtain ⟨⟨h1, h2, h3, h4, h5, h6⟩, _⟩ := h
  have HJ : Hid (Cal.InM (Cal.mk y m)) := Cal.mk_in y m h1 h2 h3 h4
  have HL : Hid (Cal.len ((y * 12 + m - 13) / 12 + 1) ((y * 12 + m - 13) % 12 + 1) = Cal.mlen (Cal.mk y m)) := Cal.len_mk y m
  have HB : Hid (28 ≤ Cal.mlen (Cal.mk y m) ∧ Cal.mlen (Cal.mk y m) ≤ 31) := Cal.mlen_bd _ HJ.out
  have l1 := Cal.len_bd y m
  clear h6
  go_enter Try.func24, Try.ntmps24
  go_wp2_with (first | (go_at_call 16; refine (date_yes _ _ hb.1 hb.2).mono ?_; rintro e w1 ⟨y', m', d', hd', rfl, b1⟩; obtain ⟨e1, e2, e3⟩ := Cal.isDate_uniq _ _ _ _ _ _ _ HD.out hd'; subst e1 e2 e3; clear hd') | (go_at_call 13; refine (length_any _ _ _).mono ?_; rintro e w2 ⟨rfl, b2⟩)  | (go_at_call 34; go_in) | (go_at_call 37; go_in) )
  have hl := HL.out
  have hbd := HB.out
  refine (day_k _ _ _ (Cal.mst (Cal.mk y m) + Cal.mlen (Cal.mk y m)) _ ?v ?e).mono ?_
  case v => exact (Cal.on_b y m _ HJ.out (by omega) (by omega)).1
  case e => exact (Cal.on_b y m _ HJ.out (by omega) (by omega)).2.trans (by rw [hl])
  clear hl hbd
  rintro e w3 ⟨rfl, b3⟩
  go_wp2_with fail
  go_ret2
  exact ⟨rfl, bt b1 (bt b2 b3)⟩

/-- what Add and Years hand back -/
def AddPost (a n : Int) (w : World) (e : Ending) (w' : World) : Prop := ∃ x er : Int, Cal.AddIs a n x er ∧ e = .returned (.tuple #[.int .i64 x, .int .i64 er]) ∧ Below w.heap.size w w'
theorem add_any (a n : Int) (w : World) (wf : -9223372036854775808 ≤ n ∧ n ≤ 9223372036854775807) :
    Calls Try.prog 21 #[.int .i64 a, .int .i64 n] w (AddPost a n w) := by
  by_cases h : 1 ≤ a ∧ a ≤ 3652059
  · obtain ⟨y, m, d, hd⟩ := Cal.isDate_ex a h.1 h.2
    by_cases hj : Cal.InM (Cal.mk y m + n)
    · exact (add_in a n y m d w hd hj).mono fun _ _ ⟨e, b⟩ => ⟨_, _, Cal.addIs_in a n y m d hd hj, e, b⟩
    · exact (add_out a n y m d w hd hj wf).mono fun _ _ ⟨e, b⟩ => ⟨_, _, Cal.addIs_out a n y m d hd hj, e, b⟩
  · exact (add_none a n w h).mono fun _ _ ⟨e, b⟩ => ⟨_, _, Cal.addIs_none a n h, e, b⟩
set_option maxHeartbeats 1000000 in
theorem years_any (a n : Int) (w : World) :
    Calls Try.prog 22 #[.int .i64 a, .int .i64 n] w (AddPost a (12 * Cal.clamp n) w) := by
  by_cases c1 : n < -10000
  · have HE : Hid (Cal.clamp n = -10000) := Cal.clamp_lo n c1
    go_enter Try.func22, Try.ntmps22
    go_wp2_with fail
    refine (add_any a (-120000) _ (by omega)).mono ?_
    rintro e w1 ⟨x, er, hx, rfl, b1⟩
    have HX := Lib.hid hx
    clear hx
    go_wp2_with fail
    go_ret2
    exact ⟨x, er, by rw [HE.out]; exact HX.out, rfl, b1⟩
  · by_cases c2 : 10000 < n
    · have HE : Hid (Cal.clamp n = 10000) := Cal.clamp_hi n c2
      go_enter Try.func22, Try.ntmps22
      go_wp2_with fail
      refine (add_any a 120000 _ (by omega)).mono ?_
      rintro e w1 ⟨x, er, hx, rfl, b1⟩
      have HX := Lib.hid hx
      clear hx
      go_wp2_with fail
      go_ret2
      exact ⟨x, er, by rw [HE.out]; exact HX.out, rfl, b1⟩
    · have HE : Hid (Cal.clamp n = n) := Cal.clamp_mid n (by omega) (by omega)
      have l1 : -10000 ≤ n := by omega
      have l2 : n ≤ 10000 := by omega
      go_enter Try.func22, Try.ntmps22
      go_wp2_with fail
      refine (add_any a (12 * n) _ (by omega)).mono ?_
      rintro e w1 ⟨x, er, hx, rfl, b1⟩
      have HX := Lib.hid hx
      clear hx
      go_wp2_with fail
      go_ret2
      exact ⟨x, er, by rw [HE.out]; exact HX.out, rfl, b1⟩
end Go.Proofs.Ytgolflindjanhaa
