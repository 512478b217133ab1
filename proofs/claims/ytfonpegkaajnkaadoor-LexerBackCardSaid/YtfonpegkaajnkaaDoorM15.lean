/-
  THE WALK of the reference's plus; THE WALKS of the reference's minus and against.
-/
import Derived.Test.YtfonpegkaajnkaaDoorM13
import Derived.Test.YtfonpegkaajnkaaDoorM14
import Derived.Deep.QuietTactic
import Derived.BigQuiet
/-
  THE WALK of the reference's plus.
-/
namespace Go.Proofs.YtfonpegkaajnkaaDoor
open Go.RowKit

/-- a row that came in, in a later world: its value's form, and its thousand at i -/
theorem rowW_gd {w : World} {a : Option Addr} {n cap : Nat} {ds : List Nat} (h : RowW w (.slice a n cap) ds) (i : Nat) (hi : i < ds.length) : ∃ g, a = some ⟨g, 0, none⟩ ∧ w.cell? ⟨g, i, none⟩ = some (.int .i64 ((Nm.gd ds i : Nat) : Int)) := by
  obtain ⟨g, rfl, _⟩ := rowW_some h (by omega)
  obtain ⟨d, h1, h2⟩ := rowW_at' h i hi
  exact ⟨g, rfl, by rw [Nm.gd_some ds i d h1]; exact h2⟩

def PlusPost (xs ys cs : List Nat) : Prop := Nm.Digs cs ∧ Nm.val cs = Nm.val xs + Nm.val ys ∧ cs.length ≤ max xs.length ys.length + 1 ∧ (Nm.Canon xs → Nm.Canon ys → Nm.Canon cs)

theorem plus_rel {xs ys es : List Nat} {j k B : Nat} {w1 : World} {v' : Value} {s : Nat} (hi : Nm.PlusInv xs ys j k es) (hown : RowB w1 B v' (es ++ [s % 1000])) (da : Nm.Digs xs) (db : Nm.Digs ys)
    (hgo : j < xs.length ∨ j < ys.length ∨ 0 < k) (hs : s = k + Nm.gd xs j + Nm.gd ys j) :
    ∃ a' cap', v' = .slice a' (j + 1) cap' ∧ Hid (RowB w1 B v' (es ++ [s % 1000]) ∧ Nm.PlusInv xs ys (j + 1) (s / 1000) (es ++ [s % 1000])) ∧ s / 1000 ≤ 1 := by
  obtain ⟨a', cap', rfl, _⟩ := rowW_form hown.row
  have h := Nm.plus_round xs ys j k es hi da db hgo s hs
  refine ⟨a', cap', ?_, ⟨hown, h⟩, h.2.2.1⟩
  rw [h.1]

set_option maxHeartbeats 2000000 in
theorem plus_any (va vb : Value) (xs ys : List Nat) (w : World) (ha : RowW w va xs) (hb : RowW w vb ys) (da : Nm.Digs xs) (db : Nm.Digs ys) (la : xs.length ≤ 10000) (lb : ys.length ≤ 10000) :
    Calls Tryd.prog 93 #[va, vb] w (RowPost (PlusPost xs ys) w) := by
  obtain ⟨aa, ca, rfl, _⟩ := rowW_form ha
  obtain ⟨ab, cb, rfl, _⟩ := rowW_form hb
  obtain ⟨na, hna⟩ : ∃ n, xs.length = n := ⟨_, rfl⟩
  obtain ⟨nb, hnb⟩ : ∃ n, ys.length = n := ⟨_, rfl⟩
  rw [hna] at ha la
  rw [hnb] at hb lb
  rw [hna, hnb]
  have HA : Hid (RowW w (.slice aa na ca) xs ∧ Nm.Digs xs ∧ xs.length = na) := ⟨ha, da, hna⟩
  have HB : Hid (RowW w (.slice ab nb cb) ys ∧ Nm.Digs ys ∧ ys.length = nb) := ⟨hb, db, hnb⟩
  clear ha hb da db hna hnb
  go_enter Tryd.func93, Tryd.ntmps93
  go_wp2
  go_loopw [5, 6, 7] (fun o c i wr => ∃ (j k : Nat) (es : List Nat) (a : Option Addr) (cap : Nat), i = .int .i64 (j : Int) ∧ c = .int .i64 (k : Int) ∧ o = .slice a j cap ∧ j ≤ 20000 ∧ k ≤ 1 ∧ Hid (RowB wr w.heap.size o es ∧ Nm.PlusInv xs ys j k es) ∧ Below w.heap.size w wr) (fun _ _ i _ => 20001 - (intOf i).toNat)
  case atStart => exact ⟨0, 0, [], none, 0, rfl, rfl, rfl, by omega, by omega, ⟨rowB_nil _ _, Nm.plus_start xs ys⟩, Below.refl _ _⟩
  case round =>
    rename_i wr
    obtain ⟨j, k, es, a, cap, rfl, rfl, rfl, hj, hk, hr, hbl⟩ := hrel
    have hsz : w.heap.size ≤ wr.heap.size := hbl.size
    have hjl : j ≤ 10001 := by have := Nm.plus_len _ _ _ _ _ hr.out.2; have q1 := HA.out.2.2; have q2 := HB.out.2.2; omega
    by_cases h1 : j < na
    · obtain ⟨g, rfl, hc⟩ := rowW_gd (rowW_below HA.out.1 hbl) j (by rw [HA.out.2.2]; exact h1)
      have gl := Nm.gd_lt xs j HA.out.2.1
      obtain ⟨x, HX⟩ : ∃ x, Hid (Nm.gd xs j = x) := ⟨_, rfl⟩
      rw [HX.out] at hc gl
      by_cases h2 : j < nb
      · obtain ⟨g', rfl, hc'⟩ := rowW_gd (rowW_below HB.out.1 hbl) j (by rw [HB.out.2.2]; exact h2)
        have gl' := Nm.gd_lt ys j HB.out.2.1
        obtain ⟨y, HY⟩ : ∃ y, Hid (Nm.gd ys j = y) := ⟨_, rfl⟩
        rw [HY.out] at hc' gl'
        go_wp2_with (at_builtin; refine append1 rfl _ _ rfl w.heap.size _ es rfl (rowB_below hr.out.1 (ba _ _)) wr.heap.size ((k + x + y) % 1000) rfl (cell_new1 _ _ _ _ (by omega)) (by have := hr.out.2.1; omega) (by simp; omega) ?_)
        intro v' w1 hown1 hb1
        obtain ⟨a', cap', rfl, HN, hk'⟩ := plus_rel hr.out.2 hown1 HA.out.2.1 HB.out.2.1 (.inl (by rw [HA.out.2.2]; exact h1)) (by rw [HX.out, HY.out])
        have HBL : Hid (Below w.heap.size w w1) := hbl.trans (((Below.refl _ _).alloc hsz _).trans hb1)
        clear hown1 hb1 hsz
        go_wp2
        go_roundw
        case rel => exact ⟨j + 1, (k + x + y) / 1000, _, a', cap', by go_num, by simp, rfl, by omega, by omega, HN, HBL.out⟩
        case measure => simp [intOf]; omega
      · have HY : Hid (Nm.gd ys j = 0) := Nm.gd_none ys j (by rw [HB.out.2.2]; omega)
        go_wp2_with (at_builtin; refine append1 rfl _ _ rfl w.heap.size _ es rfl (rowB_below hr.out.1 (ba _ _)) wr.heap.size ((k + x) % 1000) rfl (cell_new1 _ _ _ _ (by omega)) (by have := hr.out.2.1; omega) (by simp; omega) ?_)
        intro v' w1 hown1 hb1
        obtain ⟨a', cap', rfl, HN, hk'⟩ := plus_rel hr.out.2 hown1 HA.out.2.1 HB.out.2.1 (.inl (by rw [HA.out.2.2]; exact h1)) (by rw [HX.out, HY.out]; rfl)
        have HBL : Hid (Below w.heap.size w w1) := hbl.trans (((Below.refl _ _).alloc hsz _).trans hb1)
        clear hown1 hb1 hsz
        go_wp2
        go_roundw
        case rel => exact ⟨j + 1, (k + x) / 1000, _, a', cap', by go_num, by simp, rfl, by omega, by omega, HN, HBL.out⟩
        case measure => simp [intOf]; omega
    · have HX : Hid (Nm.gd xs j = 0) := Nm.gd_none xs j (by rw [HA.out.2.2]; omega)
      by_cases h2 : j < nb
      · obtain ⟨g', rfl, hc'⟩ := rowW_gd (rowW_below HB.out.1 hbl) j (by rw [HB.out.2.2]; exact h2)
        have gl' := Nm.gd_lt ys j HB.out.2.1
        obtain ⟨y, HY⟩ : ∃ y, Hid (Nm.gd ys j = y) := ⟨_, rfl⟩
        rw [HY.out] at hc' gl'
        go_wp2_with (at_builtin; refine append1 rfl _ _ rfl w.heap.size _ es rfl (rowB_below hr.out.1 (ba _ _)) wr.heap.size ((k + y) % 1000) rfl (cell_new1 _ _ _ _ (by omega)) (by have := hr.out.2.1; omega) (by simp; omega) ?_)
        intro v' w1 hown1 hb1
        obtain ⟨a', cap', rfl, HN, hk'⟩ := plus_rel hr.out.2 hown1 HA.out.2.1 HB.out.2.1 (.inr (.inl (by rw [HB.out.2.2]; exact h2))) (by rw [HX.out, HY.out]; rfl)
        have HBL : Hid (Below w.heap.size w w1) := hbl.trans (((Below.refl _ _).alloc hsz _).trans hb1)
        clear hown1 hb1 hsz
        go_wp2
        go_roundw
        case rel => exact ⟨j + 1, (k + y) / 1000, _, a', cap', by go_num, by simp, rfl, by omega, by omega, HN, HBL.out⟩
        case measure => simp [intOf]; omega
      · have HY : Hid (Nm.gd ys j = 0) := Nm.gd_none ys j (by rw [HB.out.2.2]; omega)
        by_cases hk0 : 0 < k
        · go_wp2_with (at_builtin; refine append1 rfl _ _ rfl w.heap.size _ es rfl (rowB_below hr.out.1 (ba _ _)) wr.heap.size ((k) % 1000) rfl (cell_new1 _ _ _ _ (by omega)) (by have := hr.out.2.1; omega) (by simp; omega) ?_)
          intro v' w1 hown1 hb1
          obtain ⟨a', cap', rfl, HN, hk'⟩ := plus_rel hr.out.2 hown1 HA.out.2.1 HB.out.2.1 (.inr (.inr hk0)) (by rw [HX.out, HY.out]; rfl)
          have HBL : Hid (Below w.heap.size w w1) := hbl.trans (((Below.refl _ _).alloc hsz _).trans hb1)
          clear hown1 hb1 hsz
          go_wp2
          go_roundw
          case rel => exact ⟨j + 1, (k) / 1000, _, a', cap', by go_num, by simp, rfl, by omega, by omega, HN, HBL.out⟩
          case measure => simp [intOf]; omega
        · obtain rfl : k = 0 := by omega
          have HE := Lib.hid (Nm.plus_end xs ys j 0 es hr.out.2 (by rw [HA.out.2.2]; exact h1) (by rw [HB.out.2.2]; exact h2) (by omega))
          go_wp2_with fail
          go_ret
          refine ⟨_, es, hr.out.1.row, ?_, rfl, hbl⟩
          exact HE.out
end Go.Proofs.YtfonpegkaajnkaaDoor
/-
  THE WALKS of the reference's minus and against.
-/
namespace Go.Proofs.YtfonpegkaajnkaaDoor
open Go.RowKit

def MinusPost (xs ys cs : List Nat) : Prop := Nm.Digs cs ∧ Nm.val cs = Nm.val xs - Nm.val ys ∧ cs.length = xs.length
theorem minus_rel {xs ys es : List Nat} {j due due' r B : Nat} {w1 : World} {v' : Value} (hi : Nm.MinusInv xs ys j due es) (hown : RowB w1 B v' (es ++ [r])) (hj : j < xs.length)
    (hr : r + Nm.gd ys j + due = Nm.gd xs j + 1000 * due') (hr1 : r < 1000) (hd : due' ≤ 1) :
    ∃ a' cap', v' = .slice a' (j + 1) cap' ∧ Hid (RowB w1 B v' (es ++ [r]) ∧ Nm.MinusInv xs ys (j + 1) due' (es ++ [r])) := by
  obtain ⟨a', cap', rfl, _⟩ := rowW_form hown.row
  have h := Nm.minus_round xs ys j due es hi hj r due' hr hr1 hd
  exact ⟨a', cap', by rw [h.1], hown, h⟩

set_option maxHeartbeats 2000000 in
theorem minus_any (va vb : Value) (xs ys : List Nat) (w : World) (ha : RowW w va xs) (hb : RowW w vb ys) (da : Nm.Digs xs) (db : Nm.Digs ys) (la : xs.length ≤ 10001) (lb : ys.length ≤ xs.length) (hv : Nm.val ys ≤ Nm.val xs) :
    Calls Tryd.prog 95 #[va, vb] w (RowPost (MinusPost xs ys) w) := by
  obtain ⟨aa, ca, rfl, _⟩ := rowW_form ha
  obtain ⟨ab, cb, rfl, _⟩ := rowW_form hb
  have HV := Lib.hid hv
  obtain ⟨na, hna⟩ : ∃ n, xs.length = n := ⟨_, rfl⟩
  obtain ⟨nb, hnb⟩ : ∃ n, ys.length = n := ⟨_, rfl⟩
  rw [hna] at ha la lb
  rw [hnb] at hb lb
  rw [hna, hnb]
  have HA : Hid (RowW w (.slice aa na ca) xs ∧ Nm.Digs xs ∧ xs.length = na) := ⟨ha, da, hna⟩
  have HB : Hid (RowW w (.slice ab nb cb) ys ∧ Nm.Digs ys ∧ ys.length = nb) := ⟨hb, db, hnb⟩
  clear ha hb da db hna hnb hv
  go_enter Tryd.func95, Tryd.ntmps95
  go_wp2
  go_loopw [5, 6, 7] (fun o c i wr => ∃ (j k : Nat) (es : List Nat) (a : Option Addr) (cap : Nat), i = .int .i64 (j : Int) ∧ c = .int .i64 (k : Int) ∧ o = .slice a j cap ∧ j ≤ na ∧ k ≤ 1 ∧ Hid (RowB wr w.heap.size o es ∧ Nm.MinusInv xs ys j k es) ∧ Below w.heap.size w wr) (fun _ _ i _ => 20001 - (intOf i).toNat)
  case atStart => exact ⟨0, 0, [], none, 0, rfl, rfl, rfl, by omega, by omega, ⟨rowB_nil _ _, Nm.minus_start xs ys⟩, Below.refl _ _⟩
  case round =>
    rename_i wr
    obtain ⟨j, k, es, a, cap, rfl, rfl, rfl, hj, hk, hr, hbl⟩ := hrel
    have hsz : w.heap.size ≤ wr.heap.size := hbl.size
    by_cases h1 : j < na
    · obtain ⟨g, rfl, hc⟩ := rowW_gd (rowW_below HA.out.1 hbl) j (by rw [HA.out.2.2]; exact h1)
      have gl := Nm.gd_lt xs j HA.out.2.1
      obtain ⟨x, HX⟩ : ∃ x, Hid (Nm.gd xs j = x) := ⟨_, rfl⟩
      rw [HX.out] at hc gl
      by_cases h2 : j < nb
      · obtain ⟨g', rfl, hc'⟩ := rowW_gd (rowW_below HB.out.1 hbl) j (by rw [HB.out.2.2]; exact h2)
        have gl' := Nm.gd_lt ys j HB.out.2.1
        obtain ⟨y, HY⟩ : ∃ y, Hid (Nm.gd ys j = y) := ⟨_, rfl⟩
        rw [HY.out] at hc' gl'
        by_cases hx : x < k + y
        · go_wp2_with (at_builtin; refine append1 rfl _ _ rfl w.heap.size _ es rfl (rowB_below hr.out.1 (ba _ _)) wr.heap.size (x + 1000 - k - y) rfl (cell_new1 _ _ _ _ (by omega)) (by have := hr.out.2.1; omega) (by simp; omega) ?_)
          intro v' w1 hown1 hb1
          obtain ⟨a', cap', rfl, HN⟩ := minus_rel (due' := 1) hr.out.2 hown1 (by rw [HA.out.2.2]; exact h1) (by rw [HX.out, HY.out]; omega) (by omega) (by omega)
          have HBL : Hid (Below w.heap.size w w1) := hbl.trans (((Below.refl _ _).alloc hsz _).trans hb1)
          clear hown1 hb1 hsz
          go_wp2
          go_roundw
          case rel => exact ⟨j + 1, 1, _, a', cap', by go_num, rfl, rfl, by omega, by omega, HN, HBL.out⟩
          case measure => simp [intOf]; omega
        · go_wp2_with (at_builtin; refine append1 rfl _ _ rfl w.heap.size _ es rfl (rowB_below hr.out.1 (ba _ _)) wr.heap.size (x - k - y) rfl (cell_new1 _ _ _ _ (by omega)) (by have := hr.out.2.1; omega) (by simp; omega) ?_)
          intro v' w1 hown1 hb1
          obtain ⟨a', cap', rfl, HN⟩ := minus_rel (due' := 0) hr.out.2 hown1 (by rw [HA.out.2.2]; exact h1) (by rw [HX.out, HY.out]; omega) (by omega) (by omega)
          have HBL : Hid (Below w.heap.size w w1) := hbl.trans (((Below.refl _ _).alloc hsz _).trans hb1)
          clear hown1 hb1 hsz
          go_wp2
          go_roundw
          case rel => exact ⟨j + 1, 0, _, a', cap', by go_num, rfl, rfl, by omega, by omega, HN, HBL.out⟩
          case measure => simp [intOf]; omega
      · have HY : Hid (Nm.gd ys j = 0) := Nm.gd_none ys j (by rw [HB.out.2.2]; omega)
        by_cases hx : x < k
        · go_wp2_with (at_builtin; refine append1 rfl _ _ rfl w.heap.size _ es rfl (rowB_below hr.out.1 (ba _ _)) wr.heap.size (x + 1000 - k) rfl (cell_new1 _ _ _ _ (by omega)) (by have := hr.out.2.1; omega) (by simp; omega) ?_)
          intro v' w1 hown1 hb1
          obtain ⟨a', cap', rfl, HN⟩ := minus_rel (due' := 1) hr.out.2 hown1 (by rw [HA.out.2.2]; exact h1) (by rw [HX.out, HY.out]; omega) (by omega) (by omega)
          have HBL : Hid (Below w.heap.size w w1) := hbl.trans (((Below.refl _ _).alloc hsz _).trans hb1)
          clear hown1 hb1 hsz
          go_wp2
          go_roundw
          case rel => exact ⟨j + 1, 1, _, a', cap', by go_num, rfl, rfl, by omega, by omega, HN, HBL.out⟩
          case measure => simp [intOf]; omega
        · go_wp2_with (at_builtin; refine append1 rfl _ _ rfl w.heap.size _ es rfl (rowB_below hr.out.1 (ba _ _)) wr.heap.size (x - k) rfl (cell_new1 _ _ _ _ (by omega)) (by have := hr.out.2.1; omega) (by simp; omega) ?_)
          intro v' w1 hown1 hb1
          obtain ⟨a', cap', rfl, HN⟩ := minus_rel (due' := 0) hr.out.2 hown1 (by rw [HA.out.2.2]; exact h1) (by rw [HX.out, HY.out]; omega) (by omega) (by omega)
          have HBL : Hid (Below w.heap.size w w1) := hbl.trans (((Below.refl _ _).alloc hsz _).trans hb1)
          clear hown1 hb1 hsz
          go_wp2
          go_roundw
          case rel => exact ⟨j + 1, 0, _, a', cap', by go_num, rfl, rfl, by omega, by omega, HN, HBL.out⟩
          case measure => simp [intOf]; omega
    · have HE := Lib.hid (Nm.minus_end xs ys j k es hr.out.2 (by rw [HA.out.2.2]; exact h1) (by rw [HA.out.2.2, HB.out.2.2]; exact lb) HV.out)
      go_wp2_with fail
      go_ret
      exact ⟨_, es, hr.out.1.row, HE.out, rfl, hbl⟩

def IntPost (n : Int) (w : World) (e : Ending) (w' : World) : Prop := e = .returned (.int .i64 n) ∧ Below w.heap.size w w'

set_option maxHeartbeats 2000000 in
theorem against_any (va vb : Value) (xs ys : List Nat) (w : World) (ha : RowW w va xs) (hb : RowW w vb ys) (da : Nm.Canon xs) (db : Nm.Canon ys) (la : xs.length ≤ 10001) (lb : ys.length ≤ 10001) :
    Calls Tryd.prog 94 #[va, vb] w (IntPost (Nm.ag (Nm.val xs) (Nm.val ys)) w) := by
  obtain ⟨aa, ca, rfl, _⟩ := rowW_form ha
  obtain ⟨ab, cb, rfl, _⟩ := rowW_form hb
  obtain ⟨na, hna⟩ : ∃ n, xs.length = n := ⟨_, rfl⟩
  obtain ⟨nb, hnb⟩ : ∃ n, ys.length = n := ⟨_, rfl⟩
  rw [hna] at ha la
  rw [hnb] at hb lb
  rw [hna, hnb]
  have HA : Hid (RowW w (.slice aa na ca) xs ∧ Nm.Canon xs ∧ xs.length = na) := ⟨ha, da, hna⟩
  have HB : Hid (RowW w (.slice ab nb cb) ys ∧ Nm.Canon ys ∧ ys.length = nb) := ⟨hb, db, hnb⟩
  clear ha hb da db hna hnb
  rcases Nat.lt_trichotomy na nb with hl | hl | hl
  · have hn : ((na : Int) != (nb : Int)) = true := by rw [bne_iff_ne]; omega
    have HG : Hid (Nm.ag (Nm.val xs) (Nm.val ys) = -1) := Nm.ag_len_lt xs ys HA.out.2.1 HB.out.2.1 (by rw [HA.out.2.2, HB.out.2.2]; exact hl)
    rw [HG.out]
    go_enter Tryd.func94, Tryd.ntmps94
    go_wp2
    go_ret
    exact ⟨rfl, Below.refl _ _⟩
  · subst hl
    go_enter Tryd.func94, Tryd.ntmps94
    go_wp2
    go_loopw [5] (fun i wr => ∃ j : Nat, i = .int .i64 ((j : Int) - 1) ∧ j ≤ na ∧ Hid (xs.drop j = ys.drop j) ∧ Below w.heap.size w wr) (fun i _ => (intOf i + 1).toNat)
    case atStart => exact ⟨na, rfl, Nat.le_refl _, (by show _ = _; rw [List.drop_eq_nil_of_le (by rw [HA.out.2.2]; exact Nat.le_refl _), List.drop_eq_nil_of_le (by rw [HB.out.2.2]; exact Nat.le_refl _)]), Below.refl _ _⟩
    case round =>
      rename_i wr
      obtain ⟨j, rfl, hj, hd, hbl⟩ := hrel
      rcases j with _ | j
      · have HG : Hid (Nm.ag (Nm.val xs) (Nm.val ys) = 0) := Nm.ag_same xs ys hd.out
        rw [show (((0 : Nat) : Int) - 1) = -1 from rfl]
        go_wp2
        go_ret
        exact ⟨by rw [HG.out]; rfl, hbl⟩
      · rw [show (((j + 1 : Nat) : Int) - 1) = (j : Int) from by omega]
        obtain ⟨g, rfl, hc⟩ := rowW_gd (rowW_below HA.out.1 hbl) j (by rw [HA.out.2.2]; omega)
        obtain ⟨g', rfl, hc'⟩ := rowW_gd (rowW_below HB.out.1 hbl) j (by rw [HB.out.2.2]; omega)
        obtain ⟨x, HX⟩ : ∃ x, Hid (xs[j]? = some x ∧ Nm.gd xs j = x) := ⟨_, Nm.gd_at xs j (by rw [HA.out.2.2]; omega), rfl⟩
        obtain ⟨y, HY⟩ : ∃ y, Hid (ys[j]? = some y ∧ Nm.gd ys j = y) := ⟨_, Nm.gd_at ys j (by rw [HB.out.2.2]; omega), rfl⟩
        rw [HX.out.2] at hc
        rw [HY.out.2] at hc'
        have b0 : (0 : Int) ≤ (j : Int) := by omega
        have b1 : (j : Int) < (na : Int) := by omega
        rcases Nat.lt_trichotomy x y with hxy | hxy | hxy
        · have t1 : ((x : Int) != (y : Int)) = true := by rw [bne_iff_ne]; omega
          have t2 : decide ((x : Int) < (y : Int)) = true := by simp; omega
          have HG : Hid (Nm.ag (Nm.val xs) (Nm.val ys) = -1) := Nm.ag_at_lt xs ys j x y HA.out.2.1.1 hd.out HX.out.1 HY.out.1 hxy
          go_wp2_with fail
          go_quiet (fail)
          go_wp2_with fail
          go_quiet (fail)
          go_wp2_with fail
          go_ret
          exact ⟨by rw [HG.out]; rfl, below_drewN (below_drewN hbl _) _⟩
        · subst hxy
          go_wp2_with fail
          go_quiet (fail)
          go_wp2_with fail
          go_roundw
          case rel => exact ⟨j, rfl, by omega, Nm.drop_eq_step xs ys j x hd.out HX.out.1 HY.out.1, below_drewN hbl _⟩
          case measure => simp [intOf]
        · have t1 : ((x : Int) != (y : Int)) = true := by rw [bne_iff_ne]; omega
          have t2 : decide ((x : Int) < (y : Int)) = false := by simp; omega
          have HG : Hid (Nm.ag (Nm.val xs) (Nm.val ys) = 1) := Nm.ag_at_gt xs ys j x y HB.out.2.1.1 hd.out HX.out.1 HY.out.1 hxy
          go_wp2_with fail
          go_quiet (fail)
          go_wp2_with fail
          go_quiet (fail)
          go_wp2_with fail
          go_ret
          exact ⟨by rw [HG.out]; rfl, below_drewN (below_drewN hbl _) _⟩
  · have hn : ((na : Int) != (nb : Int)) = true := by rw [bne_iff_ne]; omega
    have HG : Hid (Nm.ag (Nm.val xs) (Nm.val ys) = 1) := Nm.ag_len_gt xs ys HA.out.2.1 HB.out.2.1 (by rw [HA.out.2.2, HB.out.2.2]; exact hl)
    rw [HG.out]
    go_enter Tryd.func94, Tryd.ntmps94
    go_wp2
    go_ret
    exact ⟨rfl, Below.refl _ _⟩
end Go.Proofs.YtfonpegkaajnkaaDoor
