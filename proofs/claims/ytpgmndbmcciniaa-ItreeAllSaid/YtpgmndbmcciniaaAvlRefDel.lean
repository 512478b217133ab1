/-
  THE DOCUMENT's row, walked: Delete.
-/
import Derived.Test.YtpgmndbmcciniaaAvlRefPut
import Derived.Deep.RegionLaw
namespace Go.Proofs.Ytpgmndbmcciniaa.Av
open Go Go.RowKit
set_option linter.unusedSimpArgs false
set_option linter.unusedVariables false
attribute [local go_sem ↓] Go.wp_at_zero Go.wp_at_succ

set_option maxRecDepth 100000 in
set_option maxHeartbeats 1000000 in
theorem rdelete_any {w : World} {r : Nat} {most : Int} {v : Value} {L : List It} {x : It} (h : RefIs w r most v L) (hs : Tr.Sorted L) (hl : L.length ≤ 100000) :
    Calls Try.prog 12 #[.pointer (some ⟨r, 0, none⟩), .agg #[.int .i64 x.f, .int .i64 x.t, .int .i64 x.i]] w fun e w' => ∃ v', e = .returned (.int .i64 (delA x L).1) ∧ RefIs w' r most v' (delA x L).2 ∧ But (· = r) w w' ∧ (v' = v ∨ ∀ k, v'.ownBlock = some k → w.heap.size ≤ k) := by
  have B0 := ba w (.cells #[.int .i64 x.f, .int .i64 x.t, .int .i64 x.i] 33)
  have A := place_any (x := x) (h.below B0) hs (by omega)
  have R0 := Lib.hid (h.below B0)
  replace B0 := Lib.hid B0
  by_cases hm : x ∈ L
  · have e : delA x L = (0, Tr.under x L ++ (Tr.beyond x L).tail) := by unfold delA; rw [if_pos hm]
    rw [e]
    rw [decide_eq_true hm] at A
    obtain ⟨ao, cap, rfl, hc, hgz⟩ := row_form h.row
    have MA := (mem_at x L hs).1 hm
    have TU : Hid (L.take (Tr.under x L).length = Tr.under x L ∧ L.drop (Tr.under x L).length = Tr.beyond x L) := take_under x L
    obtain ⟨u, hu⟩ : ∃ u, Hid ((Tr.under x L).length = u) := ⟨_, rfl⟩
    rw [hu.out] at A TU MA
    have ul := (List.getElem?_eq_some_iff.1 MA).1
    have UL : Hid (u < L.length) := ul
    obtain ⟨g, rfl⟩ := hgz (by omega)
    have HL := Lib.hid hl
    have HC := Lib.hid hc
    clear h hs hl e hm hc hgz MA ul
    go_enter Try.func12, Try.ntmps12
    go_upto_region 4 with (go_at_call 29; (with_reducible refine A.mono ?_); rintro e we ⟨rfl, b7⟩; have B7 := Lib.hid b7; clear b7 A)
    have R8 := Lib.hid (R0.out.below B7.out)
    have B8 := Lib.hid (bt B0.out B7.out)
    clear R0 B0 B7
    have c1 := R8.out.c1
    have u0 : (0 : Int) ≤ (u : Int) := by omega
    have u1 : (u : Int) ≤ (cap : Int) := by have := UL.out; have := HC.out; omega
    have u2 : (u : Int) + 1 ≤ ((L.length : Nat) : Int) := by have := UL.out; omega
    have u4 : (0 : Int) ≤ (u : Int) + 1 := by omega
    have u3 : (u : Int) + 1 ≤ (cap : Int) := by have := UL.out; have := HC.out; omega
    have uw : IntKind.i64.wrap ((u : Int) + 1) = (u : Int) + 1 := by rw [IntWalk.i64_left]; exact IntWalk.wrap64_in _ (by have := UL.out; have := HL.out; omega)
    have uw2 : wrap64 ((u : Int) + 1) = (u : Int) + 1 := IntWalk.wrap64_in _ (by have := UL.out; have := HL.out; omega)
    obtain ⟨P, hP⟩ : ∃ P, Hid (L.take u = P) := ⟨_, rfl⟩
    have PL : Hid (P.length = u) := by show _ = _; rw [← hP.out, List.length_take]; have := UL.out; omega
    obtain ⟨N, hN⟩ : ∃ N, Hid (L.drop (u + 1) = N) := ⟨_, rfl⟩
    have NL : Hid (N.length = L.length - (u + 1)) := by show _ = _; rw [← hN.out, List.length_drop]
    have RZ : Hid (r < we.drew.heap.size) := R8.out.lt
    have NR : Hid (¬ we.heap.size ≤ r) := by have : r < we.heap.size := RZ.out; show ¬ _ ≤ _; omega
    have GZ : Hid (g < we.heap.size) := (World.ownsRow.lt R8.out.row g rfl).2
    have K9 : But (fun _ => False) we (we.drew.alloc (Obj.cells #[] 33)) := (But.refl _ _).drew.alloc _
    have R9 := R8.out.but K9 (fun z => z) (fun _ _ z => z)
    have RT0 : Hid (RowT (we.drew.alloc (Obj.cells #[] 33)) we.heap.size (.slice (some ⟨we.heap.size, 0, none⟩) ([] : List It).length 0) []) := ⟨rfl, .inr ⟨we.heap.size, 0, #[], rfl, Nat.le_refl _, heap_alloc_new we.drew _, Nat.le_refl _, by simp [maxLen], rfl, rfl⟩⟩
    have SC : Hid (SrcT (we.drew.alloc (Obj.cells #[] 33)) (.slice (some ⟨g, 0, none⟩) u cap) P) := by show SrcT _ _ _; rw [← hP.out]; exact src_take R9.row u cap (by have := UL.out; omega)
    have HB1 : Hid (we.heap.size ≤ (we.drew.alloc (Obj.cells #[] 33)).heap.size) := by show _ ≤ _; rw [World.size_alloc]; exact Nat.le_succ _
    have Q1 : Hid (([] : List It).length + P.length ≤ 1000001) := by have := PL.out; have := UL.out; have := HL.out; show _ ≤ _; simp; omega
    have Q3 : Hid (P.length + N.length ≤ 1000001) := by have := PL.out; have := NL.out; have := UL.out; have := HL.out; show _ ≤ _; omega
    by_cases hcu : cap = u + 1
    · have hLu : L.length = u + 1 := by have := UL.out; have := HC.out; omega
      have hNn : N = [] := by have := NL.out; exact List.eq_nil_of_length_eq_zero (by omega)
      have HLu := Lib.hid hLu
      have HN0 := Lib.hid hNn
      clear R9 hLu hNn K9
      subst hcu
      have u5 : (u : Int) ≤ (u : Int) + 1 := by omega
      have SD : SrcT (we.drew.alloc (Obj.cells #[] 33)) (.slice (some ⟨g, 0, none⟩) (L.length - (u + 1)) 0) N := by rw [HN0.out, HLu.out, Nat.sub_self]; exact .inr ⟨g, 0, 0, rfl, by rw [World.size_alloc]; have : g < we.heap.size := GZ.out; show g < we.heap.size + 1; omega, fun j u hu => by simp at hu⟩
      replace SD := Lib.hid SD
      have d1 : (we.alloc (Obj.cells #[] 33)).cell? ⟨r, 1, none⟩ = some (.slice (some ⟨g, 0, none⟩) L.length (u + 1)) := (Below.cell (p := ⟨r, 1, none⟩) (ba we (Obj.cells #[] 33)) RZ.out).trans c1
      go_region_law (first
          | (refine step_items rfl _ _ rfl we.heap.size (some ⟨we.heap.size, 0, none⟩) 0 [] (.slice (some ⟨g, 0, none⟩) u (u + 1)) P rfl rfl RT0.out SC.out Q1.out HB1.out ?_; intro a1 p1 w9 r9 k9 l9; simp only [List.nil_append, List.length_nil, Nat.zero_add] at r9 l9 ⊢; have RT1 := Lib.hid r9; have KK1 : Hid (But (fun k => we.heap.size ≤ k) we w9) := But.trans ((But.refl _ we).drew.alloc _) (k9.mono (fun k hk => by simp only [Value.ownBlock, Option.some.injEq] at hk; omega)); have HS1 := (KK1.out.cell (p := ⟨r, 1, none⟩) RZ.out NR.out).trans c1; have SD1 := Lib.hid (SD.out.below k9 (fun z hz hs => by simp only [Value.ownBlock, Option.some.injEq] at hz hs; have := GZ.out; omega)); have HB3 : Hid (we.heap.size ≤ w9.heap.size) := KK1.out.size; clear r9 k9 l9)
          | (refine step_items rfl _ _ rfl we.heap.size a1 p1 P (.slice (some ⟨g, 0, none⟩) (L.length - (u + 1)) 0) N rfl rfl RT1.out SD1.out Q3.out HB3.out ?_; intro a3 p3 w11 r11 k11 l11; have RT3 := Lib.hid r11; have KK3 : Hid (But (fun k => we.heap.size ≤ k) we w11) := But.into KK1.out k11 (fun k _ hk => (World.ownsRow.lt RT1.out k hk).1); clear r11 k11 l11; have HS2 := (KK3.out.cell (p := ⟨r, 1, none⟩) RZ.out NR.out).trans c1; have f1 := (KK3.out.frozen (p := ⟨r, 1, none⟩) RZ.out NR.out).trans (R8.out.f 1)))
      all_goals
        obtain ⟨n3, hn3⟩ : ∃ n, Hid (P.length + N.length = n) := ⟨_, rfl⟩
        rw [hn3.out] at RT3 ⊢
        have NE : (Value.slice a3 n3 p3).ownBlock ≠ some r := fun z => by have := (World.ownsRow.lt RT3.out r z).1; exact NR.out this
        have R12 : RefIs w11 r most (.slice (some ⟨g, 0, none⟩) L.length (u + 1)) L := R8.out.but KK3.out NR.out (fun z hz => by simp only [Value.ownBlock, Option.some.injEq] at hz; have := GZ.out; omega)
        have E3 : P ++ N = Tr.under x L ++ (Tr.beyond x L).tail := by rw [← hP.out, ← hN.out, TU.out.1, ← TU.out.2, List.tail_drop]
        have RT4 : RowT w11 0 (.slice a3 n3 p3) (P ++ N) := by
          obtain ⟨h1, h2⟩ := RT3.out
          refine ⟨h1, ?_⟩
          rcases h2 with h2 | ⟨g', cap', cur, h2, _, h3⟩
          · exact .inl h2
          · exact .inr ⟨g', cap', cur, h2, Nat.zero_le _, h3⟩
        have RF := Lib.hid (R12.set RT4 NE)
        have KF := Lib.hid ((But.into (S := fun k => we.heap.size ≤ k) (O := (· = r)) (Below.but B8.out _) KK3.out (fun k hk hs => by have := B8.out.size; omega)).set (p := ⟨r, 1, none⟩) (show _ = r from rfl) (.slice a3 n3 p3))
        have OF : Hid (∀ k, (Value.slice a3 n3 p3).ownBlock = some k → w.heap.size ≤ k) := fun k hk => by have := (World.ownsRow.lt RT3.out k hk).1; have := B8.out.size; omega
        replace E3 := Lib.hid E3
        clear NE R12 RT4
        go_wp2_with fail
        go_ret
        rw [← E3.out]
        exact ⟨_, rfl, RF.out, KF.out, .inr OF.out⟩
    · have SDr := src_drop R9.row (u + 1) (cap - (u + 1)) (L.length - (u + 1)) (by have := UL.out; omega) rfl
      have hcu2 : u + 1 < cap := by have := UL.out; have := HC.out; omega
      clear R9 K9
      have SD : SrcT (we.drew.alloc (Obj.cells #[] 33)) (.slice (some ⟨g, (u + 1) * 3, none⟩) (L.length - (u + 1)) (cap - (u + 1))) N := by rw [← hN.out]; exact SDr
      replace SD := Lib.hid SD
      have d1 : (we.alloc (Obj.cells #[] 33)).cell? ⟨r, 1, none⟩ = some (.slice (some ⟨g, 0, none⟩) L.length cap) := (Below.cell (p := ⟨r, 1, none⟩) (ba we (Obj.cells #[] 33)) RZ.out).trans c1
      go_region_law (first
          | (refine step_items rfl _ _ rfl we.heap.size (some ⟨we.heap.size, 0, none⟩) 0 [] (.slice (some ⟨g, 0, none⟩) u cap) P rfl rfl RT0.out SC.out Q1.out HB1.out ?_; intro a1 p1 w9 r9 k9 l9; simp only [List.nil_append, List.length_nil, Nat.zero_add] at r9 l9 ⊢; have RT1 := Lib.hid r9; have KK1 : Hid (But (fun k => we.heap.size ≤ k) we w9) := But.trans ((But.refl _ we).drew.alloc _) (k9.mono (fun k hk => by simp only [Value.ownBlock, Option.some.injEq] at hk; omega)); have HS1 := (KK1.out.cell (p := ⟨r, 1, none⟩) RZ.out NR.out).trans c1; have SD1 := Lib.hid (SD.out.below k9 (fun z hz hs => by simp only [Value.ownBlock, Option.some.injEq] at hz hs; have := GZ.out; omega)); have HB3 : Hid (we.heap.size ≤ w9.heap.size) := KK1.out.size; clear r9 k9 l9)
          | (refine step_items rfl _ _ rfl we.heap.size a1 p1 P (.slice (some ⟨g, (u + 1) * 3, none⟩) (L.length - (u + 1)) (cap - (u + 1))) N rfl rfl RT1.out SD1.out Q3.out HB3.out ?_; intro a3 p3 w11 r11 k11 l11; have RT3 := Lib.hid r11; have KK3 : Hid (But (fun k => we.heap.size ≤ k) we w11) := But.into KK1.out k11 (fun k _ hk => (World.ownsRow.lt RT1.out k hk).1); clear r11 k11 l11; have HS2 := (KK3.out.cell (p := ⟨r, 1, none⟩) RZ.out NR.out).trans c1; have f1 := (KK3.out.frozen (p := ⟨r, 1, none⟩) RZ.out NR.out).trans (R8.out.f 1)))
      all_goals
        obtain ⟨n3, hn3⟩ : ∃ n, Hid (P.length + N.length = n) := ⟨_, rfl⟩
        rw [hn3.out] at RT3 ⊢
        have NE : (Value.slice a3 n3 p3).ownBlock ≠ some r := fun z => by have := (World.ownsRow.lt RT3.out r z).1; exact NR.out this
        have R12 : RefIs w11 r most (.slice (some ⟨g, 0, none⟩) L.length cap) L := R8.out.but KK3.out NR.out (fun z hz => by simp only [Value.ownBlock, Option.some.injEq] at hz; have := GZ.out; omega)
        have E3 : P ++ N = Tr.under x L ++ (Tr.beyond x L).tail := by rw [← hP.out, ← hN.out, TU.out.1, ← TU.out.2, List.tail_drop]
        have RT4 : RowT w11 0 (.slice a3 n3 p3) (P ++ N) := by
          obtain ⟨h1, h2⟩ := RT3.out
          refine ⟨h1, ?_⟩
          rcases h2 with h2 | ⟨g', cap', cur, h2, _, h3⟩
          · exact .inl h2
          · exact .inr ⟨g', cap', cur, h2, Nat.zero_le _, h3⟩
        have RF := Lib.hid (R12.set RT4 NE)
        have KF := Lib.hid ((But.into (S := fun k => we.heap.size ≤ k) (O := (· = r)) (Below.but B8.out _) KK3.out (fun k hk hs => by have := B8.out.size; omega)).set (p := ⟨r, 1, none⟩) (show _ = r from rfl) (.slice a3 n3 p3))
        have OF : Hid (∀ k, (Value.slice a3 n3 p3).ownBlock = some k → w.heap.size ≤ k) := fun k hk => by have := (World.ownsRow.lt RT3.out k hk).1; have := B8.out.size; omega
        replace E3 := Lib.hid E3
        clear NE R12 RT4
        go_wp2_with fail
        go_ret
        rw [← E3.out]
        exact ⟨_, rfl, RF.out, KF.out, .inr OF.out⟩
  · have e : delA x L = (5, L) := by unfold delA; rw [if_neg hm]
    rw [e]
    rw [decide_eq_false hm] at A
    generalize ((Tr.under x L).length : Int) = z at A
    clear h hs hl e hm
    go_enter Try.func12, Try.ntmps12
    go_wp2_with (go_at_call 29; (with_reducible refine A.mono ?_); rintro e w7 ⟨rfl, b7⟩; have B7 := Lib.hid b7; clear b7 A)
    go_ret
    exact ⟨v, rfl, R0.out.below B7.out, Below.but (bt B0.out B7.out) _, .inl rfl⟩
end Go.Proofs.Ytpgmndbmcciniaa.Av
