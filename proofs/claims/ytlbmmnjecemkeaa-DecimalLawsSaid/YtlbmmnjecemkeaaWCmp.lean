/-
  THE WALK of wide's Cmp.
-/
import Derived.Test.YtlbmmnjecemkeaaWAb2
import Derived.Test.YtlbmmnjecemkeaaWTimes
import Derived.Test.YtlbmmnjecemkeaaTail
import Derived.Deep.RegionHeld3
namespace Go.Proofs.Ytlbmmnjecemkeaa
open Go.RowKit
attribute [local go_sem ↓] Go.wp_at_zero Go.wp_at_succ

theorem wv_is (n : Bool) (hi lo : Nat) (h : lo < 18446744073709551616) (b : Bool) (hb : (n && decide (0 < hi ∨ 0 < lo)) = b) : wv (wz n hi lo) = .agg #[.bool b, .int .u64 (hi : Int), .int .u64 (lo : Int)] := by
  rw [wv_wz n hi lo h, hb]; rfl
/-- the comparison out of signs and sizes -/
theorem cmp_parts (n1 n2 : Bool) (h1 l1 h2 l2 : Nat) (p q : Bool) (hp : (n1 && decide (0 < h1 ∨ 0 < l1)) = p) (hq : (n2 && decide (0 < h2 ∨ 0 < l2)) = q) :
    cmpZ (wz n1 h1 l1) (wz n2 h2 l2) = if p = true then (if q = true then cmpZ ((h2 * 18446744073709551616 + l2 : Nat) : Int) ((h1 * 18446744073709551616 + l1 : Nat) : Int) else -1) else (if q = true then 1 else cmpZ ((h1 * 18446744073709551616 + l1 : Nat) : Int) ((h2 * 18446744073709551616 + l2 : Nat) : Int)) := by
  have a1 := wz_abs n1 h1 l1; have a2 := wz_abs n2 h2 l2
  have s1 := wz_neg n1 h1 l1; have s2 := wz_neg n2 h2 l2
  rw [hp] at s1; rw [hq] at s2
  generalize wz n1 h1 l1 = x at *
  generalize wz n2 h2 l2 = y at *
  have e1 : ((h1 * 18446744073709551616 + l1 : Nat) : Int) = (x.natAbs : Int) := by rw [a1]
  have e2 : ((h2 * 18446744073709551616 + l2 : Nat) : Int) = (y.natAbs : Int) := by rw [a2]
  rw [e1, e2]
  clear a1 a2 e1 e2 hp hq
  cases p <;> cases q <;> simp only [decide_eq_true_eq, decide_eq_false_iff_not, Bool.false_eq_true, if_false, if_true] at s1 s2 ⊢ <;> unfold cmpZ <;> (repeat' split) <;> omega
/-- behind 'x, y = put(..), put(..)' -/
def CmpMid (B1 : Nat) (w : World) (p q : Bool) (h1 l1 h2 l2 : Nat) (wx : World) : Prop :=
  WAt wx B1 p h1 l1 ∧ WAt wx (B1 + 1) q h2 l2 ∧ Below w.heap.size w wx

theorem below_set3 {w w' : World} {B b : Nat} (u0 u1 u2 : Value) (h : Below B w w') (hb : B ≤ b) : Below B w (((w'.setCell ⟨b, 0, none⟩ u0).setCell ⟨b, 1, none⟩ u1).setCell ⟨b, 2, none⟩ u2) := ((h.setCell hb _).setCell hb _).setCell hb _
theorem wAt_other3 {w : World} {b b' : Nat} {n : Bool} {h l : Int} (u0 u1 u2 : Value) (H : WAt w b n h l) (hb : b ≠ b') : WAt (((w.setCell ⟨b', 0, none⟩ u0).setCell ⟨b', 1, none⟩ u1).setCell ⟨b', 2, none⟩ u2) b n h l := by
  unfold WAt; rw [Below.heap_setCell _ _ _ _ hb, Below.heap_setCell _ _ _ _ hb, Below.heap_setCell _ _ _ _ hb]; exact H
set_option maxRecDepth 100000 in
set_option maxHeartbeats 4000000 in
theorem wCmp_any (n1 n2 : Bool) (h1 l1 h2 l2 : Nat) (w : World) (b1 : h1 < 18446744073709551616) (b2 : l1 < 18446744073709551616) (b3 : h2 < 18446744073709551616) (b4 : l2 < 18446744073709551616) :
    Calls Try.prog 31 #[.agg #[.bool n1, .int .u64 (h1 : Int), .int .u64 (l1 : Int)], .agg #[.bool n2, .int .u64 (h2 : Int), .int .u64 (l2 : Int)]] w (IntPost (cmpZ (wz n1 h1 l1) (wz n2 h2 l2)) w) := by
  obtain ⟨p, hp⟩ : ∃ p : Bool, Hid ((n1 && decide (0 < h1 ∨ 0 < l1)) = p) := ⟨_, rfl⟩
  obtain ⟨q, hq⟩ : ∃ q : Bool, Hid ((n2 && decide (0 < h2 ∨ 0 < l2)) = q) := ⟨_, rfl⟩
  have HV := Lib.hid (wv_is n1 h1 l1 b2 p hp.out); have HU := Lib.hid (wv_is n2 h2 l2 b4 q hq.out)
  have HL : Hid (h1 < 18446744073709551616 ∧ l1 < 18446744073709551616 ∧ h2 < 18446744073709551616 ∧ l2 < 18446744073709551616) := ⟨b1, b2, b3, b4⟩
  rw [cmp_parts n1 n2 h1 l1 h2 l2 p q hp.out hq.out]
  obtain ⟨c, hc⟩ : ∃ c, Hid (cmpZ ((h1 * 18446744073709551616 + l1 : Nat) : Int) ((h2 * 18446744073709551616 + l2 : Nat) : Int) = c) := ⟨_, rfl⟩
  obtain ⟨d, hd⟩ : ∃ c, Hid (cmpZ ((h2 * 18446744073709551616 + l2 : Nat) : Int) ((h1 * 18446744073709551616 + l1 : Nat) : Int) = c) := ⟨_, rfl⟩
  rw [hc.out, hd.out]
  obtain ⟨res, hres⟩ : ∃ r, Hid ((if p = true then (if q = true then d else -1) else (if q = true then 1 else c)) = r) := ⟨_, rfl⟩
  rw [hres.out]
  have ne1 : w.heap.size ≠ w.heap.size + 1 := by omega
  have ne2 : w.heap.size + 1 ≠ w.heap.size := by omega
  clear b1 b2 b3 b4
  go_enter Try.func31, Try.ntmps31
  go_upto_region 1 with fail
  obtain ⟨X0, Y0⟩ := two_wide w n1 n2 h1 l1 h2 l2
  have X := Lib.hid X0; have Y := Lib.hid Y0
  have B : Hid (Below w.heap.size w ((w.alloc (.cells #[.bool n1, .int .u64 (h1 : Int), .int .u64 (l1 : Int)] 24)).alloc (.cells #[.bool n2, .int .u64 (h2 : Int), .int .u64 (l2 : Int)] 24))) := bt (ba _ _) (ba _ _)
  clear X0 Y0
  generalize World.alloc (World.alloc w _) _ = W2 at X Y B ⊢
  have d0 := X.out.c0; have d1 := X.out.c1; have d2 := X.out.c2; have e0 := Y.out.c0; have e1 := Y.out.c1; have e2 := Y.out.c2
  go_cut [] (fun wx => CmpMid w.heap.size w p q h1 l1 h2 l2 wx)
  case first =>
    refine wp_region_head 14 (by kernel_rfl) (by kernel_rfl) ?_
    refine wp_head_held (S := fun w' => w'.cell? ⟨w.heap.size, 0, none⟩ = some (.bool n1) ∧ w'.cell? ⟨w.heap.size, 1, none⟩ = some (.int .u64 (h1 : Int)) ∧ w'.cell? ⟨w.heap.size, 2, none⟩ = some (.int .u64 (l1 : Int)) ∧ w'.cell? ⟨w.heap.size + 1, 0, none⟩ = some (.bool n2) ∧ w'.cell? ⟨w.heap.size + 1, 1, none⟩ = some (.int .u64 (h2 : Int)) ∧ w'.cell? ⟨w.heap.size + 1, 2, none⟩ = some (.int .u64 (l2 : Int))) 14 rfl ?_
    simp only [List.take_succ_cons, List.take_zero, List.drop_succ_cons, List.drop_zero]
    have HS0 : (fun w' : World => w'.cell? ⟨w.heap.size, 0, none⟩ = some (.bool n1) ∧ w'.cell? ⟨w.heap.size, 1, none⟩ = some (.int .u64 (h1 : Int)) ∧ w'.cell? ⟨w.heap.size, 2, none⟩ = some (.int .u64 (l1 : Int)) ∧ w'.cell? ⟨w.heap.size + 1, 0, none⟩ = some (.bool n2) ∧ w'.cell? ⟨w.heap.size + 1, 1, none⟩ = some (.int .u64 (h2 : Int)) ∧ w'.cell? ⟨w.heap.size + 1, 2, none⟩ = some (.int .u64 (l2 : Int))) W2.drew := ⟨d0, d1, d2, e0, e1, e2⟩
    (refine wpAnyH_take (i := 0) (v := ?_) rfl (by kernel_rfl) (by kernel_rfl) (by kernel_rfl) (fun _ _ _ h => h) (Or.inl ⟨by rfl, ?_⟩) HS0 ?_; case refine_2 => (intro w hSw; (try dsimp only at hSw); go_simp; try with_reducible rfl); try simp only [Act.put, List.setIfInBounds_toArray, List.set_cons_zero, List.set_cons_succ])
    (refine wpAnyH_take (i := 1) (v := ?_) rfl (by kernel_rfl) (by kernel_rfl) (by kernel_rfl) (fun _ _ _ h => h) (Or.inl ⟨by rfl, ?_⟩) HS0 ?_; case refine_2 => (intro w hSw; (try dsimp only at hSw); go_simp; try with_reducible rfl); try simp only [Act.put, List.setIfInBounds_toArray, List.set_cons_zero, List.set_cons_succ])
    (refine wpAnyH_take (i := 2) (v := ?_) rfl (by kernel_rfl) (by kernel_rfl) (by kernel_rfl) (fun _ _ _ h => h) (Or.inl ⟨by rfl, ?_⟩) HS0 ?_; case refine_2 => (intro w hSw; (try dsimp only at hSw); go_simp; try with_reducible rfl); try simp only [Act.put, List.setIfInBounds_toArray, List.set_cons_zero, List.set_cons_succ])
    (refine wpAnyH_take (i := 3) (v := ?_) rfl (by kernel_rfl) (by kernel_rfl) (by kernel_rfl) (fun _ _ _ h => h) (Or.inl ⟨by rfl, ?_⟩) HS0 ?_; case refine_2 => (intro w hSw; (try dsimp only at hSw); go_simp; try with_reducible rfl); try simp only [Act.put, List.setIfInBounds_toArray, List.set_cons_zero, List.set_cons_succ])
    (refine wpAnyH_take (i := 4) (v := ?_) rfl (by kernel_rfl) (by kernel_rfl) (by kernel_rfl) (fun _ _ _ h => h) (Or.inl ⟨by rfl, ?_⟩) HS0 ?_; case refine_2 => (intro w hSw; (try dsimp only at hSw); go_simp; try with_reducible rfl); try simp only [Act.put, List.setIfInBounds_toArray, List.set_cons_zero, List.set_cons_succ])
    (refine wpAnyH_take (i := 5) (v := ?_) rfl (by kernel_rfl) (by kernel_rfl) (by kernel_rfl) (fun _ _ _ h => h) (Or.inl ⟨by rfl, ?_⟩) HS0 ?_; case refine_2 => (intro w hSw; (try dsimp only at hSw); go_simp; try with_reducible rfl); try simp only [Act.put, List.setIfInBounds_toArray, List.set_cons_zero, List.set_cons_succ])
    (refine wpAnyH_take (i := 7) (v := ?_) rfl (by kernel_rfl) (by kernel_rfl) (by kernel_rfl) (fun _ _ _ h => h) (Or.inl ⟨by rfl, ?_⟩) HS0 ?_; case refine_2 => (intro w hSw; (try dsimp only at hSw); go_simp; try with_reducible rfl); try simp only [Act.put, List.setIfInBounds_toArray, List.set_cons_zero, List.set_cons_succ])
    (refine wpAnyH_take (i := 8) (v := ?_) rfl (by kernel_rfl) (by kernel_rfl) (by kernel_rfl) (fun _ _ _ h => h) (Or.inl ⟨by rfl, ?_⟩) HS0 ?_; case refine_2 => (intro w hSw; (try dsimp only at hSw); go_simp; try with_reducible rfl); try simp only [Act.put, List.setIfInBounds_toArray, List.set_cons_zero, List.set_cons_succ])
    (refine wpAnyH_take (i := 9) (v := ?_) rfl (by kernel_rfl) (by kernel_rfl) (by kernel_rfl) (fun _ _ _ h => h) (Or.inl ⟨by rfl, ?_⟩) HS0 ?_; case refine_2 => (intro w hSw; (try dsimp only at hSw); go_simp; try with_reducible rfl); try simp only [Act.put, List.setIfInBounds_toArray, List.set_cons_zero, List.set_cons_succ])
    (refine wpAnyH_take (i := 10) (v := ?_) rfl (by kernel_rfl) (by kernel_rfl) (by kernel_rfl) (fun _ _ _ h => h) (Or.inl ⟨by rfl, ?_⟩) HS0 ?_; case refine_2 => (intro w hSw; (try dsimp only at hSw); go_simp; try with_reducible rfl); try simp only [Act.put, List.setIfInBounds_toArray, List.set_cons_zero, List.set_cons_succ])
    (refine wpAnyH_take (i := 11) (v := ?_) rfl (by kernel_rfl) (by kernel_rfl) (by kernel_rfl) (fun _ _ _ h => h) (Or.inl ⟨by rfl, ?_⟩) HS0 ?_; case refine_2 => (intro w hSw; (try dsimp only at hSw); go_simp; try with_reducible rfl); try simp only [Act.put, List.setIfInBounds_toArray, List.set_cons_zero, List.set_cons_succ])
    (refine wpAnyH_take (i := 12) (v := ?_) rfl (by kernel_rfl) (by kernel_rfl) (by kernel_rfl) (fun _ _ _ h => h) (Or.inl ⟨by rfl, ?_⟩) HS0 ?_; case refine_2 => (intro w hSw; (try dsimp only at hSw); go_simp; try with_reducible rfl); try simp only [Act.put, List.setIfInBounds_toArray, List.set_cons_zero, List.set_cons_succ])
    have B0 : Below W2.heap.size W2 W2.drew := (Below.refl _ _).drew
    generalize W2.drew = W3 at HS0 B0 ⊢
    refine wpAnyH_ready (rs := [6]) (by kernel_rfl) (by simp) ?_
    refine AllReadyH.cons (o := _) rfl (fun K hK => ?_) AllReadyH.nil
    go_simp
    go_at_call 56
    (with_reducible refine (put_any n1 h1 l1 _ HL.out.1 HL.out.2.1).mono ?_); rintro e w4 ⟨rfl, b4⟩; rw [HV.out]
    have B4 := bt B0 b4
    refine hK.out _ _ ⟨(WAt.below X.out B4).c0, (WAt.below X.out B4).c1, (WAt.below X.out B4).c2, (WAt.below Y.out B4).c0, (WAt.below Y.out B4).c1, (WAt.below Y.out B4).c2⟩ (fun _ => ?_)
    refine wpAnyH_ready (rs := [13]) (by kernel_rfl) (by simp) ?_
    refine AllReadyH.cons (o := _) rfl (fun K hK => ?_) AllReadyH.nil
    go_simp
    go_at_call 56
    (with_reducible refine (put_any n2 h2 l2 _ HL.out.2.2.1 HL.out.2.2.2).mono ?_); rintro e w5 ⟨rfl, b5⟩; rw [HU.out]
    have B5 := bt B4 b5
    refine hK.out _ _ ⟨(WAt.below X.out B5).c0, (WAt.below X.out B5).c1, (WAt.below X.out B5).c2, (WAt.below Y.out B5).c0, (WAt.below Y.out B5).c1, (WAt.below Y.out B5).c2⟩ (fun _ => ?_)
    refine wpAnyH_done (by kernel_rfl) ?_ _
    have X5 := Lib.hid (WAt.below X.out B5)
    have Y5 := Lib.hid (WAt.below Y.out B5)
    have C5 := Lib.hid B5
    clear b4 b5 B4 B5 HS0 hK
    have x0 := X5.out.c0; have x1 := X5.out.c1; have x2 := X5.out.c2; have x3 := X5.out.f0; have x4 := X5.out.f1; have x5 := X5.out.f2
    have y0 := Y5.out.c0; have y1 := Y5.out.c1; have y2 := Y5.out.c2; have y3 := Y5.out.f0; have y4 := Y5.out.f1; have y5 := Y5.out.f2
    dsimp only [headQ]
    go_wp2_with fail
    go_meet
    case rel =>
      exact ⟨wAt_other3 _ _ _ (wAt_set3 _ _ _ X5.out) ne1, wAt_set3 _ _ _ (wAt_other3 _ _ _ Y5.out ne2), below_set3 _ _ _ (below_set3 _ _ _ (bt B.out C5.out) (Nat.le_refl _)) (Nat.le_succ _)⟩
  case rest =>
    obtain ⟨X5, Y5, B5⟩ := hcut
    have X6 := Lib.hid X5; have Y6 := Lib.hid Y5; have B6 := Lib.hid B5
    clear d0 d1 d2 e0 e1 e2 X5 Y5 B5
    have d0 := X6.out.c0; have d1 := X6.out.c1; have d2 := X6.out.c2; have e0 := Y6.out.c0; have e1 := Y6.out.c1; have e2 := Y6.out.c2
    clear ne1 ne2
    cases p <;> cases q
    · go_wp2_with fail
      refine (above_any false false h1 l1 h2 l2 c _ HL.out.2.1 HL.out.2.2.2 hc.out).mono ?_
      rintro e w7 ⟨rfl, b7⟩
      rw [show c = res from hres.out]
      go_wp2_with fail
      go_ret
      exact ⟨rfl, bt B6.out b7⟩
    · obtain rfl : 1 = res := hres.out
      go_wp2_with fail
      go_ret
      exact ⟨rfl, B6.out⟩
    · obtain rfl : -1 = res := hres.out
      go_wp2_with fail
      go_ret
      exact ⟨rfl, B6.out⟩
    · go_wp2_with fail
      refine (above_any true true h2 l2 h1 l1 d _ HL.out.2.2.2 HL.out.2.1 hd.out).mono ?_
      rintro e w7 ⟨rfl, b7⟩
      rw [show d = res from hres.out]
      go_wp2_with fail
      go_ret
      exact ⟨rfl, bt B6.out b7⟩
end Go.Proofs.Ytlbmmnjecemkeaa
