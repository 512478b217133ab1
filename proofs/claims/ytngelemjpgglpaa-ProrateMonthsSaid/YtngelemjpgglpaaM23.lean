/-
  THE WALKS of wide's Add, Cmp.
-/
import Derived.Test.YtngelemjpgglpaaM22
import Derived.Test.YtngelemjpgglpaaM20
/-
  THE WALKS of wide's Add, Cmp.
-/
namespace Go.Proofs.Ytngelemjpgglpaa
set_option linter.unusedSimpArgs false
set_option linter.unusedVariables false
open Go.RowKit
attribute [local go_sem ↓] Go.wp_at_zero Go.wp_at_succ

theorem wz_plus (n : Bool) (h1 l1 h2 l2 H L : Nat) (h : h1 * 18446744073709551616 + l1 + (h2 * 18446744073709551616 + l2) = H * 18446744073709551616 + L) : wz n h1 l1 + wz n h2 l2 = wz n H L := by
  unfold wz; cases n
  · simp only [Bool.false_eq_true, if_false]; omega
  · simp only [if_true]; omega
theorem wz_less (n : Bool) (h1 l1 h2 l2 H L : Nat) (h : h1 * 18446744073709551616 + l1 = H * 18446744073709551616 + L + (h2 * 18446744073709551616 + l2)) : wz n h1 l1 + wz (!n) h2 l2 = wz n H L := by
  unfold wz; cases n
  · simp only [Bool.false_eq_true, if_false, Bool.not_false, if_true]; omega
  · simp only [if_true, Bool.not_true, Bool.false_eq_true, if_false]; omega

theorem add_nat (h1 l1 h2 l2 L C H O : Nat) (a : l1 + l2 = C * 18446744073709551616 + L) (b : h1 + h2 + C = O * 18446744073709551616 + H) :
    h1 * 18446744073709551616 + l1 + (h2 * 18446744073709551616 + l2) = O * 340282366920938463463374607431768211456 + (H * 18446744073709551616 + L) := by omega
theorem divmodB (x C L : Nat) (h1 : x / 18446744073709551616 = C) (h2 : x % 18446744073709551616 = L) : x = C * 18446744073709551616 + L := by omega

set_option maxRecDepth 100000 in
set_option maxHeartbeats 1000000 in
theorem wAdd_same (n : Bool) (h1 l1 h2 l2 : Nat) (w : World) (b1 : h1 < 18446744073709551616) (b2 : l1 < 18446744073709551616) (b3 : h2 < 18446744073709551616) (b4 : l2 < 18446744073709551616) :
    Calls Try.prog 30 #[.agg #[.bool n, .int .u64 (h1 : Int), .int .u64 (l1 : Int)], .agg #[.bool n, .int .u64 (h2 : Int), .int .u64 (l2 : Int)]] w fun e w' => e = .returned (ovV (wz n h1 l1 + wz n h2 l2)) ∧ Below w.heap.size w w' := by
  have ad := fun w => add64 (l1 : Int) (l2 : Int) 0 (by omega) (by omega) (by omega) (by omega) (by omega) (by omega) w
  obtain ⟨L, hL⟩ : ∃ x : Nat, Hid ((l1 + l2) % 18446744073709551616 = x) := ⟨_, rfl⟩
  obtain ⟨C, hC⟩ : ∃ x : Nat, Hid ((l1 + l2) / 18446744073709551616 = x) := ⟨_, rfl⟩
  rw [show ((l1 : Int) + (l2 : Int) + 0) % 18446744073709551616 = (L : Int) from by have := hL.out; omega, show ((l1 : Int) + (l2 : Int) + 0) / 18446744073709551616 = (C : Int) from by have := hC.out; omega] at ad
  have hC1 : C ≤ 1 := by have := hC.out; omega
  have ad2 := fun w => add64 (h1 : Int) (h2 : Int) (C : Int) (by omega) (by omega) (by omega) (by omega) (by omega) (by omega) w
  obtain ⟨H, hH⟩ : ∃ x : Nat, Hid ((h1 + h2 + C) % 18446744073709551616 = x) := ⟨_, rfl⟩
  obtain ⟨O, hO⟩ : ∃ x : Nat, Hid ((h1 + h2 + C) / 18446744073709551616 = x) := ⟨_, rfl⟩
  rw [show ((h1 : Int) + (h2 : Int) + (C : Int)) % 18446744073709551616 = (H : Int) from by have := hH.out; omega, show ((h1 : Int) + (h2 : Int) + (C : Int)) / 18446744073709551616 = (O : Int) from by have := hO.out; omega] at ad2
  have HS : Hid (H < 18446744073709551616 ∧ L < 18446744073709551616) := ⟨by have := hH.out; omega, by have := hL.out; omega⟩
  have HT := Lib.hid (add_nat h1 l1 h2 l2 L C H O (divmodB _ _ _ hC.out hL.out) (divmodB _ _ _ hO.out hH.out))
  clear b1 b2 b3 b4
  by_cases hk : O = 0
  · have HE := Lib.hid (wz_plus n h1 l1 h2 l2 H L (by have := HT.out; rw [hk, Nat.zero_mul, Nat.zero_add] at this; exact this))
    have HO : Hid (ovV (wz n h1 l1 + wz n h2 l2) = .tuple #[wv (wz n H L), .int .i64 0]) := by
      show _ = _; unfold ovV; rw [HE.out, wz_abs, if_pos (by have := HS.out; omega)]
    rw [HO.out]
    subst hk
    clear hC1
    obtain ⟨X, Y⟩ := two_wide w n n h1 l1 h2 l2
    have d0 := X.c0; have d1 := X.c1; have d2 := X.c2; have k0 := Y.c0; have k1 := Y.c1; have k2 := Y.c2
    clear X Y
    go_enter Try.func30, Try.ntmps30
    go_wp2_with (simp only [ad, ad2])
    refine (put_any n H L _ HS.out.1 HS.out.2).mono ?_
    rintro e w2 ⟨rfl, b2⟩
    obtain ⟨nb, nh, nl, hv⟩ := wv_agg (wz n H L)
    rw [hv.out]
    have Y : Hid (WAt w2 (w.heap.size + 1 + 1) false 0 0) := by
      have := WAt.below (wAt_new ((w.alloc (.cells #[.bool n, .int .u64 (h1 : Int), .int .u64 (l1 : Int)] 57)).alloc (.cells #[.bool n, .int .u64 (h2 : Int), .int .u64 (l2 : Int)] 57)) false 0 0) b2
      rw [World.size_alloc, World.size_alloc] at this; exact this
    have B := Lib.hid (bt (ba _ _) (bt (ba _ _) (bt (ba _ _) b2)))
    clear b2 ad ad2 d0 d1 d2 k0 k1 k2
    have r0 := Y.out.c0; have r1 := Y.out.c1; have r2 := Y.out.c2; have f0 := Y.out.f0; have f1 := Y.out.f1; have f2 := Y.out.f2
    go_wp2_with fail
    refine bodyPost_ret (v := .tuple #[.agg #[.bool nb, .int .u64 (nh : Int), .int .u64 (nl : Int)], .int .i64 0]) (by simp [results, Try.results30, go_sem, r0, r1, r2]) rfl ⟨by rw [hv.out], ((B.out.setCell (by simp; omega) _).setCell (by simp; omega) _).setCell (by simp; omega) _⟩
  · have HO : Hid (ovV (wz n h1 l1 + wz n h2 l2) = .tuple #[.agg #[.bool false, .int .u64 0, .int .u64 0], .int .i64 11]) := by
      have e : (wz n h1 l1 + wz n h2 l2).natAbs = h1 * 18446744073709551616 + l1 + (h2 * 18446744073709551616 + l2) := by
        unfold wz; cases n
        · simp only [Bool.false_eq_true, if_false]; omega
        · simp only [if_true]; omega
      show _ = _; unfold ovV; rw [e, HT.out, if_neg (by omega)]
    rw [HO.out]
    have t1 : decide ((0 : Int) < (O : Int)) = true := by rw [decide_eq_true_eq]; omega
    have t2 : 0 < O := by omega
    clear hk hC1
    obtain ⟨X, Y⟩ := two_wide w n n h1 l1 h2 l2
    have d0 := X.c0; have d1 := X.c1; have d2 := X.c2; have k0 := Y.c0; have k1 := Y.c1; have k2 := Y.c2
    clear X Y
    have Y : Hid (WAt (((w.alloc (.cells #[.bool n, .int .u64 (h1 : Int), .int .u64 (l1 : Int)] 57)).alloc (.cells #[.bool n, .int .u64 (h2 : Int), .int .u64 (l2 : Int)] 57)).alloc (.cells #[.bool false, .int .u64 0, .int .u64 0] 57)) (w.heap.size + 1 + 1) false 0 0) := by
      have := wAt_new ((w.alloc (.cells #[.bool n, .int .u64 (h1 : Int), .int .u64 (l1 : Int)] 57)).alloc (.cells #[.bool n, .int .u64 (h2 : Int), .int .u64 (l2 : Int)] 57)) false 0 0
      rw [World.size_alloc, World.size_alloc] at this; exact this
    have r0 := Y.out.c0; have r1 := Y.out.c1; have r2 := Y.out.c2; have f0 := Y.out.f0; have f1 := Y.out.f1; have f2 := Y.out.f2
    go_enter Try.func30, Try.ntmps30
    go_wp2_with (simp only [ad, ad2])
    refine bodyPost_ret (v := .tuple #[.agg #[.bool false, .int .u64 0, .int .u64 0], .int .i64 11]) (by simp [results, Try.results30, go_sem, r0, r1, r2]) rfl ⟨rfl, ?_⟩
    first | exact bt (ba _ _) (bt (ba _ _) (ba _ _)) | exact (((bt (ba _ _) (bt (ba _ _) (ba _ _))).setCell (by simp; omega) _).setCell (by simp; omega) _).setCell (by simp; omega) _

/-- behind the order of the two -/
def AddOrd (w : World) (n : Bool) (h1 l1 h2 l2 : Nat) (wx : World) : Prop :=
  WAt wx w.heap.size n h1 l1 ∧ WAt wx (w.heap.size + 1) (!n) h2 l2 ∧ WAt wx (w.heap.size + 1 + 1) false 0 0 ∧ Below w.heap.size w wx

theorem add_swapped {w : World} {b1 b2 b3 : Nat} {n1 n2 : Bool} {h1 l1 h2 l2 : Int} (X : WAt w b1 n1 h1 l1) (Y : WAt w b2 n2 h2 l2) (Z : WAt w b3 false 0 0) (e12 : b1 ≠ b2) (e13 : b1 ≠ b3) (e23 : b2 ≠ b3) :
    WAt ((((((w.setCell ⟨b1, 0, none⟩ (.bool n2)).setCell ⟨b1, 1, none⟩ (.int .u64 h2)).setCell ⟨b1, 2, none⟩ (.int .u64 l2)).setCell ⟨b2, 0, none⟩ (.bool n1)).setCell ⟨b2, 1, none⟩ (.int .u64 h1)).setCell ⟨b2, 2, none⟩ (.int .u64 l1)) b1 n2 h2 l2 ∧
    WAt ((((((w.setCell ⟨b1, 0, none⟩ (.bool n2)).setCell ⟨b1, 1, none⟩ (.int .u64 h2)).setCell ⟨b1, 2, none⟩ (.int .u64 l2)).setCell ⟨b2, 0, none⟩ (.bool n1)).setCell ⟨b2, 1, none⟩ (.int .u64 h1)).setCell ⟨b2, 2, none⟩ (.int .u64 l1)) b2 n1 h1 l1 ∧
    WAt ((((((w.setCell ⟨b1, 0, none⟩ (.bool n2)).setCell ⟨b1, 1, none⟩ (.int .u64 h2)).setCell ⟨b1, 2, none⟩ (.int .u64 l2)).setCell ⟨b2, 0, none⟩ (.bool n1)).setCell ⟨b2, 1, none⟩ (.int .u64 h1)).setCell ⟨b2, 2, none⟩ (.int .u64 l1)) b3 false 0 0 := by
  have other : ∀ {w : World} {b b' : Nat} {n : Bool} {h l : Int} (o : Nat) (u : Value), WAt w b n h l → b ≠ b' → WAt (w.setCell ⟨b', o, none⟩ u) b n h l := by
    intro w b b' n h l o u H hb; unfold WAt; rw [Below.heap_setCell _ _ _ _ hb]; exact H
  refine ⟨other _ _ (other _ _ (other _ _ (wAt_set3 _ _ _ X) e12) e12) e12, wAt_set3 _ _ _ (other _ _ (other _ _ (other _ _ Y (Ne.symm e12)) (Ne.symm e12)) (Ne.symm e12)), ?_⟩
  exact other _ _ (other _ _ (other _ _ (other _ _ (other _ _ (other _ _ Z (Ne.symm e13)) (Ne.symm e13)) (Ne.symm e13)) (Ne.symm e23)) (Ne.symm e23)) (Ne.symm e23)

theorem sub_parts (h1 l1 h2 l2 : Nat) (hl1 : l1 < 18446744073709551616) (hl2 : l2 < 18446744073709551616) (b1 : h1 < 18446744073709551616) (b3 : h2 < 18446744073709551616)
    (h : h2 * 18446744073709551616 + l2 ≤ h1 * 18446744073709551616 + l1) : ∃ H L b : Nat, H < 18446744073709551616 ∧ L < 18446744073709551616 ∧ b ≤ 1 ∧ h1 * 18446744073709551616 + l1 = H * 18446744073709551616 + L + (h2 * 18446744073709551616 + l2) ∧
      ((l1 : Int) - l2 - 0) % 18446744073709551616 = L ∧ (if (l1 : Int) < l2 + 0 then (1 : Int) else 0) = b ∧ ((h1 : Int) - h2 - b) % 18446744073709551616 = H := by
  by_cases c : l1 < l2
  · exact ⟨h1 - h2 - 1, l1 + 18446744073709551616 - l2, 1, by omega, by omega, by omega, by omega, by omega, by rw [if_pos (by omega)]; rfl, by omega⟩
  · exact ⟨h1 - h2, l1 - l2, 0, by omega, by omega, by omega, by omega, by omega, by rw [if_neg (by omega)]; rfl, by omega⟩

set_option maxRecDepth 100000 in
set_option maxHeartbeats 2000000 in
theorem wAdd_diff (n : Bool) (h1 l1 h2 l2 : Nat) (w : World) (b1 : h1 < 18446744073709551616) (b2 : l1 < 18446744073709551616) (b3 : h2 < 18446744073709551616) (b4 : l2 < 18446744073709551616) :
    Calls Try.prog 30 #[.agg #[.bool n, .int .u64 (h1 : Int), .int .u64 (l1 : Int)], .agg #[.bool (!n), .int .u64 (h2 : Int), .int .u64 (l2 : Int)]] w fun e w' => e = .returned (ovV (wz n h1 l1 + wz (!n) h2 l2)) ∧ Below w.heap.size w w' := by
  have HB : Hid (l1 < 18446744073709551616 ∧ l2 < 18446744073709551616) := ⟨b2, b4⟩
  obtain ⟨c, hc⟩ : ∃ c, Hid (cmpZ ((h1 * 18446744073709551616 + l1 : Nat) : Int) ((h2 * 18446744073709551616 + l2 : Nat) : Int) = c) := ⟨_, rfl⟩
  obtain ⟨m, hm⟩ : ∃ m, Hid ((!n) = m) := ⟨_, rfl⟩
  have hnm : (n != m) = true := by rw [← hm.out]; cases n <;> rfl
  have hmn : (n == m) = false := by rw [← hm.out]; cases n <;> rfl
  rw [hm.out]
  -- the parts of the difference, whichever is above
  have key : ∃ (s : Bool) (g1 k1 g2 k2 H L b : Nat), Hid ((c < 0 ∧ s = m ∧ g1 = h2 ∧ k1 = l2 ∧ g2 = h1 ∧ k2 = l1) ∨ (¬ c < 0 ∧ s = n ∧ g1 = h1 ∧ k1 = l1 ∧ g2 = h2 ∧ k2 = l2)) ∧ Hid (H < 18446744073709551616 ∧ L < 18446744073709551616 ∧ wz n h1 l1 + wz m h2 l2 = wz s H L) ∧ b ≤ 1 ∧
      Hid (g1 < 18446744073709551616 ∧ k1 < 18446744073709551616 ∧ g2 < 18446744073709551616 ∧ k2 < 18446744073709551616) ∧
      Hid (((k1 : Int) - k2 - 0) % 18446744073709551616 = L ∧ (if (k1 : Int) < k2 + 0 then (1 : Int) else 0) = b ∧ ((g1 : Int) - g2 - b) % 18446744073709551616 = H) := by
    by_cases hlt : h1 * 18446744073709551616 + l1 < h2 * 18446744073709551616 + l2
    · obtain ⟨H, L, b, q1, q2, q3, q4, q5, q6, q7⟩ := sub_parts h2 l2 h1 l1 b4 b2 b3 b1 (by omega)
      have hc1 : c < 0 := by rw [← hc.out]; unfold cmpZ; rw [if_neg (by omega), if_pos (by omega)]; decide
      refine ⟨m, h2, l2, h1, l1, H, L, b, .inl ⟨hc1, rfl, rfl, rfl, rfl, rfl⟩, ⟨q1, q2, ?_⟩, q3, ⟨b3, b4, b1, b2⟩, q5, q6, q7⟩
      have := wz_less m h2 l2 h1 l1 H L q4
      rw [← this, ← hm.out, Bool.not_not, Int.add_comm]
    · obtain ⟨H, L, b, q1, q2, q3, q4, q5, q6, q7⟩ := sub_parts h1 l1 h2 l2 b2 b4 b1 b3 (by omega)
      have hc1 : ¬ c < 0 := by rw [← hc.out]; unfold cmpZ; split; · omega
                               · rw [if_neg (by omega)]; omega
      refine ⟨n, h1, l1, h2, l2, H, L, b, .inr ⟨hc1, rfl, rfl, rfl, rfl, rfl⟩, ⟨q1, q2, ?_⟩, q3, ⟨b1, b2, b3, b4⟩, q5, q6, q7⟩
      have := wz_less n h1 l1 h2 l2 H L q4
      rw [← this, hm.out]
  obtain ⟨s, g1, k1, g2, k2, H, L, b, HC, HS, hb1, HG, HD⟩ := key
  have sb := fun w => sub64 (k1 : Int) (k2 : Int) 0 (by omega) (by have := HG.out; omega) (by omega) (by have := HG.out; omega) (by omega) (by omega) w
  have sb2 := fun w => sub64 (g1 : Int) (g2 : Int) (b : Int) (by omega) (by have := HG.out; omega) (by omega) (by have := HG.out; omega) (by omega) (by omega) w
  rw [HD.out.1, HD.out.2.1] at sb
  obtain ⟨bo, hbo⟩ : ∃ x : Int, Hid ((if (g1 : Int) < (g2 : Int) + (b : Int) then (1 : Int) else 0) = x) := ⟨_, rfl⟩
  rw [HD.out.2.2, hbo.out] at sb2
  have HO : Hid (ovV (wz n h1 l1 + wz m h2 l2) = .tuple #[wv (wz s H L), .int .i64 0]) := by
    show _ = _; unfold ovV; rw [HS.out.2.2, wz_abs, if_pos (by have := HS.out; omega)]
  rw [HO.out]
  clear b1 b2 b3 b4 hb1
  go_enter Try.func30, Try.ntmps30
  go_upto_region 2 with fail
  obtain ⟨X0, Y0⟩ := two_wide w n m h1 l1 h2 l2
  have X := Lib.hid (WAt.below X0 (ba _ (.cells #[.bool false, .int .u64 0, .int .u64 0] 57)))
  have Y := Lib.hid (WAt.below Y0 (ba _ (.cells #[.bool false, .int .u64 0, .int .u64 0] 57)))
  have Z : Hid (WAt (((w.alloc (.cells #[.bool n, .int .u64 (h1 : Int), .int .u64 (l1 : Int)] 57)).alloc (.cells #[.bool m, .int .u64 (h2 : Int), .int .u64 (l2 : Int)] 57)).alloc (.cells #[.bool false, .int .u64 0, .int .u64 0] 57)) (w.heap.size + 1 + 1) false 0 0) := by
    have := wAt_new ((w.alloc (.cells #[.bool n, .int .u64 (h1 : Int), .int .u64 (l1 : Int)] 57)).alloc (.cells #[.bool m, .int .u64 (h2 : Int), .int .u64 (l2 : Int)] 57)) false 0 0
    rw [World.size_alloc, World.size_alloc] at this; exact this
  have B : Hid (Below w.heap.size w (((w.alloc (.cells #[.bool n, .int .u64 (h1 : Int), .int .u64 (l1 : Int)] 57)).alloc (.cells #[.bool m, .int .u64 (h2 : Int), .int .u64 (l2 : Int)] 57)).alloc (.cells #[.bool false, .int .u64 0, .int .u64 0] 57))) := bt (ba _ _) (bt (ba _ _) (ba _ _))
  clear X0 Y0
  generalize World.alloc (World.alloc (World.alloc w _) _) _ = W3 at X Y Z B ⊢
  have d0 := X.out.c0; have d1 := X.out.c1; have d2 := X.out.c2; have e0 := Y.out.c0; have e1 := Y.out.c1; have e2 := Y.out.c2
  go_wp2_with fail
  refine (above_any n m h1 l1 h2 l2 c _ HB.out.1 HB.out.2 hc.out).mono ?_
  rintro e w3 ⟨rfl, b3⟩
  have X3 := Lib.hid (WAt.below X.out b3); have Y3 := Lib.hid (WAt.below Y.out b3); have Z3 := Lib.hid (WAt.below Z.out b3); have B3 := Lib.hid (bt B.out b3)
  clear d0 d1 d2 e0 e1 e2 b3 X Y Z B
  have fin : ∀ (W : World), Hid (WAt W w.heap.size s g1 k1) → Hid (WAt W (w.heap.size + 1) (!s) g2 k2) → Hid (WAt W (w.heap.size + 1 + 1) false 0 0) → Hid (Below w.heap.size w W) → True := fun _ _ _ _ _ => trivial
  clear fin
  rcases HC.out with ⟨c1, rfl, rfl, rfl, rfl, rfl⟩ | ⟨c1, rfl, rfl, rfl, rfl, rfl⟩
  · have c2 : decide (c < 0) = true := by simpa using c1
    have d0 := X3.out.c0; have d1 := X3.out.c1; have d2 := X3.out.c2; have e0 := Y3.out.c0; have e1 := Y3.out.c1; have e2 := Y3.out.c2
    have f0 := X3.out.f0; have f1 := X3.out.f1; have f2 := X3.out.f2; have q0 := Y3.out.f0; have q1 := Y3.out.f1; have q2 := Y3.out.f2
    go_upto_region 4 with fail
    generalize hW : World.setCell _ _ _ = W5
    have sw := add_swapped X3.out Y3.out Z3.out (by omega) (by omega) (by omega)
    rw [hW] at sw
    have X5 := Lib.hid sw.1; have Y5 := Lib.hid sw.2.1; have Z5 := Lib.hid sw.2.2
    have B5 : Hid (Below w.heap.size w W5) := by
      rw [← hW]
      exact (((((B3.out.setCell (by simp) _).setCell (by simp) _).setCell (by simp) _).setCell (by simp) _).setCell (by simp) _).setCell (by simp) _
    clear hW sw d0 d1 d2 e0 e1 e2 f0 f1 f2 q0 q1 q2
    have d0 := X5.out.c0; have d1 := X5.out.c1; have d2 := X5.out.c2; have e0 := Y5.out.c0; have e1 := Y5.out.c1; have e2 := Y5.out.c2
    go_wp2_with (simp only [sb, sb2])
    refine (put_any s H L _ HS.out.1 HS.out.2.1).mono ?_
    rintro e w6 ⟨rfl, b6⟩
    obtain ⟨nb, nh, nl, hv⟩ := wv_agg (wz s H L)
    rw [hv.out]
    have Z6 := Lib.hid (WAt.below Z5.out b6); have B6 := Lib.hid (bt B5.out b6)
    clear b6 sb sb2 d0 d1 d2 e0 e1 e2
    have r0 := Z6.out.c0; have r1 := Z6.out.c1; have r2 := Z6.out.c2; have f0 := Z6.out.f0; have f1 := Z6.out.f1; have f2 := Z6.out.f2
    go_wp2_with fail
    refine bodyPost_ret (v := .tuple #[.agg #[.bool nb, .int .u64 (nh : Int), .int .u64 (nl : Int)], .int .i64 0]) (by simp [results, Try.results30, go_sem, r0, r1, r2]) rfl ⟨by rw [hv.out], ((B6.out.setCell (by simp; omega) _).setCell (by simp; omega) _).setCell (by simp; omega) _⟩
  · have c2 : decide (c < 0) = false := by simpa using c1
    clear c1
    have d0 := X3.out.c0; have d1 := X3.out.c1; have d2 := X3.out.c2; have e0 := Y3.out.c0; have e1 := Y3.out.c1; have e2 := Y3.out.c2
    go_wp2_with (simp only [sb, sb2])
    refine (put_any s H L _ HS.out.1 HS.out.2.1).mono ?_
    rintro e w6 ⟨rfl, b6⟩
    obtain ⟨nb, nh, nl, hv⟩ := wv_agg (wz s H L)
    rw [hv.out]
    have Z6 := Lib.hid (WAt.below Z3.out b6); have B6 := Lib.hid (bt B3.out b6)
    clear b6 sb sb2 d0 d1 d2 e0 e1 e2
    have r0 := Z6.out.c0; have r1 := Z6.out.c1; have r2 := Z6.out.c2; have f0 := Z6.out.f0; have f1 := Z6.out.f1; have f2 := Z6.out.f2
    go_wp2_with fail
    refine bodyPost_ret (v := .tuple #[.agg #[.bool nb, .int .u64 (nh : Int), .int .u64 (nl : Int)], .int .i64 0]) (by simp [results, Try.results30, go_sem, r0, r1, r2]) rfl ⟨by rw [hv.out], ((B6.out.setCell (by simp; omega) _).setCell (by simp; omega) _).setCell (by simp; omega) _⟩

theorem wAdd_any (n1 n2 : Bool) (h1 l1 h2 l2 : Nat) (w : World) (b1 : h1 < 18446744073709551616) (b2 : l1 < 18446744073709551616) (b3 : h2 < 18446744073709551616) (b4 : l2 < 18446744073709551616) :
    Calls Try.prog 30 #[.agg #[.bool n1, .int .u64 (h1 : Int), .int .u64 (l1 : Int)], .agg #[.bool n2, .int .u64 (h2 : Int), .int .u64 (l2 : Int)]] w fun e w' => e = .returned (ovV (wz n1 h1 l1 + wz n2 h2 l2)) ∧ Below w.heap.size w w' := by
  by_cases h : n1 = n2
  · subst h; exact wAdd_same n1 h1 l1 h2 l2 w b1 b2 b3 b4
  · obtain rfl : n2 = !n1 := by cases n1 <;> cases n2 <;> simp_all
    exact wAdd_diff n1 h1 l1 h2 l2 w b1 b2 b3 b4
end Go.Proofs.Ytngelemjpgglpaa
