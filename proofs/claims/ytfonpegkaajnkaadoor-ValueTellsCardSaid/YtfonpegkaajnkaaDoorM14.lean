/-
  THE WALKS of the reference's Sub, Cmp.
-/
import Derived.Test.YtfonpegkaajnkaaDoorM13
/-
  THE WALKS of the reference's Sub, Cmp.
-/
namespace Go.Proofs.YtfonpegkaajnkaaDoor
open Go.RowKit
attribute [local go_sem ↓] Go.wp_at_zero Go.wp_at_succ

set_option maxHeartbeats 4000000 in
theorem sub_any (k1 k2 : Nat) (va vb : Value) (x y : Int) (w : World) (ha : Num k1 w va x) (hb : Num k2 w vb y) (l1 : k1 ≤ 10000) (l2 : k2 ≤ 10000) :
    Calls Tryd.prog 98 #[va, vb] w (NumPost (max k1 k2 + 1) (x - y) w) := by
  obtain ⟨bx, aa, na, ca, rfl⟩ := num_agg ha
  obtain ⟨by', ab, nb, cb, rfl⟩ := num_agg hb
  have HA := Lib.hid ha
  have HB := Lib.hid hb
  clear ha hb
  go_enter Tryd.func98, Tryd.ntmps98
  go_wp2_with fail
  generalize hW : World.alloc (World.alloc (World.alloc _ _) _) _ = W
  have c1 : BoxAt W w.heap.size (.bool bx) (.slice aa na ca) := by
    rw [← hW]; exact boxAt_below (boxAt_below (boxAt_new w _ _) (ba _ _)) (ba _ _)
  have c2 : BoxAt W (w.heap.size + 1) (.bool by') (.slice ab nb cb) := by
    have := boxAt_below (boxAt_new (w.alloc (.cells #[.bool bx, .slice aa na ca] 87)) (.bool by') (.slice ab nb cb)) (ba _ (.cells #[.bool false, .slice none 0 0] 87))
    rw [World.size_alloc] at this; rw [← hW]; exact this
  have c3 : BoxAt W (w.heap.size + 1 + 1) (.bool false) (.slice none 0 0) := by
    have := boxAt_new ((w.alloc (.cells #[.bool bx, .slice aa na ca] 87)).alloc (.cells #[.bool by', .slice ab nb cb] 87)) (.bool false) (.slice none 0 0)
    rw [World.size_alloc, World.size_alloc] at this; rw [← hW]; exact this
  have HBW : Hid (Below w.heap.size w W) := by rw [← hW]; exact bt (ba _ _) (bt (ba _ _) (ba _ _))
  clear hW
  have C1 := Lib.hid c1; have C2 := Lib.hid c2; have C3 := Lib.hid c3
  clear c1 c2 c3
  have l1' := C1.out.lt; have l2' := C2.out.lt; have l3' := C3.out.lt
  have d1 := C1.out.c0; have d2 := C1.out.c1; have d3 := C2.out.c0; have d4 := C2.out.c1
  go_region_held3 (fun w' => w'.cell? ⟨w.heap.size, 0, none⟩ = some (.bool bx) ∧ w'.cell? ⟨w.heap.size, 1, none⟩ = some (.slice aa na ca) ∧ w'.cell? ⟨w.heap.size + 1, 0, none⟩ = some (.bool by') ∧ w'.cell? ⟨w.heap.size + 1, 1, none⟩ = some (.slice ab nb cb))
    (first | exact ⟨d1, d2, d3, d4⟩ | exact ⟨h1, h2, h3, h4⟩ | exact ⟨g1, g2, g3, g4⟩ | (simp [go_sem, g1, g2, g3, g4]; done) | go_keep)
    (first
      | (go_at_call 63; refine (neg_any k2 _ y _ (by exact num_below HB.out HBW.out.drew)).mono ?_; rintro e w1 ⟨vz, hz, rfl, b1⟩; obtain ⟨bz, az, nz, cz, rfl⟩ := num_agg hz; have HZ := Lib.hid hz; have B1 := Lib.hid b1; have h1 := (boxAt_below (w := W.drew) C1.out b1).c0; have h2 := (boxAt_below (w := W.drew) C1.out b1).c1; have h3 := (boxAt_below (w := W.drew) C2.out b1).c0; have h4 := (boxAt_below (w := W.drew) C2.out b1).c1; clear hz b1)
      | (go_at_call 61; refine (add_any k1 k2 _ _ x (-y) _ (by exact num_below HA.out (bt HBW.out.drew B1.out)) HZ.out l1 l2).mono ?_; rintro e w2 ⟨vr, hv, rfl, b2⟩; obtain ⟨br, ar, nr, cr, rfl⟩ := num_agg hv; have HV := Lib.hid hv; have B2 := Lib.hid b2; have g1 := (boxAt_below (boxAt_below (w := W.drew) C1.out B1.out) b2).c0; have g2 := (boxAt_below (boxAt_below (w := W.drew) C1.out B1.out) b2).c1; have g3 := (boxAt_below (boxAt_below (w := W.drew) C2.out B1.out) b2).c0; have g4 := (boxAt_below (boxAt_below (w := W.drew) C2.out B1.out) b2).c1; have HR := Lib.hid (boxAt_below (boxAt_below (w := W.drew) C3.out B1.out) b2); have r0 := HR.out.c0; have r1 := HR.out.c1; have r2 := HR.out.f0; have r3 := HR.out.f1; clear hv b2))
  go_wp2_with fail
  refine bodyPost_ret (v := .agg #[.bool br, .slice ar nr cr]) (by simp [results, Tryd.results98, go_sem, r0, r1]) rfl ⟨_, ?_, rfl, ((bt HBW.out.drew (bt B1.out B2.out)).setCell (Nat.le_succ_of_le (Nat.le_succ _)) _).setCell (Nat.le_succ_of_le (Nat.le_succ _)) _⟩
  exact num_set2 _ _ HV.out HR.out

def cmpZ (x y : Int) : Int := if x = y then 0 else if x < y then -1 else 1

set_option maxHeartbeats 4000000 in
theorem cmp_any (k1 k2 : Nat) (va vb : Value) (x y : Int) (w : World) (ha : Num k1 w va x) (hb : Num k2 w vb y) (l1 : k1 ≤ 10000) (l2 : k2 ≤ 10000) :
    Calls Tryd.prog 96 #[va, vb] w (IntPost (cmpZ x y) w) := by
  obtain ⟨bx, aa, na, ca, rfl⟩ := num_agg ha
  obtain ⟨by', ab, nb, cb, rfl⟩ := num_agg hb
  have HA := Lib.hid ha
  have HB := Lib.hid hb
  clear ha hb
  go_enter Tryd.func96, Tryd.ntmps96
  go_wp2_with fail
  refine (sub_any k1 k2 _ _ x y _ (num_below HA.out (bt (ba _ _) (ba _ _))) (num_below HB.out (bt (ba _ _) (ba _ _))) l1 l2).mono ?_
  rintro e w1 ⟨vz, hz, rfl, b1⟩
  obtain ⟨az, nz, cz, ds, rfl, hr, hc, hv, hk, hn⟩ := num_open hz
  have HBL : Hid (Below w.heap.size w w1) := bt (ba _ _) (bt (ba _ _) b1)
  have HZ : Hid (nz = 0 ↔ x = y) := by
    have := Nm.canon_zero ds hc
    show _ ↔ _
    rw [← hn]
    constructor
    · intro h; have h2 := this.2 (List.eq_nil_of_length_eq_zero h); omega
    · intro h; have h2 := this.1 (by omega); rw [h2]; rfl
  have HLN : Hid (ds.length ≤ max k1 k2 + 1 ∧ ds.length = nz) := ⟨hk, hn⟩
  have hnz : nz ≤ 10001 := by omega
  clear hz hr hc hv hk hn b1
  obtain ⟨bz, hbz⟩ : ∃ b, Hid (decide (x - y < 0) = b) := ⟨_, rfl⟩
  rw [hbz.out]
  rcases Int.lt_trichotomy x y with h | h | h
  · have e0 : ((nz : Int) == 0) = false := by
      rw [beq_eq_false_iff_ne]; intro q; have := HZ.out.1 (by omega); omega
    have e1 : bz = true := by rw [← hbz.out]; simp; omega
    subst e1
    have HG : Hid (cmpZ x y = -1) := by show _ = _; unfold cmpZ; rw [if_neg (by omega), if_pos h]
    clear h
    go_wp2_with fail
    go_ret
    exact ⟨by rw [HG.out]; rfl, bt HBL.out (by first | exact ba _ _ | exact Below.refl _ _)⟩
  · have e0 : nz = 0 := HZ.out.2 h
    subst e0
    have HG : Hid (cmpZ x y = 0) := by show _ = _; unfold cmpZ; rw [if_pos h]
    clear h
    go_wp2_with fail
    go_ret
    exact ⟨by rw [HG.out]; rfl, bt HBL.out (by first | exact ba _ _ | exact Below.refl _ _)⟩
  · have e0 : ((nz : Int) == 0) = false := by
      rw [beq_eq_false_iff_ne]; intro q; have := HZ.out.1 (by omega); omega
    have e1 : bz = false := by rw [← hbz.out]; simp; omega
    subst e1
    have HG : Hid (cmpZ x y = 1) := by show _ = _; unfold cmpZ; rw [if_neg (by omega), if_neg (by omega)]
    clear h
    go_wp2_with fail
    go_ret
    exact ⟨by rw [HG.out]; rfl, bt HBL.out (by first | exact ba _ _ | exact Below.refl _ _)⟩
end Go.Proofs.YtfonpegkaajnkaaDoor
