/-
  ValueSame: walked.
-/
import Derived.Test.YtfonpegkaajnkaaDoorM44
/-
  ValueSame: walked.
-/
namespace Go.Proofs.YtfonpegkaajnkaaDoor.Va
open Go Go.RowKit Dt Tx
set_option linter.unusedSimpArgs false
set_option linter.unusedVariables false
attribute [local go_sem ↓] Go.wp_at_zero Go.wp_at_succ

theorem text_facts {v : V} (hc : fits v.c) (b : Bool) (h : mayV v = b) : ((bs (textV v)).toList == []) = !b ∧ (bs (textV v)).toList.isEmpty = !b := by
  rw [bs_toList]
  cases b
  · rw [(text_nil hc).2 h]; exact ⟨rfl, rfl⟩
  · have : textV v ≠ [] := fun e => by rw [(text_nil hc).1 e] at h; cases h
    cases hl : textV v with
    | nil => exact absurd hl this
    | cons x r => exact ⟨rfl, rfl⟩
theorem V.ext' {v u : V} (h0 : v.k = u.k) (h1 : v.c = u.c) (h2 : v.s = u.s) (h3 : v.e = u.e) : v = u := by
  obtain ⟨_, _, _, _⟩ := v
  obtain ⟨_, _, _, _⟩ := u
  simp at h0 h1 h2 h3
  obtain ⟨rfl, rfl, rfl, rfl⟩ := And.intro h0 (And.intro h1 (And.intro h2 h3))
  rfl
set_option maxRecDepth 100000 in
set_option maxHeartbeats 4000000 in
theorem same_law_ff {w : World} (v u : V) (hv : v.ok) (hu : u.ok) (he : Env w) (hm : mayV v = false) (hn : mayV u = false) : Calls Tryd.prog 4 #[.agg #[.int .u8 v.k, .int .i64 v.c, .int .i64 v.s, .int .i64 v.e], .agg #[.int .u8 u.k, .int .i64 u.c, .int .i64 u.s, .int .i64 u.e]] w fun e w' => e = .returned (.bool true) ∧ Below w.heap.size w w' := by
  have HE := Lib.hid he
  have B := Lib.hid (bt (ba w (.cells #[.int .u8 v.k, .int .i64 v.c, .int .i64 v.s, .int .i64 v.e] 27)) (ba _ (.cells #[.int .u8 u.k, .int .i64 u.c, .int .i64 u.s, .int .i64 u.e] 27)))
  have X := Lib.hid ((Four.new w v).below (ba _ (.cells #[.int .u8 u.k, .int .i64 u.c, .int .i64 u.s, .int .i64 u.e] 27)))
  have Y := Lib.hid (Four.new (w.alloc (.cells #[.int .u8 v.k, .int .i64 v.c, .int .i64 v.s, .int .i64 v.e] 27)) u)
  have T1 := fun w h => text_is (w := w) v hv h
  have T2 := fun w h => text_is (w := w) u hu h
  have M1 := fun w => may_is (w := w) v hv
  have M2 := fun w => may_is (w := w) u hu
  rw [hm] at M1
  rw [hn] at M2
  obtain ⟨s1, s2⟩ := text_facts hv.2.1 _ hm
  obtain ⟨t1, t2⟩ := text_facts hu.2.1 _ hn
  skip
  obtain ⟨S, hS⟩ : ∃ s, Hid (bs (textV v) = s) := ⟨_, rfl⟩
  obtain ⟨T, hT⟩ : ∃ s, Hid (bs (textV u) = s) := ⟨_, rfl⟩
  rw [hS.out] at T1 s1 s2 
  rw [hT.out] at T2 t1 t2 
  simp only [Bool.not_true, Bool.not_false] at s1 s2 t1 t2
  clear hv hu he hm hn hS hT 
  go_enter Tryd.func4, Tryd.ntmps4
  go_upto_region 1 with fail
  obtain ⟨w1, hw1⟩ : ∃ x, Hid (x = w.alloc (.cells #[.int .u8 v.k, .int .i64 v.c, .int .i64 v.s, .int .i64 v.e] 27)) := ⟨_, rfl⟩
  obtain ⟨i0, hi0⟩ : ∃ x, Hid (w.heap.size = x) := ⟨_, rfl⟩
  have hs1 : w1.heap.size = w.heap.size + 1 := by rw [hw1.out]; simp
  rw [← hw1.out] at B X Y ⊢
  obtain ⟨i1, hi1⟩ : ∃ x, Hid (w1.heap.size = x) := ⟨_, rfl⟩
  obtain ⟨wa, hwa⟩ : ∃ x, Hid (x = w1.alloc (.cells #[.int .u8 u.k, .int .i64 u.c, .int .i64 u.s, .int .i64 u.e] 27)) := ⟨_, rfl⟩
  rw [← hwa.out] at B X Y ⊢
  have hs2 : w.heap.size + 1 = i1 := by rw [← hs1]; exact hi1.out
  rw [hi1.out] at Y
  first | rw [hs2] | rw [hi1.out]
  rw [hi0.out] at X
  clear hw1 hwa hs1
  try rw [hi0.out]
  clear hs2 hi0 hi1
  have dr : Below wa.heap.size wa wa.drew := ⟨rfl, rfl, rfl, Nat.le_refl _, fun _ _ => rfl⟩
  have mk : ∀ w', Below wa.heap.size wa w' → w'.cell? ⟨i0, 0, none⟩ = some (.int .u8 v.k) ∧ w'.cell? ⟨i0, 1, none⟩ = some (.int .i64 v.c) ∧ w'.cell? ⟨i0, 2, none⟩ = some (.int .i64 v.s) ∧ w'.cell? ⟨i0, 3, none⟩ = some (.int .i64 v.e) ∧ w'.cell? ⟨i1, 0, none⟩ = some (.int .u8 u.k) ∧ w'.cell? ⟨i1, 1, none⟩ = some (.int .i64 u.c) ∧ w'.cell? ⟨i1, 2, none⟩ = some (.int .i64 u.s) ∧ w'.cell? ⟨i1, 3, none⟩ = some (.int .i64 u.e) := fun w' h => ⟨(X.out.below h).c0, (X.out.below h).c1, (X.out.below h).c2, (X.out.below h).c3, (Y.out.below h).c0, (Y.out.below h).c1, (Y.out.below h).c2, (Y.out.below h).c3⟩
  have HS0 := mk wa.drew dr
  have T1' := T1 wa.drew (HE.out.below (bt B.out dr))
  go_region_held3 (fun w' : World => w'.cell? ⟨i0, 0, none⟩ = some (.int .u8 v.k) ∧ w'.cell? ⟨i0, 1, none⟩ = some (.int .i64 v.c) ∧ w'.cell? ⟨i0, 2, none⟩ = some (.int .i64 v.s) ∧ w'.cell? ⟨i0, 3, none⟩ = some (.int .i64 v.e) ∧ w'.cell? ⟨i1, 0, none⟩ = some (.int .u8 u.k) ∧ w'.cell? ⟨i1, 1, none⟩ = some (.int .i64 u.c) ∧ w'.cell? ⟨i1, 2, none⟩ = some (.int .i64 u.s) ∧ w'.cell? ⟨i1, 3, none⟩ = some (.int .i64 u.e))
    (first | with_reducible exact HS0 | with_reducible assumption)
    (first
      | (go_at_call 11; (with_reducible refine T1'.mono ?_); rintro e7 w7 ⟨rfl, q7⟩; have HS7 := mk w7 (bt dr q7); have B7 := Lib.hid (bt dr q7); have T2' := T2 w7 (HE.out.below (bt B.out B7.out)); clear q7 T1' T1 T2)
      | (go_at_call 11; (with_reducible refine T2'.mono ?_); rintro e8 w8 ⟨rfl, q8⟩; have HS8 := mk w8 (bt B7.out q8); have B8 := Lib.hid (bt B7.out q8); clear q8 T2'))
  obtain ⟨a0, a1, a2, a3, b0, b1, b2, b3⟩ := HS8
  clear HS0 HS7 dr
  go_wp2_with (first
    | (go_at_call 12; (with_reducible refine (M1 _).mono ?_); rintro e3 w3 ⟨rfl, q3⟩; have B3 := Lib.hid (bt B8.out q3); obtain ⟨g0, g1, g2, g3, h0, h1, h2, h3⟩ := mk w3 B3.out; clear q3 M1)
    | (go_at_call 12; (with_reducible refine (M2 _).mono ?_); rintro e4 w4 ⟨rfl, q4⟩; have B4 := Lib.hid (bt B3.out q4); obtain ⟨j0, j1, j2, j3, k0, k1, k2, k3⟩ := mk w4 B4.out; have K := knownV_is (HE.out.below (bt B.out B4.out)); clear q4 M2)
    | (go_at_call 8; (with_reducible refine K.mono ?_); rintro e9 w9 ⟨rfl, q9⟩; have B9 := Lib.hid (bt B.out (bt B4.out q9)); clear q9 K))
  go_ret
  exact ⟨rfl, B9.out⟩
set_option maxRecDepth 100000 in
set_option maxHeartbeats 4000000 in
theorem same_law_ft {w : World} (v u : V) (hv : v.ok) (hu : u.ok) (he : Env w) (hm : mayV v = false) (hn : mayV u = true) : Calls Tryd.prog 4 #[.agg #[.int .u8 v.k, .int .i64 v.c, .int .i64 v.s, .int .i64 v.e], .agg #[.int .u8 u.k, .int .i64 u.c, .int .i64 u.s, .int .i64 u.e]] w fun e w' => e = .returned (.bool true) ∧ Below w.heap.size w w' := by
  have HE := Lib.hid he
  have B := Lib.hid (bt (ba w (.cells #[.int .u8 v.k, .int .i64 v.c, .int .i64 v.s, .int .i64 v.e] 27)) (ba _ (.cells #[.int .u8 u.k, .int .i64 u.c, .int .i64 u.s, .int .i64 u.e] 27)))
  have X := Lib.hid ((Four.new w v).below (ba _ (.cells #[.int .u8 u.k, .int .i64 u.c, .int .i64 u.s, .int .i64 u.e] 27)))
  have Y := Lib.hid (Four.new (w.alloc (.cells #[.int .u8 v.k, .int .i64 v.c, .int .i64 v.s, .int .i64 v.e] 27)) u)
  have T1 := fun w h => text_is (w := w) v hv h
  have T2 := fun w h => text_is (w := w) u hu h
  have M1 := fun w => may_is (w := w) v hv
  have M2 := fun w => may_is (w := w) u hu
  rw [hm] at M1
  rw [hn] at M2
  obtain ⟨s1, s2⟩ := text_facts hv.2.1 _ hm
  obtain ⟨t1, t2⟩ := text_facts hu.2.1 _ hn
  skip
  obtain ⟨S, hS⟩ : ∃ s, Hid (bs (textV v) = s) := ⟨_, rfl⟩
  obtain ⟨T, hT⟩ : ∃ s, Hid (bs (textV u) = s) := ⟨_, rfl⟩
  rw [hS.out] at T1 s1 s2 
  rw [hT.out] at T2 t1 t2 
  simp only [Bool.not_true, Bool.not_false] at s1 s2 t1 t2
  clear hv hu he hm hn hS hT 
  go_enter Tryd.func4, Tryd.ntmps4
  go_upto_region 1 with fail
  obtain ⟨w1, hw1⟩ : ∃ x, Hid (x = w.alloc (.cells #[.int .u8 v.k, .int .i64 v.c, .int .i64 v.s, .int .i64 v.e] 27)) := ⟨_, rfl⟩
  obtain ⟨i0, hi0⟩ : ∃ x, Hid (w.heap.size = x) := ⟨_, rfl⟩
  have hs1 : w1.heap.size = w.heap.size + 1 := by rw [hw1.out]; simp
  rw [← hw1.out] at B X Y ⊢
  obtain ⟨i1, hi1⟩ : ∃ x, Hid (w1.heap.size = x) := ⟨_, rfl⟩
  obtain ⟨wa, hwa⟩ : ∃ x, Hid (x = w1.alloc (.cells #[.int .u8 u.k, .int .i64 u.c, .int .i64 u.s, .int .i64 u.e] 27)) := ⟨_, rfl⟩
  rw [← hwa.out] at B X Y ⊢
  have hs2 : w.heap.size + 1 = i1 := by rw [← hs1]; exact hi1.out
  rw [hi1.out] at Y
  first | rw [hs2] | rw [hi1.out]
  rw [hi0.out] at X
  clear hw1 hwa hs1
  try rw [hi0.out]
  clear hs2 hi0 hi1
  have dr : Below wa.heap.size wa wa.drew := ⟨rfl, rfl, rfl, Nat.le_refl _, fun _ _ => rfl⟩
  have mk : ∀ w', Below wa.heap.size wa w' → w'.cell? ⟨i0, 0, none⟩ = some (.int .u8 v.k) ∧ w'.cell? ⟨i0, 1, none⟩ = some (.int .i64 v.c) ∧ w'.cell? ⟨i0, 2, none⟩ = some (.int .i64 v.s) ∧ w'.cell? ⟨i0, 3, none⟩ = some (.int .i64 v.e) ∧ w'.cell? ⟨i1, 0, none⟩ = some (.int .u8 u.k) ∧ w'.cell? ⟨i1, 1, none⟩ = some (.int .i64 u.c) ∧ w'.cell? ⟨i1, 2, none⟩ = some (.int .i64 u.s) ∧ w'.cell? ⟨i1, 3, none⟩ = some (.int .i64 u.e) := fun w' h => ⟨(X.out.below h).c0, (X.out.below h).c1, (X.out.below h).c2, (X.out.below h).c3, (Y.out.below h).c0, (Y.out.below h).c1, (Y.out.below h).c2, (Y.out.below h).c3⟩
  have HS0 := mk wa.drew dr
  have T1' := T1 wa.drew (HE.out.below (bt B.out dr))
  go_region_held3 (fun w' : World => w'.cell? ⟨i0, 0, none⟩ = some (.int .u8 v.k) ∧ w'.cell? ⟨i0, 1, none⟩ = some (.int .i64 v.c) ∧ w'.cell? ⟨i0, 2, none⟩ = some (.int .i64 v.s) ∧ w'.cell? ⟨i0, 3, none⟩ = some (.int .i64 v.e) ∧ w'.cell? ⟨i1, 0, none⟩ = some (.int .u8 u.k) ∧ w'.cell? ⟨i1, 1, none⟩ = some (.int .i64 u.c) ∧ w'.cell? ⟨i1, 2, none⟩ = some (.int .i64 u.s) ∧ w'.cell? ⟨i1, 3, none⟩ = some (.int .i64 u.e))
    (first | with_reducible exact HS0 | with_reducible assumption)
    (first
      | (go_at_call 11; (with_reducible refine T1'.mono ?_); rintro e7 w7 ⟨rfl, q7⟩; have HS7 := mk w7 (bt dr q7); have B7 := Lib.hid (bt dr q7); have T2' := T2 w7 (HE.out.below (bt B.out B7.out)); clear q7 T1' T1 T2)
      | (go_at_call 11; (with_reducible refine T2'.mono ?_); rintro e8 w8 ⟨rfl, q8⟩; have HS8 := mk w8 (bt B7.out q8); have B8 := Lib.hid (bt B7.out q8); clear q8 T2'))
  obtain ⟨a0, a1, a2, a3, b0, b1, b2, b3⟩ := HS8
  clear HS0 HS7 dr
  go_wp2_with (first
    | (go_at_call 12; (with_reducible refine (M1 _).mono ?_); rintro e3 w3 ⟨rfl, q3⟩; have B3 := Lib.hid (bt B8.out q3); obtain ⟨g0, g1, g2, g3, h0, h1, h2, h3⟩ := mk w3 B3.out; clear q3 M1)
    | (go_at_call 12; (with_reducible refine (M2 _).mono ?_); rintro e4 w4 ⟨rfl, q4⟩; have B4 := Lib.hid (bt B3.out q4); obtain ⟨j0, j1, j2, j3, k0, k1, k2, k3⟩ := mk w4 B4.out; have K := knownV_is (HE.out.below (bt B.out B4.out)); clear q4 M2)
    | (go_at_call 8; (with_reducible refine K.mono ?_); rintro e9 w9 ⟨rfl, q9⟩; have B9 := Lib.hid (bt B.out (bt B4.out q9)); clear q9 K))
  go_ret
  exact ⟨rfl, B9.out⟩
set_option maxRecDepth 100000 in
set_option maxHeartbeats 4000000 in
theorem same_law_tf {w : World} (v u : V) (hv : v.ok) (hu : u.ok) (he : Env w) (hm : mayV v = true) (hn : mayV u = false) : Calls Tryd.prog 4 #[.agg #[.int .u8 v.k, .int .i64 v.c, .int .i64 v.s, .int .i64 v.e], .agg #[.int .u8 u.k, .int .i64 u.c, .int .i64 u.s, .int .i64 u.e]] w fun e w' => e = .returned (.bool true) ∧ Below w.heap.size w w' := by
  have HE := Lib.hid he
  have B := Lib.hid (bt (ba w (.cells #[.int .u8 v.k, .int .i64 v.c, .int .i64 v.s, .int .i64 v.e] 27)) (ba _ (.cells #[.int .u8 u.k, .int .i64 u.c, .int .i64 u.s, .int .i64 u.e] 27)))
  have X := Lib.hid ((Four.new w v).below (ba _ (.cells #[.int .u8 u.k, .int .i64 u.c, .int .i64 u.s, .int .i64 u.e] 27)))
  have Y := Lib.hid (Four.new (w.alloc (.cells #[.int .u8 v.k, .int .i64 v.c, .int .i64 v.s, .int .i64 v.e] 27)) u)
  have T1 := fun w h => text_is (w := w) v hv h
  have T2 := fun w h => text_is (w := w) u hu h
  have M1 := fun w => may_is (w := w) v hv
  have M2 := fun w => may_is (w := w) u hu
  rw [hm] at M1
  rw [hn] at M2
  obtain ⟨s1, s2⟩ := text_facts hv.2.1 _ hm
  obtain ⟨t1, t2⟩ := text_facts hu.2.1 _ hn
  skip
  obtain ⟨S, hS⟩ : ∃ s, Hid (bs (textV v) = s) := ⟨_, rfl⟩
  obtain ⟨T, hT⟩ : ∃ s, Hid (bs (textV u) = s) := ⟨_, rfl⟩
  rw [hS.out] at T1 s1 s2 
  rw [hT.out] at T2 t1 t2 
  simp only [Bool.not_true, Bool.not_false] at s1 s2 t1 t2
  clear hv hu he hm hn hS hT 
  go_enter Tryd.func4, Tryd.ntmps4
  go_upto_region 1 with fail
  obtain ⟨w1, hw1⟩ : ∃ x, Hid (x = w.alloc (.cells #[.int .u8 v.k, .int .i64 v.c, .int .i64 v.s, .int .i64 v.e] 27)) := ⟨_, rfl⟩
  obtain ⟨i0, hi0⟩ : ∃ x, Hid (w.heap.size = x) := ⟨_, rfl⟩
  have hs1 : w1.heap.size = w.heap.size + 1 := by rw [hw1.out]; simp
  rw [← hw1.out] at B X Y ⊢
  obtain ⟨i1, hi1⟩ : ∃ x, Hid (w1.heap.size = x) := ⟨_, rfl⟩
  obtain ⟨wa, hwa⟩ : ∃ x, Hid (x = w1.alloc (.cells #[.int .u8 u.k, .int .i64 u.c, .int .i64 u.s, .int .i64 u.e] 27)) := ⟨_, rfl⟩
  rw [← hwa.out] at B X Y ⊢
  have hs2 : w.heap.size + 1 = i1 := by rw [← hs1]; exact hi1.out
  rw [hi1.out] at Y
  first | rw [hs2] | rw [hi1.out]
  rw [hi0.out] at X
  clear hw1 hwa hs1
  try rw [hi0.out]
  clear hs2 hi0 hi1
  have dr : Below wa.heap.size wa wa.drew := ⟨rfl, rfl, rfl, Nat.le_refl _, fun _ _ => rfl⟩
  have mk : ∀ w', Below wa.heap.size wa w' → w'.cell? ⟨i0, 0, none⟩ = some (.int .u8 v.k) ∧ w'.cell? ⟨i0, 1, none⟩ = some (.int .i64 v.c) ∧ w'.cell? ⟨i0, 2, none⟩ = some (.int .i64 v.s) ∧ w'.cell? ⟨i0, 3, none⟩ = some (.int .i64 v.e) ∧ w'.cell? ⟨i1, 0, none⟩ = some (.int .u8 u.k) ∧ w'.cell? ⟨i1, 1, none⟩ = some (.int .i64 u.c) ∧ w'.cell? ⟨i1, 2, none⟩ = some (.int .i64 u.s) ∧ w'.cell? ⟨i1, 3, none⟩ = some (.int .i64 u.e) := fun w' h => ⟨(X.out.below h).c0, (X.out.below h).c1, (X.out.below h).c2, (X.out.below h).c3, (Y.out.below h).c0, (Y.out.below h).c1, (Y.out.below h).c2, (Y.out.below h).c3⟩
  have HS0 := mk wa.drew dr
  have T1' := T1 wa.drew (HE.out.below (bt B.out dr))
  go_region_held3 (fun w' : World => w'.cell? ⟨i0, 0, none⟩ = some (.int .u8 v.k) ∧ w'.cell? ⟨i0, 1, none⟩ = some (.int .i64 v.c) ∧ w'.cell? ⟨i0, 2, none⟩ = some (.int .i64 v.s) ∧ w'.cell? ⟨i0, 3, none⟩ = some (.int .i64 v.e) ∧ w'.cell? ⟨i1, 0, none⟩ = some (.int .u8 u.k) ∧ w'.cell? ⟨i1, 1, none⟩ = some (.int .i64 u.c) ∧ w'.cell? ⟨i1, 2, none⟩ = some (.int .i64 u.s) ∧ w'.cell? ⟨i1, 3, none⟩ = some (.int .i64 u.e))
    (first | with_reducible exact HS0 | with_reducible assumption)
    (first
      | (go_at_call 11; (with_reducible refine T1'.mono ?_); rintro e7 w7 ⟨rfl, q7⟩; have HS7 := mk w7 (bt dr q7); have B7 := Lib.hid (bt dr q7); have T2' := T2 w7 (HE.out.below (bt B.out B7.out)); clear q7 T1' T1 T2)
      | (go_at_call 11; (with_reducible refine T2'.mono ?_); rintro e8 w8 ⟨rfl, q8⟩; have HS8 := mk w8 (bt B7.out q8); have B8 := Lib.hid (bt B7.out q8); clear q8 T2'))
  obtain ⟨a0, a1, a2, a3, b0, b1, b2, b3⟩ := HS8
  clear HS0 HS7 dr
  go_wp2_with (first
    | (go_at_call 12; (with_reducible refine (M1 _).mono ?_); rintro e3 w3 ⟨rfl, q3⟩; have B3 := Lib.hid (bt B8.out q3); obtain ⟨g0, g1, g2, g3, h0, h1, h2, h3⟩ := mk w3 B3.out; clear q3 M1)
    | (go_at_call 12; (with_reducible refine (M2 _).mono ?_); rintro e4 w4 ⟨rfl, q4⟩; have B4 := Lib.hid (bt B3.out q4); obtain ⟨j0, j1, j2, j3, k0, k1, k2, k3⟩ := mk w4 B4.out; have K := knownV_is (HE.out.below (bt B.out B4.out)); clear q4 M2)
    | (go_at_call 8; (with_reducible refine K.mono ?_); rintro e9 w9 ⟨rfl, q9⟩; have B9 := Lib.hid (bt B.out (bt B4.out q9)); clear q9 K))
  go_ret
  exact ⟨rfl, B9.out⟩
set_option maxRecDepth 100000 in
set_option maxHeartbeats 4000000 in
theorem same_law_tt {w : World} (v u : V) (hv : v.ok) (hu : u.ok) (he : Env w) (hm : mayV v = true) (hn : mayV u = true) (hvu : v ≠ u) : Calls Tryd.prog 4 #[.agg #[.int .u8 v.k, .int .i64 v.c, .int .i64 v.s, .int .i64 v.e], .agg #[.int .u8 u.k, .int .i64 u.c, .int .i64 u.s, .int .i64 u.e]] w fun e w' => e = .returned (.bool true) ∧ Below w.heap.size w w' := by
  have HE := Lib.hid he
  have B := Lib.hid (bt (ba w (.cells #[.int .u8 v.k, .int .i64 v.c, .int .i64 v.s, .int .i64 v.e] 27)) (ba _ (.cells #[.int .u8 u.k, .int .i64 u.c, .int .i64 u.s, .int .i64 u.e] 27)))
  have X := Lib.hid ((Four.new w v).below (ba _ (.cells #[.int .u8 u.k, .int .i64 u.c, .int .i64 u.s, .int .i64 u.e] 27)))
  have Y := Lib.hid (Four.new (w.alloc (.cells #[.int .u8 v.k, .int .i64 v.c, .int .i64 v.s, .int .i64 v.e] 27)) u)
  have T1 := fun w h => text_is (w := w) v hv h
  have T2 := fun w h => text_is (w := w) u hu h
  have M1 := fun w => may_is (w := w) v hv
  have M2 := fun w => may_is (w := w) u hu
  rw [hm] at M1
  rw [hn] at M2
  obtain ⟨s1, s2⟩ := text_facts hv.2.1 _ hm
  obtain ⟨t1, t2⟩ := text_facts hu.2.1 _ hn
  have neq : ((bs (textV v)).toList == (bs (textV u)).toList) = false := by rw [bs_toList, bs_toList]; exact beq_eq_false_iff_ne.2 fun e => hvu ((text_same hv.2.1 hu.2.1 hm hn).1 e)
  have HV := Lib.hid hvu
  obtain ⟨S, hS⟩ : ∃ s, Hid (bs (textV v) = s) := ⟨_, rfl⟩
  obtain ⟨T, hT⟩ : ∃ s, Hid (bs (textV u) = s) := ⟨_, rfl⟩
  rw [hS.out] at T1 s1 s2 neq
  rw [hT.out] at T2 t1 t2 neq
  simp only [Bool.not_true, Bool.not_false] at s1 s2 t1 t2
  clear hv hu he hm hn hS hT hvu
  go_enter Tryd.func4, Tryd.ntmps4
  go_upto_region 1 with fail
  obtain ⟨w1, hw1⟩ : ∃ x, Hid (x = w.alloc (.cells #[.int .u8 v.k, .int .i64 v.c, .int .i64 v.s, .int .i64 v.e] 27)) := ⟨_, rfl⟩
  obtain ⟨i0, hi0⟩ : ∃ x, Hid (w.heap.size = x) := ⟨_, rfl⟩
  have hs1 : w1.heap.size = w.heap.size + 1 := by rw [hw1.out]; simp
  rw [← hw1.out] at B X Y ⊢
  obtain ⟨i1, hi1⟩ : ∃ x, Hid (w1.heap.size = x) := ⟨_, rfl⟩
  obtain ⟨wa, hwa⟩ : ∃ x, Hid (x = w1.alloc (.cells #[.int .u8 u.k, .int .i64 u.c, .int .i64 u.s, .int .i64 u.e] 27)) := ⟨_, rfl⟩
  rw [← hwa.out] at B X Y ⊢
  have hs2 : w.heap.size + 1 = i1 := by rw [← hs1]; exact hi1.out
  rw [hi1.out] at Y
  first | rw [hs2] | rw [hi1.out]
  rw [hi0.out] at X
  clear hw1 hwa hs1
  try rw [hi0.out]
  clear hs2 hi0 hi1
  have dr : Below wa.heap.size wa wa.drew := ⟨rfl, rfl, rfl, Nat.le_refl _, fun _ _ => rfl⟩
  have mk : ∀ w', Below wa.heap.size wa w' → w'.cell? ⟨i0, 0, none⟩ = some (.int .u8 v.k) ∧ w'.cell? ⟨i0, 1, none⟩ = some (.int .i64 v.c) ∧ w'.cell? ⟨i0, 2, none⟩ = some (.int .i64 v.s) ∧ w'.cell? ⟨i0, 3, none⟩ = some (.int .i64 v.e) ∧ w'.cell? ⟨i1, 0, none⟩ = some (.int .u8 u.k) ∧ w'.cell? ⟨i1, 1, none⟩ = some (.int .i64 u.c) ∧ w'.cell? ⟨i1, 2, none⟩ = some (.int .i64 u.s) ∧ w'.cell? ⟨i1, 3, none⟩ = some (.int .i64 u.e) := fun w' h => ⟨(X.out.below h).c0, (X.out.below h).c1, (X.out.below h).c2, (X.out.below h).c3, (Y.out.below h).c0, (Y.out.below h).c1, (Y.out.below h).c2, (Y.out.below h).c3⟩
  have HS0 := mk wa.drew dr
  have T1' := T1 wa.drew (HE.out.below (bt B.out dr))
  go_region_held3 (fun w' : World => w'.cell? ⟨i0, 0, none⟩ = some (.int .u8 v.k) ∧ w'.cell? ⟨i0, 1, none⟩ = some (.int .i64 v.c) ∧ w'.cell? ⟨i0, 2, none⟩ = some (.int .i64 v.s) ∧ w'.cell? ⟨i0, 3, none⟩ = some (.int .i64 v.e) ∧ w'.cell? ⟨i1, 0, none⟩ = some (.int .u8 u.k) ∧ w'.cell? ⟨i1, 1, none⟩ = some (.int .i64 u.c) ∧ w'.cell? ⟨i1, 2, none⟩ = some (.int .i64 u.s) ∧ w'.cell? ⟨i1, 3, none⟩ = some (.int .i64 u.e))
    (first | with_reducible exact HS0 | with_reducible assumption)
    (first
      | (go_at_call 11; (with_reducible refine T1'.mono ?_); rintro e7 w7 ⟨rfl, q7⟩; have HS7 := mk w7 (bt dr q7); have B7 := Lib.hid (bt dr q7); have T2' := T2 w7 (HE.out.below (bt B.out B7.out)); clear q7 T1' T1 T2)
      | (go_at_call 11; (with_reducible refine T2'.mono ?_); rintro e8 w8 ⟨rfl, q8⟩; have HS8 := mk w8 (bt B7.out q8); have B8 := Lib.hid (bt B7.out q8); clear q8 T2'))
  obtain ⟨a0, a1, a2, a3, b0, b1, b2, b3⟩ := HS8
  clear HS0 HS7 dr
  go_wp2_with (first
    | (go_at_call 12; (with_reducible refine (M1 _).mono ?_); rintro e3 w3 ⟨rfl, q3⟩; have B3 := Lib.hid (bt B8.out q3); obtain ⟨g0, g1, g2, g3, h0, h1, h2, h3⟩ := mk w3 B3.out; clear q3 M1)
    | (go_at_call 12; (with_reducible refine (M2 _).mono ?_); rintro e4 w4 ⟨rfl, q4⟩; have B4 := Lib.hid (bt B3.out q4); obtain ⟨j0, j1, j2, j3, k0, k1, k2, k3⟩ := mk w4 B4.out; have K := knownV_is (HE.out.below (bt B.out B4.out)); clear q4 M2)
    | (go_at_call 8; (with_reducible refine K.mono ?_); rintro e9 w9 ⟨rfl, q9⟩; have B9 := Lib.hid (bt B.out (bt B4.out q9)); clear q9 K))
  all_goals first
    | (go_ret; exact ⟨rfl, B9.out⟩)
    | exact absurd (V.ext' ‹v.k = u.k› ‹v.c = u.c› ‹v.s = u.s› ‹v.e = u.e›) HV.out
set_option maxRecDepth 100000 in
set_option maxHeartbeats 4000000 in
theorem same_law_same {w : World} (v : V) (hv : v.ok) (he : Env w) (hm : mayV v = true) : Calls Tryd.prog 4 #[.agg #[.int .u8 v.k, .int .i64 v.c, .int .i64 v.s, .int .i64 v.e], .agg #[.int .u8 v.k, .int .i64 v.c, .int .i64 v.s, .int .i64 v.e]] w fun e w' => e = .returned (.bool true) ∧ Below w.heap.size w w' := by
  have HE := Lib.hid he
  have B := Lib.hid (bt (ba w (.cells #[.int .u8 v.k, .int .i64 v.c, .int .i64 v.s, .int .i64 v.e] 27)) (ba _ (.cells #[.int .u8 v.k, .int .i64 v.c, .int .i64 v.s, .int .i64 v.e] 27)))
  have X := Lib.hid ((Four.new w v).below (ba _ (.cells #[.int .u8 v.k, .int .i64 v.c, .int .i64 v.s, .int .i64 v.e] 27)))
  have Y := Lib.hid (Four.new (w.alloc (.cells #[.int .u8 v.k, .int .i64 v.c, .int .i64 v.s, .int .i64 v.e] 27)) v)
  have T1 := fun w h => text_is (w := w) v hv h
  have T2 := fun w h => text_is (w := w) v hv h
  have M1 := fun w => may_is (w := w) v hv
  have M2 := fun w => may_is (w := w) v hv
  rw [hm] at M1
  rw [hm] at M2
  obtain ⟨s1, s2⟩ := text_facts hv.2.1 _ hm
  have neq : ((bs (textV v)).toList == (bs (textV v)).toList) = true := self_toList _

  obtain ⟨S, hS⟩ : ∃ s, Hid (bs (textV v) = s) := ⟨_, rfl⟩
  rw [hS.out] at T1 s1 s2 neq
  rw [hS.out] at T2
  simp only [Bool.not_true, Bool.not_false] at s1 s2
  clear hv he hm hS 
  go_enter Tryd.func4, Tryd.ntmps4
  go_upto_region 1 with fail
  obtain ⟨w1, hw1⟩ : ∃ x, Hid (x = w.alloc (.cells #[.int .u8 v.k, .int .i64 v.c, .int .i64 v.s, .int .i64 v.e] 27)) := ⟨_, rfl⟩
  obtain ⟨i0, hi0⟩ : ∃ x, Hid (w.heap.size = x) := ⟨_, rfl⟩
  have hs1 : w1.heap.size = w.heap.size + 1 := by rw [hw1.out]; simp
  rw [← hw1.out] at B X Y ⊢
  obtain ⟨i1, hi1⟩ : ∃ x, Hid (w1.heap.size = x) := ⟨_, rfl⟩
  obtain ⟨wa, hwa⟩ : ∃ x, Hid (x = w1.alloc (.cells #[.int .u8 v.k, .int .i64 v.c, .int .i64 v.s, .int .i64 v.e] 27)) := ⟨_, rfl⟩
  rw [← hwa.out] at B X Y ⊢
  have hs2 : w.heap.size + 1 = i1 := by rw [← hs1]; exact hi1.out
  rw [hi1.out] at Y
  first | rw [hs2] | rw [hi1.out]
  rw [hi0.out] at X
  clear hw1 hwa hs1
  try rw [hi0.out]
  clear hs2 hi0 hi1
  have dr : Below wa.heap.size wa wa.drew := ⟨rfl, rfl, rfl, Nat.le_refl _, fun _ _ => rfl⟩
  have mk : ∀ w', Below wa.heap.size wa w' → w'.cell? ⟨i0, 0, none⟩ = some (.int .u8 v.k) ∧ w'.cell? ⟨i0, 1, none⟩ = some (.int .i64 v.c) ∧ w'.cell? ⟨i0, 2, none⟩ = some (.int .i64 v.s) ∧ w'.cell? ⟨i0, 3, none⟩ = some (.int .i64 v.e) ∧ w'.cell? ⟨i1, 0, none⟩ = some (.int .u8 v.k) ∧ w'.cell? ⟨i1, 1, none⟩ = some (.int .i64 v.c) ∧ w'.cell? ⟨i1, 2, none⟩ = some (.int .i64 v.s) ∧ w'.cell? ⟨i1, 3, none⟩ = some (.int .i64 v.e) := fun w' h => ⟨(X.out.below h).c0, (X.out.below h).c1, (X.out.below h).c2, (X.out.below h).c3, (Y.out.below h).c0, (Y.out.below h).c1, (Y.out.below h).c2, (Y.out.below h).c3⟩
  have HS0 := mk wa.drew dr
  have T1' := T1 wa.drew (HE.out.below (bt B.out dr))
  go_region_held3 (fun w' : World => w'.cell? ⟨i0, 0, none⟩ = some (.int .u8 v.k) ∧ w'.cell? ⟨i0, 1, none⟩ = some (.int .i64 v.c) ∧ w'.cell? ⟨i0, 2, none⟩ = some (.int .i64 v.s) ∧ w'.cell? ⟨i0, 3, none⟩ = some (.int .i64 v.e) ∧ w'.cell? ⟨i1, 0, none⟩ = some (.int .u8 v.k) ∧ w'.cell? ⟨i1, 1, none⟩ = some (.int .i64 v.c) ∧ w'.cell? ⟨i1, 2, none⟩ = some (.int .i64 v.s) ∧ w'.cell? ⟨i1, 3, none⟩ = some (.int .i64 v.e))
    (first | with_reducible exact HS0 | with_reducible assumption)
    (first
      | (go_at_call 11; (with_reducible refine T1'.mono ?_); rintro e7 w7 ⟨rfl, q7⟩; have HS7 := mk w7 (bt dr q7); have B7 := Lib.hid (bt dr q7); have T2' := T2 w7 (HE.out.below (bt B.out B7.out)); clear q7 T1' T1 T2)
      | (go_at_call 11; (with_reducible refine T2'.mono ?_); rintro e8 w8 ⟨rfl, q8⟩; have HS8 := mk w8 (bt B7.out q8); have B8 := Lib.hid (bt B7.out q8); clear q8 T2'))
  obtain ⟨a0, a1, a2, a3, b0, b1, b2, b3⟩ := HS8
  clear HS0 HS7 dr
  go_wp2_with (first
    | (go_at_call 12; (with_reducible refine (M1 _).mono ?_); rintro e3 w3 ⟨rfl, q3⟩; have B3 := Lib.hid (bt B8.out q3); obtain ⟨g0, g1, g2, g3, h0, h1, h2, h3⟩ := mk w3 B3.out; clear q3 M1)
    | (go_at_call 12; (with_reducible refine (M2 _).mono ?_); rintro e4 w4 ⟨rfl, q4⟩; have B4 := Lib.hid (bt B3.out q4); obtain ⟨j0, j1, j2, j3, k0, k1, k2, k3⟩ := mk w4 B4.out; have K := knownV_is (HE.out.below (bt B.out B4.out)); clear q4 M2)
    | (go_at_call 8; (with_reducible refine K.mono ?_); rintro e9 w9 ⟨rfl, q9⟩; have B9 := Lib.hid (bt B.out (bt B4.out q9)); clear q9 K))
  go_ret
  exact ⟨rfl, B9.out⟩
theorem same_law {w : World} (v u : V) (hv : v.ok) (hu : u.ok) (he : Env w) : Calls Tryd.prog 4 #[.agg #[.int .u8 v.k, .int .i64 v.c, .int .i64 v.s, .int .i64 v.e], .agg #[.int .u8 u.k, .int .i64 u.c, .int .i64 u.s, .int .i64 u.e]] w fun e w' => e = .returned (.bool true) ∧ Below w.heap.size w w' := by
  cases hm : mayV v
  · cases hn : mayV u
    · exact same_law_ff v u hv hu he hm hn
    · exact same_law_ft v u hv hu he hm hn
  · cases hn : mayV u
    · exact same_law_tf v u hv hu he hm hn
    · by_cases h : v = u
      · subst h; exact same_law_same v hv he hm
      · exact same_law_tt v u hv hu he hm hn h
end Go.Proofs.YtfonpegkaajnkaaDoor.Va
