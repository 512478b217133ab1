/-
  dectext: Parse, walked.
-/
import Derived.Test.YtfonpegkaajnkaaDoorM4
/-
  dectext: Parse, walked.
-/
namespace Go.Proofs.YtfonpegkaajnkaaDoor.Tx
open Go Go.RowKit Dt
set_option linter.unusedSimpArgs false
set_option linter.unusedVariables false
attribute [local go_sem ↓] Go.wp_at_zero Go.wp_at_succ

theorem byte_facts {x c : Nat} (h : x ≠ c) : decide (x = c) = false ∧ ((x : Int) == (c : Int)) = false := ⟨by simpa using h, by simp; omega⟩
theorem gt_facts {a b : Nat} (h : ¬ a < b) : decide (a < b) = false ∧ decide ((a : Int) < (b : Int)) = false := ⟨by simpa using h, by simp; omega⟩
theorem lt_facts {a b : Nat} (h : a < b) : decide (a < b) = true ∧ decide ((a : Int) < (b : Int)) = true := ⟨by simpa using h, by simp; omega⟩
set_option maxRecDepth 100000 in
set_option maxHeartbeats 4000000 in
theorem dparse_is {w : World} (l : List UInt8) (hl : l.length ≤ 1000) (he : Env w) : Calls Tryd.prog 29 #[.string (bs l)] w (DpPost (dparse l) w) := by
  have hz : (bs l).size = l.length := bs_size l
  obtain ⟨N, hN⟩ : ∃ N, Hid (l.length = N) := ⟨_, rfl⟩
  rw [hN.out] at hz
  have B0 := Lib.hid (ba w (.cells #[.int .i64 0, .int .i64 0] 24))
  have T0 := Lib.hid (Two.new w 0 0)
  by_cases h21 : 21 < N
  · have r := Lib.hid (show dparse l = ((0, 0), 3) from by unfold dparse; rw [if_pos (by rw [hN.out]; exact h21)])
    obtain ⟨d1, d2⟩ := lt_facts h21
    have d3 : decide (21 < (N : Int)) = true := d2
    obtain ⟨S, hS⟩ : ∃ S, Hid (bs l = S) := ⟨_, rfl⟩
    rw [hS.out] at hz ⊢
    clear h21 hS hl he d2
    go_enter Tryd.func29, Tryd.ntmps29
    go_wp2_with fail
    refine bodyPost_ret (v := .tuple #[.agg #[.int .i64 _, .int .i64 _], .int .i64 _]) (results_cell2 (fn := Tryd.f29) (p := 2) (u := 3) rfl _ _ w.heap.size _ _ (0, 0) _ rfl T0.out Tryd.underlying24 rfl (by kernel_rfl)) rfl ?_
    exact DpPost.mk r.out B0.out
  · have e0 : dparse l = if wBad (cutP (body l)).1 = true ∨ ((cutP (body l)).2.2 = true ∧ rBad (cutP (body l)).2.1 = true) ∨ l = [45, 48] then ((0, 0), 4)
        else if Fit (sg (neg l) (val ((cutP (body l)).1 ++ (cutP (body l)).2.1))) then ((sg (neg l) (val ((cutP (body l)).1 ++ (cutP (body l)).2.1)), ((cutP (body l)).2.1.length : Int)), 0) else ((0, 0), 11) := by
      unfold dparse; rw [if_neg (by rw [hN.out]; exact h21)]
    rw [e0]
    obtain ⟨d1, d2⟩ := gt_facts h21
    have d3 : decide (21 < (N : Int)) = false := d2
    have hl21 : l.length ≤ 21 := by rw [hN.out]; omega
    have bl := body_len l
    have cl := cutP_len (body l)
    have TR := fun w => trim_is (w := w) l
    have CU := fun w (h : Env w) => cut_is (w := w) (body l) (by omega) h
    have hcase := cutP_cases (body l)
    obtain ⟨v, r, p, hc⟩ : ∃ p q ok, cutP (body l) = (p, q, ok) := ⟨_, _, _, rfl⟩
    rw [hc] at CU cl hcase ⊢
    dsimp only at CU cl ⊢
    have DV := fun w => (digits_is (w := w) v (by omega)).mono (fun e w' h => (⟨h.1, h.2.symm⟩ : _ ∧ w = w'))
    have DR := fun w => (digits_is (w := w) r (by omega)).mono (fun e w' h => (⟨h.1, h.2.symm⟩ : _ ∧ w = w'))
    have pr : p = false → r = [] := fun h => by
      rcases hcase with e | ⟨i, e, _⟩
      · cases e; rfl
      · rw [h] at e; cases e
    have PI := fun w (h : Env w) (hd : digs (v ++ r) = true) => pint_is (w := w) (neg l) (v ++ r) hd (by rw [List.length_append]; omega) h
    have LE := bs_toList l
    have hne : l ≠ [45, 48] → ((bs l).toList == [45, 48]) = false := fun h => by rw [LE, beq_eq_false_iff_ne]; exact h
    have heq : l = [45, 48] → ((bs l).toList == [45, 48]) = true := fun h => by rw [LE, h]; rfl
    have hbody : v ≠ [] → ∃ c, l[0]? = some c ∧ (neg l = true ↔ c = 45) := fun h => by
      cases l with
      | nil =>
        have : cutP (body []) = ([], [], false) := by decide
        rw [this] at hc; cases hc; exact absurd rfl h
      | cons c t => exact ⟨c, rfl, by unfold neg; simp⟩
    have zv : (bs v).size = v.length := bs_size v
    have zr : (bs r).size = r.length := bs_size r
    have xv : ∀ c, v[0]? = some c → ∀ w, (Instr.index 9 (.string (bs v)) (.int .i64 0)).run Tryd.prog w = .ok (.int .u8 (c.toNat : Int)) w := fun c h => at_byte v 0 c h
    have xr : ∀ c, r[r.length - 1]? = some c → ∀ w, (Instr.index 9 (.string (bs r)) (.int .i64 ((r.length - 1 : Nat) : Int))).run Tryd.prog w = .ok (.int .u8 (c.toNat : Int)) w := fun c h => at_byte r (r.length - 1) c h
    have xl : ∀ c, l[0]? = some c → ∀ w, (Instr.index 9 (.string (bs l)) (.int .i64 0)).run Tryd.prog w = .ok (.int .u8 (c.toNat : Int)) w := fun c h => at_byte l 0 c h
    have cat : ∀ s : List UInt8, bs s ++ bs v ++ bs r = bs (s ++ (v ++ r)) := fun s => by rw [bs_cat, bs_cat, List.append_assoc]
    have cat1 := cat [45]
    have cat0 := cat []
    obtain ⟨S, hS⟩ : ∃ S, Hid (bs l = S) := ⟨_, rfl⟩
    rw [hS.out] at hz TR hne heq xl ⊢
    obtain ⟨BB, hBB⟩ : ∃ S, Hid (bs (body l) = S) := ⟨_, rfl⟩
    rw [hBB.out] at TR CU
    obtain ⟨V, hV⟩ : ∃ S, Hid (bs v = S) := ⟨_, rfl⟩
    rw [hV.out] at CU DV zv xv cat1 cat0
    obtain ⟨R, hR⟩ : ∃ S, Hid (bs r = S) := ⟨_, rfl⟩
    rw [hR.out] at CU DR zr xr cat1 cat0
    obtain ⟨vl, hvl⟩ : ∃ n, Hid (v.length = n) := ⟨_, rfl⟩
    obtain ⟨rl, hrl⟩ : ∃ n, Hid (r.length = n) := ⟨_, rfl⟩
    rw [hvl.out] at zv cl
    rw [hrl.out] at zr xr cl ⊢
    obtain ⟨RES, hRES⟩ : ∃ x, Hid ((if wBad v = true ∨ (p = true ∧ rBad r = true) ∨ l = [45, 48] then ((0, 0), 4) else if Fit (sg (neg l) (val (v ++ r))) then ((sg (neg l) (val (v ++ r)), (rl : Int)), 0) else ((0, 0), 11) : (Int × Int) × Int) = x) := ⟨_, rfl⟩
    rw [hRES.out]
    have HE := Lib.hid he; have HPI := Lib.hid PI; have HNE := Lib.hid hne; have HEQ := Lib.hid heq; have HBO := Lib.hid hbody; have HXV := Lib.hid xv; have HXR := Lib.hid xr; have HXL := Lib.hid xl; have HPR := Lib.hid pr
    have HSZ := Lib.hid (show vl + rl ≤ 21 by omega)
    have HC1 := Lib.hid cat1; have HC0 := Lib.hid cat0
    clear h21 hS hBB hV hR hl he d2 cat cat1 cat0 PI hne heq hbody xv xr xl pr LE hcase hc cl bl e0
    go_enter Tryd.func29, Tryd.ntmps29
    go_upto_region 3 with fail
    have CU' := CU (w.alloc (.cells #[.int .i64 0, .int .i64 0] 24)) (HE.out.below B0.out)
    clear CU
    go_upto_region 4 with (first | (go_at_call 57; (with_reducible refine (TR _).mono ?_); rintro e1 w1 ⟨rfl, rfl⟩; clear TR) | (go_at_call 56; (with_reducible refine CU'.mono ?_); rintro e2 w2 ⟨rfl, b2⟩; have B2 := Lib.hid (bt B0.out b2); have T2 := Lib.hid (T0.out.below b2); clear b2 CU'))
    have c0 := T2.out.c0
    have c1 := T2.out.c1
    have f0 := T2.out.f 0
    have f1 := T2.out.f 1
    cases hdv : digs v with
    | false =>
      rw [hdv] at DV
      have rr := Lib.hid (show RES = ((0, 0), 4) from hRES.out.symm.trans (if_pos (.inl (by unfold wBad; rw [hdv]; rfl))))
      clear hdv
      go_wp2_with (first | (go_at_call 58; (with_reducible refine (DV _).mono ?_); rintro e3 w3 ⟨rfl, rfl⟩; clear DV) | (go_at_call 58; (with_reducible refine (DR _).mono ?_); rintro e3 w3 ⟨rfl, rfl⟩; clear DR))
      refine bodyPost_ret (v := .tuple #[.agg #[.int .i64 _, .int .i64 _], .int .i64 _]) (results_cell2 (fn := Tryd.f29) (p := 2) (u := 3) rfl _ _ w.heap.size _ _ (0, 0) _ rfl (T2.out.set _ _) Tryd.underlying24 rfl (by kernel_rfl)) rfl ?_
      exact DpPost.mk rr.out (Below.setCell (Below.setCell B2.out (p := ⟨w.heap.size, 0, none⟩) (Nat.le_refl _) _) (p := ⟨w.heap.size, 1, none⟩) (Nat.le_refl _) _)
    | true =>
      rw [hdv] at DV
      have vne := digs_ne hdv
      obtain ⟨x0, hx0⟩ : ∃ c, v[0]? = some c := by
        cases v with
        | nil => exact absurd rfl vne
        | cons c t => exact ⟨c, rfl⟩
      have hx0' : v.head? = some x0 := by rw [List.head?_eq_getElem?]; exact hx0
      have iv := HXV.out x0 hx0
      obtain ⟨y0, hy0⟩ : ∃ n, Hid (x0.toNat = n) := ⟨_, rfl⟩
      rw [hy0.out] at iv
      have HDV := Lib.hid hdv; have HX0 := Lib.hid hx0'; have HVN := Lib.hid vne
      clear hdv vne hx0 hx0'
      have key : (1 < vl ∧ y0 = 48) ∨ (wBad v = false ∧ (¬ 1 < vl ∨ (1 < vl ∧ y0 ≠ 48))) := by
        by_cases k1 : 1 < vl
        · by_cases k2 : y0 = 48
          · exact .inl ⟨k1, k2⟩
          · refine .inr ⟨?_, .inr ⟨k1, k2⟩⟩
            unfold wBad
            rw [HDV.out, HX0.out]
            have : x0 ≠ 48 := fun h => k2 (by rw [← hy0.out, h]; rfl)
            simp [this]
        · refine .inr ⟨?_, .inl k1⟩
          unfold wBad
          rw [HDV.out, hvl.out]
          simp [k1]
      rcases key with ⟨k1, k2⟩ | ⟨hwb, key⟩
      · obtain ⟨g1, g2⟩ := lt_facts k1
        have g3 : decide (1 < (vl : Int)) = true := g2
        have h48 : x0 = 48 := UInt8.toNat.inj (by rw [hy0.out, k2]; rfl)
        have rr := Lib.hid (show RES = ((0, 0), 4) from hRES.out.symm.trans (if_pos (.inl (by unfold wBad; rw [HDV.out, HX0.out, hvl.out, h48]; simp [k1]))))
        subst k2
        clear k1 g2 h48
        go_wp2_with (first | (go_at_call 58; (with_reducible refine (DV _).mono ?_); rintro e3 w3 ⟨rfl, rfl⟩; clear DV) | (go_at_call 58; (with_reducible refine (DR _).mono ?_); rintro e3 w3 ⟨rfl, rfl⟩; clear DR))
        refine bodyPost_ret (v := .tuple #[.agg #[.int .i64 _, .int .i64 _], .int .i64 _]) (results_cell2 (fn := Tryd.f29) (p := 2) (u := 3) rfl _ _ w.heap.size _ _ (0, 0) _ rfl (T2.out.set _ _) Tryd.underlying24 rfl (by kernel_rfl)) rfl ?_
        exact DpPost.mk rr.out (Below.setCell (Below.setCell B2.out (p := ⟨w.heap.size, 0, none⟩) (Nat.le_refl _) _) (p := ⟨w.heap.size, 1, none⟩) (Nat.le_refl _) _)
      · have HWB := Lib.hid hwb
        clear hwb
        rcases key with k1 | ⟨k1, k2⟩
        · obtain ⟨g1, g2⟩ := gt_facts k1
          have g3 : decide (1 < (vl : Int)) = false := g2
          clear k1 g2
          go_upto_region 5 with (first | (go_at_call 58; (with_reducible refine (DV _).mono ?_); rintro e3 w3 ⟨rfl, rfl⟩; clear DV) | (go_at_call 58; (with_reducible refine (DR _).mono ?_); rintro e3 w3 ⟨rfl, rfl⟩; clear DR))
          cases p with
          | false =>
            have hda : digs (v ++ r) = true := digs_app HDV.out (by rw [HPR.out rfl]; rfl)
            by_cases hm : l = [45, 48]
            · have ec := HEQ.out hm
              have rr := Lib.hid (show RES = ((0, 0), 4) from hRES.out.symm.trans (if_pos (.inr (.inr hm))))
              clear hm
              go_wp2_with (first | (go_at_call 58; (with_reducible refine (DV _).mono ?_); rintro e3 w3 ⟨rfl, rfl⟩; clear DV) | (go_at_call 58; (with_reducible refine (DR _).mono ?_); rintro e3 w3 ⟨rfl, rfl⟩; clear DR))
              refine bodyPost_ret (v := .tuple #[.agg #[.int .i64 _, .int .i64 _], .int .i64 _]) (results_cell2 (fn := Tryd.f29) (p := 2) (u := 3) rfl _ _ w.heap.size _ _ (0, 0) _ rfl (T2.out.set _ _) Tryd.underlying24 rfl (by kernel_rfl)) rfl ?_
              exact DpPost.mk rr.out (Below.setCell (Below.setCell B2.out (p := ⟨w.heap.size, 0, none⟩) (Nat.le_refl _) _) (p := ⟨w.heap.size, 1, none⟩) (Nat.le_refl _) _)
            · have ec := HNE.out hm
              have er := Lib.hid (hRES.out.symm.trans (if_neg (by rw [HWB.out]; rintro (h | h | h); exact Bool.noConfusion h; exact Bool.noConfusion h.1; exact hm h)))
              clear hm
              have P3 := HPI.out w2 (HE.out.below B2.out) hda
              obtain ⟨z, hzz⟩ : ∃ z, Hid (sg (neg l) (val (v ++ r)) = z) := ⟨_, rfl⟩
              rw [hzz.out] at P3 er
              obtain ⟨cl, hcl, hng⟩ := HBO.out HVN.out
              have il := HXL.out cl hcl
              clear hcl hda
              have sz1 : ¬ 9223372036854775807 < 1 + vl := by have := HSZ.out; omega
              have sz2 : ¬ 9223372036854775807 < 1 + vl + rl := by have := HSZ.out; omega
              have sz3 : ¬ 9223372036854775807 < vl := by have := HSZ.out; omega
              have sz4 : ¬ 9223372036854775807 < vl + rl := by have := HSZ.out; omega
              by_cases hn : cl = 45
              · subst hn
                rw [hng.2 rfl] at P3
                have P4 : Calls Tryd.prog 59 #[.string (⟨#[45]⟩ ++ V ++ R), .int .i64 10, .int .i64 64] w2 (IntPost z w2) := by
                  have e : (⟨#[45]⟩ : ByteArray) ++ V ++ R = bs (sgn true ++ (v ++ r)) := HC1.out
                  rw [e]; exact P3
                have il' : ∀ w, (Instr.index 9 (.string S) (.int .i64 0)).run Tryd.prog w = .ok (.int .u8 45) w := il
                have sS : (⟨#[45]⟩ : ByteArray).size = 1 := rfl
                clear P3 hng il
                go_upto_region 12 with (first | (go_at_call 58; (with_reducible refine (DR _).mono ?_); rintro e3 w3 ⟨rfl, rfl⟩; clear DR) | (go_at_call 59; ((with_reducible refine P4.mono ?_); ((with_reducible refine fun e4 w4 h4 => ?_)); obtain ⟨k4, b4⟩ := h4; have B4 := Lib.hid (bt B2.out b4); have T4 := Lib.hid (T2.out.below b4); have K4 := Lib.hid k4; clear b4 k4 P4; rcases K4.out with ⟨hf, rfl⟩ | ⟨hf, pv, pt, pp, rfl⟩)))
                all_goals
                  clear c0 c1 f0 f1
                  have c0 := T4.out.c0
                  have c1 := T4.out.c1
                  have f0 := T4.out.f 0
                  have f1 := T4.out.f 1
                  first
                    | (have rr := Lib.hid (er.out.trans (if_pos hf)))
                    | (have rr := Lib.hid (er.out.trans (if_neg hf)))
                  clear er hf
                  go_wp2_with fail
                  refine bodyPost_ret (v := .tuple #[.agg #[.int .i64 _, .int .i64 _], .int .i64 _]) (results_cell2 (fn := Tryd.f29) (p := 2) (u := 3) rfl _ _ w.heap.size _ _ (0, 0) _ rfl (T4.out.set _ _) Tryd.underlying24 rfl (by kernel_rfl)) rfl ?_
                  exact DpPost.mk rr.out (Below.setCell (Below.setCell B4.out (p := ⟨w.heap.size, 0, none⟩) (Nat.le_refl _) _) (p := ⟨w.heap.size, 1, none⟩) (Nat.le_refl _) _)
              · have hnf : neg l = false := by cases h : neg l; rfl; exact absurd (hng.1 h) hn
                rw [hnf] at P3
                have P4 : Calls Tryd.prog 59 #[.string (⟨#[]⟩ ++ V ++ R), .int .i64 10, .int .i64 64] w2 (IntPost z w2) := by
                  have e : (⟨#[]⟩ : ByteArray) ++ V ++ R = bs (sgn false ++ (v ++ r)) := HC0.out
                  rw [e]; exact P3
                obtain ⟨ys, hys⟩ : ∃ n, Hid (cl.toNat = n) := ⟨_, rfl⟩
                rw [hys.out] at il
                obtain ⟨b1, b2⟩ := byte_facts (show ys ≠ 45 from fun h => hn (UInt8.toNat.inj (by rw [hys.out, h]; rfl)))
                have b3 : ((ys : Int) == 45) = false := b2
                have sS : (⟨#[]⟩ : ByteArray).size = 0 := rfl
                clear P3 hng hn hnf b2
                go_upto_region 12 with (first | (go_at_call 58; (with_reducible refine (DR _).mono ?_); rintro e3 w3 ⟨rfl, rfl⟩; clear DR) | (go_at_call 59; ((with_reducible refine P4.mono ?_); ((with_reducible refine fun e4 w4 h4 => ?_)); obtain ⟨k4, b4⟩ := h4; have B4 := Lib.hid (bt B2.out b4); have T4 := Lib.hid (T2.out.below b4); have K4 := Lib.hid k4; clear b4 k4 P4; rcases K4.out with ⟨hf, rfl⟩ | ⟨hf, pv, pt, pp, rfl⟩)))
                all_goals
                  clear c0 c1 f0 f1
                  have c0 := T4.out.c0
                  have c1 := T4.out.c1
                  have f0 := T4.out.f 0
                  have f1 := T4.out.f 1
                  first
                    | (have rr := Lib.hid (er.out.trans (if_pos hf)))
                    | (have rr := Lib.hid (er.out.trans (if_neg hf)))
                  clear er hf
                  go_wp2_with fail
                  refine bodyPost_ret (v := .tuple #[.agg #[.int .i64 _, .int .i64 _], .int .i64 _]) (results_cell2 (fn := Tryd.f29) (p := 2) (u := 3) rfl _ _ w.heap.size _ _ (0, 0) _ rfl (T4.out.set _ _) Tryd.underlying24 rfl (by kernel_rfl)) rfl ?_
                  exact DpPost.mk rr.out (Below.setCell (Below.setCell B4.out (p := ⟨w.heap.size, 0, none⟩) (Nat.le_refl _) _) (p := ⟨w.heap.size, 1, none⟩) (Nat.le_refl _) _)
          | true =>
            cases hdr : digs r with
            | false =>
              rw [hdr] at DR
              have rr := Lib.hid (show RES = ((0, 0), 4) from hRES.out.symm.trans (if_pos (.inr (.inl ⟨rfl, by unfold rBad; rw [hdr]; rfl⟩))))
              clear hdr
              go_wp2_with (first | (go_at_call 58; (with_reducible refine (DV _).mono ?_); rintro e3 w3 ⟨rfl, rfl⟩; clear DV) | (go_at_call 58; (with_reducible refine (DR _).mono ?_); rintro e3 w3 ⟨rfl, rfl⟩; clear DR))
              refine bodyPost_ret (v := .tuple #[.agg #[.int .i64 _, .int .i64 _], .int .i64 _]) (results_cell2 (fn := Tryd.f29) (p := 2) (u := 3) rfl _ _ w.heap.size _ _ (0, 0) _ rfl (T2.out.set _ _) Tryd.underlying24 rfl (by kernel_rfl)) rfl ?_
              exact DpPost.mk rr.out (Below.setCell (Below.setCell B2.out (p := ⟨w.heap.size, 0, none⟩) (Nat.le_refl _) _) (p := ⟨w.heap.size, 1, none⟩) (Nat.le_refl _) _)
            | true =>
              rw [hdr] at DR
              have hda : digs (v ++ r) = true := digs_app HDV.out (digs_all hdr)
              have rne := digs_ne hdr
              have rpos : 0 < rl := by rw [← hrl.out]; exact List.length_pos_iff.2 rne
              obtain ⟨x9, hx9⟩ : ∃ c, r[rl - 1]? = some c := ⟨_, List.getElem?_eq_getElem (by rw [hrl.out]; omega)⟩
              have hx9' : r.getLast? = some x9 := by rw [List.getLast?_eq_getElem?, hrl.out]; exact hx9
              have ir := HXR.out x9 hx9
              have kr : IntKind.i64.wrap ((rl : Int) - 1) = ((rl - 1 : Nat) : Int) := by rw [IntWalk.i64_left, IntWalk.wrap64_in _ (by have := HSZ.out; omega)]; omega
              obtain ⟨y9, hy9⟩ : ∃ n, Hid (x9.toNat = n) := ⟨_, rfl⟩
              rw [hy9.out] at ir
              obtain ⟨rm, hrm⟩ : ∃ n, Hid (rl - 1 = n) := ⟨_, rfl⟩
              rw [hrm.out] at ir kr
              have HDR := Lib.hid hdr; have HX9 := Lib.hid hx9'
              clear hdr rne hx9 hx9'
              by_cases k9 : 9 < rl
              · obtain ⟨r1, r2⟩ := lt_facts k9
                have r3 : decide (9 < (rl : Int)) = true := r2
                have rr := Lib.hid (show RES = ((0, 0), 4) from hRES.out.symm.trans (if_pos (.inr (.inl ⟨rfl, by unfold rBad; rw [HDR.out, hrl.out]; simp [k9]⟩))))
                clear k9 r2 rpos
                go_wp2_with (first | (go_at_call 58; (with_reducible refine (DV _).mono ?_); rintro e3 w3 ⟨rfl, rfl⟩; clear DV) | (go_at_call 58; (with_reducible refine (DR _).mono ?_); rintro e3 w3 ⟨rfl, rfl⟩; clear DR))
                refine bodyPost_ret (v := .tuple #[.agg #[.int .i64 _, .int .i64 _], .int .i64 _]) (results_cell2 (fn := Tryd.f29) (p := 2) (u := 3) rfl _ _ w.heap.size _ _ (0, 0) _ rfl (T2.out.set _ _) Tryd.underlying24 rfl (by kernel_rfl)) rfl ?_
                exact DpPost.mk rr.out (Below.setCell (Below.setCell B2.out (p := ⟨w.heap.size, 0, none⟩) (Nat.le_refl _) _) (p := ⟨w.heap.size, 1, none⟩) (Nat.le_refl _) _)
              · obtain ⟨r1, r2⟩ := gt_facts k9
                have r3 : decide (9 < (rl : Int)) = false := r2
                by_cases k48 : y9 = 48
                · have h48 : x9 = 48 := UInt8.toNat.inj (by rw [hy9.out, k48]; rfl)
                  have rr := Lib.hid (show RES = ((0, 0), 4) from hRES.out.symm.trans (if_pos (.inr (.inl ⟨rfl, by unfold rBad; rw [HDR.out, HX9.out, h48]; simp⟩))))
                  subst k48
                  clear k9 r2 rpos h48
                  go_wp2_with (first | (go_at_call 58; (with_reducible refine (DV _).mono ?_); rintro e3 w3 ⟨rfl, rfl⟩; clear DV) | (go_at_call 58; (with_reducible refine (DR _).mono ?_); rintro e3 w3 ⟨rfl, rfl⟩; clear DR))
                  refine bodyPost_ret (v := .tuple #[.agg #[.int .i64 _, .int .i64 _], .int .i64 _]) (results_cell2 (fn := Tryd.f29) (p := 2) (u := 3) rfl _ _ w.heap.size _ _ (0, 0) _ rfl (T2.out.set _ _) Tryd.underlying24 rfl (by kernel_rfl)) rfl ?_
                  exact DpPost.mk rr.out (Below.setCell (Below.setCell B2.out (p := ⟨w.heap.size, 0, none⟩) (Nat.le_refl _) _) (p := ⟨w.heap.size, 1, none⟩) (Nat.le_refl _) _)
                · obtain ⟨r4, r5⟩ := byte_facts k48
                  have r6 : ((y9 : Int) == 48) = false := r5
                  have hrb : rBad r = false := by
                    unfold rBad
                    rw [HDR.out, HX9.out, hrl.out]
                    have : x9 ≠ 48 := fun h => k48 (by rw [← hy9.out, h]; rfl)
                    simp [this]
                    omega
                  have HRB := Lib.hid hrb
                  clear k9 k48 r2 r5 hrb rpos
                  by_cases hm : l = [45, 48]
                  · have ec := HEQ.out hm
                    have rr := Lib.hid (show RES = ((0, 0), 4) from hRES.out.symm.trans (if_pos (.inr (.inr hm))))
                    clear hm
                    go_wp2_with (first | (go_at_call 58; (with_reducible refine (DV _).mono ?_); rintro e3 w3 ⟨rfl, rfl⟩; clear DV) | (go_at_call 58; (with_reducible refine (DR _).mono ?_); rintro e3 w3 ⟨rfl, rfl⟩; clear DR))
                    refine bodyPost_ret (v := .tuple #[.agg #[.int .i64 _, .int .i64 _], .int .i64 _]) (results_cell2 (fn := Tryd.f29) (p := 2) (u := 3) rfl _ _ w.heap.size _ _ (0, 0) _ rfl (T2.out.set _ _) Tryd.underlying24 rfl (by kernel_rfl)) rfl ?_
                    exact DpPost.mk rr.out (Below.setCell (Below.setCell B2.out (p := ⟨w.heap.size, 0, none⟩) (Nat.le_refl _) _) (p := ⟨w.heap.size, 1, none⟩) (Nat.le_refl _) _)
                  · have ec := HNE.out hm
                    have er := Lib.hid (hRES.out.symm.trans (if_neg (by rw [HWB.out]; rintro (h | h | h); exact Bool.noConfusion h; rw [HRB.out] at h; exact Bool.noConfusion h.2; exact hm h)))
                    clear hm
                    have P3 := HPI.out w2 (HE.out.below B2.out) hda
                    obtain ⟨z, hzz⟩ : ∃ z, Hid (sg (neg l) (val (v ++ r)) = z) := ⟨_, rfl⟩
                    rw [hzz.out] at P3 er
                    obtain ⟨cl, hcl, hng⟩ := HBO.out HVN.out
                    have il := HXL.out cl hcl
                    clear hcl hda
                    have sz1 : ¬ 9223372036854775807 < 1 + vl := by have := HSZ.out; omega
                    have sz2 : ¬ 9223372036854775807 < 1 + vl + rl := by have := HSZ.out; omega
                    have sz3 : ¬ 9223372036854775807 < vl := by have := HSZ.out; omega
                    have sz4 : ¬ 9223372036854775807 < vl + rl := by have := HSZ.out; omega
                    by_cases hn : cl = 45
                    · subst hn
                      rw [hng.2 rfl] at P3
                      have P4 : Calls Tryd.prog 59 #[.string (⟨#[45]⟩ ++ V ++ R), .int .i64 10, .int .i64 64] w2 (IntPost z w2) := by
                        have e : (⟨#[45]⟩ : ByteArray) ++ V ++ R = bs (sgn true ++ (v ++ r)) := HC1.out
                        rw [e]; exact P3
                      have il' : ∀ w, (Instr.index 9 (.string S) (.int .i64 0)).run Tryd.prog w = .ok (.int .u8 45) w := il
                      have sS : (⟨#[45]⟩ : ByteArray).size = 1 := rfl
                      clear P3 hng il
                      go_upto_region 12 with (first | (go_at_call 58; (with_reducible refine (DR _).mono ?_); rintro e3 w3 ⟨rfl, rfl⟩; clear DR) | (go_at_call 59; ((with_reducible refine P4.mono ?_); ((with_reducible refine fun e4 w4 h4 => ?_)); obtain ⟨k4, b4⟩ := h4; have B4 := Lib.hid (bt B2.out b4); have T4 := Lib.hid (T2.out.below b4); have K4 := Lib.hid k4; clear b4 k4 P4; rcases K4.out with ⟨hf, rfl⟩ | ⟨hf, pv, pt, pp, rfl⟩)))
                      all_goals
                        clear c0 c1 f0 f1
                        have c0 := T4.out.c0
                        have c1 := T4.out.c1
                        have f0 := T4.out.f 0
                        have f1 := T4.out.f 1
                        first
                          | (have rr := Lib.hid (er.out.trans (if_pos hf)))
                          | (have rr := Lib.hid (er.out.trans (if_neg hf)))
                        clear er hf
                        go_wp2_with fail
                        refine bodyPost_ret (v := .tuple #[.agg #[.int .i64 _, .int .i64 _], .int .i64 _]) (results_cell2 (fn := Tryd.f29) (p := 2) (u := 3) rfl _ _ w.heap.size _ _ (0, 0) _ rfl (T4.out.set _ _) Tryd.underlying24 rfl (by kernel_rfl)) rfl ?_
                        exact DpPost.mk rr.out (Below.setCell (Below.setCell B4.out (p := ⟨w.heap.size, 0, none⟩) (Nat.le_refl _) _) (p := ⟨w.heap.size, 1, none⟩) (Nat.le_refl _) _)
                    · have hnf : neg l = false := by cases h : neg l; rfl; exact absurd (hng.1 h) hn
                      rw [hnf] at P3
                      have P4 : Calls Tryd.prog 59 #[.string (⟨#[]⟩ ++ V ++ R), .int .i64 10, .int .i64 64] w2 (IntPost z w2) := by
                        have e : (⟨#[]⟩ : ByteArray) ++ V ++ R = bs (sgn false ++ (v ++ r)) := HC0.out
                        rw [e]; exact P3
                      obtain ⟨ys, hys⟩ : ∃ n, Hid (cl.toNat = n) := ⟨_, rfl⟩
                      rw [hys.out] at il
                      obtain ⟨b1, b2⟩ := byte_facts (show ys ≠ 45 from fun h => hn (UInt8.toNat.inj (by rw [hys.out, h]; rfl)))
                      have b3 : ((ys : Int) == 45) = false := b2
                      have sS : (⟨#[]⟩ : ByteArray).size = 0 := rfl
                      clear P3 hng hn hnf b2
                      go_upto_region 12 with (first | (go_at_call 58; (with_reducible refine (DR _).mono ?_); rintro e3 w3 ⟨rfl, rfl⟩; clear DR) | (go_at_call 59; ((with_reducible refine P4.mono ?_); ((with_reducible refine fun e4 w4 h4 => ?_)); obtain ⟨k4, b4⟩ := h4; have B4 := Lib.hid (bt B2.out b4); have T4 := Lib.hid (T2.out.below b4); have K4 := Lib.hid k4; clear b4 k4 P4; rcases K4.out with ⟨hf, rfl⟩ | ⟨hf, pv, pt, pp, rfl⟩)))
                      all_goals
                        clear c0 c1 f0 f1
                        have c0 := T4.out.c0
                        have c1 := T4.out.c1
                        have f0 := T4.out.f 0
                        have f1 := T4.out.f 1
                        first
                          | (have rr := Lib.hid (er.out.trans (if_pos hf)))
                          | (have rr := Lib.hid (er.out.trans (if_neg hf)))
                        clear er hf
                        go_wp2_with fail
                        refine bodyPost_ret (v := .tuple #[.agg #[.int .i64 _, .int .i64 _], .int .i64 _]) (results_cell2 (fn := Tryd.f29) (p := 2) (u := 3) rfl _ _ w.heap.size _ _ (0, 0) _ rfl (T4.out.set _ _) Tryd.underlying24 rfl (by kernel_rfl)) rfl ?_
                        exact DpPost.mk rr.out (Below.setCell (Below.setCell B4.out (p := ⟨w.heap.size, 0, none⟩) (Nat.le_refl _) _) (p := ⟨w.heap.size, 1, none⟩) (Nat.le_refl _) _)
        · obtain ⟨g1, g2⟩ := lt_facts k1
          have g3 : decide (1 < (vl : Int)) = true := g2
          obtain ⟨g4, g5⟩ := byte_facts k2
          have g6 : ((y0 : Int) == 48) = false := g5
          clear k1 k2 g2 g5
          go_upto_region 5 with (first | (go_at_call 58; (with_reducible refine (DV _).mono ?_); rintro e3 w3 ⟨rfl, rfl⟩; clear DV) | (go_at_call 58; (with_reducible refine (DR _).mono ?_); rintro e3 w3 ⟨rfl, rfl⟩; clear DR))
          cases p with
          | false =>
            have hda : digs (v ++ r) = true := digs_app HDV.out (by rw [HPR.out rfl]; rfl)
            by_cases hm : l = [45, 48]
            · have ec := HEQ.out hm
              have rr := Lib.hid (show RES = ((0, 0), 4) from hRES.out.symm.trans (if_pos (.inr (.inr hm))))
              clear hm
              go_wp2_with (first | (go_at_call 58; (with_reducible refine (DV _).mono ?_); rintro e3 w3 ⟨rfl, rfl⟩; clear DV) | (go_at_call 58; (with_reducible refine (DR _).mono ?_); rintro e3 w3 ⟨rfl, rfl⟩; clear DR))
              refine bodyPost_ret (v := .tuple #[.agg #[.int .i64 _, .int .i64 _], .int .i64 _]) (results_cell2 (fn := Tryd.f29) (p := 2) (u := 3) rfl _ _ w.heap.size _ _ (0, 0) _ rfl (T2.out.set _ _) Tryd.underlying24 rfl (by kernel_rfl)) rfl ?_
              exact DpPost.mk rr.out (Below.setCell (Below.setCell B2.out (p := ⟨w.heap.size, 0, none⟩) (Nat.le_refl _) _) (p := ⟨w.heap.size, 1, none⟩) (Nat.le_refl _) _)
            · have ec := HNE.out hm
              have er := Lib.hid (hRES.out.symm.trans (if_neg (by rw [HWB.out]; rintro (h | h | h); exact Bool.noConfusion h; exact Bool.noConfusion h.1; exact hm h)))
              clear hm
              have P3 := HPI.out w2 (HE.out.below B2.out) hda
              obtain ⟨z, hzz⟩ : ∃ z, Hid (sg (neg l) (val (v ++ r)) = z) := ⟨_, rfl⟩
              rw [hzz.out] at P3 er
              obtain ⟨cl, hcl, hng⟩ := HBO.out HVN.out
              have il := HXL.out cl hcl
              clear hcl hda
              have sz1 : ¬ 9223372036854775807 < 1 + vl := by have := HSZ.out; omega
              have sz2 : ¬ 9223372036854775807 < 1 + vl + rl := by have := HSZ.out; omega
              have sz3 : ¬ 9223372036854775807 < vl := by have := HSZ.out; omega
              have sz4 : ¬ 9223372036854775807 < vl + rl := by have := HSZ.out; omega
              by_cases hn : cl = 45
              · subst hn
                rw [hng.2 rfl] at P3
                have P4 : Calls Tryd.prog 59 #[.string (⟨#[45]⟩ ++ V ++ R), .int .i64 10, .int .i64 64] w2 (IntPost z w2) := by
                  have e : (⟨#[45]⟩ : ByteArray) ++ V ++ R = bs (sgn true ++ (v ++ r)) := HC1.out
                  rw [e]; exact P3
                have il' : ∀ w, (Instr.index 9 (.string S) (.int .i64 0)).run Tryd.prog w = .ok (.int .u8 45) w := il
                have sS : (⟨#[45]⟩ : ByteArray).size = 1 := rfl
                clear P3 hng il
                go_upto_region 12 with (first | (go_at_call 58; (with_reducible refine (DR _).mono ?_); rintro e3 w3 ⟨rfl, rfl⟩; clear DR) | (go_at_call 59; ((with_reducible refine P4.mono ?_); ((with_reducible refine fun e4 w4 h4 => ?_)); obtain ⟨k4, b4⟩ := h4; have B4 := Lib.hid (bt B2.out b4); have T4 := Lib.hid (T2.out.below b4); have K4 := Lib.hid k4; clear b4 k4 P4; rcases K4.out with ⟨hf, rfl⟩ | ⟨hf, pv, pt, pp, rfl⟩)))
                all_goals
                  clear c0 c1 f0 f1
                  have c0 := T4.out.c0
                  have c1 := T4.out.c1
                  have f0 := T4.out.f 0
                  have f1 := T4.out.f 1
                  first
                    | (have rr := Lib.hid (er.out.trans (if_pos hf)))
                    | (have rr := Lib.hid (er.out.trans (if_neg hf)))
                  clear er hf
                  go_wp2_with fail
                  refine bodyPost_ret (v := .tuple #[.agg #[.int .i64 _, .int .i64 _], .int .i64 _]) (results_cell2 (fn := Tryd.f29) (p := 2) (u := 3) rfl _ _ w.heap.size _ _ (0, 0) _ rfl (T4.out.set _ _) Tryd.underlying24 rfl (by kernel_rfl)) rfl ?_
                  exact DpPost.mk rr.out (Below.setCell (Below.setCell B4.out (p := ⟨w.heap.size, 0, none⟩) (Nat.le_refl _) _) (p := ⟨w.heap.size, 1, none⟩) (Nat.le_refl _) _)
              · have hnf : neg l = false := by cases h : neg l; rfl; exact absurd (hng.1 h) hn
                rw [hnf] at P3
                have P4 : Calls Tryd.prog 59 #[.string (⟨#[]⟩ ++ V ++ R), .int .i64 10, .int .i64 64] w2 (IntPost z w2) := by
                  have e : (⟨#[]⟩ : ByteArray) ++ V ++ R = bs (sgn false ++ (v ++ r)) := HC0.out
                  rw [e]; exact P3
                obtain ⟨ys, hys⟩ : ∃ n, Hid (cl.toNat = n) := ⟨_, rfl⟩
                rw [hys.out] at il
                obtain ⟨b1, b2⟩ := byte_facts (show ys ≠ 45 from fun h => hn (UInt8.toNat.inj (by rw [hys.out, h]; rfl)))
                have b3 : ((ys : Int) == 45) = false := b2
                have sS : (⟨#[]⟩ : ByteArray).size = 0 := rfl
                clear P3 hng hn hnf b2
                go_upto_region 12 with (first | (go_at_call 58; (with_reducible refine (DR _).mono ?_); rintro e3 w3 ⟨rfl, rfl⟩; clear DR) | (go_at_call 59; ((with_reducible refine P4.mono ?_); ((with_reducible refine fun e4 w4 h4 => ?_)); obtain ⟨k4, b4⟩ := h4; have B4 := Lib.hid (bt B2.out b4); have T4 := Lib.hid (T2.out.below b4); have K4 := Lib.hid k4; clear b4 k4 P4; rcases K4.out with ⟨hf, rfl⟩ | ⟨hf, pv, pt, pp, rfl⟩)))
                all_goals
                  clear c0 c1 f0 f1
                  have c0 := T4.out.c0
                  have c1 := T4.out.c1
                  have f0 := T4.out.f 0
                  have f1 := T4.out.f 1
                  first
                    | (have rr := Lib.hid (er.out.trans (if_pos hf)))
                    | (have rr := Lib.hid (er.out.trans (if_neg hf)))
                  clear er hf
                  go_wp2_with fail
                  refine bodyPost_ret (v := .tuple #[.agg #[.int .i64 _, .int .i64 _], .int .i64 _]) (results_cell2 (fn := Tryd.f29) (p := 2) (u := 3) rfl _ _ w.heap.size _ _ (0, 0) _ rfl (T4.out.set _ _) Tryd.underlying24 rfl (by kernel_rfl)) rfl ?_
                  exact DpPost.mk rr.out (Below.setCell (Below.setCell B4.out (p := ⟨w.heap.size, 0, none⟩) (Nat.le_refl _) _) (p := ⟨w.heap.size, 1, none⟩) (Nat.le_refl _) _)
          | true =>
            cases hdr : digs r with
            | false =>
              rw [hdr] at DR
              have rr := Lib.hid (show RES = ((0, 0), 4) from hRES.out.symm.trans (if_pos (.inr (.inl ⟨rfl, by unfold rBad; rw [hdr]; rfl⟩))))
              clear hdr
              go_wp2_with (first | (go_at_call 58; (with_reducible refine (DV _).mono ?_); rintro e3 w3 ⟨rfl, rfl⟩; clear DV) | (go_at_call 58; (with_reducible refine (DR _).mono ?_); rintro e3 w3 ⟨rfl, rfl⟩; clear DR))
              refine bodyPost_ret (v := .tuple #[.agg #[.int .i64 _, .int .i64 _], .int .i64 _]) (results_cell2 (fn := Tryd.f29) (p := 2) (u := 3) rfl _ _ w.heap.size _ _ (0, 0) _ rfl (T2.out.set _ _) Tryd.underlying24 rfl (by kernel_rfl)) rfl ?_
              exact DpPost.mk rr.out (Below.setCell (Below.setCell B2.out (p := ⟨w.heap.size, 0, none⟩) (Nat.le_refl _) _) (p := ⟨w.heap.size, 1, none⟩) (Nat.le_refl _) _)
            | true =>
              rw [hdr] at DR
              have hda : digs (v ++ r) = true := digs_app HDV.out (digs_all hdr)
              have rne := digs_ne hdr
              have rpos : 0 < rl := by rw [← hrl.out]; exact List.length_pos_iff.2 rne
              obtain ⟨x9, hx9⟩ : ∃ c, r[rl - 1]? = some c := ⟨_, List.getElem?_eq_getElem (by rw [hrl.out]; omega)⟩
              have hx9' : r.getLast? = some x9 := by rw [List.getLast?_eq_getElem?, hrl.out]; exact hx9
              have ir := HXR.out x9 hx9
              have kr : IntKind.i64.wrap ((rl : Int) - 1) = ((rl - 1 : Nat) : Int) := by rw [IntWalk.i64_left, IntWalk.wrap64_in _ (by have := HSZ.out; omega)]; omega
              obtain ⟨y9, hy9⟩ : ∃ n, Hid (x9.toNat = n) := ⟨_, rfl⟩
              rw [hy9.out] at ir
              obtain ⟨rm, hrm⟩ : ∃ n, Hid (rl - 1 = n) := ⟨_, rfl⟩
              rw [hrm.out] at ir kr
              have HDR := Lib.hid hdr; have HX9 := Lib.hid hx9'
              clear hdr rne hx9 hx9'
              by_cases k9 : 9 < rl
              · obtain ⟨r1, r2⟩ := lt_facts k9
                have r3 : decide (9 < (rl : Int)) = true := r2
                have rr := Lib.hid (show RES = ((0, 0), 4) from hRES.out.symm.trans (if_pos (.inr (.inl ⟨rfl, by unfold rBad; rw [HDR.out, hrl.out]; simp [k9]⟩))))
                clear k9 r2 rpos
                go_wp2_with (first | (go_at_call 58; (with_reducible refine (DV _).mono ?_); rintro e3 w3 ⟨rfl, rfl⟩; clear DV) | (go_at_call 58; (with_reducible refine (DR _).mono ?_); rintro e3 w3 ⟨rfl, rfl⟩; clear DR))
                refine bodyPost_ret (v := .tuple #[.agg #[.int .i64 _, .int .i64 _], .int .i64 _]) (results_cell2 (fn := Tryd.f29) (p := 2) (u := 3) rfl _ _ w.heap.size _ _ (0, 0) _ rfl (T2.out.set _ _) Tryd.underlying24 rfl (by kernel_rfl)) rfl ?_
                exact DpPost.mk rr.out (Below.setCell (Below.setCell B2.out (p := ⟨w.heap.size, 0, none⟩) (Nat.le_refl _) _) (p := ⟨w.heap.size, 1, none⟩) (Nat.le_refl _) _)
              · obtain ⟨r1, r2⟩ := gt_facts k9
                have r3 : decide (9 < (rl : Int)) = false := r2
                by_cases k48 : y9 = 48
                · have h48 : x9 = 48 := UInt8.toNat.inj (by rw [hy9.out, k48]; rfl)
                  have rr := Lib.hid (show RES = ((0, 0), 4) from hRES.out.symm.trans (if_pos (.inr (.inl ⟨rfl, by unfold rBad; rw [HDR.out, HX9.out, h48]; simp⟩))))
                  subst k48
                  clear k9 r2 rpos h48
                  go_wp2_with (first | (go_at_call 58; (with_reducible refine (DV _).mono ?_); rintro e3 w3 ⟨rfl, rfl⟩; clear DV) | (go_at_call 58; (with_reducible refine (DR _).mono ?_); rintro e3 w3 ⟨rfl, rfl⟩; clear DR))
                  refine bodyPost_ret (v := .tuple #[.agg #[.int .i64 _, .int .i64 _], .int .i64 _]) (results_cell2 (fn := Tryd.f29) (p := 2) (u := 3) rfl _ _ w.heap.size _ _ (0, 0) _ rfl (T2.out.set _ _) Tryd.underlying24 rfl (by kernel_rfl)) rfl ?_
                  exact DpPost.mk rr.out (Below.setCell (Below.setCell B2.out (p := ⟨w.heap.size, 0, none⟩) (Nat.le_refl _) _) (p := ⟨w.heap.size, 1, none⟩) (Nat.le_refl _) _)
                · obtain ⟨r4, r5⟩ := byte_facts k48
                  have r6 : ((y9 : Int) == 48) = false := r5
                  have hrb : rBad r = false := by
                    unfold rBad
                    rw [HDR.out, HX9.out, hrl.out]
                    have : x9 ≠ 48 := fun h => k48 (by rw [← hy9.out, h]; rfl)
                    simp [this]
                    omega
                  have HRB := Lib.hid hrb
                  clear k9 k48 r2 r5 hrb rpos
                  by_cases hm : l = [45, 48]
                  · have ec := HEQ.out hm
                    have rr := Lib.hid (show RES = ((0, 0), 4) from hRES.out.symm.trans (if_pos (.inr (.inr hm))))
                    clear hm
                    go_wp2_with (first | (go_at_call 58; (with_reducible refine (DV _).mono ?_); rintro e3 w3 ⟨rfl, rfl⟩; clear DV) | (go_at_call 58; (with_reducible refine (DR _).mono ?_); rintro e3 w3 ⟨rfl, rfl⟩; clear DR))
                    refine bodyPost_ret (v := .tuple #[.agg #[.int .i64 _, .int .i64 _], .int .i64 _]) (results_cell2 (fn := Tryd.f29) (p := 2) (u := 3) rfl _ _ w.heap.size _ _ (0, 0) _ rfl (T2.out.set _ _) Tryd.underlying24 rfl (by kernel_rfl)) rfl ?_
                    exact DpPost.mk rr.out (Below.setCell (Below.setCell B2.out (p := ⟨w.heap.size, 0, none⟩) (Nat.le_refl _) _) (p := ⟨w.heap.size, 1, none⟩) (Nat.le_refl _) _)
                  · have ec := HNE.out hm
                    have er := Lib.hid (hRES.out.symm.trans (if_neg (by rw [HWB.out]; rintro (h | h | h); exact Bool.noConfusion h; rw [HRB.out] at h; exact Bool.noConfusion h.2; exact hm h)))
                    clear hm
                    have P3 := HPI.out w2 (HE.out.below B2.out) hda
                    obtain ⟨z, hzz⟩ : ∃ z, Hid (sg (neg l) (val (v ++ r)) = z) := ⟨_, rfl⟩
                    rw [hzz.out] at P3 er
                    obtain ⟨cl, hcl, hng⟩ := HBO.out HVN.out
                    have il := HXL.out cl hcl
                    clear hcl hda
                    have sz1 : ¬ 9223372036854775807 < 1 + vl := by have := HSZ.out; omega
                    have sz2 : ¬ 9223372036854775807 < 1 + vl + rl := by have := HSZ.out; omega
                    have sz3 : ¬ 9223372036854775807 < vl := by have := HSZ.out; omega
                    have sz4 : ¬ 9223372036854775807 < vl + rl := by have := HSZ.out; omega
                    by_cases hn : cl = 45
                    · subst hn
                      rw [hng.2 rfl] at P3
                      have P4 : Calls Tryd.prog 59 #[.string (⟨#[45]⟩ ++ V ++ R), .int .i64 10, .int .i64 64] w2 (IntPost z w2) := by
                        have e : (⟨#[45]⟩ : ByteArray) ++ V ++ R = bs (sgn true ++ (v ++ r)) := HC1.out
                        rw [e]; exact P3
                      have il' : ∀ w, (Instr.index 9 (.string S) (.int .i64 0)).run Tryd.prog w = .ok (.int .u8 45) w := il
                      have sS : (⟨#[45]⟩ : ByteArray).size = 1 := rfl
                      clear P3 hng il
                      go_upto_region 12 with (first | (go_at_call 58; (with_reducible refine (DR _).mono ?_); rintro e3 w3 ⟨rfl, rfl⟩; clear DR) | (go_at_call 59; ((with_reducible refine P4.mono ?_); ((with_reducible refine fun e4 w4 h4 => ?_)); obtain ⟨k4, b4⟩ := h4; have B4 := Lib.hid (bt B2.out b4); have T4 := Lib.hid (T2.out.below b4); have K4 := Lib.hid k4; clear b4 k4 P4; rcases K4.out with ⟨hf, rfl⟩ | ⟨hf, pv, pt, pp, rfl⟩)))
                      all_goals
                        clear c0 c1 f0 f1
                        have c0 := T4.out.c0
                        have c1 := T4.out.c1
                        have f0 := T4.out.f 0
                        have f1 := T4.out.f 1
                        first
                          | (have rr := Lib.hid (er.out.trans (if_pos hf)))
                          | (have rr := Lib.hid (er.out.trans (if_neg hf)))
                        clear er hf
                        go_wp2_with fail
                        refine bodyPost_ret (v := .tuple #[.agg #[.int .i64 _, .int .i64 _], .int .i64 _]) (results_cell2 (fn := Tryd.f29) (p := 2) (u := 3) rfl _ _ w.heap.size _ _ (0, 0) _ rfl (T4.out.set _ _) Tryd.underlying24 rfl (by kernel_rfl)) rfl ?_
                        exact DpPost.mk rr.out (Below.setCell (Below.setCell B4.out (p := ⟨w.heap.size, 0, none⟩) (Nat.le_refl _) _) (p := ⟨w.heap.size, 1, none⟩) (Nat.le_refl _) _)
                    · have hnf : neg l = false := by cases h : neg l; rfl; exact absurd (hng.1 h) hn
                      rw [hnf] at P3
                      have P4 : Calls Tryd.prog 59 #[.string (⟨#[]⟩ ++ V ++ R), .int .i64 10, .int .i64 64] w2 (IntPost z w2) := by
                        have e : (⟨#[]⟩ : ByteArray) ++ V ++ R = bs (sgn false ++ (v ++ r)) := HC0.out
                        rw [e]; exact P3
                      obtain ⟨ys, hys⟩ : ∃ n, Hid (cl.toNat = n) := ⟨_, rfl⟩
                      rw [hys.out] at il
                      obtain ⟨b1, b2⟩ := byte_facts (show ys ≠ 45 from fun h => hn (UInt8.toNat.inj (by rw [hys.out, h]; rfl)))
                      have b3 : ((ys : Int) == 45) = false := b2
                      have sS : (⟨#[]⟩ : ByteArray).size = 0 := rfl
                      clear P3 hng hn hnf b2
                      go_upto_region 12 with (first | (go_at_call 58; (with_reducible refine (DR _).mono ?_); rintro e3 w3 ⟨rfl, rfl⟩; clear DR) | (go_at_call 59; ((with_reducible refine P4.mono ?_); ((with_reducible refine fun e4 w4 h4 => ?_)); obtain ⟨k4, b4⟩ := h4; have B4 := Lib.hid (bt B2.out b4); have T4 := Lib.hid (T2.out.below b4); have K4 := Lib.hid k4; clear b4 k4 P4; rcases K4.out with ⟨hf, rfl⟩ | ⟨hf, pv, pt, pp, rfl⟩)))
                      all_goals
                        clear c0 c1 f0 f1
                        have c0 := T4.out.c0
                        have c1 := T4.out.c1
                        have f0 := T4.out.f 0
                        have f1 := T4.out.f 1
                        first
                          | (have rr := Lib.hid (er.out.trans (if_pos hf)))
                          | (have rr := Lib.hid (er.out.trans (if_neg hf)))
                        clear er hf
                        go_wp2_with fail
                        refine bodyPost_ret (v := .tuple #[.agg #[.int .i64 _, .int .i64 _], .int .i64 _]) (results_cell2 (fn := Tryd.f29) (p := 2) (u := 3) rfl _ _ w.heap.size _ _ (0, 0) _ rfl (T4.out.set _ _) Tryd.underlying24 rfl (by kernel_rfl)) rfl ?_
                        exact DpPost.mk rr.out (Below.setCell (Below.setCell B4.out (p := ⟨w.heap.size, 0, none⟩) (Nat.le_refl _) _) (p := ⟨w.heap.size, 1, none⟩) (Nat.le_refl _) _)
end Go.Proofs.YtfonpegkaajnkaaDoor.Tx
