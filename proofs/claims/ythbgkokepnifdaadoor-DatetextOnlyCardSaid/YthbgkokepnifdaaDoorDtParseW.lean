/-
  datetext: Parse, walked.
-/
import Derived.Test.YthbgkokepnifdaaDoorDtParse
namespace Go.Proofs.YthbgkokepnifdaaDoor.Dt
open Go Go.RowKit
set_option linter.unusedSimpArgs false
set_option linter.unusedVariables false
attribute [local go_sem ↓] Go.wp_at_zero Go.wp_at_succ

theorem pow10_le (k : Nat) (h : k ≤ 10) : (10 : Int) ^ k ≤ 10000000000 := by
  have := Nat.pow_le_pow_right (n := 10) (by decide) h
  have e : ((10 ^ k : Nat) : Int) = (10 : Int) ^ k := by push_cast; rfl
  rw [← e]; have e2 : (10 : Nat) ^ 10 = 10000000000 := by decide
  omega
theorem iterPos_of {w : World} {k : Nat} {S : ByteArray} {p : Nat} (h : w.heap[k]? = some (.stringIter S p)) : w.iterPos k = p := by simp only [World.iterPos, h]
theorem tri_new (w : World) (S : ByteArray) : Tri ((w.alloc (.cells #[.int .i64 0, .int .i64 0, .int .i64 0] 35)).iter S 0) w.heap.size 0 0 0 := by
  show ((w.heap.push (.cells #[.int .i64 0, .int .i64 0, .int .i64 0] 35 (0, 0))).push (.stringIter S 0))[w.heap.size]? = _
  rw [Array.getElem?_push_lt (by rw [Array.size_push]; omega), Array.getElem_push_eq]
set_option maxRecDepth 100000 in
set_option maxHeartbeats 4000000 in
theorem parse_is {w : World} (l : List UInt8) (hl : l.length < 9223372036854775807) : Calls Tryd.prog 7 #[.string (bs l)] w (ParsePost l w) := by
  have hz : (bs l).size = l.length := bs_size l
  obtain ⟨N, hN⟩ : ∃ N, Hid (l.length = N) := ⟨_, rfl⟩
  rw [hN.out] at hz hl
  by_cases h10 : N = 10
  · obtain rfl := h10
    obtain ⟨S, hS⟩ : ∃ S, Hid (bs l = S) := ⟨_, rfl⟩
    rw [hS.out] at hz ⊢
    clear hl
    go_enter Tryd.func7, Tryd.ntmps7
    go_wp2_with fail
    go_loopw [5] (fun pv wr => ∃ (k p : Nat) (y m d : Int), pv = .int .i64 (p : Int) ∧ k ≤ 10 ∧ Hid (SoFar l k y m d p) ∧ Hid (Tri wr w.heap.size y m d) ∧ Hid (wr.heap[w.heap.size + 1]? = some (.stringIter S k)) ∧ Hid (Below w.heap.size w wr)) (fun _ wr => 10 - wr.iterPos (w.heap.size + 1))
    case atStart =>
      refine ⟨0, 0, 0, 0, 0, rfl, by decide, SoFar.none l, ?_, ?_, ((Below.refl _ w).alloc (Nat.le_refl _) _).alloc (by simp) _⟩
      · exact tri_new w S
      · show _ = _
        have := World.iter_heap (w.alloc (.cells #[.int .i64 0, .int .i64 0, .int .i64 0] 35)) S 0
        simpa using this
    case round =>
      obtain ⟨wo, rfl⟩ : ∃ wo : World, wo = wr := ⟨_, rfl⟩
      obtain ⟨k, p, y, m, d, rfl, hk, HSF, HT, HI, BB⟩ := hrel
      by_cases hkl : k < 10
      · obtain ⟨c, hc⟩ : ∃ c, l[k]? = some c := ⟨_, List.getElem?_eq_getElem (by rw [hN.out]; exact hkl)⟩
        obtain ⟨r0, r1, r2⟩ := rune_at hc
        rw [hS.out] at r0 r1 r2
        have hfx := form_at k hkl
        have kn1 : ¬ (10 ≤ (k : Int)) := by omega
        have kn2 : decide (10 ≤ k) = false := by simp; omega
        by_cases ok : okAt k c = true
        · have hc128 : c.toNat < 128 := by
            unfold okAt at ok
            split at ok
            · rw [beq_iff_eq] at ok; rw [ok]; decide
            · unfold isDg at ok; simp only [Bool.and_eq_true, decide_eq_true_eq] at ok; omega
          obtain ⟨x, hx⟩ : ∃ x, Hid (c.toNat = x) := ⟨_, rfl⟩
          have hnx : ∀ ty, (Instr.next (.pointer (some ⟨w.heap.size + 1, 0, none⟩)) true ty).run Tryd.prog wo = .ok (.tuple #[.bool true, .int .i64 (k : Int), .int .i32 (x : Int)]) (wo.iterAt (w.heap.size + 1) S (k + 1)) := fun ty => by
            rw [Lib.run_next_any_at wo (w.heap.size + 1) S k ty HI.out r0, r1 hc128, ← hx.out]
          have HT2 := Lib.hid (HT.out.it (k := w.heap.size + 1) (by omega) S (k + 1))
          have HI' := HI
          have HI2 := Lib.hid (Lib.iterAt_heap wo (w.heap.size + 1) S k (k + 1) HI.out)
          have BX := Lib.hid (Lib.below_iterAt BB.out (k := w.heap.size + 1) (by omega) S (k + 1))
          have HK := Lib.hid hkl
          obtain ⟨w2, hw2⟩ : ∃ v, Hid (v = wo.iterAt (w.heap.size + 1) S (k + 1)) := ⟨_, rfl⟩
          rw [← hw2.out] at hnx HT2 HI2 BX
          by_cases h47 : k = 4 ∨ k = 7
          · rw [if_pos h47] at hfx
            have e45 : c = 45 := by unfold okAt at ok; rw [if_pos h47, beq_iff_eq] at ok; exact ok
            subst e45
            have hx45 : x = 45 := hx.out.symm
            subst hx45
            have SF2 := Lib.hid (HSF.out.dash hc ok h47)
            have pb : p ≤ 1 := by rw [HSF.out.at_]; unfold part; rcases h47 with rfl | rfl <;> decide
            have kw : IntKind.i64.wrap ((p : Int) + 1) = (p : Int) + 1 := by rw [IntWalk.i64_left]; exact IntWalk.wrap64_in _ (by omega)
            clear hc r0 r1 r2 hk hkl h47 hx hw2 ok hc128 BB HT
            go_wp2_with fail
            refine ⟨⟨k + 1, p + 1, y, m, d, rfl, HK.out, SF2, HT2, HI2, BX⟩, ?_⟩
            show 10 - w2.iterPos _ < 10 - wo.iterPos _
            rw [iterPos_of HI2.out, iterPos_of HI.out]; have := HK.out; omega
          · rw [if_neg h47] at hfx
            have HDG := Lib.hid (HSF.out.dig hc ok h47)
            have hd : isDg c = true := by unfold okAt at ok; rw [if_neg h47] at ok; exact ok
            have hb : 48 ≤ x ∧ x ≤ 57 := by unfold isDg at hd; simp only [Bool.and_eq_true, decide_eq_true_eq] at hd; rw [hx.out] at hd; exact hd
            obtain ⟨hb1, hb2⟩ := hb
            have hp : p = 0 ∨ p = 1 ∨ p = 2 := by rw [HSF.out.at_]; unfold part; split; exact .inl rfl; split; exact .inr (.inl rfl); exact .inr (.inr rfl)
            have u0 : IntKind.i32.wrap ((x : Int) - 48) = (x : Int) - 48 := by rw [IntKind.wrap_i32]; omega
            have u3 : IntKind.i64.wrap ((x : Int) - 48) = (x : Int) - 48 := by rw [IntWalk.i64_left]; exact IntWalk.wrap64_in _ (by omega)
            have d1 : decide (x < 48) = false := by simp; omega
            have d2 : decide ((x : Int) < 48) = false := by simp; omega
            have d3 : decide (57 < x) = false := by simp; omega
            have d4 : decide (57 < (x : Int)) = false := by simp; omega
            have d5 : decide (x = 45) = false := by simp; omega
            have d6 : ((x : Int) == 45) = false := by simp; omega
            have d7 : ((x : Int) != 45) = true := by simp; omega
            rcases hp with rfl | rfl | rfl
            · have S2 := Lib.hid (HDG.out.1 rfl)
              obtain ⟨nv, hnv⟩ : ∃ nv : Int, Hid (y * 10 + (dv c : Int) = nv) := ⟨_, rfl⟩
              rw [hnv.out] at S2
              have bq := HSF.out.y
              have pk := pow10_le k (by omega)
              have c0 := HT2.out.c0
              have f0 := HT2.out.f 0
              have ev : y * 10 + ((x : Int) - 48) = nv := by rw [← hnv.out]; have := hx.out; unfold dv; omega
              have u1 : IntKind.i64.wrap (y * 10) = y * 10 := by rw [IntWalk.i64_left]; exact IntWalk.wrap64_in _ (by omega)
              have u2 : IntKind.i64.wrap (y * 10 + ((x : Int) - 48)) = nv := by rw [ev, IntWalk.i64_left]; exact IntWalk.wrap64_in _ (by omega)
              have T3 := Lib.hid (HT2.out.s0 nv)
              have I3 := Lib.hid ((heap_setCell_other w2 ⟨w.heap.size, 0, none⟩ (w.heap.size + 1) (.int .i64 nv) (by show w.heap.size + 1 ≠ w.heap.size; omega)).trans HI2.out)
              have BY := Lib.hid (BX.out.setCell (p := ⟨w.heap.size, 0, none⟩) (Nat.le_refl _) (.int .i64 nv))
              clear bq pk ev hc r0 r1 r2 hk hkl h47 hx hw2 ok hc128 BB HT HDG hb1 hb2 hd
              go_wp2_with fail
              refine ⟨⟨k + 1, 0, nv, m, d, rfl, HK.out, S2, T3, I3, BY⟩, ?_⟩
              show 10 - World.iterPos _ _ < 10 - wo.iterPos _
              rw [iterPos_of I3.out, iterPos_of HI.out]; have := HK.out; omega
            · have S2 := Lib.hid (HDG.out.2.1 rfl)
              obtain ⟨nv, hnv⟩ : ∃ nv : Int, Hid (m * 10 + (dv c : Int) = nv) := ⟨_, rfl⟩
              rw [hnv.out] at S2
              have bq := HSF.out.m
              have pk := pow10_le k (by omega)
              have c0 := HT2.out.c1
              have f0 := HT2.out.f 1
              have ev : m * 10 + ((x : Int) - 48) = nv := by rw [← hnv.out]; have := hx.out; unfold dv; omega
              have u1 : IntKind.i64.wrap (m * 10) = m * 10 := by rw [IntWalk.i64_left]; exact IntWalk.wrap64_in _ (by omega)
              have u2 : IntKind.i64.wrap (m * 10 + ((x : Int) - 48)) = nv := by rw [ev, IntWalk.i64_left]; exact IntWalk.wrap64_in _ (by omega)
              have T3 := Lib.hid (HT2.out.s1 nv)
              have I3 := Lib.hid ((heap_setCell_other w2 ⟨w.heap.size, 1, none⟩ (w.heap.size + 1) (.int .i64 nv) (by show w.heap.size + 1 ≠ w.heap.size; omega)).trans HI2.out)
              have BY := Lib.hid (BX.out.setCell (p := ⟨w.heap.size, 1, none⟩) (Nat.le_refl _) (.int .i64 nv))
              clear bq pk ev hc r0 r1 r2 hk hkl h47 hx hw2 ok hc128 BB HT HDG hb1 hb2 hd
              go_wp2_with fail
              refine ⟨⟨k + 1, 1, y, nv, d, rfl, HK.out, S2, T3, I3, BY⟩, ?_⟩
              show 10 - World.iterPos _ _ < 10 - wo.iterPos _
              rw [iterPos_of I3.out, iterPos_of HI.out]; have := HK.out; omega
            · have S2 := Lib.hid (HDG.out.2.2 rfl)
              obtain ⟨nv, hnv⟩ : ∃ nv : Int, Hid (d * 10 + (dv c : Int) = nv) := ⟨_, rfl⟩
              rw [hnv.out] at S2
              have bq := HSF.out.d
              have pk := pow10_le k (by omega)
              have c0 := HT2.out.c2
              have f0 := HT2.out.f 2
              have ev : d * 10 + ((x : Int) - 48) = nv := by rw [← hnv.out]; have := hx.out; unfold dv; omega
              have u1 : IntKind.i64.wrap (d * 10) = d * 10 := by rw [IntWalk.i64_left]; exact IntWalk.wrap64_in _ (by omega)
              have u2 : IntKind.i64.wrap (d * 10 + ((x : Int) - 48)) = nv := by rw [ev, IntWalk.i64_left]; exact IntWalk.wrap64_in _ (by omega)
              have T3 := Lib.hid (HT2.out.s2 nv)
              have I3 := Lib.hid ((heap_setCell_other w2 ⟨w.heap.size, 2, none⟩ (w.heap.size + 1) (.int .i64 nv) (by show w.heap.size + 1 ≠ w.heap.size; omega)).trans HI2.out)
              have BY := Lib.hid (BX.out.setCell (p := ⟨w.heap.size, 2, none⟩) (Nat.le_refl _) (.int .i64 nv))
              clear bq pk ev hc r0 r1 r2 hk hkl h47 hx hw2 ok hc128 BB HT HDG hb1 hb2 hd
              go_wp2_with fail
              refine ⟨⟨k + 1, 2, y, m, nv, rfl, HK.out, S2, T3, I3, BY⟩, ?_⟩
              show 10 - World.iterPos _ _ < 10 - wo.iterPos _
              rw [iterPos_of I3.out, iterPos_of HI.out]; have := HK.out; omega
        · have okf : okAt k c = false := by simpa using ok
          have r := Lib.hid (parse_at hkl hc okf)
          obtain ⟨x, hx⟩ : ∃ x, Hid ((Utf8.decode S k).1 = x) := ⟨_, rfl⟩
          have hnx : ∀ ty, (Instr.next (.pointer (some ⟨w.heap.size + 1, 0, none⟩)) true ty).run Tryd.prog wo = .ok (.tuple #[.bool true, .int .i64 (k : Int), .int .i32 (x : Int)]) (wo.iterAt (w.heap.size + 1) S (k + (Utf8.decode S k).2)) := fun ty => by
            rw [Lib.run_next_any_at wo (w.heap.size + 1) S k ty HI.out r0, hx.out]
          have BX := Lib.hid (Lib.below_iterAt BB.out (k := w.heap.size + 1) (by omega) S (k + (Utf8.decode S k).2))
          obtain ⟨w2, hw2⟩ : ∃ v, Hid (v = wo.iterAt (w.heap.size + 1) S (k + (Utf8.decode S k).2)) := ⟨_, rfl⟩
          rw [← hw2.out] at hnx BX
          have x1 : c.toNat < 128 → x = c.toNat := fun h => by rw [← hx.out, r1 h]
          have x2 : 128 ≤ c.toNat → 128 ≤ x := fun h => by rw [← hx.out]; exact r2 h
          have c45 : c.toNat = 45 → c = 45 := fun h => UInt8.toNat.inj h
          have dash : x ≠ 45 → decide (x = 45) = false ∧ ((x : Int) == 45) = false ∧ ((x : Int) != 45) = true := fun h => ⟨by simpa using h, by simp; omega, by simp; omega⟩
          by_cases h47 : k = 4 ∨ k = 7
          · rw [if_pos h47] at hfx
            have xn : x ≠ 45 := fun h => by
              unfold okAt at okf
              rw [if_pos h47, beq_eq_false_iff_ne] at okf
              by_cases g : c.toNat < 128
              · exact okf (c45 (by rw [← x1 g]; exact h))
              · have := x2 (by omega); omega
            obtain ⟨d5, d6, d7⟩ := dash xn
            clear hc r0 r1 r2 hk hkl h47 hx hw2 ok okf BB HT HI HSF x1 x2 c45 dash xn
            go_wp2_with fail
            go_ret2
            exact ParsePost.mk r.out BX.out
          · rw [if_neg h47] at hfx
            have xr : x = 45 ∨ (x ≠ 45 ∧ x < 48) ∨ (x ≠ 45 ∧ ¬ x < 48 ∧ 57 < x) := by
              unfold okAt at okf
              rw [if_neg h47] at okf
              unfold isDg at okf
              simp only [Bool.and_eq_false_iff, decide_eq_false_iff_not] at okf
              by_cases g : c.toNat < 128
              · have := x1 g; omega
              · have := x2 (by omega); omega
            clear hc r0 r1 r2 hk hkl h47 hx hw2 ok okf BB HT HI HSF x1 x2 c45
            rcases xr with rfl | ⟨xn, xl⟩ | ⟨xn, xl, xm⟩
            · clear dash
              go_wp2_with fail
              go_ret2
              exact ParsePost.mk r.out BX.out
            · obtain ⟨d5, d6, d7⟩ := dash xn
              have d1 : decide (x < 48) = true := by simpa using xl
              have d2 : decide ((x : Int) < 48) = true := by simp; omega
              clear dash xn xl
              go_wp2_with fail
              go_ret2
              exact ParsePost.mk r.out BX.out
            · obtain ⟨d5, d6, d7⟩ := dash xn
              have d1 : decide (x < 48) = false := by simpa using xl
              have d2 : decide ((x : Int) < 48) = false := by simp; omega
              have d3 : decide (57 < x) = true := by simpa using xm
              have d4 : decide (57 < (x : Int)) = true := by simp; omega
              clear dash xn xl xm
              go_wp2_with fail
              go_ret2
              exact ParsePost.mk r.out BX.out
      · have hke : k = 10 := by omega
        subst hke
        have hnx : ∀ ty, (Instr.next (.pointer (some ⟨w.heap.size + 1, 0, none⟩)) true ty).run Tryd.prog wo = _ := fun ty => Lib.run_next_end_at wo (w.heap.size + 1) S 10 ty HI.out (by rw [hz]; decide)
        have c0 := HT.out.c0
        have c1 := HT.out.c1
        have c2 := HT.out.c2
        obtain ⟨t1, t2, t3⟩ := HSF.out.end_ hN.out
        by_cases g : 1 ≤ d ∧ d ≤ Cal.len y m
        · have r := Lib.hid (t1 (t3 g))
          have D := fun w => day_yes y m d w (t3 g)
          obtain ⟨n, hn⟩ : ∃ n, Hid (Cal.dayN y m d = n) := ⟨_, rfl⟩
          rw [hn.out] at r D
          clear hk hkl g t1 t2 t3 HSF
          go_wp2_with (go_at_call 15; (with_reducible refine (D _).mono ?_); rintro e w2 ⟨rfl, b2⟩; have B2 := Lib.hid b2; clear b2)
          go_ret2
          exact ParsePost.mk r.out (BB.out.trans (B2.out.mono BB.out.size))
        · have r := Lib.hid (t2 g)
          have D := fun w => day_no y m d w g
          clear hk hkl g t1 t2 t3 HSF
          go_wp2_with (go_at_call 15; (with_reducible refine (D _).mono ?_); rintro e w2 ⟨rfl, b2⟩; have B2 := Lib.hid b2; clear b2)
          go_ret2
          exact ParsePost.mk r.out (BB.out.trans (B2.out.mono BB.out.size))
  · have r := Lib.hid (parse_len (l := l) (by rw [hN.out]; exact h10))
    obtain ⟨S, hS⟩ : ∃ S, Hid (bs l = S) := ⟨_, rfl⟩
    rw [hS.out] at hz ⊢
    have d1 : decide (N = 10) = false := by simpa using h10
    have d2 : ((N : Int) == 10) = false := by simp; omega
    have d3 : ((N : Int) != 10) = true := by simp; omega
    clear h10 hS
    go_enter Tryd.func7, Tryd.ntmps7
    go_wp2_with fail
    go_ret2
    exact ParsePost.mk r.out (Below.refl _ _)
end Go.Proofs.YthbgkokepnifdaaDoor.Dt
