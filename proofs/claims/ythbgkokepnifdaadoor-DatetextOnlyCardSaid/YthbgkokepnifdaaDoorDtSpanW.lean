/-
  datetext: ParseSpan, the document's too, walked.
-/
import Derived.Test.YthbgkokepnifdaaDoorDtSpanP
import Derived.Laws.ResultCell
import Derived.Laws.Rows
namespace Go.Proofs.YthbgkokepnifdaaDoor.Dt
open Go Go.RowKit
set_option linter.unusedSimpArgs false
set_option linter.unusedVariables false
attribute [local go_sem ↓] Go.wp_at_zero Go.wp_at_succ

theorem parse_codes (l : List UInt8) : ((parseS l).2 = 0 ∧ 1 ≤ (parseS l).1 ∧ (parseS l).1 ≤ 3652059) ∨ parseS l = (0, 4) ∨ parseS l = (0, 15) := by
  by_cases h0 : (parseS l).2 = 0
  · have h : parseS l = ((parseS l).1, 0) := by rw [← h0]
    obtain ⟨y, m, d, e, _⟩ := text_of h
    have := Cal.isDate_bd _ _ _ _ e
    exact .inl ⟨h0, this.1, this.2⟩
  · refine .inr ?_
    unfold parseS at h0 ⊢
    split
    · rename_i c
      rw [if_pos c] at h0
      split
      · rename_i c2
        rw [if_pos c2] at h0
        exact absurd rfl h0
      · exact .inr rfl
    · exact .inl rfl
theorem bs_list (l : List UInt8) : (bs l).data.toList = l := by unfold bs; simp
theorem bs_toList (l : List UInt8) : (bs l).toList = l := by unfold bs; simp
theorem cut_is {w : World} (l : List UInt8) (hl : l.length < 4294967281) (he : Env w) : Calls Tryd.prog 18 #[.string (bs l), .string ⟨#[46, 46]⟩] w fun e w' => e = .returned (.tuple #[.string (bs (cut2 l).1), .string (bs (cut2 l).2.1), .bool (cut2 l).2.2]) ∧ Below w.heap.size w w' := by
  obtain ⟨m, hm⟩ := he.mx
  refine (Tryd.strings_Cut (bs l) ⟨#[46, 46]⟩ m w (by rw [bs_size]; exact hl) hm).mono ?_
  rintro e w' ⟨rfl, n, rfl⟩
  refine ⟨?_, drewN_below _ _⟩
  rw [bs_list]
  rfl
def SpPost (r : (Int × Int) × Int) (w : World) (e : Ending) (w' : World) : Prop := e = .returned (.tuple #[.agg #[.int .i64 r.1.1, .int .i64 r.1.2], .int .i64 r.2]) ∧ Below w.heap.size w w'
theorem SpPost.mk {r : (Int × Int) × Int} {a b e : Int} {w w' : World} (h : r = ((a, b), e)) (hb : Below w.heap.size w w') : SpPost r w (.returned (.tuple #[.agg #[.int .i64 a, .int .i64 b], .int .i64 e])) w' := by
  subst h; exact ⟨rfl, hb⟩
/-- a span in memory -/
def Two (w : World) (b : Nat) (x y : Int) : Prop := w.heap[b]? = some (.cells #[.int .i64 x, .int .i64 y] 27 (0, 0))
section
variable {w : World} {b : Nat} {x y : Int}
theorem Two.lt (h : Two w b x y) : b < w.heap.size := (Array.getElem?_eq_some_iff.1 h).1
theorem Two.c0 (h : Two w b x y) : w.cell? ⟨b, 0, none⟩ = some (.int .i64 x) := by rw [cell_of_row w _ _ _ _ (0, 0) h]; rfl
theorem Two.c1 (h : Two w b x y) : w.cell? ⟨b, 1, none⟩ = some (.int .i64 y) := by rw [cell_of_row w _ _ _ _ (0, 0) h]; rfl
theorem Two.f (h : Two w b x y) (i : Nat) : w.frozen? ⟨b, i, none⟩ = false := frozen_of_row w _ _ _ _ h
theorem Two.below {w' : World} (h : Two w b x y) (k : Below w.heap.size w w') : Two w' b x y := (k.block b h.lt).trans h
theorem Two.set (h : Two w b x y) (x' y' : Int) : Two ((w.setCell ⟨b, 0, none⟩ (.int .i64 x')).setCell ⟨b, 1, none⟩ (.int .i64 y')) b x' y' := by
  have h1 : Two (w.setCell ⟨b, 0, none⟩ (.int .i64 x')) b x' y := by show _ = _; rw [heap_setCell_same w b 0 _ _ _ h]; rfl
  show _ = _
  rw [heap_setCell_same _ b 1 _ _ _ h1]; rfl
theorem results_cell2 {P : Program} {fn : Func} {p u : Tmp} {ty : TypeId} (h : fn.results = #[.cell p ty, .tmp u]) (tmps : Array Value) (w : World) (g : Nat) (t : TypeId) (cs : Array Value) (fr : Nat × Nat) (d : TypeDesc)
    (hp : tmps.getD p undef = .pointer (some ⟨g, 0, none⟩)) (hg : w.heap[g]? = some (.cells cs t fr))
    (hu : P.underlying ty = some d) (hd : (match d with | .struct _ | .array _ _ => true | _ => false) = true) (hi : (P.info? ty).map (·.size) = some cs.size) :
    (results fn tmps).run P w = .ok (.tuple #[.agg cs, tmps.getD u undef]) w := by
  rw [results_cell_tmp h, hp]
  simp [asAddr, run_loadVar_row w g t ty cs fr d hg hu hd hi, Result.andThen]
theorem Two.new (w : World) (x y : Int) : Two (w.alloc (.cells #[.int .i64 x, .int .i64 y] 27)) w.heap.size x y := by
  show (w.heap.push _)[w.heap.size]? = _
  rw [Array.getElem?_push_size]
end
theorem codes_at {l : List UInt8} {f e : Int} (h : parseS l = (f, e)) : (e = 0 ∧ 1 ≤ f ∧ f ≤ 3652059) ∨ (f = 0 ∧ e = 4) ∨ (f = 0 ∧ e = 15) := by
  rcases parse_codes l with k | k | k
  · rw [h] at k; exact .inl k
  · rw [h] at k; cases k; exact .inr (.inl ⟨rfl, rfl⟩)
  · rw [h] at k; cases k; exact .inr (.inr ⟨rfl, rfl⟩)
theorem parse_at_ {l : List UInt8} {f e : Int} (h : parseS l = (f, e)) (hl : l.length < 9223372036854775807) (w : World) : Calls Tryd.prog 7 #[.string (bs l)] w fun e' w' => e' = .returned (.tuple #[.int .i64 f, .int .i64 e]) ∧ Below w.heap.size w w' := by
  have := parse_is (w := w) l hl
  unfold ParsePost at this
  rw [h] at this
  exact this
theorem rparse_at_ {l : List UInt8} {f e : Int} (h : parseS l = (f, e)) (hl : l.length < 9223372036854775807) (w : World) : Calls Tryd.prog 8 #[.string (bs l)] w fun e' w' => e' = .returned (.tuple #[.int .i64 f, .int .i64 e]) ∧ Below w.heap.size w w' := by
  have := rparse_is (w := w) l hl
  unfold ParsePost at this
  rw [h] at this
  exact this
theorem cut2_len (l : List UInt8) : (cut2 l).1.length ≤ l.length ∧ (cut2 l).2.1.length ≤ l.length := by
  rcases cut2_cases l with e | ⟨i, e, _⟩
  · rw [e]; exact ⟨Nat.le_refl _, Nat.zero_le _⟩
  · rw [e]; dsimp only; rw [List.length_take, List.length_drop]; omega
set_option maxRecDepth 100000 in
set_option maxHeartbeats 4000000 in
theorem pspan_is {w : World} (l : List UInt8) (hl : l.length < 4294967281) (he : Env w) : Calls Tryd.prog 9 #[.string (bs l)] w (SpPost (parseSp l) w) := by
  have C := cut_is (w := w.alloc (.cells #[.int .i64 0, .int .i64 0] 27)) l hl (he.below (ba _ _))
  obtain ⟨q1, q2⟩ := cut2_len l
  unfold parseSp
  obtain ⟨p, q, ok, hc⟩ : ∃ p q ok, cut2 l = (p, q, ok) := ⟨_, _, _, rfl⟩
  rw [hc] at C q1 q2 ⊢
  dsimp only at C q1 q2 ⊢
  obtain ⟨f, e, h1⟩ : ∃ f e, parseS p = (f, e) := ⟨_, _, rfl⟩
  obtain ⟨z, g, h2⟩ : ∃ z g, parseS q = (z, g) := ⟨_, _, rfl⟩
  have A1 := fun w => parse_at_ h1 (by omega) w
  have A2 := fun w => parse_at_ h2 (by omega) w
  have H1 := codes_at h1
  have H2 := codes_at h2
  rw [h1, h2]
  have B0 := Lib.hid (ba w (.cells #[.int .i64 0, .int .i64 0] 27))
  have T0 := Lib.hid (Two.new w 0 0)
  obtain ⟨S, hS⟩ : ∃ S, Hid (bs l = S) := ⟨_, rfl⟩
  rw [hS.out] at C ⊢
  obtain ⟨P, hP⟩ : ∃ S, Hid (bs p = S) := ⟨_, rfl⟩
  rw [hP.out] at C A1
  obtain ⟨Q, hQ⟩ : ∃ S, Hid (bs q = S) := ⟨_, rfl⟩
  rw [hQ.out] at C A2
  clear h1 h2 hc q1 q2 hl he hS hP hQ
  go_enter Tryd.func9, Tryd.ntmps9
  go_upto_region 4 with (first | (go_at_call 18; (with_reducible refine C.mono ?_); rintro e1 w1 ⟨rfl, b1⟩; have B1 := Lib.hid (bt B0.out b1); have T1 := Lib.hid (T0.out.below b1); clear b1 C) | (go_at_call 7; (with_reducible refine (A1 _).mono ?_); rintro e2 w2 ⟨rfl, b2⟩; have B2 := Lib.hid (bt B1.out b2); have T2 := Lib.hid (T1.out.below b2); clear b2 A1) | (go_at_call 7; (with_reducible refine (A2 _).mono ?_); rintro e3 w3 ⟨rfl, b3⟩; have B3 := Lib.hid (bt B2.out b3); have T3 := Lib.hid (T2.out.below b3); clear b3 A2))
  have c0 := T3.out.c0
  have c1 := T3.out.c1
  have f0 := T3.out.f 0
  have f1 := T3.out.f 1
  cases ok
  · have r := Lib.hid (spanRes_no (f, e) (z, g))
    clear H1 H2
    go_wp2_with fail
    refine bodyPost_ret (v := .tuple #[.agg #[.int .i64 _, .int .i64 _], .int .i64 _]) (results_cell2 (fn := Tryd.f9) (p := 2) (u := 3) rfl _ _ w.heap.size _ _ (0, 0) _ rfl (T3.out.set _ _) Tryd.underlying27 rfl (by kernel_rfl)) rfl ?_
    exact SpPost.mk r.out (Below.setCell (Below.setCell B3.out (p := ⟨w.heap.size, 0, none⟩) (Nat.le_refl _) _) (p := ⟨w.heap.size, 1, none⟩) (Nat.le_refl _) _)
  · skip
    rcases H1 with ⟨rfl, f1, f2⟩ | ⟨rfl, rfl⟩ | ⟨rfl, rfl⟩
    · rcases H2 with ⟨rfl, z1, z2⟩ | ⟨rfl, rfl⟩ | ⟨rfl, rfl⟩
      · by_cases q : z < f
        · have d1 : decide (z < f) = true := by simpa using q
          have r := Lib.hid (show spanRes true (f, 0) (z, 0) = ((0, 0), 15) from by unfold spanRes; rw [if_neg (by simp), if_pos (.inr (.inr q))])
          clear q f1 f2 z1 z2
          go_wp2_with fail
          refine bodyPost_ret (v := .tuple #[.agg #[.int .i64 _, .int .i64 _], .int .i64 _]) (results_cell2 (fn := Tryd.f9) (p := 2) (u := 3) rfl _ _ w.heap.size _ _ (0, 0) _ rfl (T3.out.set _ _) Tryd.underlying27 rfl (by kernel_rfl)) rfl ?_
          exact SpPost.mk r.out (Below.setCell (Below.setCell B3.out (p := ⟨w.heap.size, 0, none⟩) (Nat.le_refl _) _) (p := ⟨w.heap.size, 1, none⟩) (Nat.le_refl _) _)
        · have d1 : decide (z < f) = false := by simpa using q
          have r := Lib.hid (show spanRes true (f, 0) (z, 0) = ((f, z + 1), 0) from by unfold spanRes; rw [if_neg (by simp), if_neg (by simpa using q)])
          have kw : IntKind.i64.wrap (z + 1) = z + 1 := by rw [IntWalk.i64_left]; exact IntWalk.wrap64_in _ (by omega)
          clear q f1 f2 z1 z2
          go_wp2_with fail
          refine bodyPost_ret (v := .tuple #[.agg #[.int .i64 _, .int .i64 _], .int .i64 _]) (results_cell2 (fn := Tryd.f9) (p := 2) (u := 3) rfl _ _ w.heap.size _ _ (0, 0) _ rfl (T3.out.set _ _) Tryd.underlying27 rfl (by kernel_rfl)) rfl ?_
          exact SpPost.mk r.out (Below.setCell (Below.setCell B3.out (p := ⟨w.heap.size, 0, none⟩) (Nat.le_refl _) _) (p := ⟨w.heap.size, 1, none⟩) (Nat.le_refl _) _)
      · have r := Lib.hid (show spanRes true (f, 0) (0, 4) = ((0, 0), 4) from spanRes_y rfl _ _)
        go_wp2_with fail
        refine bodyPost_ret (v := .tuple #[.agg #[.int .i64 _, .int .i64 _], .int .i64 _]) (results_cell2 (fn := Tryd.f9) (p := 2) (u := 3) rfl _ _ w.heap.size _ _ (0, 0) _ rfl (T3.out.set _ _) Tryd.underlying27 rfl (by kernel_rfl)) rfl ?_
        exact SpPost.mk r.out (Below.setCell (Below.setCell B3.out (p := ⟨w.heap.size, 0, none⟩) (Nat.le_refl _) _) (p := ⟨w.heap.size, 1, none⟩) (Nat.le_refl _) _)
      · have r := Lib.hid (show spanRes true (f, 0) (0, 15) = ((0, 0), 15) from by unfold spanRes; rw [if_neg (by simp), if_pos (by simp)])
        go_wp2_with fail
        refine bodyPost_ret (v := .tuple #[.agg #[.int .i64 _, .int .i64 _], .int .i64 _]) (results_cell2 (fn := Tryd.f9) (p := 2) (u := 3) rfl _ _ w.heap.size _ _ (0, 0) _ rfl (T3.out.set _ _) Tryd.underlying27 rfl (by kernel_rfl)) rfl ?_
        exact SpPost.mk r.out (Below.setCell (Below.setCell B3.out (p := ⟨w.heap.size, 0, none⟩) (Nat.le_refl _) _) (p := ⟨w.heap.size, 1, none⟩) (Nat.le_refl _) _)
    · have r := Lib.hid (show spanRes true (0, 4) (z, g) = ((0, 0), 4) from spanRes_x rfl _ _)
      clear H2
      go_wp2_with fail
      refine bodyPost_ret (v := .tuple #[.agg #[.int .i64 _, .int .i64 _], .int .i64 _]) (results_cell2 (fn := Tryd.f9) (p := 2) (u := 3) rfl _ _ w.heap.size _ _ (0, 0) _ rfl (T3.out.set _ _) Tryd.underlying27 rfl (by kernel_rfl)) rfl ?_
      exact SpPost.mk r.out (Below.setCell (Below.setCell B3.out (p := ⟨w.heap.size, 0, none⟩) (Nat.le_refl _) _) (p := ⟨w.heap.size, 1, none⟩) (Nat.le_refl _) _)
    · rcases H2 with ⟨rfl, z1, z2⟩ | ⟨rfl, rfl⟩ | ⟨rfl, rfl⟩
      · have r := Lib.hid (show spanRes true (0, 15) (z, 0) = ((0, 0), 15) from by unfold spanRes; rw [if_neg (by simp), if_pos (by simp)])
        clear z1 z2
        go_wp2_with fail
        refine bodyPost_ret (v := .tuple #[.agg #[.int .i64 _, .int .i64 _], .int .i64 _]) (results_cell2 (fn := Tryd.f9) (p := 2) (u := 3) rfl _ _ w.heap.size _ _ (0, 0) _ rfl (T3.out.set _ _) Tryd.underlying27 rfl (by kernel_rfl)) rfl ?_
        exact SpPost.mk r.out (Below.setCell (Below.setCell B3.out (p := ⟨w.heap.size, 0, none⟩) (Nat.le_refl _) _) (p := ⟨w.heap.size, 1, none⟩) (Nat.le_refl _) _)
      · have r := Lib.hid (show spanRes true (0, 15) (0, 4) = ((0, 0), 4) from spanRes_y rfl _ _)
        go_wp2_with fail
        refine bodyPost_ret (v := .tuple #[.agg #[.int .i64 _, .int .i64 _], .int .i64 _]) (results_cell2 (fn := Tryd.f9) (p := 2) (u := 3) rfl _ _ w.heap.size _ _ (0, 0) _ rfl (T3.out.set _ _) Tryd.underlying27 rfl (by kernel_rfl)) rfl ?_
        exact SpPost.mk r.out (Below.setCell (Below.setCell B3.out (p := ⟨w.heap.size, 0, none⟩) (Nat.le_refl _) _) (p := ⟨w.heap.size, 1, none⟩) (Nat.le_refl _) _)
      · have r := Lib.hid (show spanRes true (0, 15) (0, 15) = ((0, 0), 15) from by unfold spanRes; rw [if_neg (by simp), if_pos (by simp)])
        go_wp2_with fail
        refine bodyPost_ret (v := .tuple #[.agg #[.int .i64 _, .int .i64 _], .int .i64 _]) (results_cell2 (fn := Tryd.f9) (p := 2) (u := 3) rfl _ _ w.heap.size _ _ (0, 0) _ rfl (T3.out.set _ _) Tryd.underlying27 rfl (by kernel_rfl)) rfl ?_
        exact SpPost.mk r.out (Below.setCell (Below.setCell B3.out (p := ⟨w.heap.size, 0, none⟩) (Nat.le_refl _) _) (p := ⟨w.heap.size, 1, none⟩) (Nat.le_refl _) _)
set_option maxRecDepth 100000 in
set_option maxHeartbeats 4000000 in
theorem rpspan_is {w : World} (l : List UInt8) (hl : l.length < 4294967281) : Calls Tryd.prog 10 #[.string (bs l)] w (SpPost (refSp l) w) := by
  have hz : (bs l).size = l.length := bs_size l
  obtain ⟨N, hN⟩ : ∃ N, Hid (l.length = N) := ⟨_, rfl⟩
  rw [hN.out] at hz hl
  have B0 := Lib.hid (ba w (.cells #[.int .i64 0, .int .i64 0] 27))
  have T0 := Lib.hid (Two.new w 0 0)
  have c0 := T0.out.c0
  have c1 := T0.out.c1
  have f0 := T0.out.f 0
  have f1 := T0.out.f 1
  by_cases h22 : N = 22
  · obtain rfl := h22
    have x1 : ∀ w, (Instr.slice 9 (.string (bs l)) (some (.int .i64 10)) (some (.int .i64 12)) none).run Tryd.prog w = .ok (.string (bs ((l.drop 10).take 2))) w := fun w => by
      rw [run_slice_string (P := Tryd.prog) w 9 (bs l) .i64 .i64 10 12 Tryd.underlying9 (by decide) (by decide) (by rw [hz]; decide)]
      rw [slice_lo]; rfl
    by_cases hc : (l.drop 10).take 2 = [46, 46]
    · have x2 : (bs l).extract 0 10 = bs (l.take 10) := slice_lo l 0 10
      have x3 : (bs l).extract 12 22 = bs (l.drop 12) := by rw [slice_lo, List.take_of_length_le (by rw [List.length_drop, hN.out]; decide)]
      have er : refSp l = spanRes true (parseS (l.take 10)) (parseS (l.drop 12)) := by unfold refSp; rw [if_pos ⟨hN.out, hc⟩]
      rw [er]
      rw [hc] at x1
      obtain ⟨f, e, h1⟩ : ∃ f e, parseS (l.take 10) = (f, e) := ⟨_, _, rfl⟩
      obtain ⟨z, g, h2⟩ : ∃ z g, parseS (l.drop 12) = (z, g) := ⟨_, _, rfl⟩
      have A1 := fun w => rparse_at_ h1 (by rw [List.length_take]; omega) w
      have A2 := fun w => rparse_at_ h2 (by rw [List.length_drop, hN.out]; decide) w
      have H1 := codes_at h1
      have H2 := codes_at h2
      rw [h1, h2]
      obtain ⟨S, hS⟩ : ∃ S, Hid (bs l = S) := ⟨_, rfl⟩
      rw [hS.out] at x1 x2 x3 hz ⊢
      obtain ⟨P, hP⟩ : ∃ S, Hid (bs (l.take 10) = S) := ⟨_, rfl⟩
      rw [hP.out] at x2 A1
      obtain ⟨Q, hQ⟩ : ∃ S, Hid (bs (l.drop 12) = S) := ⟨_, rfl⟩
      rw [hQ.out] at x3 A2
      obtain ⟨D, hD⟩ : ∃ S, Hid (bs [46, 46] = S) := ⟨_, rfl⟩
      rw [hD.out] at x1
      have ec : (D.toList == [46, 46]) = true := by rw [← hD.out, bs_toList]; rfl
      clear h1 h2 hc er hl hS hP hQ hD
      go_enter Tryd.func10, Tryd.ntmps10
      go_upto_region 5 with (first | (go_at_call 8; (with_reducible refine (A1 _).mono ?_); rintro e2 w2 ⟨rfl, b2⟩; have B2 := Lib.hid (bt B0.out b2); have T2 := Lib.hid (T0.out.below b2); clear b2 A1) | (go_at_call 8; (with_reducible refine (A2 _).mono ?_); rintro e3 w3 ⟨rfl, b3⟩; have B3 := Lib.hid (bt B2.out b3); have T3 := Lib.hid (T2.out.below b3); clear b3 A2))
      clear x1 x2 x3 ec c0 c1 f0 f1
      have c0 := T3.out.c0
      have c1 := T3.out.c1
      have f0 := T3.out.f 0
      have f1 := T3.out.f 1
      rcases H1 with ⟨rfl, f1, f2⟩ | ⟨rfl, rfl⟩ | ⟨rfl, rfl⟩
      · rcases H2 with ⟨rfl, z1, z2⟩ | ⟨rfl, rfl⟩ | ⟨rfl, rfl⟩
        · by_cases q : z < f
          · have d1 : decide (z < f) = true := by simpa using q
            have r := Lib.hid (show spanRes true (f, 0) (z, 0) = ((0, 0), 15) from by unfold spanRes; rw [if_neg (by simp), if_pos (.inr (.inr q))])
            clear q f1 f2 z1 z2
            go_wp2_with fail
            refine bodyPost_ret (v := .tuple #[.agg #[.int .i64 _, .int .i64 _], .int .i64 _]) (results_cell2 (fn := Tryd.f10) (p := 2) (u := 3) rfl _ _ w.heap.size _ _ (0, 0) _ rfl (T3.out.set _ _) Tryd.underlying27 rfl (by kernel_rfl)) rfl ?_
            exact SpPost.mk r.out (Below.setCell (Below.setCell B3.out (p := ⟨w.heap.size, 0, none⟩) (Nat.le_refl _) _) (p := ⟨w.heap.size, 1, none⟩) (Nat.le_refl _) _)
          · have d1 : decide (z < f) = false := by simpa using q
            have r := Lib.hid (show spanRes true (f, 0) (z, 0) = ((f, z + 1), 0) from by unfold spanRes; rw [if_neg (by simp), if_neg (by simpa using q)])
            have kw : IntKind.i64.wrap (z + 1) = z + 1 := by rw [IntWalk.i64_left]; exact IntWalk.wrap64_in _ (by omega)
            clear q f1 f2 z1 z2
            go_wp2_with fail
            refine bodyPost_ret (v := .tuple #[.agg #[.int .i64 _, .int .i64 _], .int .i64 _]) (results_cell2 (fn := Tryd.f10) (p := 2) (u := 3) rfl _ _ w.heap.size _ _ (0, 0) _ rfl (T3.out.set _ _) Tryd.underlying27 rfl (by kernel_rfl)) rfl ?_
            exact SpPost.mk r.out (Below.setCell (Below.setCell B3.out (p := ⟨w.heap.size, 0, none⟩) (Nat.le_refl _) _) (p := ⟨w.heap.size, 1, none⟩) (Nat.le_refl _) _)
        · have r := Lib.hid (show spanRes true (f, 0) (0, 4) = ((0, 0), 4) from spanRes_y rfl _ _)
          go_wp2_with fail
          refine bodyPost_ret (v := .tuple #[.agg #[.int .i64 _, .int .i64 _], .int .i64 _]) (results_cell2 (fn := Tryd.f10) (p := 2) (u := 3) rfl _ _ w.heap.size _ _ (0, 0) _ rfl (T3.out.set _ _) Tryd.underlying27 rfl (by kernel_rfl)) rfl ?_
          exact SpPost.mk r.out (Below.setCell (Below.setCell B3.out (p := ⟨w.heap.size, 0, none⟩) (Nat.le_refl _) _) (p := ⟨w.heap.size, 1, none⟩) (Nat.le_refl _) _)
        · have r := Lib.hid (show spanRes true (f, 0) (0, 15) = ((0, 0), 15) from by unfold spanRes; rw [if_neg (by simp), if_pos (by simp)])
          go_wp2_with fail
          refine bodyPost_ret (v := .tuple #[.agg #[.int .i64 _, .int .i64 _], .int .i64 _]) (results_cell2 (fn := Tryd.f10) (p := 2) (u := 3) rfl _ _ w.heap.size _ _ (0, 0) _ rfl (T3.out.set _ _) Tryd.underlying27 rfl (by kernel_rfl)) rfl ?_
          exact SpPost.mk r.out (Below.setCell (Below.setCell B3.out (p := ⟨w.heap.size, 0, none⟩) (Nat.le_refl _) _) (p := ⟨w.heap.size, 1, none⟩) (Nat.le_refl _) _)
      · have r := Lib.hid (show spanRes true (0, 4) (z, g) = ((0, 0), 4) from spanRes_x rfl _ _)
        clear H2
        go_wp2_with fail
        refine bodyPost_ret (v := .tuple #[.agg #[.int .i64 _, .int .i64 _], .int .i64 _]) (results_cell2 (fn := Tryd.f10) (p := 2) (u := 3) rfl _ _ w.heap.size _ _ (0, 0) _ rfl (T3.out.set _ _) Tryd.underlying27 rfl (by kernel_rfl)) rfl ?_
        exact SpPost.mk r.out (Below.setCell (Below.setCell B3.out (p := ⟨w.heap.size, 0, none⟩) (Nat.le_refl _) _) (p := ⟨w.heap.size, 1, none⟩) (Nat.le_refl _) _)
      · rcases H2 with ⟨rfl, z1, z2⟩ | ⟨rfl, rfl⟩ | ⟨rfl, rfl⟩
        · have r := Lib.hid (show spanRes true (0, 15) (z, 0) = ((0, 0), 15) from by unfold spanRes; rw [if_neg (by simp), if_pos (by simp)])
          clear z1 z2
          go_wp2_with fail
          refine bodyPost_ret (v := .tuple #[.agg #[.int .i64 _, .int .i64 _], .int .i64 _]) (results_cell2 (fn := Tryd.f10) (p := 2) (u := 3) rfl _ _ w.heap.size _ _ (0, 0) _ rfl (T3.out.set _ _) Tryd.underlying27 rfl (by kernel_rfl)) rfl ?_
          exact SpPost.mk r.out (Below.setCell (Below.setCell B3.out (p := ⟨w.heap.size, 0, none⟩) (Nat.le_refl _) _) (p := ⟨w.heap.size, 1, none⟩) (Nat.le_refl _) _)
        · have r := Lib.hid (show spanRes true (0, 15) (0, 4) = ((0, 0), 4) from spanRes_y rfl _ _)
          go_wp2_with fail
          refine bodyPost_ret (v := .tuple #[.agg #[.int .i64 _, .int .i64 _], .int .i64 _]) (results_cell2 (fn := Tryd.f10) (p := 2) (u := 3) rfl _ _ w.heap.size _ _ (0, 0) _ rfl (T3.out.set _ _) Tryd.underlying27 rfl (by kernel_rfl)) rfl ?_
          exact SpPost.mk r.out (Below.setCell (Below.setCell B3.out (p := ⟨w.heap.size, 0, none⟩) (Nat.le_refl _) _) (p := ⟨w.heap.size, 1, none⟩) (Nat.le_refl _) _)
        · have r := Lib.hid (show spanRes true (0, 15) (0, 15) = ((0, 0), 15) from by unfold spanRes; rw [if_neg (by simp), if_pos (by simp)])
          go_wp2_with fail
          refine bodyPost_ret (v := .tuple #[.agg #[.int .i64 _, .int .i64 _], .int .i64 _]) (results_cell2 (fn := Tryd.f10) (p := 2) (u := 3) rfl _ _ w.heap.size _ _ (0, 0) _ rfl (T3.out.set _ _) Tryd.underlying27 rfl (by kernel_rfl)) rfl ?_
          exact SpPost.mk r.out (Below.setCell (Below.setCell B3.out (p := ⟨w.heap.size, 0, none⟩) (Nat.le_refl _) _) (p := ⟨w.heap.size, 1, none⟩) (Nat.le_refl _) _)
    · have r := Lib.hid (show refSp l = ((0, 0), 4) from by unfold refSp; rw [if_neg (fun h => hc h.2)])
      obtain ⟨S, hS⟩ : ∃ S, Hid (bs l = S) := ⟨_, rfl⟩
      rw [hS.out] at x1 hz ⊢
      obtain ⟨D, hD⟩ : ∃ S, Hid (bs ((l.drop 10).take 2) = S) := ⟨_, rfl⟩
      rw [hD.out] at x1
      have ec : (D.toList == [46, 46]) = false := by
        rw [← hD.out, bs_toList, beq_eq_false_iff_ne]
        exact hc
      clear hc hl hS hD
      go_enter Tryd.func10, Tryd.ntmps10
      go_wp2_with fail
      refine bodyPost_ret (v := .tuple #[.agg #[.int .i64 _, .int .i64 _], .int .i64 _]) (results_cell2 (fn := Tryd.f10) (p := 2) (u := 3) rfl _ _ w.heap.size _ _ (0, 0) _ rfl T0.out Tryd.underlying27 rfl (by kernel_rfl)) rfl ?_
      exact SpPost.mk r.out B0.out
  · have r := Lib.hid (show refSp l = ((0, 0), 4) from by unfold refSp; rw [if_neg (fun h => h22 (hN.out.symm.trans h.1))])
    obtain ⟨S, hS⟩ : ∃ S, Hid (bs l = S) := ⟨_, rfl⟩
    rw [hS.out] at hz ⊢
    have d1 : decide (N = 22) = false := by simpa using h22
    have d2 : ((N : Int) == 22) = false := by simp; omega
    have d3 : ((N : Int) != 22) = true := by simp; omega
    clear h22 hS hl
    go_enter Tryd.func10, Tryd.ntmps10
    go_wp2_with fail
    refine bodyPost_ret (v := .tuple #[.agg #[.int .i64 _, .int .i64 _], .int .i64 _]) (results_cell2 (fn := Tryd.f10) (p := 2) (u := 3) rfl _ _ w.heap.size _ _ (0, 0) _ rfl T0.out Tryd.underlying27 rfl (by kernel_rfl)) rfl ?_
    exact SpPost.mk r.out B0.out
end Go.Proofs.YthbgkokepnifdaaDoor.Dt
