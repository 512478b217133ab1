/-
  timeline: none, may, New, drop, walked.
-/
import Derived.Test.YtmgljgmfipodeaaM34
import Derived.Deep.RegionLaw
import Derived.BigQuiet
/-
  timeline: none, may, New, drop, walked.
-/
namespace Go.Proofs.Ytmgljgmfipodeaa.Tl
open Go Go.RowKit Av
set_option linter.unusedSimpArgs false
set_option linter.unusedVariables false
attribute [local go_sem ↓] Go.wp_at_zero Go.wp_at_succ

theorem none_is {w : World} {b tb : Nat} {vv fv : Value} (h : Box w b tb vv fv) : Calls Try.prog 14 #[.pointer (some ⟨b, 0, none⟩)] w fun e w' => e = .returned (.bool false) ∧ w' = w := by
  have c0 := h.c0
  clear h
  go_enter Try.func14, Try.ntmps14
  go_wp2
  go_ret
  exact ⟨rfl, rfl⟩
/-- a span that may be -/
def mayS (a z : Int) : Bool := decide (1 ≤ a ∧ a < z ∧ z ≤ 3652060)
theorem may_is (a z : Int) (w : World) : Calls Try.prog 15 #[.agg #[.int .i64 a, .int .i64 z]] w fun e w' => e = .returned (.bool (mayS a z)) ∧ Below w.heap.size w w' := by
  unfold mayS
  have B0 := ba w (.cells #[.int .i64 a, .int .i64 z] 24)
  obtain ⟨R, hR⟩ : ∃ R, Hid (decide (1 ≤ a ∧ a < z ∧ z ≤ 3652060) = R) := ⟨_, rfl⟩
  rw [hR.out]
  replace B0 := Lib.hid B0
  by_cases h1 : 1 ≤ a
  · by_cases h2 : a < z
    · by_cases h3 : z ≤ 3652060
      · have HR : Hid (R = true) := by show _ = _; rw [← hR.out]; simp; omega
        go_enter Try.func15, Try.ntmps15
        go_wp2
        go_ret
        exact ⟨by rw [HR.out]; rfl, B0.out⟩
      · have HR : Hid (R = false) := by show _ = _; rw [← hR.out]; simp; omega
        have d3 : decide (z ≤ 3652060) = false := by simpa using h3
        go_enter Try.func15, Try.ntmps15
        go_wp2
        go_ret
        exact ⟨by rw [HR.out]; rfl, B0.out⟩
    · have HR : Hid (R = false) := by show _ = _; rw [← hR.out]; simp; omega
      have d2 : decide (a < z) = false := by simpa using h2
      go_enter Try.func15, Try.ntmps15
      go_wp2
      go_ret
      exact ⟨by rw [HR.out]; rfl, B0.out⟩
  · have HR : Hid (R = false) := by show _ = _; rw [← hR.out]; simp; omega
    have d1 : decide (1 ≤ a) = false := by simpa using h1
    go_enter Try.func15, Try.ntmps15
    go_wp2
    go_ret
    exact ⟨by rw [HR.out]; rfl, B0.out⟩
/-- a timeline that New has made -/
theorem newL_is {w : World} : Calls Try.prog 6 #[] w fun e w' => ∃ b T, e = .returned (.pointer (some ⟨b, 0, none⟩)) ∧ LineIs w' w.heap.size b T [] [] [] ∧ Below w.heap.size w w' := by
  go_enter Try.func6, Try.ntmps6
  go_upto_region 2 with (go_at_call 13; (with_reducible refine (new_is (w := w) (B := w.heap.size) (by omega) (by omega) (Nat.le_refl _)).mono ?_); rintro e w1 ⟨rfl, t1, b1⟩; have T1 := Lib.hid t1; have B1 := Lib.hid b1; clear t1 b1)
  have LT : Hid (w.heap.size < w1.heap.size) := T1.out.lt _ rfl
  go_wp2_with fail
  go_ret
  refine ⟨w1.heap.size, _, rfl, ⟨w.heap.size, _, .slice none 0 0, .slice none 0 0, ⟨heap_alloc_new w1 _, T1.out.but (Below.but (ba w1 _) (fun _ => False)) (fun _ _ z => z), Elem.Row.nil _ _, Elem.Row.nil _ _, by have := LT.out; omega, ?_, ?_, by simp [Value.ownBlock], by simp [Value.ownBlock], by simp [Value.ownBlock], by simp [Value.ownBlock], by simp [Value.ownBlock]⟩, rfl⟩, bt B1.out (ba _ _)⟩
  · intro e; have : w1.heap.size = w.heap.size := e; have := LT.out; omega
  · intro k hk; have : k = w.heap.size := hk; omega
set_option maxRecDepth 100000 in
set_option maxHeartbeats 2000000 in
/-- a segment is dropped -/
theorem drop_is {w : World} {B b : Nat} {T : Nat → Prop} {L : List It} {vals free : List Int} {x : It} (h : LineIs w B b T L vals free) (h0 : 0 ≤ x.i) (h1 : x.i < vals.length) (hf : free.length < 1000000) :
    Calls Try.prog 17 #[.pointer (some ⟨b, 0, none⟩), .agg #[.int .i64 x.f, .int .i64 x.t, .int .i64 x.i]] w fun e w' => e = .returned (.int .i64 (va vals x.i)) ∧ MovedL w w' B b T (delA x L).2 vals (free ++ [x.i]) := by
  have HT := Lib.hid h.lt
  obtain ⟨tb, O, vv, fv, h, hO⟩ := h
  obtain ⟨f, t, i⟩ := x
  dsimp only at h0 h1 ⊢
  obtain ⟨n, rfl⟩ : ∃ n : Nat, (n : Int) = i := ⟨i.toNat, by omega⟩
  have B0 := Lib.hid (ba w (.cells #[.int .i64 f, .int .i64 t, .int .i64 (n : Int)] 54))
  have X0 : ItAt (w.alloc (.cells #[.int .i64 f, .int .i64 t, .int .i64 (n : Int)] 54)) w.heap.size ⟨f, t, n⟩ := itAt_new w ⟨f, t, n⟩
  have C0 := h.below B0.out
  obtain ⟨wa, hwa⟩ : ∃ v, Hid (v = w.alloc (.cells #[.int .i64 f, .int .i64 t, .int .i64 (n : Int)] 54)) := ⟨_, rfl⟩
  rw [← hwa.out] at B0 X0 C0
  obtain ⟨i3, hi3⟩ : ∃ i, Hid (w.heap.size = i) := ⟨_, rfl⟩
  rw [hi3.out] at X0
  obtain ⟨ao, cap, rfl, hcap, hao⟩ := C0.rv.form
  obtain ⟨g, rfl⟩ := hao (by omega)
  have hn : n < vals.length := by omega
  obtain ⟨u, hu⟩ : ∃ u, Hid (vals[n]? = some u) := ⟨_, List.getElem?_eq_getElem hn⟩
  have hva : va vals (n : Int) = u := by unfold va; rw [List.getD_eq_getElem?_getD, Int.toNat_natCast, hu.out]; rfl
  rw [hva]
  have g0 := rowi_cell C0.rv n u hu.out
  have c1 := C0.box.c1
  have x2 := X0.c2
  dsimp only at x2
  have i0 : (0 : Int) ≤ (n : Int) := by omega
  have i1 : (n : Int) < ((vals.length : Nat) : Int) := by omega
  have HC := Lib.hid C0
  have HX := Lib.hid X0
  have HF := Lib.hid hf
  have HO := Lib.hid hO
  have HN := Lib.hid hn
  clear C0 X0 hf hO hva hcap hao h h1 h0 hn
  go_enter Try.func17, Try.ntmps17
  go_upto_region 1 with fail
  rw [← hwa.out, hi3.out]
  go_quiet (fail)
  clear c1 x2 g0 i0 i1
  have W1 : Below wa.heap.size wa (wa.drewN nq) := bdN (Below.refl _ _) nq
  have HC1 := Lib.hid (HC.out.below W1)
  have HX1 := Lib.hid (HX.out.below W1)
  have B1 := Lib.hid (bt B0.out W1)
  obtain ⟨wb, hwb⟩ : ∃ v, Hid (v = wa.drewN nq) := ⟨_, rfl⟩
  rw [← hwb.out] at HC1 HX1 B1 ⊢
  clear W1 HC HX hwb B0 hwa
  have c0 := HC1.out.box.c0
  have x0 := HX1.out.c0; have x1 := HX1.out.c1; have x2 := HX1.out.c2
  dsimp only at x0 x1 x2
  have A := delete_is (x := ⟨f, t, n⟩) (HC1.out.below ((Below.refl wb.heap.size wb).drew)).tr
  have D1 := Lib.hid ((Below.refl wb.heap.size wb).drew)
  have HS0 : (fun w' : World => w'.cell? ⟨b, 0, none⟩ = some (.pointer (some ⟨tb, 0, none⟩)) ∧ w'.cell? ⟨i3, 0, none⟩ = some (.int .i64 f) ∧ w'.cell? ⟨i3, 1, none⟩ = some (.int .i64 t) ∧ w'.cell? ⟨i3, 2, none⟩ = some (.int .i64 (n : Int))) wb.drew := ⟨c0, x0, x1, x2⟩
  have NO : Hid (¬ O i3) := fun z => by have := (HT.out i3 (by rw [HO.out]; exact .inr (.inl z))).1; have := hi3.out; omega
  have LB : Hid (O = O) := rfl
  go_upto_region 2 with fail
  go_region_held3 (fun w' : World => w'.cell? ⟨b, 0, none⟩ = some (.pointer (some ⟨tb, 0, none⟩)) ∧ w'.cell? ⟨i3, 0, none⟩ = some (.int .i64 f) ∧ w'.cell? ⟨i3, 1, none⟩ = some (.int .i64 t) ∧ w'.cell? ⟨i3, 2, none⟩ = some (.int .i64 (n : Int)))
    (first | with_reducible exact HS0 | with_reducible assumption)
    (first
      | (go_at_call 24; (with_reducible refine A.mono ?_); rintro e w3 ⟨rfl, t3⟩; obtain ⟨O3, k3, b3, o3⟩ := (HC1.out.below D1.out).turned t3; have HC3 := Lib.hid k3; have BU3 := Lib.hid b3; have OL3 := Lib.hid o3; have x3 := HX1.out.but ((But.refl O wb).drew.trans b3) NO.out; have HX3 := Lib.hid x3; have HS1 := And.intro k3.box.c0 (And.intro x3.c0 (And.intro x3.c1 x3.c2)); clear t3 k3 b3 o3 x3 A))
  clear HS0 HS1 c0 x0 x1 x2
  have c2 := HC3.out.box.c2
  have x2 := HX3.out.c2
  dsimp only at x2
  have KA : Below w3.heap.size w3 (w3.drew.alloc (Obj.cells #[Value.int .i64 (n : Int)] 3)) := bt ((Below.refl _ _).drew) (ba _ _)
  have C4 := HC3.out.below KA
  have RFA := Lib.hid C4.rf
  have HC4 := Lib.hid C4
  have SRC : Hid (intE.Arg (w3.drew.alloc (Obj.cells #[Value.int .i64 (n : Int)] 3)) (.slice (some ⟨w3.heap.size, 0, none⟩) 1 1) [(n : Int)]) := Elem.arg_one (E := intE) (w := w3.drew) (n : Int) 3
  have HFL : Hid (free.length + [(n : Int)].length ≤ 1000001) := by have := HF.out; show _ + 1 ≤ _; omega
  have HB : Hid (B ≤ (w3.drew.alloc (Obj.cells #[Value.int .i64 (n : Int)] 3)).heap.size) := by have := C4.bB; have := C4.box.lt; show _ ≤ _; omega
  have d2 : (w3.alloc (Obj.cells #[Value.int .i64 (n : Int)] 3)).cell? ⟨b, 2, none⟩ = some fv := ((ba w3 _).cell (p := ⟨b, 2, none⟩) HC3.out.box.lt).trans c2
  replace KA := Lib.hid KA
  clear C4
  go_upto_region 3 with fail
  go_region_law (first
    | (go_loud (refine Elem.step (E := intE) rfl _ _ rfl B fv free (.slice (some ⟨w3.heap.size, 0, none⟩) 1 1) [(n : Int)] rfl rfl RFA.out SRC.out HFL.out (by decide) HB.out ?_; intro v5 w5 r5 g5 l5; obtain ⟨a5, q5, e5, _, _⟩ := r5.form; obtain ⟨n5, hn5⟩ : ∃ k : Nat, Hid ((free ++ [(n : Int)]).length = k) := ⟨_, rfl⟩; rw [hn5.out] at e5; subst e5; clear hn5; have HM := HC4.out.setF g5 r5 l5; have G5 := but_grown g5; have c5 := (G5.cell (p := ⟨b, 2, none⟩) HC4.out.box.lt HC4.out.fb).trans HC4.out.box.c2; have f5 := (G5.frozen (p := ⟨b, 2, none⟩) HC4.out.box.lt HC4.out.fb).trans (HC4.out.box.f 2); replace HM := Lib.hid HM; clear r5 g5 l5 G5)))
  all_goals
    go_wp2_with fail
    go_ret
    refine ⟨rfl, ?_⟩
    rw [HO.out]
    obtain ⟨h1, h2, h3⟩ := HM.out
    have KB : Below w.heap.size w wb := B1.out
    refine MovedL.from KB (fun j hj => by have := (HT.out j (by rw [HO.out]; exact hj)).1; omega) ?_
    have z3 := BU3.out.size
    have zA := KA.out.size
    have bs3 : But O wb w3 := (But.refl O wb).drew.trans BU3.out
    refine MovedL.step (T' := ownT b O3 (.slice (some ⟨g, 0, none⟩) vals.length cap) fv) (bs3.mono (fun k hk => .inr (.inl hk))) ?_ (MovedL.from KA.out (fun j hj => (HC3.out.lt j hj).1) ⟨_, ⟨tb, O3, _, _, h1, rfl⟩, h2, h3⟩)
    rintro k (q | q | q | q)
    · exact .inl (.inl q)
    · rcases OL3.out k q with r | r
      · exact .inl (.inr (.inl r))
      · exact .inr r
    · exact .inl (.inr (.inr (.inl q)))
    · exact .inl (.inr (.inr (.inr q)))
end Go.Proofs.Ytmgljgmfipodeaa.Tl
