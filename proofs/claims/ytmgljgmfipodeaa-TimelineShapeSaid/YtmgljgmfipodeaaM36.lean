/-
  timeline: lay, walked.
-/
import Derived.Test.YtmgljgmfipodeaaM35
/-
  timeline: lay, walked.
-/
namespace Go.Proofs.Ytmgljgmfipodeaa.Tl
open Go Go.RowKit Av
set_option linter.unusedSimpArgs false
set_option linter.unusedVariables false
attribute [local go_sem ↓] Go.wp_at_zero Go.wp_at_succ

theorem putA_ins {x : It} {L : List It} (h1 : x.f < x.t) (h2 : x ∉ L) (h3 : L.length < 1000000) : (putA 1000000 x L).2 = ins x L := by
  unfold putA ins
  rw [if_neg (by omega), if_neg h2, if_neg (by omega)]
theorem grown_refl (w : World) (row : Option Nat) : w.grownBy w row := ⟨rfl, rfl, rfl, Nat.le_refl _, fun _ _ _ => rfl⟩
/-- behind a tree's call -/
theorem MovedL.turn {w w' : World} {B b tb : Nat} {O : Nat → Prop} {vv fv : Value} {L L' : List It} {vals free : List Int} (h : LineC w B b tb O vv fv L vals free) (k : Turned w w' B tb 1000000 O L') : MovedL w w' B b (ownT b O vv fv) L' vals free := by
  obtain ⟨O', h1, h2, h3⟩ := h.turned k
  refine ⟨_, ⟨tb, O', vv, fv, h1, rfl⟩, h2.mono (fun k hk => .inr (.inl hk)), ?_⟩
  rintro k (q | q | q | q)
  · exact .inl (.inl q)
  · rcases h3 k q with r | r
    · exact .inl (.inr (.inl r))
    · exact .inr r
  · exact .inl (.inr (.inr (.inl q)))
  · exact .inl (.inr (.inr (.inr q)))
set_option maxRecDepth 100000 in
set_option maxHeartbeats 2000000 in
/-- a segment is laid, in a new place -/
theorem lay_new {w : World} {B b : Nat} {T : Nat → Prop} {L : List It} {vals : List Int} {E : List Int} {a z v : Int} (h : LineIs w B b T L vals []) (hi : Inv E L vals []) (hE : E.length ≤ 1000) (haz : a < z) (ha : 1 ≤ a) (hz : z ≤ 3652060) (hm : a ∈ E) (hv : v ≠ 0) (hd : ∀ y ∈ L, y.t ≤ a ∨ z ≤ y.f) :
    Calls Try.prog 18 #[.pointer (some ⟨b, 0, none⟩), .int .i64 a, .int .i64 z, .int .i64 v] w fun e w' => (∃ u, e = .returned u) ∧ ∃ L' vals' free', Laid E L vals [] a z v L' vals' free' ∧ MovedL w w' B b T L' vals' free' := by
  obtain ⟨nx, laid⟩ := Laid.new hi haz ha hz hm hv hd
  have HLA := Lib.hid laid
  have vl : vals.length ≤ 1000 := by have := hi.most; omega
  have ll : L.length < 1000000 := by have := hi.len; simp only [List.length_nil] at this; omega
  have PI := Lib.hid (putA_ins (x := ⟨a, z, vals.length⟩) haz nx ll)
  obtain ⟨tb, O, vv, fv, h, hO⟩ := h
  obtain ⟨av, cv, ev, _, _⟩ := h.rv.form
  obtain ⟨af, cf, ef, _, _⟩ := h.rf.form
  subst ev; subst ef
  rw [List.length_nil] at h hO
  have c1 := h.box.c1
  have c2 := h.box.c2
  have HC := Lib.hid h
  have d1 : decide (z ≤ a) = false := by simp; omega
  have d2 : decide (v = 0) = false := by simpa using hv
  have d4 : (v == 0) = false := by simpa using hv
  have HVL := Lib.hid vl
  have CA := h.below (ba w (Obj.cells #[Value.int .i64 v] 3))
  have RVA := Lib.hid CA.rv
  have HCA := Lib.hid CA
  have SRC : Hid (intE.Arg (w.alloc (Obj.cells #[Value.int .i64 v] 3)) (.slice (some ⟨w.heap.size, 0, none⟩) 1 1) [v]) := Elem.arg_one (E := intE) (w := w) v 3
  have HFL : Hid (vals.length + [v].length ≤ 1000001) := by show _ + 1 ≤ _; omega
  have HB : Hid (B ≤ (w.alloc (Obj.cells #[Value.int .i64 v] 3)).heap.size) := by have := CA.bB; have := CA.box.lt; show _ ≤ _; omega
  replace hO := Lib.hid hO
  clear h hi hE ha hz hm hd nx laid ll vl CA haz hv
  go_enter Try.func18, Try.ntmps18
  go_upto_region 8 with (at_builtin; go_loud (refine Elem.app (E := intE) rfl _ _ rfl B (.slice av vals.length cv) vals (.slice (some ⟨w.heap.size, 0, none⟩) 1 1) [v] rfl rfl RVA.out SRC.out HFL.out (by decide) HB.out ?_; intro v5 w5 r5 g5 l5; obtain ⟨a5, q5, e5, _, _⟩ := r5.form; obtain ⟨n5, hn5⟩ : ∃ k : Nat, Hid ((vals ++ [v]).length = k) := ⟨_, rfl⟩; rw [hn5.out] at e5; subst e5; clear hn5; have HM := HCA.out.setV g5 r5 l5; have G5 := but_grown g5; have c5 := (G5.cell (p := ⟨b, 1, none⟩) HCA.out.box.lt HCA.out.vb).trans HCA.out.box.c1; have f5 := (G5.frozen (p := ⟨b, 1, none⟩) HCA.out.box.lt HCA.out.vb).trans (HCA.out.box.f 1); replace HM := Lib.hid HM; clear r5 g5 l5 G5))
  obtain ⟨h1, h2, h3⟩ := HM.out
  have A1 := insert_is (x := ⟨a, z, vals.length⟩) h1.tr
  have c0 := h1.box.c0
  obtain ⟨w6, hw6⟩ : ∃ v, Hid (v = w5.setCell ⟨b, 1, none⟩ (.slice a5 n5 q5)) := ⟨_, rfl⟩
  rw [PI.out] at A1
  rw [← hw6.out] at A1 c0 h1 h2 ⊢
  have H1 := Lib.hid h1
  have H2 := Lib.hid h2
  have H3 := Lib.hid h3
  clear h1 h2 h3 c1 c2 c5 f5 HM hw6
  go_wp2_with (go_at_call 25; go_loud (with_reducible refine A1.mono ?_; rintro e w7 ⟨rfl, t7⟩; have T7 := Lib.hid t7; clear t7 A1))
  go_end0
  refine ⟨⟨_, rfl⟩, _, _, _, HLA.out, ?_⟩
  rw [hO.out]
  refine MovedL.from (ba w (Obj.cells #[Value.int .i64 v] 3)) (fun j hj => (HC.out.lt j hj).1) ?_
  exact MovedL.step H2.out H3.out (MovedL.turn H1.out T7.out)
set_option maxRecDepth 100000 in
set_option maxHeartbeats 2000000 in
/-- a segment is laid, in a free place -/
theorem lay_pop {w : World} {B b : Nat} {T : Nat → Prop} {L : List It} {vals fr : List Int} {i : Int} {E : List Int} {a z v : Int} (h : LineIs w B b T L vals (fr ++ [i])) (hi : Inv E L vals (fr ++ [i])) (hE : E.length ≤ 1000) (haz : a < z) (ha : 1 ≤ a) (hz : z ≤ 3652060) (hm : a ∈ E) (hv : v ≠ 0) (hd : ∀ y ∈ L, y.t ≤ a ∨ z ≤ y.f) :
    Calls Try.prog 18 #[.pointer (some ⟨b, 0, none⟩), .int .i64 a, .int .i64 z, .int .i64 v] w fun e w' => (∃ u, e = .returned u) ∧ ∃ L' vals' free', Laid E L vals (fr ++ [i]) a z v L' vals' free' ∧ MovedL w w' B b T L' vals' free' := by
  obtain ⟨nx, laid⟩ := Laid.pop hi haz ha hz hm hv hd
  obtain ⟨i0, i1⟩ := hi.fr i (by simp)
  obtain ⟨n, rfl⟩ : ∃ n : Nat, (n : Int) = i := ⟨i.toNat, by omega⟩
  rw [Int.toNat_natCast] at laid
  have HLA := Lib.hid laid
  have vl : vals.length ≤ 1000 := by have := hi.most; omega
  have ll : L.length < 1000000 := by have := hi.len; omega
  have fl : fr.length ≤ 1000 := by have := hi.len; rw [List.length_append, List.length_singleton] at this; omega
  have PI := Lib.hid (putA_ins (x := ⟨a, z, n⟩) haz nx ll)
  obtain ⟨tb, O, vv, fv, h, hO⟩ := h
  obtain ⟨av, cv, ev, _, hgv⟩ := h.rv.form
  obtain ⟨af, cf, ef, hcf, hgf⟩ := h.rf.form
  obtain ⟨g, rfl⟩ := hgv (by omega)
  obtain ⟨gf, rfl⟩ := hgf (by simp)
  subst ev; subst ef
  rw [List.length_append, List.length_singleton] at h hcf hO
  have c1 := h.box.c1
  have c2 := h.box.c2
  have f2 := h.box.f 2
  have hp := rowi_cell (xs := fr ++ [(n : Int)]) (by rw [List.length_append, List.length_singleton]; exact h.rf) fr.length (n : Int) (by simp)
  have n0 : (0 : Int) ≤ (fr.length : Int) := by omega
  have n1 : (fr.length : Int) < (((fr.length + 1 : Nat)) : Int) := by omega
  have n2 : (fr.length : Int) ≤ (cf : Int) := by omega
  have hw3 : wrap64 (fr.length : Int) = (fr.length : Int) := IntWalk.wrap64_in _ (by omega)
  have hw2 : IntKind.i64.wrap ((fr.length : Int) + 1 - 1) = (fr.length : Int) := by rw [Int.add_sub_cancel, IntWalk.i64_left, hw3]
  have gt : (0 : Int) < (fr.length : Int) + 1 := by omega
  have HC := Lib.hid h
  have d1 : decide (z ≤ a) = false := by simp; omega
  have d2 : decide (v = 0) = false := by simpa using hv
  have d4 : (v == 0) = false := by simpa using hv
  have HI := Lib.hid i1
  have HN : Hid (n < vals.length) := by show _ < _; omega
  replace hO := Lib.hid hO
  clear h hi hE ha hz hm hd nx laid ll vl haz hv i0 i1 hcf hgf hgv fl
  go_enter Try.func18, Try.ntmps18
  go_upto_region 5 with fail
  go_region
  go_upto_region 6 with fail
  clear c1 c2 f2 hp n0 n1 n2 hw3 hw2 gt
  obtain ⟨h1, h2, h3⟩ := HC.out.setF (w5 := w) (fv' := .slice (some ⟨gf, 0, none⟩) fr.length cf) (free' := fr) (grown_refl w _) (rowi_pop HC.out.rf) (.inl rfl)
  have K1 : Below w.heap.size w w := Below.refl _ _
  have D1 : Below (w.setCell ⟨b, 2, none⟩ (.slice (some ⟨gf, 0, none⟩) fr.length cf)).heap.size (w.setCell ⟨b, 2, none⟩ (.slice (some ⟨gf, 0, none⟩) fr.length cf)) (w.setCell ⟨b, 2, none⟩ (.slice (some ⟨gf, 0, none⟩) fr.length cf)).drew := (Below.refl _ _).drew
  have C1 := h1.below D1
  have M1 : But (ownT b O (.slice (some ⟨g, 0, none⟩) vals.length cv) (.slice (some ⟨gf, 0, none⟩) (fr.length + 1) cf)) w (w.setCell ⟨b, 2, none⟩ (.slice (some ⟨gf, 0, none⟩) fr.length cf)).drew := h2.drew
  obtain ⟨w2, hw2⟩ : ∃ v, Hid (v = (w.setCell ⟨b, 2, none⟩ (.slice (some ⟨gf, 0, none⟩) fr.length cf)).drew) := ⟨_, rfl⟩
  rw [← hw2.out] at C1 M1 ⊢
  have H3 := Lib.hid h3
  replace M1 := Lib.hid M1
  clear h1 h2 h3 D1 K1 hw2
  obtain ⟨u, hu⟩ : ∃ u, Hid (vals[n]? = some u) := ⟨_, List.getElem?_eq_getElem HN.out⟩
  have g0 := rowi_cell C1.rv n u hu.out
  have gf0 := rowi_frozen C1.rv n
  have c1 := C1.box.c1
  have i0 : (0 : Int) ≤ (n : Int) := by omega
  have i1 : (n : Int) < ((vals.length : Nat) : Int) := HI.out
  obtain ⟨k1, k2⟩ := C1.putV (i := n) (x := v)
  have HC1 := Lib.hid C1
  have KL := Lib.hid k1
  have KM := Lib.hid k2
  clear C1 k1 k2
  go_upto_region 8 with fail
  clear c1 g0 gf0 i0 i1
  obtain ⟨w3, hw3⟩ : ∃ q, Hid (q = w2.setCell ⟨g, n, none⟩ (.int .i64 v)) := ⟨_, rfl⟩
  rw [← hw3.out] at KL KM ⊢
  have c0 := KL.out.box.c0
  have A1 := insert_is (x := ⟨a, z, n⟩) KL.out.tr
  rw [PI.out] at A1
  clear hw3
  go_wp2_with (go_at_call 25; go_loud (with_reducible refine A1.mono ?_; rintro e w7 ⟨rfl, t7⟩; have T7 := Lib.hid t7; clear t7 A1))
  go_end0
  refine ⟨⟨_, rfl⟩, _, _, _, HLA.out, ?_⟩
  rw [hO.out]
  have KL' := KL.out
  rw [List.length_set] at KL'
  exact MovedL.step M1.out H3.out (MovedL.step KM.out (fun k hk => .inl hk) (MovedL.turn KL' T7.out))
set_option maxRecDepth 100000 in
theorem lay_is {w : World} {B b : Nat} {T : Nat → Prop} {L : List It} {vals free : List Int} {E : List Int} {a z v : Int} (h : LineIs w B b T L vals free) (hi : Inv E L vals free) (hE : E.length ≤ 1000) (ha : 1 ≤ a) (hz : z ≤ 3652060) (hm : a ∈ E) (hd : a < z → ∀ y ∈ L, y.t ≤ a ∨ z ≤ y.f) :
    Calls Try.prog 18 #[.pointer (some ⟨b, 0, none⟩), .int .i64 a, .int .i64 z, .int .i64 v] w fun e w' => (∃ u, e = .returned u) ∧ ∃ L' vals' free', Laid E L vals free a z v L' vals' free' ∧ MovedL w w' B b T L' vals' free' := by
  by_cases haz : a < z
  · by_cases hv : v = 0
    · subst hv
      have HLA := Lib.hid (Laid.zero hi (hd haz))
      have HM := Lib.hid (MovedL.refl h)
      have d1 : decide (z ≤ a) = false := by simp; omega
      clear h hi hE ha hz hm hd haz
      go_enter Try.func18, Try.ntmps18
      go_wp2
      refine bodyPost_ret (results_none rfl _ _ _) rfl ?_
      exact ⟨⟨_, rfl⟩, _, _, _, HLA.out, HM.out⟩
    · rcases List.eq_nil_or_concat free with rfl | ⟨fr, p, rfl⟩
      · exact lay_new h hi hE haz ha hz hm hv (hd haz)
      · rw [List.concat_eq_append] at h hi ⊢
        exact lay_pop h hi hE haz ha hz hm hv (hd haz)
  · have HLA := Lib.hid (Laid.none (w := v) hi (show z ≤ a by omega))
    have HM := Lib.hid (MovedL.refl h)
    have d1 : decide (z ≤ a) = true := by simp; omega
    clear h hi hE ha hz hm hd haz
    go_enter Try.func18, Try.ntmps18
    go_wp2
    refine bodyPost_ret (results_none rfl _ _ _) rfl ?_
    exact ⟨⟨_, rfl⟩, _, _, _, HLA.out, HM.out⟩
end Go.Proofs.Ytmgljgmfipodeaa.Tl
