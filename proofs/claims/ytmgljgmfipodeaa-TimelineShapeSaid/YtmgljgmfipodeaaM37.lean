/-
  timeline: Put, walked.
-/
import Derived.Test.YtmgljgmfipodeaaM36
import Derived.WalkSpells
/-
  timeline: Put, walked.
-/
namespace Go.Proofs.Ytmgljgmfipodeaa.Tl
open Go Go.RowKit Av Itr
set_option linter.unusedSimpArgs false
set_option linter.unusedVariables false
attribute [local go_sem ↓] Go.wp_at_zero Go.wp_at_succ

theorem run_min (P : Program) (ts : Array TypeId) (t : TypeId) (x y : Int) (w : World) : (Builtin.min_ ts t #[.int .i64 x, .int .i64 y]).run P w = .ok (.int .i64 (min x y)) w := by
  simp [Builtin.min_, Builtin.min2, go_sem]
  split <;> omega
theorem run_max (P : Program) (ts : Array TypeId) (t : TypeId) (x y : Int) (w : World) : (Builtin.max_ ts t #[.int .i64 x, .int .i64 y]).run P w = .ok (.int .i64 (max x y)) w := by
  simp [Builtin.max_, Builtin.max2, go_sem]
  split <;> omega
attribute [local go_sem ↓] run_min run_max
theorem mem_over {sF sT : Int} {L : List It} (hs : sF < sT) (y : It) : y ∈ overS (sF - 1) (sT + 1) L ↔ y ∈ L ∧ y.f ≤ sT ∧ sF ≤ y.t := by
  unfold overS over
  rw [if_pos (by omega), List.mem_filter]
  simp only [Bool.and_eq_true, decide_eq_true_eq]
  constructor
  · rintro ⟨h1, h2, h3⟩; exact ⟨h1, by omega, by omega⟩
  · rintro ⟨h1, h2, h3⟩; exact ⟨h1, by omega, by omega⟩
theorem xs_of {E : List Int} {L : List It} {vals free : List Int} {sF sT : Int} (hi : Inv E L vals free) (hs : sF < sT) :
    Xs sF sT (overS (sF - 1) (sT + 1) L) ∧ (∀ (j : Nat) (y : It), (overS (sF - 1) (sT + 1) L)[j]? = some y → y ∈ L) ∧ ∀ y ∈ L, y.f ≤ sT → sF ≤ y.t → ∃ j : Nat, (overS (sF - 1) (sT + 1) L)[j]? = some y := by
  have nd : (overS (sF - 1) (sT + 1) L).Nodup := by
    unfold overS over
    rw [if_pos (by omega)]
    exact List.Pairwise.filter _ hi.nd
  refine ⟨⟨fun i j x y hx hy ne => ?_, fun i x hx => ?_⟩, fun j y hy => ((mem_over hs y).1 (List.mem_of_getElem? hy)).1, fun y hy h1 h2 => ?_⟩
  · have mx := ((mem_over hs x).1 (List.mem_of_getElem? hx)).1
    have my := ((mem_over hs y).1 (List.mem_of_getElem? hy)).1
    refine hi.dis x mx y my (fun e => ne ?_)
    subst e
    obtain ⟨l1, e1⟩ := List.getElem?_eq_some_iff.1 hx
    obtain ⟨l2, e2⟩ := List.getElem?_eq_some_iff.1 hy
    have pw := List.pairwise_iff_getElem.1 nd
    rcases Nat.lt_trichotomy i j with q | q | q
    · exact absurd (e1.trans e2.symm) (pw i j l1 l2 q)
    · exact q
    · exact absurd (e2.trans e1.symm) (pw j i l2 l1 q)
  · obtain ⟨h1, h2, h3⟩ := (mem_over hs x).1 (List.mem_of_getElem? hx)
    exact ⟨h2, h3, (hi.bd x h1).2.1⟩
  · exact List.getElem?_of_mem ((mem_over hs y).2 ⟨hy, h1, h2⟩)
theorem delA_len {x : It} {L : List It} (hs : Tr.Sorted L) (hx : x ∈ L) : (delA x L).2.length + 1 = L.length := by
  unfold delA
  rw [if_pos hx]
  have h1 := (Av.mem_at x L hs).1 hx
  have h2 := (List.getElem?_eq_some_iff.1 h1).1
  have h3 := (Av.take_under x L).2
  show (Tr.under x L ++ (Tr.beyond x L).tail).length + 1 = _
  rw [List.length_append, List.length_tail, ← h3, List.length_drop]
  omega
theorem delA_mem {x y : It} {L : List It} (hs : Tr.Sorted L) (hx : x ∈ L) : y ∈ (delA x L).2 ↔ y ≠ x ∧ y ∈ L := by
  unfold delA
  rw [if_pos hx]
  exact Av.mem_del x y L hs hx
theorem mid_mem {E : List Int} {L : List It} {vals free : List Int} {x : It} (h : Inv E L vals free) (hx : x ∈ L) : 0 ≤ x.i ∧ x.i < vals.length ∧ free.length < E.length + 1 := by
  have a := h.id x hx
  have b := h.len
  have c := h.most
  exact ⟨a.1, a.2.1, by omega⟩
/-- one segment is dropped: what is known -/
theorem one_gone {E : List Int} {sF sT v : Int} {F : Int → Int} {X : List It} {k : Nat} {L : List It} {vals free : List Int} {a z : Int} {G : Int → Int} {x : It} (h : Mid E sF sT v F X k L vals free a z G) (hk : X[k]? = some x) (hs : Tr.Sorted L) (hE : E.length ≤ 1000) :
    (0 ≤ x.i ∧ x.i < vals.length ∧ free.length < 1000000) ∧ (∀ y, y ∈ (delA x L).2 ↔ y ≠ x ∧ y ∈ L) ∧ (delA x L).2.length + 1 = L.length ∧ (delA x L).2.Nodup ∧ Inv E (delA x L).2 vals (free ++ [x.i]) ∧ (1 ≤ x.f ∧ x.f < x.t ∧ x.t ≤ 3652060 ∧ x.f ∈ E) ∧ ∀ y ∈ (delA x L).2, y.t ≤ x.f ∨ x.t ≤ y.f := by
  have hx := h.todo k x (Nat.le_refl _) hk
  have hm : ∀ y, y ∈ (delA x L).2 ↔ y ≠ x ∧ y ∈ L := fun y => delA_mem hs hx
  have hl := delA_len hs hx
  have a1 := mid_mem h.inv hx
  have nd : (delA x L).2.Nodup := by
    unfold delA
    rw [if_pos hx]
    have e := Tr.sorted_split x L
    have n := h.inv.nd
    rw [e] at n
    exact n.sublist (List.Sublist.append (List.Sublist.refl _) (List.tail_sublist _))
  refine ⟨⟨a1.1, a1.2.1, by omega⟩, hm, hl, nd, h.inv.drop hx hm hl nd, h.inv.bd x hx, fun y hy => ?_⟩
  obtain ⟨ne, hy⟩ := (hm y).1 hy
  have := h.inv.dis y hy x hx ne
  omega
/-- what Put leaves -/
def PutPost (w : World) (B b : Nat) (T : Nat → Prop) (E : List Int) (L : List It) (vals free : List Int) (F : Int → Int) (sF sT v : Int) (w' : World) : Prop :=
  ∃ L' vals' free', Inv (sF :: sT :: E) L' vals' free' ∧ Fn L' vals' (upd F sF sT v) ∧ (Sharp L F → Sharp L' (upd F sF sT v)) ∧ MovedL w w' B b T L' vals' free'
theorem put_bad {w : World} {B b : Nat} {T : Nat → Prop} {L : List It} {vals free : List Int} {sF sT v : Int} (h : LineIs w B b T L vals free) (hm : mayS sF sT = false) :
    Calls Try.prog 7 #[.pointer (some ⟨b, 0, none⟩), .agg #[.int .i64 sF, .int .i64 sT], .int .i64 v] w fun e w' => e = .returned (.int .i64 15) ∧ MovedL w w' B b T L vals free := by
  have HL := Lib.hid h
  obtain ⟨tb, O, vv, fv, h, hO⟩ := h
  have B0 := ba w (.cells #[.int .i64 sF, .int .i64 sT] 24)
  have A := none_is (h.below B0).box
  have M := may_is sF sT (w.alloc (.cells #[.int .i64 sF, .int .i64 sT] 24))
  rw [hm] at M
  replace B0 := Lib.hid B0
  clear h hO hm
  go_enter Try.func7, Try.ntmps7
  go_wp2_with (first
    | (go_at_call 14; (with_reducible refine A.mono ?_); rintro e w20 ⟨rfl, hq⟩; obtain rfl := hq.symm; clear A)
    | (go_at_call 15; (with_reducible refine M.mono ?_); rintro e w2 ⟨rfl, b2⟩; have B2 := Lib.hid b2; clear b2 M))
  go_ret
  exact ⟨rfl, MovedL.same HL.out (bt B0.out B2.out)⟩
theorem rowT_cells3 {w : World} {B g cap : Nat} {xs : List It} {i : Nat} {x : It} (h : RowT w B (.slice (some ⟨g, 0, none⟩) xs.length cap) xs) (hx : xs[i]? = some x) :
    w.cell? ⟨g, i * 3, none⟩ = some (.int .i64 x.f) ∧ w.cell? ⟨g, i * 3 + 1, none⟩ = some (.int .i64 x.t) ∧ w.cell? ⟨g, i * 3 + 2, none⟩ = some (.int .i64 x.i) := by
  have il := (List.getElem?_eq_some_iff.1 hx).1
  have K : ∀ k u, k < 3 → x.cells[k]? = some u → w.cell? ⟨g, i * 3 + k, none⟩ = some u := fun k u hk hu => by
    rw [World.ownsRow.cellAt h (i * 3 + k) (by omega), flat_get It.cells 3 (fun _ => rfl) xs i k hk, hx]
    exact hu
  exact ⟨K 0 _ (by omega) rfl, K 1 _ (by omega) rfl, K 2 _ (by omega) rfl⟩
set_option maxRecDepth 100000 in
set_option maxHeartbeats 4000000 in
theorem put_good {w : World} {B b : Nat} {T : Nat → Prop} {E : List Int} {L : List It} {vals free : List Int} {F : Int → Int} {sF sT v : Int} (h : LineIs w B b T L vals free) (hi : Inv E L vals free) (hf : Fn L vals F) (hE : E.length ≤ 900) (hm : mayS sF sT = true) :
    Calls Try.prog 7 #[.pointer (some ⟨b, 0, none⟩), .agg #[.int .i64 sF, .int .i64 sT], .int .i64 v] w fun e w' => e = .returned (.int .i64 0) ∧ PutPost w B b T E L vals free F sF sT v w' := by
  have hm2 : 1 ≤ sF ∧ sF < sT ∧ sT ≤ 3652060 := by unfold mayS at hm; simpa using hm
  obtain ⟨X, hX⟩ : ∃ X, Hid (overS (sF - 1) (sT + 1) L = X) := ⟨_, rfl⟩
  obtain ⟨x1, x2, x3⟩ := xs_of hi hm2.2.1
  rw [hX.out] at x1 x2 x3
  have HX1 := Lib.hid x1; have HX2 := Lib.hid x2; have HX3 := Lib.hid x3
  have M0 := Lib.hid (Mid.start (v := v) hi hf hm2.1 hm2.2.1 hm2.2.2 x2 x3)
  have O0 := Lib.hid (Orig.start (v := v) (F := F) x3)
  have HI := Lib.hid hi; have HF := Lib.hid hf
  have HS := Lib.hid hm2
  have HEL : Hid ((sF :: sT :: E).length ≤ 1000) := by show _ + 1 + 1 ≤ _; omega
  have HL := Lib.hid h
  have HLT := Lib.hid h.lt
  have XL : Hid (X.length ≤ 1000) := by
    have h1 : (overS (sF - 1) (sT + 1) L).length ≤ L.length := over_len _ _ _
    rw [hX.out] at h1
    have := hi.len; have := hi.most
    show _ ≤ _; omega
  obtain ⟨tb, O, vv, fv, h, hO⟩ := h
  have B0 := ba w (.cells #[.int .i64 sF, .int .i64 sT] 24)
  have S0 : (w.alloc (.cells #[.int .i64 sF, .int .i64 sT] 24)).heap[w.heap.size]? = some (.cells #[.int .i64 sF, .int .i64 sT] 24 (0, 0)) := heap_alloc_new w _
  have A := none_is (h.below B0).box
  have M := may_is sF sT (w.alloc (.cells #[.int .i64 sF, .int .i64 sT] 24))
  rw [hm] at M
  have HC := Lib.hid (h.below B0)
  replace B0 := Lib.hid B0
  replace S0 := Lib.hid S0
  have w1f : IntKind.i64.wrap (sF - 1) = sF - 1 := by rw [IntWalk.i64_left]; exact IntWalk.wrap64_in _ (by omega)
  have w1t : IntKind.i64.wrap (sT + 1) = sT + 1 := by rw [IntWalk.i64_left]; exact IntWalk.wrap64_in _ (by omega)
  replace w1f := Lib.hid w1f; replace w1t := Lib.hid w1t
  replace hO := Lib.hid hO
  clear h hi hf hE hm hm2 x1 x2 x3
  go_enter Try.func7, Try.ntmps7
  go_upto_region 5 with (first
    | (go_at_call 14; (with_reducible refine A.mono ?_); rintro e w20 ⟨rfl, hq⟩; obtain rfl := hq.symm; clear A)
    | (go_at_call 15; (with_reducible refine M.mono ?_); rintro e w2 ⟨rfl, b2⟩; have B2 := Lib.hid b2; clear b2 M))
  obtain ⟨iS, hiS⟩ : ∃ i, Hid (w.heap.size = i) := ⟨_, rfl⟩
  have S2 := (B2.out.block w.heap.size (by simp)).trans S0.out
  have C2 := HC.out.below B2.out
  have B3 := Lib.hid (bt B0.out B2.out)
  rw [hiS.out] at S2 ⊢
  have s0 : w2.cell? ⟨iS, 0, none⟩ = some (.int .i64 sF) := by rw [cell_of_row w2 _ _ _ _ (0, 0) S2]; rfl
  have s1 : w2.cell? ⟨iS, 1, none⟩ = some (.int .i64 sT) := by rw [cell_of_row w2 _ _ _ _ (0, 0) S2]; rfl
  have HC2 := Lib.hid C2
  replace S2 := Lib.hid S2
  clear HC S0 C2 B0 B2
  go_quiet (fail)
  have W3 : Below w2.heap.size w2 (w2.drewN nq) := bdN (Below.refl _ _) nq
  have HC3 := Lib.hid (HC2.out.below W3)
  have S3 : Hid ((w2.drewN nq).heap[iS]? = some (.cells #[.int .i64 sF, .int .i64 sT] 24 (0, 0))) := S2.out
  have B4 := Lib.hid (bt B3.out W3)
  obtain ⟨w3, hw3⟩ : ∃ q, Hid (q = w2.drewN nq) := ⟨_, rfl⟩
  rw [← hw3.out] at HC3 S3 B4 ⊢
  clear W3 HC2 S2 B3 hw3 s0 s1
  have c0 := HC3.out.box.c0
  have s0 : w3.cell? ⟨iS, 0, none⟩ = some (.int .i64 sF) := by rw [cell_of_row w3 _ _ _ _ (0, 0) S3.out]; rfl
  have s1 : w3.cell? ⟨iS, 1, none⟩ = some (.int .i64 sT) := by rw [cell_of_row w3 _ _ _ _ (0, 0) S3.out]; rfl
  have D1 := Lib.hid ((Below.refl w3.heap.size w3).drew)
  have A := overlap_is (HC3.out.below D1.out).tr (sF - 1) (sT + 1)
  rw [hX.out] at A
  have w1f' := w1f.out; have w1t' := w1t.out
  have HS0 : (fun w' : World => w'.cell? ⟨b, 0, none⟩ = some (.pointer (some ⟨tb, 0, none⟩)) ∧ w'.cell? ⟨iS, 0, none⟩ = some (.int .i64 sF) ∧ w'.cell? ⟨iS, 1, none⟩ = some (.int .i64 sT)) w3.drew := ⟨c0, s0, s1⟩
  go_upto_region 6 with fail
  go_region_held3 (fun w' : World => w'.cell? ⟨b, 0, none⟩ = some (.pointer (some ⟨tb, 0, none⟩)) ∧ w'.cell? ⟨iS, 0, none⟩ = some (.int .i64 sF) ∧ w'.cell? ⟨iS, 1, none⟩ = some (.int .i64 sT))
    (first | with_reducible exact HS0 | with_reducible assumption)
    (first
      | (go_at_call 16; (with_reducible refine A.mono ?_); rintro e w4 ⟨vx, rfl, r4, b4⟩; obtain ⟨ax, cx, rfl, _, hgx⟩ := row_form r4; have BB4 := bt D1.out b4; have C4 := HC3.out.below BB4; have S4 := (BB4.block iS (Array.getElem?_eq_some_iff.1 S3.out).1).trans S3.out; have HS1 := And.intro C4.box.c0 (And.intro (show w4.cell? ⟨iS, 0, none⟩ = some (.int .i64 sF) by rw [cell_of_row w4 _ _ _ _ (0, 0) S4]; rfl) (show w4.cell? ⟨iS, 1, none⟩ = some (.int .i64 sT) by rw [cell_of_row w4 _ _ _ _ (0, 0) S4]; rfl)); have HC4 := Lib.hid C4; have HS4 := Lib.hid S4; have R4 := Lib.hid r4; have B5 := Lib.hid (bt B4.out BB4); clear r4 b4 BB4 C4 S4 A))
  clear HS0 HS1 c0 s0 s1 w1f' w1t'
  have LI4 : Hid (LineIs w4 B b T L vals free) := ⟨tb, O, vv, fv, HC4.out, hO.out⟩
  have MV0 := Lib.hid (MovedL.refl LI4.out)
  have NS : Hid (iS < w4.heap.size ∧ ¬ T iS) := ⟨(Array.getElem?_eq_some_iff.1 HS4.out).1, fun q => by have := (HLT.out _ q).1; have := hiS.out; omega⟩
  have CX : Hid (∀ (k : Nat) (x : It), X[k]? = some x → ∃ g, ax = some ⟨g, 0, none⟩ ∧ (g < w4.heap.size ∧ ¬ T g) ∧ w4.cell? ⟨g, k * 3, none⟩ = some (.int .i64 x.f) ∧ w4.cell? ⟨g, k * 3 + 1, none⟩ = some (.int .i64 x.t) ∧ w4.cell? ⟨g, k * 3 + 2, none⟩ = some (.int .i64 x.i)) := by
    intro k x hx
    obtain ⟨g, rfl⟩ := hgx (by have := (List.getElem?_eq_some_iff.1 hx).1; omega)
    have l := World.ownsRow.lt R4.out g rfl
    exact ⟨g, rfl, ⟨l.2, fun q => by have := (HLT.out _ q).1; have := B4.out.size; have l1 : w3.heap.size ≤ g := l.1; omega⟩, rowT_cells3 R4.out hx⟩
  clear HC3 S3 B4 hgx R4 HC4 hO w1f w1t
  go_wp2_with fail
  go_loopw [7, 8, 36] (fun f t i wr => ∃ (k : Nat) (a z : Int) (L' : List It) (vals' free' : List Int) (G : Int → Int), f = .int .i64 a ∧ t = .int .i64 z ∧ i = .int .i64 (k : Int) ∧ k ≤ X.length ∧ Hid (Mid (sF :: sT :: E) sF sT v F X k L' vals' free' a z G) ∧ Hid (Orig sF sT v F L X k L' a z) ∧ Hid (MovedL w4 wr B b T L' vals' free')) (fun f t i _ => X.length - (intOf i).toNat)
  case atStart => exact ⟨0, sF, sT, L, vals, free, F, rfl, rfl, rfl, by omega, M0.out, O0.out, MV0.out⟩
  case round =>
    obtain ⟨wo, rfl⟩ : ∃ wo : World, wo = wr := ⟨_, rfl⟩
    clear M0 O0 MV0
    obtain ⟨k, a, z, L1, vals1, free1, G, rfl, rfl, rfl, hk, MI, OR, MV⟩ := hrel
    by_cases hkl : k < X.length
    · obtain ⟨x, hx⟩ : ∃ x, X[k]? = some x := ⟨_, List.getElem?_eq_getElem hkl⟩
      obtain ⟨gx, rfl, ⟨gl, gT⟩, c0, c1, c2⟩ := CX.out k x hx
      have eg := MV.out.block gl gT
      have es := MV.out.block NS.out.1 NS.out.2
      replace c0 := (World.cell?_of_block (w := w4) (a := ⟨gx, _, none⟩) eg).trans c0
      replace c1 := (World.cell?_of_block (w := w4) (a := ⟨gx, _, none⟩) eg).trans c1
      replace c2 := (World.cell?_of_block (w := w4) (a := ⟨gx, _, none⟩) eg).trans c2
      have S0 := es.trans HS4.out
      obtain ⟨T1, LI, BU, OW⟩ := id MV.out
      obtain ⟨q1, hm, hl, nd, inv1, bd, out1⟩ := one_gone MI.out hx LI.sorted HEL.out
      have i0 : (0 : Int) ≤ (k : Int) := by omega
      have i1 : (k : Int) < ((X.length : Nat) : Int) := by omega
      have HK := Lib.hid hkl
      have kw : IntKind.i64.wrap ((k : Int) + 1) = (k : Int) + 1 := by rw [IntWalk.i64_left]; exact IntWalk.wrap64_in _ (by have := XL.out; omega)
      have BA := ba wo (Obj.cells #[.int .i64 x.f, .int .i64 x.t, .int .i64 x.i] 54)
      have XA := itAt_new wo x
      have SA := (BA.block iS (by have := BU.size; have := NS.out.1; omega)).trans S0
      have LA := LI.below BA
      have A := drop_is LA q1.1 q1.2.1 q1.2.2
      have TL : Hid (∀ j, T1 j → j < wo.heap.size) := fun j hj => (LI.lt j hj).1
      have NS1 : Hid (iS < wo.heap.size ∧ ¬ T1 iS) := ⟨by have := BU.size; have := NS.out.1; omega, fun q => by rcases OW iS q with r | r; exact NS.out.2 r; have := NS.out.1; omega⟩
      obtain ⟨wp, hwp⟩ : ∃ q, Hid (q = wo.alloc (Obj.cells #[.int .i64 x.f, .int .i64 x.t, .int .i64 x.i] 54)) := ⟨_, rfl⟩
      rw [← hwp.out] at BA XA SA LA A
      obtain ⟨ix, hix⟩ : ∃ q, Hid (wo.heap.size = q) := ⟨_, rfl⟩
      have NX : Hid (¬ T1 ix ∧ ix < wp.heap.size) := ⟨fun q => by have := TL.out _ q; have := hix.out; omega, by rw [← hix.out]; exact XA.lt⟩
      rw [hix.out] at XA
      obtain ⟨wv, hwv⟩ : ∃ q, Hid (va vals1 x.i = q) := ⟨_, rfl⟩
      rw [hwv.out] at A
      have XI := Lib.hid XA; have SI := Lib.hid SA; have BAH := Lib.hid BA; have HM := Lib.hid hm; have HLN := Lib.hid hl; have ND := Lib.hid nd; have IN1 := Lib.hid inv1; have BD := Lib.hid bd; have OUT1 := Lib.hid out1; have HXK := Lib.hid hx
      have x0 := XA.c0; have x1 := XA.c1; have x2 := XA.c2
      have WM : Hid (∀ w' L2 vals2 free2, MovedL wp w' B b T1 L2 vals2 free2 → MovedL w4 w' B b T L2 vals2 free2) := fun w' L2 vals2 free2 h => MovedL.step BU OW (MovedL.from BAH.out TL.out h)
      clear hx gl gT eg es S0 LI BU OW q1 hm hl nd inv1 bd out1 BA XA SA LA hk hkl MV
      go_upto_region 9 with fail
      rw [← hwp.out, hix.out]
      go_upto_region 10 with (go_at_call 17; (with_reducible refine A.mono ?_); rintro e w5 ⟨rfl, m5⟩; have M5 := Lib.hid m5; clear m5 A)
      clear c0 c1 c2 x0 x1 x2 i0 i1
      have X5 : ItAt w5 ix x := (M5.out.block NX.out.2 NX.out.1).trans XI.out
      have S5 := (M5.out.block (by rw [hwp.out, World.size_alloc]; have := NS1.out.1; omega) NS1.out.2).trans SI.out
      have x0 := X5.c0; have x1 := X5.c1; have x2 := X5.c2
      have s0 : w5.cell? ⟨iS, 0, none⟩ = some (.int .i64 sF) := by rw [cell_of_row w5 _ _ _ _ (0, 0) S5]; rfl
      have s1 : w5.cell? ⟨iS, 1, none⟩ = some (.int .i64 sT) := by rw [cell_of_row w5 _ _ _ _ (0, 0) S5]; rfl
      by_cases hq : wv = v
      · subst hq
        have MI2 := Lib.hid (MI.out.takes HX1.out HXK.out hwv.out HM.out HLN.out ND.out)
        have OR2 := Lib.hid (OR.out.takes HXK.out HM.out)
        clear X5 S5
        go_upto_region 11 with fail
        go_region
        all_goals
          go_wp2_with fail
          go_roundw
          case rel => exact ⟨k + 1, min a x.f, max z x.t, _, _, _, _, rfl, rfl, rfl, by have := HK.out; omega, MI2.out, OR2.out, WM.out _ _ _ _ (M5.out.line ((Below.refl _ _).drew))⟩
          case measure => show _ - ((k : Int) + 1).toNat < _ - ((k : Int)).toNat; have := HK.out; omega
      · have d1 : decide (wv = v) = false := by simpa using hq
        have d2 : (wv == v) = false := by simpa using hq
        have HQ := Lib.hid hq
        obtain ⟨T5, LI5, BU5, OW5⟩ := id M5.out
        have A1 := lay_is (v := wv) (a := x.f) (z := min x.t sF) LI5 IN1.out HEL.out BD.out.1 (by have := BD.out; omega) BD.out.2.2.2 (fun _ y hy => by have := OUT1.out y hy; omega)
        have NX5 : Hid (¬ T5 ix ∧ ix < w5.heap.size) := ⟨fun q => by rcases OW5 _ q with r | r; exact NX.out.1 r; have := NX.out.2; omega, X5.lt⟩
        have NS5 : Hid (¬ T5 iS ∧ iS < w5.heap.size) := ⟨fun q => by rcases OW5 _ q with r | r; exact NS1.out.2 r; have := NS1.out.1; rw [hwp.out, World.size_alloc] at r; omega, (Array.getElem?_eq_some_iff.1 S5).1⟩
        have XI5 := Lib.hid X5; have SI5 := Lib.hid S5
        have WM5 : Hid (∀ w' L2 vals2 free2, MovedL w5 w' B b T5 L2 vals2 free2 → MovedL wp w' B b T1 L2 vals2 free2) := fun w' L2 vals2 free2 h => MovedL.step BU5 OW5 h
        clear LI5 BU5 OW5 X5 S5 hq
        go_upto_region 13 with (go_at_call 18; (with_reducible refine A1.mono ?_); rintro e w6 ⟨⟨u6, rfl⟩, L2, vals2, free2, la2, m6⟩; have LD2 := Lib.hid la2; have M6 := Lib.hid m6; clear la2 m6 A1)
        clear x0 x1 x2 s0 s1 d1 d2
        have X6 : ItAt w6 ix x := (M6.out.block NX5.out.2 NX5.out.1).trans XI5.out
        have S6 := (M6.out.block NS5.out.2 NS5.out.1).trans SI5.out
        have x0 := X6.c0; have x1 := X6.c1; have x2 := X6.c2
        have s1 : w6.cell? ⟨iS, 1, none⟩ = some (.int .i64 sT) := by rw [cell_of_row w6 _ _ _ _ (0, 0) S6]; rfl
        obtain ⟨T6, LI6, BU6, OW6⟩ := id M6.out
        have A2 := lay_is (v := wv) (a := max x.f sT) (z := x.t) LI6 LD2.out.1 HEL.out (by have := BD.out; omega) BD.out.2.2.1 (by
            rcases Int.le_total x.f sT with e | e
            · rw [Int.max_eq_right e]; simp
            · rw [Int.max_eq_left e]; exact BD.out.2.2.2) (fun _ y hy => by
            have h := HS.out
            have bx := BD.out
            rcases LD2.out.2.2.1 y hy with r | ⟨r1, r2, r3⟩
            · have := OUT1.out y r; omega
            · omega)
        have WM6 : Hid (∀ w' L2' vals2' free2', MovedL w6 w' B b T6 L2' vals2' free2' → MovedL w5 w' B b T5 L2' vals2' free2') := fun w' L2' vals2' free2' h => MovedL.step BU6 OW6 h
        clear LI6 BU6 OW6 X6 S6
        go_wp2_with (go_at_call 18; (with_reducible refine A2.mono ?_); rintro e w7 ⟨⟨u7, rfl⟩, L3, vals3, free3, la3, m7⟩; have LD3 := Lib.hid la3; have M7 := Lib.hid m7; clear la3 m7 A2)
        go_roundw
        case rel =>
          obtain ⟨G', MI2⟩ := MI.out.parts HX1.out HS.out.2.1 HXK.out HM.out HLN.out ND.out (by rw [hwv.out]; exact LD2.out) (by rw [hwv.out]; exact LD3.out)
          have FX : F x.f ≠ v := by
            have hx := MI.out.todo k x (Nat.le_refl _) HXK.out
            rw [← MI.out.same k x (Nat.le_refl _) HXK.out x.f (Int.le_refl _) BD.out.2.1, MI.out.fn.1 x hx x.f (Int.le_refl _) BD.out.2.1, hwv.out]; exact HQ.out
          refine ⟨k + 1, a, z, L3, vals3, free3, G', rfl, rfl, rfl, by have := HK.out; omega, MI2, OR.out.parts HX1.out HXK.out (HX2.out k x HXK.out) FX HM.out LD2.out LD3.out, WM.out _ _ _ _ (WM5.out _ _ _ _ (WM6.out _ _ _ _ M7.out))⟩
        case measure => show _ - ((k : Int) + 1).toNat < _ - ((k : Int)).toNat; have := HK.out; omega
    · have hke : k = X.length := by omega
      have HKE := Lib.hid hke
      obtain ⟨T1, LI, BU, OW⟩ := id MV.out
      obtain ⟨u1, u2, u3, u4, u5⟩ := MI.out.hull
      have A1 := lay_is (v := v) (a := a) (z := z) LI MI.out.inv HEL.out u3 u4 u5 (fun _ y hy => MI.out.free (by omega) y hy)
      have d1 : ¬ ((k : Int) < ((X.length : Nat) : Int)) := by omega
      have d2 : decide ((k : Int) < ((X.length : Nat) : Int)) = false := by simpa using d1
      have d3 : decide (k < X.length) = false := by simp; omega
      have WM : Hid (∀ w' L2 vals2 free2, MovedL wo w' B b T1 L2 vals2 free2 → MovedL w w' B b T L2 vals2 free2) := fun w' L2 vals2 free2 h => MovedL.from B5.out (fun j hj => (HLT.out j hj).1) (MovedL.step BU OW h)
      clear hk hkl hke LI BU OW u1 u2 u3 u4 u5 MV
      go_wp2_with (go_at_call 18; (with_reducible refine A1.mono ?_); rintro e w7 ⟨⟨u7, rfl⟩, L3, vals3, free3, la3, m7⟩; have LD3 := Lib.hid la3; have M7 := Lib.hid m7; clear la3 m7 A1)
      go_ret
      obtain ⟨p1, p2⟩ := MI.out.done LD3.out
      refine ⟨rfl, L3, vals3, free3, p1, p2, fun hS => ?_, WM.out _ _ _ _ M7.out⟩
      refine OR.out.done (vals' := vals3) (free' := free3) MI.out HS.out.2.1 (by have := HKE.out; omega) HI.out HF.out hS HX2.out HX3.out fun y hy => ?_
      rcases LD3.out.2.2.1 y hy with r | ⟨r1, r2, r3⟩
      · exact .inl r
      · refine .inr ⟨r1, r2, fun e => ?_⟩
        have f1 := (LD3.out.2.1 _ MI.out.fn).1 y hy a (by omega) (by omega)
        rw [upd_in (Int.le_refl _) r3] at f1
        exact (LD3.out.1.id y hy).2.2 (f1.symm.trans e)
end Go.Proofs.Ytmgljgmfipodeaa.Tl
