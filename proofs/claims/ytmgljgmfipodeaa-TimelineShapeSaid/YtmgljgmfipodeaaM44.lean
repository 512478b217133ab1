/-
  timeline: Segs over a span that may be, walked.
-/
import Derived.Test.YtmgljgmfipodeaaM41
import Derived.Test.YtmgljgmfipodeaaM43
/-
  timeline: Segs over a span that may be, walked.
-/
namespace Go.Proofs.Ytmgljgmfipodeaa.Tl
open Go Go.RowKit Av Itr
set_option linter.unusedSimpArgs false
set_option linter.unusedVariables false
attribute [local go_sem ↓] Go.wp_at_zero Go.wp_at_succ
attribute [local go_sem] Oper.semAt_some
attribute [local go_sem ↓] run_min2

/-- the boxes that stay, while the segments are told -/
structure Fix (w W : World) (k m b : Nat) (sF sT : Int) : Prop where
  t : TBox W k b
  s : SBox W (k + 1) sF sT
  z : Boxed W m 3 (.int .i64 0)
  f : Boxed W (m + 1 + 1) 58 (addF (m + 1) (k + 1 + 1))
  bel : Below k w W
theorem Fix.keep {w W W' : World} {k m b : Nat} {sF sT : Int} (h : Fix w W k m b sF sT) (e : ∀ j, j < W.heap.size → (j = k ∨ j = k + 1 ∨ j = m ∨ j = m + 1 + 1) → W'.heap[j]? = W.heap[j]?) (hb : Below k w W') : Fix w W' k m b sF sT :=
  ⟨(e k h.t.lt (by omega)).trans h.t, (e (k + 1) (Array.getElem?_eq_some_iff.1 h.s).1 (by omega)).trans h.s, (e m h.z.lt (by omega)).trans h.z, (e (m + 1 + 1) h.f.lt (by omega)).trans h.f, hb⟩
theorem Fix.below {w W W' : World} {k m b : Nat} {sF sT : Int} (h : Fix w W k m b sF sT) (c : Below W.heap.size W W') (hk : k ≤ W.heap.size) : Fix w W' k m b sF sT :=
  h.keep (fun j hj _ => c.block j hj) (h.bel.trans (c.mono hk))
/-- what stands in memory, while the segments are told -/
def SegI (w : World) (k m b : Nat) (sF sT : Int) (vals : List Int) (pre : List It) (W : World) : Prop :=
  Boxed W (m + 1) 3 (.int .i64 (segP sT vals pre (sF, [])).1) ∧ (∃ vo, Boxed W (k + 1 + 1) 34 vo ∧ segE.Row W (m + 5 + 2 + 1) vo (segP sT vals pre (sF, [])).2) ∧ Fix w W k m b sF sT
theorem seg_steady {w : World} {k m b : Nat} {sF sT : Int} {vals : List Int} (hk : w.heap.size = k) (hkm : k + 3 ≤ m) : Steady (Itr.Own (m + 5) 1) (SegI w k m b sF sT vals) := by
  rintro s A C row ⟨h1, ⟨vo, h2, h3⟩, h4⟩ hg hr
  have ne : ∀ j, j < m + 5 → some j ≠ row := fun j hj e => by have := (hr j e.symm).1; omega
  have L : ∀ {j : Nat} {o : Obj}, A.heap[j]? = some o → j < m + 5 → C.heap[j]? = some o := fun e hj => (hg.block _ (Array.getElem?_eq_some_iff.1 e).1 (ne _ hj)).trans e
  refine ⟨L h1 (by omega), ⟨vo, L h2 (by omega), h3.kept hg ?_⟩, ⟨L h4.t (by omega), L h4.s (by omega), L h4.z (by omega), L h4.f (by omega), h4.bel.grown hg (by have := h4.bel.size; omega) (fun r e => by have := (hr r e).1; omega)⟩⟩
  by_cases e : vo.ownBlock = none
  · exact .inl e
  · refine .inr fun e' => ?_
    obtain ⟨j, hj⟩ := Option.ne_none_iff_exists'.1 e
    have h4 := (h3.lt j hj).1
    have h5 := (hr j (e'.symm.trans hj)).2
    omega
/-- behind a call of 'add' -/
theorem Fix.add {w W W' : World} {k m b base : Nat} {sF sT : Int} {vo : Value} {st : Int × List (Int × Int × Int)} {out : List (Int × Int × Int)} (h : Fix w W k m b sF sT) (a : AddPost W W' (m + 1) (k + 1 + 1) base vo st) (hr : segE.Row W base vo out) (hb : m + 1 + 1 < base) (hkm : k + 3 ≤ m) (hk : k ≤ W.heap.size) : Fix w W' k m b sF sT := by
  refine h.keep (fun j hj hs => (a.keep (fun j => j = k ∨ j = k + 1 ∨ j = m ∨ j = m + 1 + 1) (fun g hg q => ?_) ?_ ?_).same j hs hj) (h.bel.trans (a.bel k (fun g hg => ?_) ?_ ?_ hk))
  · have := (hr.lt g hg).1; omega
  · omega
  · omega
  · have := (hr.lt g hg).1; omega
  · omega
  · omega
set_option maxRecDepth 100000 in
set_option maxHeartbeats 4000000 in
theorem segs_good {w : World} {B b : Nat} {T : Nat → Prop} {E : List Int} {L : List It} {vals free : List Int} {sF sT : Int} (h : LineIs w B b T L vals free) (hi : Inv E L vals free) (hE : E.length ≤ 1000) (hm : mayS sF sT = true) :
    Calls Try.prog 9 #[.pointer (some ⟨b, 0, none⟩), .agg #[.int .i64 sF, .int .i64 sT]] w fun e w' => ∃ v, e = .returned v ∧ segE.Row w' w.heap.size v (segs sT vals (overS sF sT L) (sF, [])).2 ∧ Below w.heap.size w w' := by
  obtain ⟨tb, O, vv, fv, h, _⟩ := h
  obtain ⟨t0, s0, o0, B0, z0⟩ := three_new w b sF sT
  have A := none_is (h.below B0).box
  have M := may_is sF sT (((w.alloc (.cells #[.pointer (some ⟨b, 0, none⟩)] 28)).alloc (.cells #[.int .i64 sF, .int .i64 sT] 24)).alloc (.cells #[.slice none 0 0] 34))
  rw [hm] at M
  have HC := Lib.hid h
  have HI := Lib.hid hi
  have HE := Lib.hid hE
  clear h hm hi hE
  refine calls_marks Try.func9 rfl ?_
  simp only [Try.ntmps9, List.size_toArray, List.length_cons, List.length_nil, Nat.reduceAdd, Nat.reduceSub, Array.replicate_succ, Array.replicate_zero, List.push_toArray, List.append_toArray, List.nil_append, List.cons_append]
  go_upto_region 1 with fail
  generalize World.alloc (World.alloc (World.alloc w _) _) _ = W0 at t0 s0 o0 B0 z0 A M ⊢
  obtain ⟨k, hk⟩ : ∃ i, Hid (w.heap.size = i) := ⟨_, rfl⟩
  rw [hk.out] at t0 s0 o0 B0 z0 ⊢
  have c0 := t0.cell
  have c1 := s0.c0
  have c2 := s0.c1
  have O0 := Lib.hid o0; have T0 := Lib.hid t0; have S0 := Lib.hid s0
  have HB0 := Lib.hid B0; have Z0 := Lib.hid z0
  clear t0 s0 o0 B0 z0
  go_upto_region 3 with (first
    | (go_at_call 14; (with_reducible refine A.mono ?_); rintro e w20 ⟨rfl, hq⟩; obtain rfl := hq.symm; clear A)
    | (go_at_call 15; (with_reducible refine M.mono ?_); rintro e w2 ⟨rfl, b2⟩; have B2 := Lib.hid b2; clear b2 M))
  have b2 := B2.out
  rw [Z0.out] at b2
  have O2 : Boxed w2 (k + 1 + 1) 34 (.slice none 0 0) := (b2.block _ (by omega)).trans O0.out
  have T2 : TBox w2 k b := (b2.block _ (by omega)).trans T0.out
  have S2 : SBox w2 (k + 1) sF sT := (b2.block _ (by omega)).trans S0.out
  obtain ⟨m, hmm⟩ : ∃ i, Hid (w2.heap.size = i) := ⟨_, rfl⟩
  have KM : Hid (k + 3 ≤ m) := by show _ ≤ _; rw [← hmm.out, ← Z0.out]; exact b2.size
  have B2k : Hid (Below k w w2) := HB0.out.trans (b2.mono (by omega))
  clear b2 B2 O0 T0 S0 HB0 Z0 c0 c1 c2
  have c1 := S2.c0
  replace O2 := Lib.hid O2; replace T2 := Lib.hid T2; replace S2 := Lib.hid S2
  go_upto_region 4 with fail
  rw [hmm.out]
  have K1 := ba w2 (.cells #[Value.int .i64 0] 3)
  have Z1 := Boxed.new w2 3 (.int .i64 0)
  rw [hmm.out] at Z1
  have z1 : (w2.alloc (.cells #[Value.int .i64 0] 3)).heap.size = m + 1 := by rw [World.size_alloc, hmm.out]
  have c1' := S2.out.c0
  replace c1 : (w2.alloc (.cells #[Value.int .i64 0] 3)).cell? ⟨k + 1, 0, none⟩ = some (.int .i64 sF) := (K1.cell (p := ⟨k + 1, 0, none⟩) (by show k + 1 < _; have := KM.out; have := hmm.out; omega)).trans c1
  clear c1'
  generalize World.alloc w2 _ = w3 at K1 Z1 z1 c1 ⊢
  go_upto_region 5 with fail
  have K2 := ba w3 (.cells #[Value.int .i64 sF] 3)
  have A2 := Boxed.new w3 3 (.int .i64 sF)
  rw [z1] at A2
  have z2 : (w3.alloc (.cells #[Value.int .i64 sF] 3)).heap.size = m + 2 := by rw [World.size_alloc, z1]
  replace K2 := bt K1 K2
  replace Z1 : Boxed (w3.alloc (.cells #[Value.int .i64 sF] 3)) m 3 (.int .i64 0) := Z1.alloc _
  generalize World.alloc w3 _ = w4 at K2 A2 z2 Z1 ⊢
  clear K1 z1 c1
  go_upto_region 6 with fail
  have K3 := bt K2 (ba w4 (.cells #[addF (m + 1) (k + 1 + 1)] 58))
  have F3 := Boxed.new w4 58 (addF (m + 1) (k + 1 + 1))
  rw [z2] at F3
  have z3 : (w4.alloc (.cells #[addF (m + 1) (k + 1 + 1)] 58)).heap.size = m + 3 := by rw [World.size_alloc, z2]
  replace Z1 : Boxed (w4.alloc (.cells #[addF (m + 1) (k + 1 + 1)] 58)) m 3 (.int .i64 0) := Z1.alloc _
  replace A2 : Boxed (w4.alloc (.cells #[addF (m + 1) (k + 1 + 1)] 58)) (m + 1) 3 (.int .i64 sF) := A2.alloc _
  unfold addF at K3 F3 z3 Z1 A2
  generalize World.alloc w4 _ = w5 at K3 F3 z3 Z1 A2 ⊢
  clear K2 z2
  have k2 : ∀ j, j < m → w5.heap[j]? = w2.heap[j]? := fun j hj => K3.block j (by have := hmm.out; omega)
  have B5 : Below k w w5 := B2k.out.trans (K3.mono (by have := KM.out; have := hmm.out; omega))
  have FX5 : Hid (Fix w w5 k m b sF sT) := ⟨(k2 k (by have := KM.out; omega)).trans T2.out, (k2 (k + 1) (by have := KM.out; omega)).trans S2.out, Z1, F3, B5⟩
  have O5 : Hid (Boxed w5 (k + 1 + 1) 34 (.slice none 0 0)) := (k2 (k + 1 + 1) (by have := KM.out; omega)).trans O2.out
  have AT5 := Lib.hid A2
  have Z5 := Lib.hid z3
  have C5 := HC.out.below (show Below w.heap.size w w5 by rw [hk.out]; exact B5)
  have c0 := C5.box.c0
  have t0 := FX5.out.t.cell
  have s0 := FX5.out.s.c0
  have s1 := FX5.out.s.c1
  have HC5 := Lib.hid C5
  have AL := all_is (w := w5.drew) tb sF sT
  have HS0 : (fun w' : World => w'.cell? ⟨b, 0, none⟩ = some (.pointer (some ⟨tb, 0, none⟩)) ∧ w'.cell? ⟨k, 0, none⟩ = some (.pointer (some ⟨b, 0, none⟩)) ∧ w'.cell? ⟨k + 1, 0, none⟩ = some (.int .i64 sF) ∧ w'.cell? ⟨k + 1, 1, none⟩ = some (.int .i64 sT)) w5.drew := ⟨c0, t0, s0, s1⟩
  clear K3 F3 z3 Z1 A2 k2 B5 O2 T2 S2 C5
  rw [show w5.drew.heap.size = m + 3 from Z5.out] at AL
  go_region_held3 (fun w' : World => w'.cell? ⟨b, 0, none⟩ = some (.pointer (some ⟨tb, 0, none⟩)) ∧ w'.cell? ⟨k, 0, none⟩ = some (.pointer (some ⟨b, 0, none⟩)) ∧ w'.cell? ⟨k + 1, 0, none⟩ = some (.int .i64 sF) ∧ w'.cell? ⟨k + 1, 1, none⟩ = some (.int .i64 sT))
    (first | with_reducible exact HS0 | with_reducible assumption)
    (first
      | (go_at_call 21; go_loud ((with_reducible refine AL.mono ?_); rintro e w6 ⟨rfl, hw6⟩; have B6 : Below w5.heap.size w5 w6 := (by rw [hw6]; exact ((Below.refl w5.heap.size w5).drew).trans (bt (ba w5.drew _) (ba _ _))); have FX6 := Lib.hid (FX5.out.below B6 (by have := Z5.out; have := KM.out; omega)); have HC6 := Lib.hid (HC5.out.below B6); have HS1 := And.intro HC6.out.box.c0 (And.intro FX6.out.t.cell (And.intro FX6.out.s.c0 FX6.out.s.c1)); have HB6 := Lib.hid B6; have HW6 := Lib.hid hw6; clear B6 hw6 AL)))
  clear HS0 HS1 c0 t0 s0 s1
  unfold seqV
  go_wp2_with fail
  rename_i Q1 K hK HS
  have z6 : w6.heap.size = m + 5 := by rw [HW6.out, World.size_alloc, World.size_alloc]; show w5.heap.size + 1 + 1 = _; rw [Z5.out]
  have s6 : w6.heap[m + 3 + 1]? = some (.cells #[.int .i64 sF, .int .i64 sT] 24 (0, 0)) := by
    rw [HW6.out]
    have := heap_alloc_new (w5.drew.alloc (.cells #[.pointer (some ⟨tb, 0, none⟩)] 45)) (.cells #[.int .i64 sF, .int .i64 sT] 24)
    rw [World.size_alloc, show w5.drew.heap.size = m + 3 from Z5.out] at this; exact this
  have t6 : w6.heap[m + 3]? = some (.cells #[.pointer (some ⟨tb, 0, none⟩)] 45 (0, 0)) := by
    rw [HW6.out]
    refine (Below.heap_alloc _ _ _ (by rw [World.size_alloc]; show m + 3 < w5.heap.size + 1; rw [Z5.out]; omega)).trans ?_
    have := heap_alloc_new w5.drew (.cells #[.pointer (some ⟨tb, 0, none⟩)] 45)
    rw [show w5.drew.heap.size = m + 3 from Z5.out] at this; exact this
  have OK : ∀ j, O j → j < k := fun j hj => by have := HC.out.tr.lt j hj; have := hk.out; omega
  have TT : ∀ j, (O j ∨ j = m + 3 + 1 ∨ j = m + 3) → j < m + 5 ∧ j ≠ m + 1 ∧ j ≠ k + 1 + 1 := by
    have km := KM.out
    rintro j (hj | hj | hj)
    · have := OK j hj; omega
    · omega
    · omega
  have ST : Steady (Itr.Own (m + 5) 1) (SegI w k m b sF sT vals) := seg_steady hk.out KM.out
  have O6 : Boxed w6 (k + 1 + 1) 34 (.slice none 0 0) := (HB6.out.block _ O5.out.lt).trans O5.out
  have A6 : Boxed w6 (m + 1) 3 (.int .i64 sF) := (HB6.out.block _ AT5.out.lt).trans AT5.out
  have XM : Hid (∀ pre x, (pre ++ [x]) <+: overS sF sT L → x ∈ L ∧ pre.length < 1000) := by
    intro pre x hp
    obtain ⟨tl, htl⟩ := hp
    have hx : x ∈ overS sF sT L := by rw [← htl]; simp
    have hlen : (overS sF sT L).length ≤ L.length := over_len _ _ _
    have hl2 := congrArg List.length htl
    simp only [List.length_append, List.length_singleton] at hl2
    have h1 := HI.out.len; have h2 := HI.out.most; have h3 := HE.out
    refine ⟨?_, by omega⟩
    unfold overS over at hx
    split at hx
    · exact (List.mem_filter.1 hx).1
    · cases hx
  replace ST := Lib.hid ST
  replace TT := Lib.hid TT
  clear OK HS
  refine (wpIn_wide (n := 10)).1 (rangeAtP (T := fun g => O g ∨ g = m + 3 + 1 ∨ g = m + 3) z6 (gf := 27) (lb := #[.pointer (some ⟨m + 3 + 1, 0, none⟩), .pointer (some ⟨m + 3, 0, none⟩)]) rfl enters_all1 (fun j hj => (TT.out j hj).1) (all1_atP HC6.out.tr s6 t6 (fun g hg => hg)) (fun x => rfl)
    (SegI w k m b sF sT vals) (fun _ _ _ => False) ST.out (fun _ _ _ _ _ h _ _ => h) ⟨A6, ⟨_, O6, Elem.Row.nil _ _⟩, FX6.out⟩
    (fun x a' W => ∃ q, Hid (m + 5 + 2 + 1 ≤ q) ∧ Hid (W.heap[q]? = some (.cells #[.int .i64 x.f, .int .i64 x.t, .int .i64 x.i] 54 (0, 0))) ∧ a' = { tmps := #[.pointer (some ⟨b, 0, none⟩), .agg #[.int .i64 sF, .int .i64 sT], .pointer (some ⟨k, 0, none⟩), .pointer (some ⟨k + 1, 0, none⟩), .pointer (some ⟨k + 1 + 1, 0, none⟩), .pointer (some ⟨m, 0, none⟩), .pointer (some ⟨m + 1, 0, none⟩), .pointer (some ⟨m + 2, 0, none⟩), .pointer (some ⟨q, 0, none⟩), .pointer (some ⟨b, 0, none⟩), .bool false, .bool false, .agg #[.int .i64 sF, .int .i64 sT], .bool true, .bool false, .bool false, .pointer (some ⟨k + 1, 0, none⟩), .int .i64 sF, .func (.func 20) #[] #[.pointer (some ⟨m + 1, 0, none⟩), .pointer (some ⟨k + 1 + 1, 0, none⟩)], .pointer (some ⟨b, 0, none⟩), .pointer (some ⟨b, 0, none⟩), .pointer (some ⟨b, 0, none⟩), .pointer (some ⟨tb, 0, none⟩), .agg #[.int .i64 sF, .int .i64 sT], .func (.func 27) #[] #[.pointer (some ⟨m + 3 + 1, 0, none⟩), .pointer (some ⟨m + 3, 0, none⟩)], itV x, undef, undef, undef, undef, undef, undef, undef, undef, undef, undef, undef, undef, undef, undef, undef, undef, undef, undef, undef, undef, undef, undef, undef, undef, undef, undef], defers := [] })
    ?ax ?assign ?body ?done ?stop)
  case ax =>
    rintro x a' s A C row ⟨q, h1, h2, h3⟩ hg hr
    refine ⟨q, h1, (hg.block q (Array.getElem?_eq_some_iff.1 h2.out).1 (fun e => ?_)).trans h2.out, h3⟩
    have := (hr q e.symm).2
    have := h1.out
    omega
  case assign =>
    intro l pre x W K' hsz hI hK'
    obtain ⟨q, hq⟩ : ∃ i, Hid (W.heap.size = i) := ⟨_, rfl⟩
    have hK2 := hK' _ (W.alloc (.cells #[.int .i64 x.f, .int .i64 x.t, .int .i64 x.i] 54)) ((Keep.refl _ W).alloc _) (ST.out.alloc _ hI) ⟨q, by rw [← hq.out]; exact hsz, by rw [← hq.out]; exact heap_alloc_new W _, rfl⟩
    rw [hq.out] at hsz
    clear hK' hK
    unfold itV at hK2 ⊢
    gi_wp2
    rw [hq.out]
    exact hK2
  case body =>
    rintro l pre x a' W hsz ⟨hat, ⟨vo, hvo, hrow⟩, hfx⟩ ⟨q, hq, hx, rfl⟩ hpre
    obtain ⟨hxL, hlen⟩ := XM.out pre x hpre
    have km := KM.out
    obtain ⟨xf, xt, xi⟩ := x
    have hid := HI.out.id _ hxL
    dsimp only at hx hid ⊢
    obtain ⟨n, rfl⟩ : ∃ n : Nat, (n : Int) = xi := ⟨xi.toNat, by omega⟩
    have hn : n < vals.length := by omega
    obtain ⟨u, hu⟩ : ∃ u, Hid (vals[n]? = some u) := ⟨_, List.getElem?_eq_getElem hn⟩
    have hva : va vals (n : Int) = u := by unfold va; rw [List.getD_eq_getElem?_getD, Int.toNat_natCast, hu.out]; rfl
    have hl1 : (segP sT vals pre (sF, [])).2.length < 999000 := by have := segP_len sT vals pre (sF, []); simp only [List.length_nil] at this; omega
    have HSN : Hid (segP sT vals (pre ++ [⟨xf, xt, (n : Int)⟩]) (sF, []) = addS (addS (segP sT vals pre (sF, [])) xf 0) (min xt sT) u) := by
      show _ = _; rw [segP_snoc]; unfold step1; rw [show va vals (⟨xf, xt, (n : Int)⟩ : It).i = u from hva]
    obtain ⟨st, hst⟩ : ∃ st, Hid (segP sT vals pre (sF, []) = st) := ⟨_, rfl⟩
    rw [hst.out] at hat hrow hl1 HSN
    have HA := addseg_is xf 0 (show Boxed W (m + 1) 3 (.int .i64 st.1) from hat) hvo hrow (by omega) (by omega)
    have c0 : W.cell? ⟨q, 0, none⟩ = some (.int .i64 xf) := by rw [cell_of_row W _ _ _ _ (0, 0) hx.out]; rfl
    have c1 := hfx.z.cell
    have c2 := hfx.f.cell
    unfold addF at c2
    have HX := Lib.hid hx.out
    have HROW := Lib.hid hrow; have HVO := Lib.hid hvo; have HFX := Lib.hid hfx; have HL1 := Lib.hid hl1; have HAT := Lib.hid hat
    have HSZ := Lib.hid hsz; have HQ := Lib.hid hq.out; have HN := Lib.hid hn
    clear hrow hvo hfx hl1 hat hsz hq hx hn hid hva hxL hlen hpre hK hst
    gi_upto_region 9 with (refine ⟨trivial, ?_⟩; gi_at_call 20; go_loud (show CallsIn Fence.wide _ _ _ _ _ _; refine (callsIn_wide.2 HA).mono ?_; rintro e w7 ⟨⟨u7, rfl⟩, ap7⟩; have AP := Lib.hid ap7; clear ap7 HA))
    have km := KM.out
    have kw : k ≤ W.heap.size := by have := HSZ.out; omega
    have qlo := HQ.out
    have hat7 := AP.out.at'
    obtain ⟨v7, ho7, hr7⟩ := AP.out.out
    have FX7 := HFX.out.add AP.out HROW.out (by omega) KM.out kw
    have X7 := ((AP.out.keep (· = q) (fun g hg e => by have := HROW.out.ne HX.out (by decide); rw [hg, e] at this; exact this rfl) (by show ¬ k + 1 + 1 = q; omega) (by show ¬ m + 1 = q; omega)).same q rfl (Array.getElem?_eq_some_iff.1 HX.out).1).trans HX.out
    have C7 := HC.out.below (show Below w.heap.size w w7 by rw [hk.out]; exact FX7.bel)
    obtain ⟨av, cv, ev, _, hgv⟩ := C7.rv.form
    obtain ⟨g, rfl⟩ := hgv (by have := HN.out; omega)
    subst ev
    have mkS : ∀ w' : World, Fix w w' k m b sF sT → w'.heap[q]? = some (.cells #[.int .i64 xf, .int .i64 xt, .int .i64 (n : Int)] 54 (0, 0)) → (w'.cell? ⟨m + 1 + 1, 0, none⟩ = some (.func (.func 20) #[] #[.pointer (some ⟨m + 1, 0, none⟩), .pointer (some ⟨k + 1 + 1, 0, none⟩)]) ∧ w'.cell? ⟨q, 1, none⟩ = some (.int .i64 xt) ∧ w'.cell? ⟨q, 2, none⟩ = some (.int .i64 (n : Int)) ∧ w'.cell? ⟨k + 1, 1, none⟩ = some (.int .i64 sT) ∧ w'.cell? ⟨k, 0, none⟩ = some (.pointer (some ⟨b, 0, none⟩)) ∧ w'.cell? ⟨b, 1, none⟩ = some (.slice (some ⟨g, 0, none⟩) vals.length cv) ∧ w'.cell? ⟨g, n, none⟩ = some (.int .i64 u)) := fun w' hf hq => by
      have C8 := HC.out.below (show Below w.heap.size w w' by rw [hk.out]; exact hf.bel)
      have c2 := hf.f.cell
      unfold addF at c2
      exact ⟨c2, by rw [cell_of_row w' _ _ _ _ (0, 0) hq]; rfl, by rw [cell_of_row w' _ _ _ _ (0, 0) hq]; rfl, hf.s.c1, hf.t.cell, C8.box.c1, rowi_cell C8.rv n u hu.out⟩
    have sz7 : W.heap.size ≤ w7.heap.size := (AP.out.bel 0 (fun _ _ => Nat.zero_le _) (Nat.zero_le _) (Nat.zero_le _) (Nat.zero_le _)).size
    obtain ⟨st1, hst1⟩ : ∃ st1, Hid (addS (st.1, st.2) xf 0 = st1) := ⟨_, rfl⟩
    rw [hst1.out] at hat7 hr7
    have hl7 : st1.2.length < 1000000 := by have := addS_len (st.1, st.2) xf 0; rw [hst1.out] at this; have h2 := HL1.out; have e : ((st.1, st.2) : Int × List (Int × Int × Int)).2.length = st.2.length := rfl; omega
    have HA2 := addseg_is (W := w7.drew) (min xt sT) u (show Boxed w7.drew (m + 1) 3 (.int .i64 st1.1) from hat7) (show Boxed w7.drew (k + 1 + 1) 34 v7 from ho7) (show segE.Row w7.drew (m + 5 + 2 + 1) v7 st1.2 from hr7) hl7 (by show m + 5 + 2 + 1 ≤ w7.heap.size; have := HSZ.out; omega)
    have HR7 := Lib.hid hr7; have HF7 := Lib.hid FX7; have HX7 := Lib.hid X7; have HSZ7 := Lib.hid sz7; have HO7 := Lib.hid ho7; have HA7 := Lib.hid hat7
    have i0 : (0 : Int) ≤ (n : Int) := by omega
    have i1 : (n : Int) < ((vals.length : Nat) : Int) := by have := HN.out; omega
    have HS0 := mkS w7.drew (FX7.below ((Below.refl w7.heap.size w7).drew) (by omega)) X7
    clear hr7 FX7 X7 sz7 ho7 hat7 hl7 C7 hgv c0 c1 c2 km kw qlo
    refine region_round_held (S := fun w' => (w'.cell? ⟨m + 1 + 1, 0, none⟩ = some (.func (.func 20) #[] #[.pointer (some ⟨m + 1, 0, none⟩), .pointer (some ⟨k + 1 + 1, 0, none⟩)]) ∧ w'.cell? ⟨q, 1, none⟩ = some (.int .i64 xt) ∧ w'.cell? ⟨q, 2, none⟩ = some (.int .i64 (n : Int)) ∧ w'.cell? ⟨k + 1, 1, none⟩ = some (.int .i64 sT) ∧ w'.cell? ⟨k, 0, none⟩ = some (.pointer (some ⟨b, 0, none⟩)) ∧ w'.cell? ⟨b, 1, none⟩ = some (.slice (some ⟨g, 0, none⟩) vals.length cv) ∧ w'.cell? ⟨g, n, none⟩ = some (.int .i64 u))) (by kernel_rfl) (by kernel_rfl) (fun h => by obtain ⟨_, _, h⟩ := h; exact h) ?_
    (refine wpAnyH_take (i := 0) (v := ?_) rfl (by kernel_rfl) (by kernel_rfl) (by kernel_rfl) (fun _ _ _ h => h) (Or.inl ⟨by rfl, ?_⟩) HS0 ?_; case refine_2 => (intro w hSw; (try dsimp only at hSw); go_simp; try with_reducible rfl); try simp only [Act.put, List.setIfInBounds_toArray, List.set_cons_zero, List.set_cons_succ])
    (refine wpAnyH_take (i := 1) (v := ?_) rfl (by kernel_rfl) (by kernel_rfl) (by kernel_rfl) (fun _ _ _ h => h) (Or.inl ⟨by rfl, ?_⟩) HS0 ?_; case refine_2 => (intro w hSw; (try dsimp only at hSw); go_simp; try with_reducible rfl); try simp only [Act.put, List.setIfInBounds_toArray, List.set_cons_zero, List.set_cons_succ])
    (refine wpAnyH_take (i := 2) (v := ?_) rfl (by kernel_rfl) (by kernel_rfl) (by kernel_rfl) (fun _ _ _ h => h) (Or.inl ⟨by rfl, ?_⟩) HS0 ?_; case refine_2 => (intro w hSw; (try dsimp only at hSw); go_simp; try with_reducible rfl); try simp only [Act.put, List.setIfInBounds_toArray, List.set_cons_zero, List.set_cons_succ])
    (refine wpAnyH_take (i := 3) (v := ?_) rfl (by kernel_rfl) (by kernel_rfl) (by kernel_rfl) (fun _ _ _ h => h) (Or.inl ⟨by rfl, ?_⟩) HS0 ?_; case refine_2 => (intro w hSw; (try dsimp only at hSw); go_simp; try with_reducible rfl); try simp only [Act.put, List.setIfInBounds_toArray, List.set_cons_zero, List.set_cons_succ])
    (refine wpAnyH_take (i := 4) (v := ?_) rfl (by kernel_rfl) (by kernel_rfl) (by kernel_rfl) (fun _ _ _ h => h) (Or.inl ⟨by rfl, ?_⟩) HS0 ?_; case refine_2 => (intro w hSw; (try dsimp only at hSw); go_simp; try with_reducible rfl); try simp only [Act.put, List.setIfInBounds_toArray, List.set_cons_zero, List.set_cons_succ])
    (refine wpAnyH_take (i := 5) (v := ?_) rfl (by kernel_rfl) (by kernel_rfl) (by kernel_rfl) (fun _ _ _ h => h) (Or.inl ⟨by rfl, ?_⟩) HS0 ?_; case refine_2 => (intro w hSw; (try dsimp only at hSw); go_simp; try with_reducible rfl); try simp only [Act.put, List.setIfInBounds_toArray, List.set_cons_zero, List.set_cons_succ])
    (refine wpAnyH_take (i := 6) (v := ?_) rfl (by kernel_rfl) (by kernel_rfl) (by kernel_rfl) (fun _ _ _ h => h) (Or.inl ⟨by rfl, ?_⟩) HS0 ?_; case refine_2 => (intro w hSw; (try dsimp only at hSw); go_simp; try with_reducible rfl); try simp only [Act.put, List.setIfInBounds_toArray, List.set_cons_zero, List.set_cons_succ])
    (refine wpAnyH_take (i := 7) (v := ?_) rfl (by kernel_rfl) (by kernel_rfl) (by kernel_rfl) (fun _ _ _ h => h) (Or.inl ⟨by rfl, ?_⟩) HS0 ?_; case refine_2 => (intro w hSw; (try dsimp only at hSw); go_simp; try with_reducible rfl); try simp only [Act.put, List.setIfInBounds_toArray, List.set_cons_zero, List.set_cons_succ])
    (refine wpAnyH_take (i := 8) (v := ?_) rfl (by kernel_rfl) (by kernel_rfl) (by kernel_rfl) (fun _ _ _ h => h) (Or.inl ⟨by rfl, ?_⟩) HS0 ?_; case refine_2 => (intro w hSw; (try dsimp only at hSw); go_simp; try with_reducible rfl); try simp only [Act.put, List.setIfInBounds_toArray, List.set_cons_zero, List.set_cons_succ])
    (refine wpAnyH_take (i := 9) (v := ?_) rfl (by kernel_rfl) (by kernel_rfl) (by kernel_rfl) (fun _ _ _ h => h) (Or.inl ⟨by rfl, ?_⟩) HS0 ?_; case refine_2 => (intro w hSw; (try dsimp only at hSw); go_simp; try with_reducible rfl); try simp only [Act.put, List.setIfInBounds_toArray, List.set_cons_zero, List.set_cons_succ])
    (refine wpAnyH_take (i := 10) (v := ?_) rfl (by kernel_rfl) (by kernel_rfl) (by kernel_rfl) (fun _ _ _ h => h) (Or.inl ⟨by rfl, ?_⟩) HS0 ?_; case refine_2 => (intro w hSw; (try dsimp only at hSw); go_simp; try with_reducible rfl); try simp only [Act.put, List.setIfInBounds_toArray, List.set_cons_zero, List.set_cons_succ])
    (refine wpAnyH_take (i := 11) (v := ?_) rfl (by kernel_rfl) (by kernel_rfl) (by kernel_rfl) (fun _ _ _ h => h) (Or.inl ⟨by rfl, ?_⟩) HS0 ?_; case refine_2 => (intro w hSw; (try dsimp only at hSw); go_simp; try with_reducible rfl); try simp only [Act.put, List.setIfInBounds_toArray, List.set_cons_zero, List.set_cons_succ])
    (refine wpAnyH_take (i := 12) (v := ?_) rfl (by kernel_rfl) (by kernel_rfl) (by kernel_rfl) (fun _ _ _ h => h) (Or.inl ⟨by rfl, ?_⟩) HS0 ?_; case refine_2 => (intro w hSw; (try dsimp only at hSw); go_simp; try with_reducible rfl); try simp only [Act.put, List.setIfInBounds_toArray, List.set_cons_zero, List.set_cons_succ])
    (refine wpAnyH_take (i := 13) (v := ?_) rfl (by kernel_rfl) (by kernel_rfl) (by kernel_rfl) (fun _ _ _ h => h) (Or.inl ⟨by rfl, ?_⟩) HS0 ?_; case refine_2 => (intro w hSw; (try dsimp only at hSw); go_simp; try with_reducible rfl); try simp only [Act.put, List.setIfInBounds_toArray, List.set_cons_zero, List.set_cons_succ])
    refine wpAnyH_ready (rs := [14]) (by kernel_rfl) (by simp) ?_
    refine (AllReadyH.cons (o := _) rfl (fun K hK => ?_) AllReadyH.nil)
    go_simp
    go_at_call 20
    (with_reducible refine HA2.mono ?_)
    rintro e w8 ⟨⟨u8, rfl⟩, ap8⟩
    have NV : ∀ g, v7.ownBlock = some g → m + 5 + 2 + 1 ≤ g := fun g hg => (HR7.out.lt g hg).1
    have FX8 : Fix w w8 k m b sF sT := (HF7.out.below ((Below.refl w7.heap.size w7).drew) (by have := HSZ7.out; have := HSZ.out; have := KM.out; omega)).add ap8 (show segE.Row w7.drew (m + 5 + 2 + 1) v7 st1.2 from HR7.out) (by omega) KM.out (by show k ≤ w7.heap.size; have := HSZ7.out; have := HSZ.out; have := KM.out; omega)
    have X8 := ((ap8.keep (· = q) (fun g hg e => by have := HR7.out.ne HX7.out (by decide); rw [hg, e] at this; exact this rfl) (by show ¬ k + 1 + 1 = q; have := HQ.out; have := KM.out; omega) (by show ¬ m + 1 = q; have := HQ.out; omega)).same q rfl (Array.getElem?_eq_some_iff.1 HX7.out).1).trans HX7.out
    refine hK.out _ _ (mkS w8 FX8 X8) (fun HS1 => ?_)
    refine wpAnyH_done (by kernel_rfl) ?_ _
    show Keep _ _ _ ∧ SegI _ _ _ _ _ _ _ _ _
    have tt : ∀ z, ((O z ∨ z = m + 3 + 1 ∨ z = m + 3) ∨ Itr.Own (m + 5) 1 z) → z < m + 5 + 2 + 1 ∧ z ≠ m + 1 ∧ z ≠ k + 1 + 1 := by
      rintro z (hz | hz)
      · have := TT.out z hz; omega
      · have h1 := hz.1; have h2 := hz.2; have := KM.out; omega
    refine ⟨(AP.out.keep _ (fun g hg hz => by have h1 := (HROW.out.lt g hg).1; have := (tt g hz).1; omega) (fun hz => (tt _ hz).2.2 rfl) (fun hz => (tt _ hz).2.1 rfl)).trans ?_, ?_⟩
    · have kk := ap8.keep (fun z => (O z ∨ z = m + 3 + 1 ∨ z = m + 3) ∨ Itr.Own (m + 5) 1 z) (fun g hg hz => by have h1 := NV g hg; have := (tt g hz).1; omega) (fun hz => (tt _ hz).2.2 rfl) (fun hz => (tt _ hz).2.1 rfl)
      exact ⟨kk.size, kk.same⟩
    · unfold SegI
      rw [HSN.out, show (addS st xf 0 : Int × List (Int × Int × Int)) = st1 from hst1.out]
      exact ⟨ap8.at', ap8.out, FX8⟩
  case done =>
    rintro xs W rfl ⟨hat, ⟨vo, hvo, hrow⟩, hfx⟩ hM
    have km := KM.out
    have hl1 : (segP sT vals (overS sF sT L) (sF, [])).2.length < 999000 := by
      have h0 := segP_len sT vals (overS sF sT L) (sF, [])
      have hlen : (overS sF sT L).length ≤ L.length := over_len _ _ _
      have h1 := HI.out.len; have h2 := HI.out.most; have h3 := HE.out
      simp only [List.length_nil] at h0; omega
    have HSN : Hid (segs sT vals (overS sF sT L) (sF, []) = addS (segP sT vals (overS sF sT L) (sF, [])) sT 0) := segs_fold _ _ _ _
    obtain ⟨st, hst⟩ : ∃ st, Hid (segP sT vals (overS sF sT L) (sF, []) = st) := ⟨_, rfl⟩
    rw [hst.out] at hat hrow hl1 HSN
    have kw : k ≤ W.heap.size := by have := hfx.t.lt; omega
    have zl := hrow.low (B' := k) (by omega)
    have HA := addseg_is sT 0 (show Boxed W (m + 1) 3 (.int .i64 st.1) from hat) hvo zl (by omega) kw
    have c0 := hfx.s.c1
    have c1 := hfx.z.cell
    have c2 := hfx.f.cell
    unfold addF at c2
    have HROW := Lib.hid hrow; have HVO := Lib.hid hvo; have HFX := Lib.hid hfx; have HMK := Lib.hid hM; have HKW := Lib.hid kw
    show K _ _
    apply hK
    dsimp only
    clear hrow hvo hfx hl1 hat hM zl hK kw km
    go_upto_region 11 with (go_at_call 20; go_loud ((with_reducible refine HA.mono ?_); rintro e w7 ⟨⟨u7, rfl⟩, ap7⟩; have AP := Lib.hid ap7; clear ap7 HA))
    clear c0 c1 c2
    obtain ⟨v7, ho7, hr7⟩ := AP.out.out
    obtain ⟨a7, q7, e7, _, _⟩ := hr7.form
    obtain ⟨n7, hn7⟩ : ∃ n : Nat, Hid ((addS (st.1, st.2) sT 0).2.length = n) := ⟨_, rfl⟩
    rw [hn7.out] at e7
    subst e7
    have c7 := ho7.cell
    have f7 := ho7.frozen
    have HO8 := Lib.hid (ho7.set (.slice a7 n7 q7))
    have HR7 := Lib.hid hr7
    have km := KM.out
    have M7 := ((AP.out.keep (· = m + 5) (fun g hg e => by have := (HROW.out.lt g hg).1; omega) (by show ¬ k + 1 + 1 = m + 5; omega) (by show ¬ m + 1 = m + 5; omega)).same (m + 5) rfl (Array.getElem?_eq_some_iff.1 HMK.out).1).trans HMK.out
    have B7 := HFX.out.bel.trans (AP.out.bel k (fun g hg => by have := (HROW.out.lt g hg).1; omega) (by omega) (by omega) HKW.out)
    have B8 := Lib.hid (B7.setCell (p := ⟨k + 1 + 1, 0, none⟩) (by show k ≤ k + 1 + 1; omega) (.slice a7 n7 q7))
    have M8 : Hid ((w7.setCell ⟨k + 1 + 1, 0, none⟩ (.slice a7 n7 q7)).heap[m + 5]? = some (.deferred (some []))) := (Below.heap_setCell _ _ _ _ (by show m + 5 ≠ k + 1 + 1; omega)).trans M7
    have ne := hr7.ne ho7 (by decide)
    have HR8 : Hid (segE.Row (w7.setCell ⟨k + 1 + 1, 0, none⟩ (.slice a7 n7 q7)) k (.slice a7 n7 q7) (addS (st.1, st.2) sT 0).2) := hr7.block fun g hg => Below.heap_setCell _ _ _ _ (fun e => by rw [hg, e] at ne; exact ne rfl)
    clear hr7 M7 B7 ho7 ne km
    go_wp2_with fail
    have HO9 : Hid (Boxed ((w7.setCell ⟨k + 1 + 1, 0, none⟩ (.slice a7 n7 q7)).putObj (m + 5) (.deferred none)) (k + 1 + 1) 34 (.slice a7 n7 q7)) := (World.putObj_heap_other (by have := KM.out; omega)).trans HO8.out
    have c9 := HO9.out.cell
    refine ⟨by simp, .inl ⟨_, _, rfl, run_takeDeferred M8.out, ?_⟩⟩
    refine ⟨.slice a7 n7 q7, by simp [results, Try.results9, go_sem, c9], .slice a7 n7 q7, rfl, ?_, ?_⟩
    · rw [hk.out, HSN.out]
      exact ownsRow_putObj HR8.out _ M8.out rfl
    · rw [hk.out]
      exact B8.out.grown (grownBy_putObj' _ (m + 5) _) (by have := B8.out.size; have := hk.out; omega) (fun j e => by cases e; have := KM.out; omega)
  case stop =>
    intro c pre W _ h _
    exact h.elim
end Go.Proofs.Ytmgljgmfipodeaa.Tl
