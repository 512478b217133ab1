/-
  itree: ItreeAll's walk.
-/
import Derived.Test.YtpgmndbmcciniaaItrMade
import Derived.Test.YtpgmndbmcciniaaAvlPlay
import Derived.BigQuiet
namespace Go.Proofs.Ytpgmndbmcciniaa.Itr
open Go Go.RowKit Av
set_option linter.unusedSimpArgs false
set_option linter.unusedVariables false
attribute [local go_sem ↓] Go.wp_at_zero Go.wp_at_succ
attribute [local go_sem] Oper.semAt_some

theorem seq_not_nil (sb tb : Nat) (w : World) : (binOp .eql 57 (.func (.func 33) #[] #[.pointer (some ⟨sb, 0, none⟩), .pointer (some ⟨tb, 0, none⟩)]) .nilFunc).run Try.prog w = .ok (.bool false) w := by
  unfold binOp
  dsimp only
  unfold Op.equal Op.maxDepth
  rw [Op.equalIn.eq_def]
  simp only [Sem.run_bind, run_underlying Try.underlying57 w, Result.andThen]
  rfl
attribute [local go_sem] seq_not_nil
theorem calls_marks {P : Program} {f : FuncId} {fn : Func} {c : Code} {args : Array Value} {w : World} {R : Ending → World → Prop} (hf : P.funcs[f]? = some fn) (hb : fn.body = some c)
    (h : c.wp P (bodyPostM Fence.wide 10 P fn R) { tmps := args ++ Array.replicate (fn.ntmps - args.size) undef, defers := [] } w) : Calls P f args w R :=
  (callsIn_wide (n := 10)).1 (callsIn_of_wp_marks hf hb trivial (wpIn_wide.2 h) rfl)
def mark (B : Nat) : Deferred := { target := .collected B, args := #[] }
theorem leave_marks {n : Nat} {P : Program} {fn : Func} {tmps : Array Value} {R : Ending → World → Prop} {i : Nat} : ∀ (bs : List Nat) (W : World), (∀ B ∈ bs, W.heap[B]? = some (.deferred (some [])) ∧ i ≤ B) → bs.Nodup → i ≤ W.heap.size →
    (∀ W', Below i W W' → LeavesInM Fence.wide n P fn tmps R [] .returning W') → LeavesInM Fence.wide n P fn tmps R (bs.map mark) .returning W := by
  intro bs
  induction bs with
  | nil => intro W _ _ _ h; exact h W (Below.refl _ _)
  | cons B bs ih =>
    intro W hb hn hi h
    obtain ⟨h1, h2⟩ := hb B (by simp)
    obtain ⟨n1, n2⟩ := List.nodup_cons.1 hn
    refine ⟨by simp, .inl ⟨_, _, rfl, run_takeDeferred h1, ih _ (fun C hC => ?_) n2 (by rw [World.putObj_size]; exact hi) (fun W' hW => h W' ?_)⟩⟩
    · obtain ⟨c1, c2⟩ := hb C (by simp [hC])
      exact ⟨(World.putObj_heap_other (fun e => n1 (by rw [← e]; exact hC))).trans c1, c2⟩
    · exact ((Below.refl i W).grown (grownBy_putObj' W B _) hi (fun j e => by cases e; exact h2)).trans hW
/-- the law's state ahead of a round: the tree, the boxes, what the rounds before have left -/
structure St9 (w W : World) (i b sb tb : Nat) (a z most : Int) (x : It) (bs : List Nat) (O : Nat → Prop) (L : List It) : Prop where
  tr : TreeIs W i b 1000 O L
  s : W.heap[sb]? = some (.cells #[.int .i64 a, .int .i64 z] 54 (0, 0))
  t : W.heap[tb]? = some (.cells #[.pointer (some ⟨b, 0, none⟩)] 24 (0, 0))
  b0 : W.heap[i]? = some (.cells #[.int .i64 a, .int .i64 z] 54 (0, 0))
  b1 : W.heap[i + 1]? = some (.cells #[.int .i64 most] 3 (0, 0))
  b2 : W.heap[i + 1 + 1]? = some (.cells #[.int .i64 x.f, .int .i64 x.t, .int .i64 x.i] 33 (0, 0))
  bel : Below i w W
  off : ∀ g, O g → i + 2 < g ∧ g ≠ sb ∧ g ≠ tb
  nd : bs.Nodup
  mks : ∀ B ∈ bs, W.heap[B]? = some (.deferred (some [])) ∧ i ≤ B ∧ ¬ O B
theorem St9.below {w W W' : World} {i b sb tb : Nat} {a z most : Int} {x : It} {bs : List Nat} {O : Nat → Prop} {L : List It} (h : St9 w W i b sb tb a z most x bs O L) (hi : i ≤ W.heap.size) (k : Below W.heap.size W W') : St9 w W' i b sb tb a z most x bs O L := by
  have M : ∀ {j : Nat} {o : Obj}, W.heap[j]? = some o → W'.heap[j]? = some o := fun e => (k.block _ (Array.getElem?_eq_some_iff.1 e).1).trans e
  exact ⟨h.tr.but (Below.but k (fun _ => False)) (fun _ _ z => z), M h.s, M h.t, M h.b0, M h.b1, M h.b2, h.bel.trans (k.mono hi), h.off, h.nd, fun B hB => ⟨M (h.mks B hB).1, (h.mks B hB).2⟩⟩
theorem tree_most {w : World} {B b : Nat} {most : Int} {O : Nat → Prop} {L : List It} (h : TreeIs w B b most O L) : (L.length : Int) ≤ most := by
  obtain ⟨t, ns, free, nv, fv, H, rfl, rfl⟩ := h
  have h1 := H.sz
  have h2 := H.le
  rw [Tr.size_items]; omega
theorem St9.mark {w W : World} {i b sb tb : Nat} {a z most : Int} {x : It} {bs : List Nat} {O : Nat → Prop} {L : List It} (h : St9 w W i b sb tb a z most x bs O L) {B : Nat} (hB : W.heap[B]? = some (.deferred (some []))) (hi : i ≤ B) (hO : ¬ O B) (hn : B ∉ bs) : St9 w W i b sb tb a z most x (B :: bs) O L :=
  { h with
    nd := List.nodup_cons.2 ⟨hn, h.nd⟩
    mks := fun C hC => by
      rcases List.mem_cons.1 hC with rfl | hC
      · exact ⟨hB, hi, hO⟩
      · exact h.mks C hC }
theorem St9.turned {w W W' : World} {i b sb tb : Nat} {a z most : Int} {x : It} {bs : List Nat} {O : Nat → Prop} {L L' : List It} (h : St9 w W i b sb tb a z most x bs O L) (T : Turned W W' i b 1000 O L') : ∃ O', St9 w W' i b sb tb a z most x bs O' L' := by
  obtain ⟨O', t, k, ho⟩ := T
  have M : ∀ {j : Nat} {o : Obj}, W.heap[j]? = some o → ¬ O j → W'.heap[j]? = some o := fun e n => (k.block _ (Array.getElem?_eq_some_iff.1 e).1 n).trans e
  have L' : ∀ {j : Nat} {o : Obj}, W.heap[j]? = some o → j < W.heap.size := fun e => (Array.getElem?_eq_some_iff.1 e).1
  have i2 := L' h.b2
  have ls := L' h.s
  have lt := L' h.t
  refine ⟨O', t, M h.s (fun o => (h.off _ o).2.1 rfl), M h.t (fun o => (h.off _ o).2.2 rfl), M h.b0 (fun o => by have := (h.off _ o).1; omega), M h.b1 (fun o => by have := (h.off _ o).1; omega), M h.b2 (fun o => by have := (h.off _ o).1; omega), ?_, ?_, h.nd, ?_⟩
  · exact h.bel.trans ⟨k.os, k.tape, k.output, k.size, fun j hj => k.block j (by omega) (fun o => by have := (h.off _ o).1; omega)⟩
  · intro g hg
    rcases ho g hg with o | o
    · exact h.off g o
    · omega
  · intro B hB
    obtain ⟨m1, m2, m3⟩ := h.mks B hB
    refine ⟨M m1 m3, m2, fun o => ?_⟩
    rcases ho B o with o | o
    · exact m3 o
    · have := L' m1; omega
theorem run_min (P : Program) (ts : Array TypeId) (t : TypeId) (x y : Int) (w : World) : (Builtin.min_ ts t #[.int .i64 x, .int .i64 y]).run P w = .ok (.int .i64 (min x y)) w := by
  simp [Builtin.min_, Builtin.min2, go_sem]
  split <;> omega
theorem run_max (P : Program) (ts : Array TypeId) (t : TypeId) (x y : Int) (w : World) : (Builtin.max_ ts t #[.int .i64 x, .int .i64 y]).run P w = .ok (.int .i64 (max x y)) w := by
  simp [Builtin.max_, Builtin.max2, go_sem]
  split <;> omega
attribute [local go_sem ↓] run_min run_max
theorem run_cut (a3 : Option Addr) (len p3 n : Nat) (w : World) (hn : n ≤ p3) (ha : ∀ q, a3 = some q → ∃ g, q = ⟨g, 0, none⟩) : (Instr.sliceAt 29 (.slice a3 len p3) none (some (.int .i64 (n : Int))) none).run Try.prog w = .ok (.slice a3 n p3) w := by
  have e : (if p3 = 0 then a3 else Option.map (fun x => x.add 0) a3) = a3 := by
    cases a3 with
    | none => simp
    | some q => obtain ⟨g, rfl⟩ := ha q rfl; simp [Addr.add]
  unfold Instr.sliceAt
  simp only [Sem.run_bind, run_underlying Try.underlying29 w, Result.andThen]
  unfold Instr.slice
  simp only [Sem.run_bind, run_underlying Try.underlying29 w, Result.andThen]
  simp [Instr.sliceBounds, Instr.sliceBound, go_sem, hn, e]
theorem argT_row {w : World} {a3 : Option Addr} {p3 n : Nat} {xs row : List It} (hrow : row = xs.take n) (h : ArgT w (.slice a3 xs.length p3) xs) : ArgT w (.slice a3 row.length p3) row := by
  obtain ⟨ao, cap, e, hc, h⟩ := h
  cases e
  subst hrow
  refine ⟨_, _, rfl, Nat.le_trans (List.length_take_le' _ _) hc, fun i x hx => h i x ?_⟩
  rw [List.getElem?_take] at hx
  split at hx
  · exact hx
  · cases hx
set_option maxRecDepth 100000 in
set_option maxHeartbeats 4000000 in
theorem all_main (vl : Value) (l : List It) (a z most : Int) (x : It) (w : World) (hl : ArgT w vl l) (h1 : l.length ≤ 150) :
    Calls Try.prog 6 #[vl, .agg #[.int .i64 a, .int .i64 z], .int .i64 most, .agg #[.int .i64 x.f, .int .i64 x.t, .int .i64 x.i]] w fun e w' => e = .returned (.bool true) ∧ Below w.heap.size w w' := by
  obtain ⟨al, cl, rfl, hcl, cel⟩ := id hl
  have d1 : decide (150 < l.length) = false := by simp; omega
  have d2 : decide ((150 : Int) < (l.length : Int)) = false := by simp; omega
  have B0 : Below w.heap.size w (((w.alloc (.cells #[.int .i64 a, .int .i64 z] 54)).alloc (.cells #[.int .i64 most] 3)).alloc (.cells #[.int .i64 x.f, .int .i64 x.t, .int .i64 x.i] 33)) := bt (bt (ba _ _) (ba _ _)) (ba _ _)
  have HL := Lib.hid h1
  have A := made_is (hl.below B0) h1
  have HX := Lib.hid hl
  clear cel hcl h1 hl
  refine calls_marks Try.func6 rfl ?_
  simp only [Try.ntmps6, List.size_toArray, List.length_cons, List.length_nil, Nat.reduceAdd, Nat.reduceSub, Array.replicate_succ, Array.replicate_zero, List.push_toArray, List.append_toArray, List.nil_append, List.cons_append]
  go_upto_region 4 with (go_at_call 22; go_loud (with_reducible refine A.mono ?_); rintro e w1 ⟨b, rfl, m1⟩; have M1 := Lib.hid m1; clear m1 A)
  obtain ⟨O, T, BB, OO⟩ := M1.out
  have AA := all_is (w := w1) b a z
  have y0 : (((w.alloc (.cells #[.int .i64 a, .int .i64 z] 54)).alloc (.cells #[.int .i64 most] 3)).alloc (.cells #[.int .i64 x.f, .int .i64 x.t, .int .i64 x.i] 33)).heap[w.heap.size]? = some (.cells #[.int .i64 a, .int .i64 z] 54 (0, 0)) :=
    (Below.heap_alloc _ _ _ (by simp; omega)).trans ((Below.heap_alloc _ _ _ (by simp)).trans (heap_alloc_new w _))
  have y1 : (((w.alloc (.cells #[.int .i64 a, .int .i64 z] 54)).alloc (.cells #[.int .i64 most] 3)).alloc (.cells #[.int .i64 x.f, .int .i64 x.t, .int .i64 x.i] 33)).heap[w.heap.size + 1]? = some (.cells #[.int .i64 most] 3 (0, 0)) := by
    refine (Below.heap_alloc _ _ _ (by simp)).trans ?_
    have := heap_alloc_new (w.alloc (.cells #[.int .i64 a, .int .i64 z] 54)) (.cells #[.int .i64 most] 3)
    rw [World.size_alloc] at this; exact this
  have y2 : (((w.alloc (.cells #[.int .i64 a, .int .i64 z] 54)).alloc (.cells #[.int .i64 most] 3)).alloc (.cells #[.int .i64 x.f, .int .i64 x.t, .int .i64 x.i] 33)).heap[w.heap.size + 1 + 1]? = some (.cells #[.int .i64 x.f, .int .i64 x.t, .int .i64 x.i] 33 (0, 0)) := by
    have := heap_alloc_new ((w.alloc (.cells #[.int .i64 a, .int .i64 z] 54)).alloc (.cells #[.int .i64 most] 3)) (.cells #[.int .i64 x.f, .int .i64 x.t, .int .i64 x.i] 33)
    rw [World.size_alloc, World.size_alloc] at this; exact this
  have y3 := (BB.block _ (by simp; omega)).trans y0
  have y4 := (BB.block _ (by simp)).trans y1
  have y5 := (BB.block _ (by simp)).trans y2
  have s1 := BB.size
  simp only [World.size_alloc] at s1
  have B1 := bt B0 BB
  obtain ⟨i, hi⟩ : ∃ i, Hid (w.heap.size = i) := ⟨_, rfl⟩
  rw [hi.out] at y3 y4 y5 s1 ⊢
  have c0 : w1.cell? ⟨i, 0, none⟩ = some (.int .i64 a) := by rw [cell_of_row w1 _ _ _ _ (0, 0) y3]; rfl
  have c1 : w1.cell? ⟨i, 1, none⟩ = some (.int .i64 z) := by rw [cell_of_row w1 _ _ _ _ (0, 0) y3]; rfl
  replace T := Lib.hid T
  replace OO := Lib.hid OO
  replace B1 := Lib.hid B1
  replace y3 := Lib.hid y3
  replace y4 := Lib.hid y4
  replace y5 := Lib.hid y5
  clear M1 B0 BB y0 y1 y2 d1 d2
  go_upto_region 7 with (go_at_call 23; go_loud (with_reducible refine AA.mono ?_); rintro e w2 ⟨rfl, hw2⟩; replace hw2 := Lib.hid hw2; unfold seqV; clear AA)
  go_upto_region 9 with fail
  go_upto_region 10 with fail
  have hu := hw2.out
  have S0 : Hid (St9 w w2 i b (w1.heap.size + 1) w1.heap.size a z most x [] O (putAll l)) := by
    have K := bt (ba w1 (.cells #[.pointer (some ⟨b, 0, none⟩)] 24)) (ba _ (.cells #[.int .i64 a, .int .i64 z] 54))
    rw [← hu] at K
    have TT : TreeIs w1 i b 1000 O (putAll l) := by
      have := T.out
      obtain ⟨t, ns, free, nv, fv, H, e1, e2⟩ := this
      exact ⟨t, ns, free, nv, fv, { H with bB := (by have h1 := H.bB; simp only [World.size_alloc] at h1; have := hi.out; omega), rn := ownsRow_le H.rn (by simp; have := hi.out; omega), rf := ownsRow_le H.rf (by simp; have := hi.out; omega) }, e1, e2⟩
    refine ⟨TT.but (Below.but K (fun _ => False)) (fun _ _ z => z), ?_, ?_, (K.block _ (by omega)).trans y3.out, (K.block _ (by omega)).trans y4.out, (K.block _ (by omega)).trans y5.out, by rw [← hi.out]; exact bt B1.out K, ?_, List.nodup_nil, fun B hB => by simp at hB⟩
    · rw [hu]
      have := heap_alloc_new (w1.alloc (.cells #[.pointer (some ⟨b, 0, none⟩)] 24)) (.cells #[.int .i64 a, .int .i64 z] 54)
      rw [World.size_alloc] at this; exact this
    · rw [hu]
      exact (Below.heap_alloc _ _ _ (by simp)).trans (heap_alloc_new w1 _)
    · intro g hg
      have h1 := OO.out g hg
      have h2 := TreeIs.lt TT g hg
      simp only [World.size_alloc] at h1
      have := hi.out
      omega
  obtain ⟨tb, htb⟩ : ∃ i, Hid (w1.heap.size = i) := ⟨_, rfl⟩
  rw [htb.out] at S0 ⊢
  clear hu hw2 y3 y4 y5 c0 c1 T OO B1
  refine wp_loop (fun a' W => ∃ (bs : List Nat) (O : Nat → Prop) (L : List It) (u11 u12 u13 u28 u29 u30 u31 u32 u33 u34 u35 u36 u37 u38 u39 u40 u41 u42 u43 u44 u45 u46 u47 u48 u49 u50 u51 u52 u53 u54 u55 u56 : Value), a' = { tmps := #[.slice al l.length cl, .agg #[.int .i64 a, .int .i64 z], .int .i64 most, .agg #[.int .i64 x.f, .int .i64 x.t, .int .i64 x.i], undef, .pointer (some ⟨i, 0, none⟩), .pointer (some ⟨i + 1, 0, none⟩), .pointer (some ⟨i + 1 + 1, 0, none⟩), .bool false, .pointer (some ⟨b, 0, none⟩), .func (.func 33) #[] #[.pointer (some ⟨tb + 1, 0, none⟩), .pointer (some ⟨tb, 0, none⟩)], u11, u12, u13, .slice al l.length cl, .int .i64 (l.length : Int), .bool false, undef, .slice al l.length cl, .pointer (some ⟨b, 0, none⟩), .pointer (some ⟨b, 0, none⟩), .bool false, .pointer (some ⟨b, 0, none⟩), .agg #[.int .i64 a, .int .i64 z], .func (.func 33) #[] #[.pointer (some ⟨tb + 1, 0, none⟩), .pointer (some ⟨tb, 0, none⟩)], .func (.func 33) #[] #[.pointer (some ⟨tb + 1, 0, none⟩), .pointer (some ⟨tb, 0, none⟩)], .bool false, .int .i64 (bs.length : Int), u28, u29, u30, u31, u32, u33, u34, u35, u36, u37, u38, u39, u40, u41, u42, u43, u44, u45, u46, u47, u48, u49, u50, u51, u52, u53, u54, u55, u56], defers := bs.map mark } ∧ bs.length ≤ 2 ∧ Hid (St9 w W i b (tb + 1) tb a z most x bs O L)) (fun a' _ => 2 - (intOf (a'.tmps.getD 27 undef)).toNat) ?_ ?_
  · exact ⟨[], O, putAll l, undef, undef, undef, undef, undef, undef, undef, undef, undef, undef, undef, undef, undef, undef, undef, undef, undef, undef, undef, undef, undef, undef, undef, undef, undef, undef, undef, undef, undef, undef, undef, undef, rfl, by simp, S0.out⟩
  · clear S0
    rintro _ wo ⟨bs, O, L, u11, u12, u13, u28, u29, u30, u31, u32, u33, u34, u35, u36, u37, u38, u39, u40, u41, u42, u43, u44, u45, u46, u47, u48, u49, u50, u51, u52, u53, u54, u55, u56, rfl, hk, S⟩
    by_cases hk2 : bs.length = 2
    · have d1 : decide ((bs.length : Int) < 2) = false := by simp; omega
      have d2 : ¬ (bs.length : Int) < 2 := by omega
      have KN := known9 wo
      go_wp2_with (go_at_call 21; go_loud (with_reducible refine KN.mono ?_); rintro e w4 ⟨rfl, b4⟩; have B4 := Lib.hid b4; clear b4 KN)
      show LeavesInM _ _ _ _ _ _ _ _ _
      have BB : Below i w w4 := S.out.bel.trans (B4.out.mono (by have := S.out.bel.size; have := hi.out; omega))
      refine leave_marks (i := i) bs w4 (fun B hB => ?_) S.out.nd (by have := BB.size; have := hi.out; omega) (fun W' hW' => ?_)
      · obtain ⟨m1, m2, _⟩ := S.out.mks B hB
        exact ⟨(B4.out.block B (Array.getElem?_eq_some_iff.1 m1).1).trans m1, m2⟩
      · exact ⟨_, results_tmp rfl _ _ _, rfl, by rw [hi.out]; exact BB.trans hW'⟩
    · have d1 : decide ((bs.length : Int) < 2) = true := by simp; omega
      have d2 : (bs.length : Int) < 2 := by omega
      have OV := overlap_is S.out.tr a z
      have c0 : wo.cell? ⟨i, 0, none⟩ = some (.int .i64 a) := by rw [cell_of_row wo _ _ _ _ (0, 0) S.out.b0]; rfl
      have c1 : wo.cell? ⟨i, 1, none⟩ = some (.int .i64 z) := by rw [cell_of_row wo _ _ _ _ (0, 0) S.out.b0]; rfl
      have HK := Lib.hid hk
      have HK2 := Lib.hid hk2
      clear hk hk2
      go_upto_region 12 with (go_at_call 24; go_loud (with_reducible refine OV.mono ?_); rintro e w3 ⟨v3, rfl, r3, b3⟩; obtain ⟨a3, p3, rfl, p3', a3'⟩ := row_form r3; have P3 := Lib.hid p3'; have A3' := Lib.hid a3'; have R3 := Lib.hid r3; have B3 := Lib.hid b3; clear b3 r3 OV p3' a3')
      clear d1 d2 c0 c1
      go_upto_region 13 with fail
      have bG := Boxed.new w3 29 (.slice none 0 0)
      obtain ⟨kg, hkg⟩ : ∃ i, Hid (w3.heap.size = i) := ⟨_, rfl⟩
      have BG := ba w3 (Obj.cells #[.slice none 0 0] 29)
      obtain ⟨w4, hw4⟩ : ∃ v, Hid (v = w3.alloc (Obj.cells #[.slice none 0 0] 29)) := ⟨_, rfl⟩
      have z4 : w4.heap.size = kg + 1 := by rw [hw4.out, World.size_alloc, hkg.out]
      rw [← hw4.out] at bG BG ⊢
      rw [hkg.out] at bG BG ⊢
      have B4 := bt B3.out (by rw [hkg.out]; exact BG)
      have iw : i ≤ wo.heap.size := by have := S.out.bel.size; have := hi.out; omega
      have S4 := S.out.below iw B4
      have kgs : wo.heap.size ≤ kg := by rw [← hkg.out]; exact B3.out.size
      have OLT : ∀ g, O g → g < wo.heap.size := TreeIs.lt S.out.tr
      have slt := (Array.getElem?_eq_some_iff.1 S.out.s).1
      have tlt := (Array.getElem?_eq_some_iff.1 S.out.t).1
      have TT : ∀ j, (O j ∨ j = tb + 1 ∨ j = tb) → j < wo.heap.size := by
        rintro j (hj | hj | hj)
        · exact OLT j hj
        · omega
        · omega
      go_wp2_with fail
      rename_i K1 hK1 K2 hK2
      have CONT : ∀ (row : List It) (W : World) (v : Value), row = (overS a z L).take most.toNat → Boxed W kg 29 v → RowT W (kg + 1 + 2 + 1) v row → Below kg w3 W → W.heap[kg + 1]? = some (.deferred (some [])) →
          K2 { tmps := #[.slice al l.length cl, .agg #[.int .i64 a, .int .i64 z], .int .i64 most, .agg #[.int .i64 x.f, .int .i64 x.t, .int .i64 x.i], undef, .pointer (some ⟨i, 0, none⟩), .pointer (some ⟨i + 1, 0, none⟩), .pointer (some ⟨i + 1 + 1, 0, none⟩), .bool false, .pointer (some ⟨b, 0, none⟩), .func (.func 33) #[] #[.pointer (some ⟨tb + 1, 0, none⟩), .pointer (some ⟨tb, 0, none⟩)], .slice a3 (overS a z L).length p3, .pointer (some ⟨kg, 0, none⟩), u13, .slice al l.length cl, .int .i64 (l.length : Int), .bool false, undef, .slice al l.length cl, .pointer (some ⟨b, 0, none⟩), .pointer (some ⟨b, 0, none⟩), .bool false, .pointer (some ⟨b, 0, none⟩), .agg #[.int .i64 a, .int .i64 z], .func (.func 33) #[] #[.pointer (some ⟨tb + 1, 0, none⟩), .pointer (some ⟨tb, 0, none⟩)], .func (.func 33) #[] #[.pointer (some ⟨tb + 1, 0, none⟩), .pointer (some ⟨tb, 0, none⟩)], .bool false, .int .i64 (bs.length : Int), .bool true, .pointer (some ⟨b, 0, none⟩), .agg #[.int .i64 a, .int .i64 z], .slice a3 (overS a z L).length p3, .func (.func 33) #[] #[.pointer (some ⟨tb + 1, 0, none⟩), .pointer (some ⟨tb, 0, none⟩)], u33, u34, u35, u36, u37, u38, u39, u40, u41, u42, u43, u44, u45, u46, u47, u48, u49, u50, u51, u52, u53, u54, u55, u56], defers := mark (kg + 1) :: bs.map mark } W := by
        intro row W v hrow hv hr hb hm
        apply hK2
        clear hK2
        dsimp only
        have EW := B3.out.trans (hb.mono kgs)
        have SW := Lib.hid (S.out.below iw EW)
        obtain ⟨a0, c0, rfl, _⟩ := row_form hr
        have AV := (rowT_cells R3.out).below (by rw [hkg.out]; exact hb)
        have AU := rowT_cells hr
        have hLn : row.length ≤ (overS a z L).length := by rw [hrow]; exact List.length_take_le' _ _
        have hOL : (overS a z L).length ≤ 1000 := Nat.le_trans (over_len a z L) (by have := tree_most S.out.tr; omega)
        have S1 := same_eq (w := W.drew) (AU.below ((Below.refl W.heap.size W).drew)) (ArgT.below (argT_row hrow AV) ((Below.refl W.heap.size W).drew)) (by omega)
        have HS0 : (fun w' : World => w'.cell? ⟨kg, 0, none⟩ = some (.slice a0 row.length c0) ∧ w'.cell? ⟨i + 1, 0, none⟩ = some (.int .i64 most)) W.drew := ⟨hv.cell, by rw [cell_of_row W.drew _ _ _ _ (0, 0) SW.out.b1]; rfl⟩
        have NM : Hid (max 0 (min most ((overS a z L).length : Int)) = (row.length : Int)) := by
          show _ = _
          rw [hrow, List.length_take]; omega
        have iw2 : Hid (i ≤ W.heap.size) := by have := EW.size; show _ ≤ _; omega
        have NM' := NM.out
        have A3 : ∀ q, a3 = some q → ∃ g, q = ⟨g, 0, none⟩ := by
          intro q e
          rcases R3.out.2 with ⟨h1, _⟩ | ⟨g, cap, cur, h1, _⟩
          · simp only [Value.slice.injEq] at h1; rw [h1.1] at e; cases e
          · simp only [Value.slice.injEq] at h1; rw [h1.1] at e; cases e; exact ⟨g, rfl⟩
        have P3' := P3.out
        have CUT : ∀ w', (Instr.sliceAt 29 (.slice a3 (overS a z L).length p3) none (some (.int .i64 (row.length : Int))) none).run Try.prog w' = .ok (.slice a3 row.length p3) w' := fun w' => run_cut _ _ _ _ _ (by omega) (fun q e => A3 q e)
        have HR := Lib.hid hr
        have HV := Lib.hid hv
        have HB := Lib.hid hb
        have HM := Lib.hid hm
        have HROW := Lib.hid hrow
        clear hr hv hb hm hrow AU AV EW A3 P3'
        go_upto_region 17 with fail
        go_region_held3 (fun w' : World => w'.cell? ⟨kg, 0, none⟩ = some (.slice a0 row.length c0) ∧ w'.cell? ⟨i + 1, 0, none⟩ = some (.int .i64 most))
          (first | with_reducible exact HS0 | with_reducible assumption)
          (first | (go_at_call 16; go_loud (with_reducible refine S1.mono ?_); rintro e w8 ⟨rfl, b8⟩; have BB8 : Below W.heap.size W w8 := bt ((Below.refl W.heap.size W).drew) b8; have S8 := Lib.hid (SW.out.below iw2.out BB8); have HS1 : (w8.cell? ⟨kg, 0, none⟩ = some (.slice a0 row.length c0) ∧ w8.cell? ⟨i + 1, 0, none⟩ = some (.int .i64 most)) := ⟨(BB8.cell (p := ⟨kg, 0, none⟩) HV.out.lt).trans HV.out.cell, by rw [cell_of_row w8 _ _ _ _ (0, 0) S8.out.b1]; rfl⟩; have H8 := Lib.hid BB8; clear b8 BB8 S1))
        clear HS0 HS1 NM' CUT
        have hm8 : w8.heap[kg + 1]? = some (.deferred (some [])) := (H8.out.block _ (Array.getElem?_eq_some_iff.1 HM.out).1).trans HM.out
        have S9 := Lib.hid (S8.out.mark hm8 (by omega) (fun o => by have := OLT _ o; omega) (fun hb => by have := (Array.getElem?_eq_some_iff.1 (S.out.mks _ hb).1).1; omega))
        have I1 := insert_is (x := x) S9.out.tr
        have m0 : w8.cell? ⟨i + 1 + 1, 0, none⟩ = some (.int .i64 x.f) := by rw [cell_of_row w8 _ _ _ _ (0, 0) S9.out.b2]; rfl
        have m1 : w8.cell? ⟨i + 1 + 1, 1, none⟩ = some (.int .i64 x.t) := by rw [cell_of_row w8 _ _ _ _ (0, 0) S9.out.b2]; rfl
        have m2 : w8.cell? ⟨i + 1 + 1, 2, none⟩ = some (.int .i64 x.i) := by rw [cell_of_row w8 _ _ _ _ (0, 0) S9.out.b2]; rfl
        have kw : IntKind.i64.wrap ((bs.length : Int) + 1) = (bs.length : Int) + 1 := by rw [IntWalk.i64_left]; exact IntWalk.wrap64_in _ (by have := HK.out; omega)
        clear hm8
        go_wp2_with (go_at_call 9; go_loud (with_reducible refine I1.mono ?_); rintro e w9 ⟨rfl, t9⟩; have T9 := Lib.hid t9; clear t9 I1)
        obtain ⟨O', S10⟩ := S9.out.turned T9.out
        refine ⟨⟨(kg + 1) :: bs, O', _, _, _, _, _, _, _, _, _, _, _, _, _, _, _, _, _, _, _, _, _, _, _, _, _, _, _, _, _, _, _, _, _, rfl, by have := HK.out; have := HK2.out; rw [List.length_cons]; omega, S10⟩, ?_⟩
        show 2 - ((bs.length : Int) + 1).toNat < 2 - ((bs.length : Int)).toNat
        have := HK.out
        have := HK2.out
        omega
      have ST : Steady (Own (kg + 1) 1) (fun (pre : List It) W => ((∃ v, Boxed W kg 29 v ∧ RowT W (kg + 1 + 2 + 1) v pre) ∧ Below kg w3 W) ∧ pre.length ≤ most.toNat) := (steady_row (kg + 1) 1 kg w3 (by omega) hkg.out).and (fun _ _ _ _ h _ _ => h)
      refine (wpIn_wide (n := 10)).1 (rangeAt (T := fun g => O g ∨ g = tb + 1 ∨ g = tb) z4 (gf := 33) (lb := #[.pointer (some ⟨tb + 1, 0, none⟩), .pointer (some ⟨tb, 0, none⟩)]) rfl enters_all1 (fun j hj => by have := TT j hj; omega) (all1_at S4.tr S4.s S4.t (fun g hg => hg)) (fun x => rfl)
        (fun pre W => ((∃ v, Boxed W kg 29 v ∧ RowT W (kg + 1 + 2 + 1) v pre) ∧ Below kg w3 W) ∧ pre.length ≤ most.toNat)
        (fun c xs W => c = .exit 2 ∧ ∃ pre y, xs = pre ++ [y] ∧ most ≤ (pre.length : Int) ∧ ((∃ v, Boxed W kg 29 v ∧ RowT W (kg + 1 + 2 + 1) v pre) ∧ Below kg w3 W) ∧ pre.length ≤ most.toNat)
        ST ?ix ⟨⟨⟨_, bG, World.ownsRow_nil _ _ _ _⟩, BG⟩, Nat.zero_le _⟩
        (fun y a' W => ∃ q, Hid (kg + 1 + 2 + 1 ≤ q) ∧ Hid (W.heap[q]? = some (.cells #[.int .i64 y.f, .int .i64 y.t, .int .i64 y.i] 33 (0, 0))) ∧ a' = { tmps := #[.slice al l.length cl, .agg #[.int .i64 a, .int .i64 z], .int .i64 most, .agg #[.int .i64 x.f, .int .i64 x.t, .int .i64 x.i], undef, .pointer (some ⟨i, 0, none⟩), .pointer (some ⟨i + 1, 0, none⟩), .pointer (some ⟨i + 1 + 1, 0, none⟩), .bool false, .pointer (some ⟨b, 0, none⟩), .func (.func 33) #[] #[.pointer (some ⟨tb + 1, 0, none⟩), .pointer (some ⟨tb, 0, none⟩)], .slice a3 (overS a z L).length p3, .pointer (some ⟨kg, 0, none⟩), .pointer (some ⟨q, 0, none⟩), .slice al l.length cl, .int .i64 (l.length : Int), .bool false, undef, .slice al l.length cl, .pointer (some ⟨b, 0, none⟩), .pointer (some ⟨b, 0, none⟩), .bool false, .pointer (some ⟨b, 0, none⟩), .agg #[.int .i64 a, .int .i64 z], .func (.func 33) #[] #[.pointer (some ⟨tb + 1, 0, none⟩), .pointer (some ⟨tb, 0, none⟩)], .func (.func 33) #[] #[.pointer (some ⟨tb + 1, 0, none⟩), .pointer (some ⟨tb, 0, none⟩)], .bool false, .int .i64 (bs.length : Int), .bool true, .pointer (some ⟨b, 0, none⟩), .agg #[.int .i64 a, .int .i64 z], .slice a3 (overS a z L).length p3, .func (.func 33) #[] #[.pointer (some ⟨tb + 1, 0, none⟩), .pointer (some ⟨tb, 0, none⟩)], itV y, u34, u35, u36, u37, u38, u39, u40, u41, u42, u43, u44, u45, u46, u47, u48, u49, u50, u51, u52, u53, u54, u55, u56], defers := [] })
        ?ax ?assign ?body ?done ?stop)
      case ix =>
        rintro c s A C row ⟨rfl, pre, y, e, h1, h2, h3⟩ hg hr
        exact ⟨rfl, pre, y, e, h1, steady_row _ _ _ _ (by omega) hkg.out _ _ _ _ h2 hg hr, h3⟩
      case ax =>
        rintro y a' s A C row ⟨q, h1, h2, h3⟩ hg hr
        refine ⟨q, h1, (hg.block q (Array.getElem?_eq_some_iff.1 h2.out).1 (fun e => ?_)).trans h2.out, h3⟩
        have := (hr q e.symm).2
        have := h1.out
        omega
      case assign =>
        intro l pre y W K hsz hI hK
        obtain ⟨q, hq⟩ : ∃ i, Hid (W.heap.size = i) := ⟨_, rfl⟩
        have hK2 := hK _ (W.alloc (.cells #[.int .i64 y.f, .int .i64 y.t, .int .i64 y.i] 33)) ((Keep.refl _ W).alloc _) (ST.alloc _ hI) ⟨q, by rw [← hq.out]; exact hsz, by rw [← hq.out]; exact heap_alloc_new W _, rfl⟩
        rw [hq.out] at hsz
        clear hK
        unfold itV at hK2 ⊢
        gi_wp2
        rw [hq.out]
        exact hK2
      case body =>
        rintro l pre y a' W hsz ⟨⟨⟨v, hv, hrow⟩, hB⟩, hle⟩ ⟨q, hq, hx, rfl⟩ hlt
        dsimp only
        obtain ⟨a0, c0, rfl, _⟩ := row_form hrow
        have hc := hv.cell
        have cm : W.cell? ⟨i + 1, 0, none⟩ = some (.int .i64 most) := by
          rw [cell_of_row W _ _ _ _ (0, 0) ((hB.block (i + 1) (by have := (Array.getElem?_eq_some_iff.1 S.out.b1).1; omega)).trans ((B3.out.block (i + 1) (Array.getElem?_eq_some_iff.1 S.out.b1).1).trans S.out.b1))]; rfl
        have HLE := Lib.hid hle
        have HBB := Lib.hid hB
        have HROW := Lib.hid hrow
        have HV := Lib.hid hv
        have hOL : (overS a z L).length ≤ 1000000 := Nat.le_trans (over_len a z L) (TreeIs.len S.out.tr)
        by_cases hge : most ≤ (pre.length : Int)
        · have d1 : decide (most ≤ (pre.length : Int)) = true := by simpa using hge
          have HGE := Lib.hid hge
          clear hle hB hrow hv hge CONT hK1 hK2 S4 TT OLT slt tlt hOL z4 kgs iw BG bG B4 hsz hlt K1 K2 ST
          gi_wp2
          exact ⟨Keep.refl _ _, rfl, pre, y, rfl, HGE.out, ⟨⟨⟨_, HV.out, HROW.out⟩, HBB.out⟩, HLE.out⟩⟩
        · have d1 : decide (most ≤ (pre.length : Int)) = false := by simpa using hge
          have HGE := Lib.hid hge
          have HT' : Hid (∀ j, ((O j ∨ j = tb + 1 ∨ j = tb) ∨ Own (kg + 1) 1 j) → j ≠ kg ∧ j < kg + 1 + 2 + 1) := by
            rintro j (h | h)
            · have := TT j h; omega
            · have h1 := h.1; have h2 := h.2; omega
          have x0 : W.cell? ⟨q, 0, none⟩ = some (.int .i64 y.f) := by rw [cell_of_row W _ _ _ _ (0, 0) hx.out]; rfl
          have x1 : W.cell? ⟨q, 1, none⟩ = some (.int .i64 y.t) := by rw [cell_of_row W _ _ _ _ (0, 0) hx.out]; rfl
          have x2 : W.cell? ⟨q, 2, none⟩ = some (.int .i64 y.i) := by rw [cell_of_row W _ _ _ _ (0, 0) hx.out]; rfl
          have HR := Lib.hid (World.ownsRow.alloc hrow (.cells #[.int .i64 y.f, .int .i64 y.t, .int .i64 y.i] 33))
          have HZ : Hid (kg + 1 + 2 + 1 ≤ (W.alloc (.cells #[.int .i64 y.f, .int .i64 y.t, .int .i64 y.i] 33)).heap.size) := by show _ ≤ _; rw [World.size_alloc]; omega
          have HL1 : Hid (pre.length < 1000001) := by show _ < _; omega
          have HC := Lib.hid (item_cells W y)
          have KZ : Hid (kg ≤ W.heap.size) := by show _ ≤ _; omega
          clear hge hB hrow hv hle CONT hK1 hK2 S4 TT OLT slt tlt hOL z4 kgs iw BG bG B4 hsz hlt K1 K2 ST
          gi_wp2_with (gi_at_builtin; go_loud (refine app_itemIn rfl _ _ rfl (kg + 1 + 2 + 1) (.slice a0 pre.length c0) pre y rfl HR.out W.heap.size rfl HC.out HL1.out HZ.out ?_; intro g' cap' w5 r5 b5; have B5 := Lib.hid b5; have R5 := Lib.hid r5; have hv5 := (HV.out.alloc _).kept b5 (HV.out.not_row (by decide) HROW.out); have c5 := hv5.cell; have f5 := hv5.frozen; have HV5 := Lib.hid hv5; clear b5 r5 hv5))
          refine ⟨keep_app B5.out (fun g hg h => ?_) (fun h => (HT'.out kg h).1 rfl), ⟨⟨⟨_, HV5.out.set _, ?_⟩, ?_⟩, ?_⟩⟩
          · have h1 := (World.ownsRow.lt HROW.out g hg).1
            have h2 := (HT'.out g h).2
            omega
          · exact World.ownsRow.kept R5.out (grownBy_setCell' w5 kg _) (.inr (HV5.out.not_row (by decide) R5.out).symm)
          · exact Below.setCell (HBB.out.trans (Below.grown ((Below.refl kg W).alloc KZ.out _) B5.out (by have := KZ.out; simp; omega) (fun j ej => by have := (World.ownsRow.lt HROW.out j ej).1; omega))) (Nat.le_refl _) _
          · have := HGE.out; have := HLE.out; rw [List.length_append, List.length_singleton]; omega
      case done =>
        rintro xs W rfl ⟨⟨⟨v, hv, hrow⟩, hB⟩, hle⟩ hK
        show K2 _ _
        exact CONT _ W v (List.take_of_length_le (by omega)).symm hv hrow hB hK
      case stop =>
        rintro c xs W hpre ⟨rfl, pre, y, rfl, hge, ⟨⟨v, hv, hrow⟩, hB⟩, hle⟩ hK
        refine wpIn_exit ?_
        show K2 _ _
        refine CONT _ W v ?_ hv hrow hB hK
        obtain ⟨tl, htl⟩ := hpre
        rw [← htl, List.append_assoc]
        have e : most.toNat = pre.length := by omega
        rw [e, List.take_left]
theorem all_law (vl : Value) (l : List It) (a z most : Int) (x : It) (w : World) (hl : ArgT w vl l) :
    Calls Try.prog 6 #[vl, .agg #[.int .i64 a, .int .i64 z], .int .i64 most, .agg #[.int .i64 x.f, .int .i64 x.t, .int .i64 x.i]] w fun e w' => e = .returned (.bool true) ∧ Below w.heap.size w w' := by
  by_cases h1 : l.length ≤ 150
  · exact all_main vl l a z most x w hl h1
  · obtain ⟨al, cl, rfl, hcl, cel⟩ := hl
    have d1 : decide (150 < l.length) = true := by simp; omega
    have d2 : decide ((150 : Int) < (l.length : Int)) = true := by simp; omega
    have d3 : (150 : Int) < (l.length : Int) := by omega
    have B0 : Below w.heap.size w (((w.alloc (.cells #[.int .i64 a, .int .i64 z] 54)).alloc (.cells #[.int .i64 most] 3)).alloc (.cells #[.int .i64 x.f, .int .i64 x.t, .int .i64 x.i] 33)) := bt (bt (ba _ _) (ba _ _)) (ba _ _)
    have KN := known9 (((w.alloc (.cells #[.int .i64 a, .int .i64 z] 54)).alloc (.cells #[.int .i64 most] 3)).alloc (.cells #[.int .i64 x.f, .int .i64 x.t, .int .i64 x.i] 33))
    clear cel hcl h1
    go_enter Try.func6, Try.ntmps6
    go_wp2_with (go_at_call 21; go_loud (with_reducible refine KN.mono ?_); rintro e w4 ⟨rfl, b4⟩; have B4 := Lib.hid b4; clear b4 KN)
    go_ret
    exact ⟨rfl, bt B0 B4.out⟩
end Go.Proofs.Ytpgmndbmcciniaa.Itr
