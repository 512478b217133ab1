/-
  timeline: Segs: the closure 'add', a span that may not be; walked.
-/
import Derived.Test.YtmgljgmfipodeaaM38
import Derived.Test.YtmgljgmfipodeaaM40
/-
  timeline: Segs: the closure 'add', a span that may not be; walked.
-/
namespace Go.Proofs.Ytmgljgmfipodeaa.Tl
open Go Go.RowKit Av Itr
set_option linter.unusedSimpArgs false
set_option linter.unusedVariables false
attribute [local go_sem ↓] Go.wp_at_zero Go.wp_at_succ
attribute [local go_sem] Oper.semAt_some

theorem run_min2 (P : Program) (ts : Array TypeId) (t : TypeId) (x y : Int) (w : World) : (Builtin.min_ ts t #[.int .i64 x, .int .i64 y]).run P w = .ok (.int .i64 (min x y)) w := by
  simp [Builtin.min_, Builtin.min2, go_sem]
  split <;> omega
attribute [local go_sem ↓] run_min2
/-- a row of segments -/
def segE : Elem Try.prog (Int × Int × Int) where
  sl := 34
  e := 39
  sz := 3
  bytes := 24
  z := .agg #[.int .i64 0, .int .i64 0, .int .i64 0]
  enc := fun x => [.int .i64 x.1, .int .i64 x.2.1, .int .i64 x.2.2]
  und := Try.underlying34
  info := by kernel_rfl
  zs := rfl
  pos := by decide
  len := fun _ => rfl
  one := fun x u hu => by simp only [List.mem_cons, List.not_mem_nil, or_false] at hu; rcases hu with rfl | rfl | rfl <;> rfl
def step1 (sT : Int) (vals : List Int) (st : Int × List (Int × Int × Int)) (x : It) : Int × List (Int × Int × Int) := addS (addS st x.f 0) (min x.t sT) (va vals x.i)
def segP (sT : Int) (vals : List Int) (xs : List It) (st : Int × List (Int × Int × Int)) : Int × List (Int × Int × Int) := xs.foldl (step1 sT vals) st
theorem segs_fold (sT : Int) (vals : List Int) : ∀ (xs : List It) (st : Int × List (Int × Int × Int)), segs sT vals xs st = addS (segP sT vals xs st) sT 0
  | [], st => rfl
  | x :: xs, st => by unfold segs segP; rw [List.foldl_cons, segs_fold sT vals xs]; rfl
theorem segP_snoc (sT : Int) (vals : List Int) (xs : List It) (x : It) (st : Int × List (Int × Int × Int)) : segP sT vals (xs ++ [x]) st = step1 sT vals (segP sT vals xs st) x := by
  unfold segP; rw [List.foldl_append]; rfl
theorem addS_len (st : Int × List (Int × Int × Int)) (tz v : Int) : (addS st tz v).2.length ≤ st.2.length + 1 := by
  unfold addS; split
  · simp
  · omega
theorem segP_len (sT : Int) (vals : List Int) : ∀ (xs : List It) (st : Int × List (Int × Int × Int)), (segP sT vals xs st).2.length ≤ st.2.length + 2 * xs.length
  | [], st => by unfold segP; simp
  | x :: xs, st => by
    have h := segP_len sT vals xs (step1 sT vals st x)
    have h1 := addS_len (addS st x.f 0) (min x.t sT) (va vals x.i)
    have h2 := addS_len st x.f 0
    have e : segP sT vals (x :: xs) st = segP sT vals xs (step1 sT vals st x) := rfl
    rw [e, List.length_cons]
    have e2 : (step1 sT vals st x).2.length = (addS (addS st x.f 0) (min x.t sT) (va vals x.i)).2.length := rfl
    omega
/-- the function value 'add' -/
def addF (ka ko : Nat) : Value := .func (.func 20) #[] #[.pointer (some ⟨ka, 0, none⟩), .pointer (some ⟨ko, 0, none⟩)]
/-- what it leaves -/
structure AddPost (W W' : World) (ka ko base : Nat) (vo : Value) (st : Int × List (Int × Int × Int)) : Prop where
  at' : Boxed W' ka 3 (.int .i64 st.1)
  out : ∃ v', Boxed W' ko 34 v' ∧ segE.Row W' base v' st.2
  keep : ∀ T : Nat → Prop, (∀ g, vo.ownBlock = some g → ¬ T g) → ¬ T ko → ¬ T ka → Keep T W W'
  bel : ∀ n, (∀ g, vo.ownBlock = some g → n ≤ g) → n ≤ ko → n ≤ ka → n ≤ W.heap.size → Below n W W'
set_option maxRecDepth 100000 in
set_option maxHeartbeats 1000000 in
theorem addseg_is {W : World} {ka ko base : Nat} {vo : Value} {out : List (Int × Int × Int)} {at' : Int} (tz v : Int) (ha : Boxed W ka 3 (.int .i64 at')) (ho : Boxed W ko 34 vo) (hr : segE.Row W base vo out) (hl : out.length < 1000000) (hb : base ≤ W.heap.size) :
    Calls Try.prog 20 #[.int .i64 tz, .int .i64 v, .pointer (some ⟨ka, 0, none⟩), .pointer (some ⟨ko, 0, none⟩)] W fun e w' => (∃ u, e = .returned u) ∧ AddPost W w' ka ko base vo (addS (at', out) tz v) := by
  by_cases h1 : at' < tz
  · have e1 : addS (at', out) tz v = (tz, out ++ [(at', tz, v)]) := by unfold addS; rw [if_pos h1]
    rw [e1]
    obtain ⟨ao, cap, rfl, _, _⟩ := hr.form
    have nea : some ka ≠ (Value.slice ao out.length cap).ownBlock := hr.ne ha (by decide)
    have neo : some ko ≠ (Value.slice ao out.length cap).ownBlock := hr.ne ho (by decide)
    have nao : ka ≠ ko := by rintro rfl; have e := ho.symm.trans ha; simp at e
    have lta := ha.lt
    have lto := ho.lt
    have ca := ha.cell
    have co := ho.cell
    have SRC : Hid (segE.Arg (W.alloc (.cells #[.int .i64 at', .int .i64 tz, .int .i64 v] 39)) (.slice (some ⟨W.heap.size, 0, none⟩) 1 1) [(at', tz, v)]) := Elem.arg_one (E := segE) (w := W) (at', tz, v) 39
    have HR := Lib.hid (hr.alloc (.cells #[.int .i64 at', .int .i64 tz, .int .i64 v] 39))
    have HA := Lib.hid (ha.alloc (.cells #[.int .i64 at', .int .i64 tz, .int .i64 v] 39))
    have HO := Lib.hid (ho.alloc (.cells #[.int .i64 at', .int .i64 tz, .int .i64 v] 39))
    have HFL : Hid (out.length + [(at', tz, v)].length ≤ 1000001) := by show _ + 1 ≤ _; omega
    have HB : Hid (base ≤ (W.alloc (.cells #[.int .i64 at', .int .i64 tz, .int .i64 v] 39)).heap.size) := by show _ ≤ _; rw [World.size_alloc]; omega
    have HNA := Lib.hid nea; have HNO := Lib.hid neo; have HAO := Lib.hid nao; have HLA := Lib.hid lta; have HLO := Lib.hid lto
    clear ha ho hr hl hb nea neo nao lta lto e1
    go_enter Try.func20, Try.ntmps20
    go_upto_region 2 with (at_builtin; go_loud (refine Elem.app (E := segE) rfl _ _ rfl base (.slice ao out.length cap) out (.slice (some ⟨W.heap.size, 0, none⟩) 1 1) [(at', tz, v)] rfl rfl HR.out SRC.out HFL.out (by decide) HB.out ?_; intro v5 w5 r5 g5 l5; obtain ⟨a5, q5, e5, _, _⟩ := r5.form; obtain ⟨n5, hn5⟩ : ∃ k : Nat, Hid ((out ++ [(at', tz, v)]).length = k) := ⟨_, rfl⟩; rw [hn5.out] at e5; subst e5; clear hn5; have HO5 := Lib.hid (HO.out.kept g5 HNO.out); have HA5 := Lib.hid (HA.out.kept g5 HNA.out); have co5 := HO5.out.cell; have fo5 := HO5.out.frozen; have R5 := Lib.hid r5; have G5 := Lib.hid g5; clear r5 g5 l5))
    clear co5 fo5 co ca
    have HA6 : Hid (Boxed (w5.setCell ⟨ko, 0, none⟩ (.slice a5 n5 q5)) ka 3 (.int .i64 at')) := (Below.heap_setCell _ _ _ _ HAO.out).trans HA5.out
    have ca := HA6.out.cell
    have fa := HA6.out.frozen
    go_wp2_with fail
    go_end0
    have z5 := G5.out.size
    rw [World.size_alloc] at z5
    have same : ∀ j, j < W.heap.size → j ≠ ko → j ≠ ka → some j ≠ (Value.slice ao out.length cap).ownBlock → ((w5.setCell ⟨ko, 0, none⟩ (.slice a5 n5 q5)).setCell ⟨ka, 0, none⟩ (.int .i64 tz)).heap[j]? = W.heap[j]? := fun j hj h1 h2 h3 =>
      (Below.heap_setCell _ _ _ _ h2).trans ((Below.heap_setCell _ _ _ _ h1).trans ((G5.out.block j (by rw [World.size_alloc]; omega) h3).trans (Below.heap_alloc _ _ _ hj)))
    have NR : ∀ g, (Value.slice a5 n5 q5).ownBlock = some g → g ≠ ko ∧ g ≠ ka := fun g hg => ⟨fun e => by have := R5.out.ne HO5.out (by decide); rw [hg, e] at this; exact this rfl, fun e => by have := R5.out.ne HA5.out (by decide); rw [hg, e] at this; exact this rfl⟩
    refine ⟨⟨_, rfl⟩, HA6.out.set _, ⟨_, (Below.heap_setCell _ _ _ _ (Ne.symm HAO.out)).trans (HO5.out.set _), R5.out.block fun g hg => (Below.heap_setCell _ _ _ _ (NR g hg).2).trans (Below.heap_setCell _ _ _ _ (NR g hg).1)⟩, fun T hT hko hka => ⟨by simp [World.setCell]; omega, fun j hj hl => same j hl (fun e => hko (e ▸ hj)) (fun e => hka (e ▸ hj)) (fun e => hT j e.symm hj)⟩, fun n hn hko hka hz => ?_⟩
    exact ((Below.grown ((Below.refl n W).alloc hz _) G5.out (by rw [World.size_alloc]; omega) (fun j ej => hn j ej)).setCell hko _).setCell hka _
  · have e1 : addS (at', out) tz v = (at', out) := by unfold addS; rw [if_neg h1]
    rw [e1]
    have d1 : decide (at' < tz) = false := by simpa using h1
    have ca := ha.cell
    have HP : Hid (AddPost W W ka ko base vo (at', out)) := ⟨ha, ⟨vo, ho, hr⟩, fun T _ _ _ => Keep.refl _ _, fun n _ _ _ _ => Below.refl _ _⟩
    clear ha ho hr hl hb e1
    go_enter Try.func20, Try.ntmps20
    go_wp2_with fail
    go_end0
    exact ⟨⟨_, rfl⟩, HP.out⟩
/-- a timeline's pointer in its box -/
def TBox (w : World) (k b : Nat) : Prop := Boxed w k 28 (.pointer (some ⟨b, 0, none⟩))
def SBox (w : World) (k : Nat) (a z : Int) : Prop := w.heap[k]? = some (.cells #[.int .i64 a, .int .i64 z] 24 (0, 0))
theorem SBox.c0 {w : World} {k : Nat} {a z : Int} (h : SBox w k a z) : w.cell? ⟨k, 0, none⟩ = some (.int .i64 a) := by rw [cell_of_row w _ _ _ _ (0, 0) h]; rfl
theorem SBox.c1 {w : World} {k : Nat} {a z : Int} (h : SBox w k a z) : w.cell? ⟨k, 1, none⟩ = some (.int .i64 z) := by rw [cell_of_row w _ _ _ _ (0, 0) h]; rfl
theorem three_new (w : World) (b : Nat) (a z : Int) : let W := ((w.alloc (.cells #[.pointer (some ⟨b, 0, none⟩)] 28)).alloc (.cells #[.int .i64 a, .int .i64 z] 24)).alloc (.cells #[.slice none 0 0] 34)
    TBox W w.heap.size b ∧ SBox W (w.heap.size + 1) a z ∧ Boxed W (w.heap.size + 1 + 1) 34 (.slice none 0 0) ∧ Below w.heap.size w W ∧ W.heap.size = w.heap.size + 3 := by
  intro W
  have h1 := heap_alloc_new (w.alloc (.cells #[.pointer (some ⟨b, 0, none⟩)] 28)) (.cells #[.int .i64 a, .int .i64 z] 24)
  have h2 := heap_alloc_new ((w.alloc (.cells #[.pointer (some ⟨b, 0, none⟩)] 28)).alloc (.cells #[.int .i64 a, .int .i64 z] 24)) (.cells #[.slice none 0 0] 34)
  simp only [World.size_alloc] at h1 h2
  exact ⟨(Below.heap_alloc _ _ _ (by simp; omega)).trans ((Below.heap_alloc _ _ _ (by simp)).trans (heap_alloc_new w _)), (Below.heap_alloc _ _ _ (by simp)).trans h1, h2, bt (bt (ba _ _) (ba _ _)) (ba _ _), by simp [W]⟩
set_option maxRecDepth 100000 in
set_option maxHeartbeats 1000000 in
theorem segs_bad {w : World} {B b : Nat} {T : Nat → Prop} {L : List It} {vals free : List Int} {sF sT : Int} (h : LineIs w B b T L vals free) (hm : mayS sF sT = false) :
    Calls Try.prog 9 #[.pointer (some ⟨b, 0, none⟩), .agg #[.int .i64 sF, .int .i64 sT]] w fun e w' => e = .returned (.slice none 0 0) ∧ Below w.heap.size w w' := by
  obtain ⟨tb, O, vv, fv, h, _⟩ := h
  obtain ⟨t0, s0, o0, B0, _⟩ := three_new w b sF sT
  have A := none_is (h.below B0).box
  have M := may_is sF sT (((w.alloc (.cells #[.pointer (some ⟨b, 0, none⟩)] 28)).alloc (.cells #[.int .i64 sF, .int .i64 sT] 24)).alloc (.cells #[.slice none 0 0] 34))
  rw [hm] at M
  clear h hm
  refine calls_marks Try.func9 rfl ?_
  simp only [Try.ntmps9, List.size_toArray, List.length_cons, List.length_nil, Nat.reduceAdd, Nat.reduceSub, Array.replicate_succ, Array.replicate_zero, List.push_toArray, List.append_toArray, List.nil_append, List.cons_append]
  go_upto_region 1 with fail
  generalize World.alloc (World.alloc (World.alloc w _) _) _ = W0 at t0 s0 o0 B0 A M ⊢
  obtain ⟨i, hi⟩ : ∃ i, Hid (w.heap.size = i) := ⟨_, rfl⟩
  rw [hi.out] at t0 s0 o0 B0 ⊢
  have c0 := t0.cell
  have c1 := s0.c0
  have c2 := s0.c1
  have c3 := o0.cell
  have O0 := Lib.hid o0
  have HB0 := Lib.hid B0
  clear t0 s0 o0 B0
  go_upto_region 2 with (first
    | (go_at_call 14; (with_reducible refine A.mono ?_); rintro e w20 ⟨rfl, hq⟩; obtain rfl := hq.symm; clear A)
    | (go_at_call 15; (with_reducible refine M.mono ?_); rintro e w2 ⟨rfl, b2⟩; have B2 := Lib.hid b2; clear b2 M))
  have O2 : Boxed w2 (i + 1 + 1) 34 (.slice none 0 0) := (B2.out.block _ (Array.getElem?_eq_some_iff.1 O0.out).1).trans O0.out
  have c4 := O2.cell
  have f4 := O2.frozen
  have O3 := Lib.hid (O2.set (.slice none 0 0))
  clear c0 c1 c2 c3 O2
  go_wp2_with fail
  have B3 : Hid (Below i w (w2.setCell ⟨i + 1 + 1, 0, none⟩ (.slice none 0 0))) := (HB0.out.trans (B2.out.mono (by have := HB0.out.size; have := hi.out; omega))).setCell (p := ⟨i + 1 + 1, 0, none⟩) (by show i ≤ i + 1 + 1; omega) _
  generalize World.setCell w2 _ _ = W1 at B3 O3 ⊢
  have a1 := O3.out.cell
  show LeavesInM _ _ _ _ _ _ _ _ _
  refine ⟨.slice none 0 0, by simp [results, Try.results9, go_sem, a1], rfl, by rw [hi.out]; exact B3.out⟩
end Go.Proofs.Ytmgljgmfipodeaa.Tl
