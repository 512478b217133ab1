/-
  avl: trees that are not there, or were not made; New; Node.
-/
import Derived.Test.YtpgmndbmcciniaaAvlEach
namespace Go.Proofs.Ytpgmndbmcciniaa.Av
open Go Go.RowKit
set_option linter.unusedSimpArgs false
set_option linter.unusedVariables false
attribute [local go_sem ↓] Go.wp_at_zero Go.wp_at_succ

/-- a tree that is not there, or was not made -/
def NoTree (w : World) (v : Value) : Prop := v = .pointer none ∨ ∃ b nv fv root many, v = .pointer (some ⟨b, 0, none⟩) ∧ TAt w b 0 nv fv root many
theorem NoTree.below {w w' : World} {v : Value} (h : NoTree w v) (k : Below w.heap.size w w') : NoTree w' v := by
  rcases h with h | ⟨b, nv, fv, root, many, rfl, h⟩
  · exact .inl h
  · refine .inr ⟨b, nv, fv, root, many, rfl, ?_⟩
    have hb := h.lt
    unfold TAt at h ⊢
    rw [k.block b hb]; exact h
theorem none_no {w : World} {v : Value} (h : NoTree w v) : Calls Try.prog 25 #[v] w fun e w' => e = .returned (.bool true) ∧ w' = w := by
  rcases h with rfl | ⟨b, nv, fv, root, many, rfl, h⟩
  · exact none_nil w
  · exact none_at h
theorem len_no {w : World} {v : Value} (h : NoTree w v) : Calls Try.prog 17 #[v] w fun e w' => e = .returned (.int .i64 0) ∧ w' = w := by
  rcases h with rfl | ⟨b, nv, fv, root, many, rfl, h⟩
  · exact len_nil w
  · exact len_zero h
theorem root_no {w : World} {v : Value} (h : NoTree w v) : Calls Try.prog 20 #[v] w fun e w' => e = .returned (.int .i64 (-1)) ∧ w' = w := by
  rcases h with rfl | ⟨b, nv, fv, root, many, rfl, h⟩
  · exact root_nil w
  · exact root_zero h
set_option maxRecDepth 100000 in
theorem insertx_no {w : World} {v : Value} {x : It} (h : NoTree w v) : Calls Try.prog 9 #[v, .agg #[.int .i64 x.f, .int .i64 x.t, .int .i64 x.i]] w fun e w' => e = .returned (.int .i64 1) ∧ Below w.heap.size w w' := by
  have B0 := ba w (.cells #[.int .i64 x.f, .int .i64 x.t, .int .i64 x.i] 33)
  have A := none_no (h.below B0)
  replace B0 := Lib.hid B0
  clear h
  go_enter Try.func9, Try.ntmps9
  go_wp2_with (go_at_call 25; (with_reducible refine A.mono ?_); rintro e w20 ⟨rfl, rfl⟩)
  go_ret
  exact ⟨rfl, B0.out⟩
set_option maxRecDepth 100000 in
theorem deletex_no {w : World} {v : Value} {x : It} (h : NoTree w v) : Calls Try.prog 11 #[v, .agg #[.int .i64 x.f, .int .i64 x.t, .int .i64 x.i]] w fun e w' => e = .returned (.int .i64 1) ∧ Below w.heap.size w w' := by
  have B0 := ba w (.cells #[.int .i64 x.f, .int .i64 x.t, .int .i64 x.i] 33)
  have A := none_no (h.below B0)
  replace B0 := Lib.hid B0
  clear h
  go_enter Try.func11, Try.ntmps11
  go_wp2_with (go_at_call 25; (with_reducible refine A.mono ?_); rintro e w20 ⟨rfl, rfl⟩)
  go_ret
  exact ⟨rfl, B0.out⟩
set_option maxRecDepth 100000 in
theorem hasx_no {w : World} {v : Value} {x : It} (h : NoTree w v) : Calls Try.prog 13 #[v, .agg #[.int .i64 x.f, .int .i64 x.t, .int .i64 x.i]] w fun e w' => e = .returned (.bool false) ∧ Below w.heap.size w w' := by
  have B0 := ba w (.cells #[.int .i64 x.f, .int .i64 x.t, .int .i64 x.i] 33)
  have A := none_no (h.below B0)
  replace B0 := Lib.hid B0
  clear h
  go_enter Try.func13, Try.ntmps13
  go_wp2_with (go_at_call 25; (with_reducible refine A.mono ?_); rintro e w20 ⟨rfl, rfl⟩)
  go_ret
  exact ⟨rfl, B0.out⟩
set_option maxRecDepth 100000 in
theorem items_no {w : World} {v : Value} (h : NoTree w v) : Calls Try.prog 15 #[v] w fun e w' => e = .returned (.slice none 0 0) ∧ Below w.heap.size w w' := by
  have zz := path_zero
  have B0 := ba w (.cells pathZ 64)
  have P0 : PAt (w.alloc (.cells pathZ 64)) w.heap.size pathZ := heap_alloc_new w _
  have p80 := P0.cell 80 pathZ_ok.n
  have A := root_no (h.below B0)
  replace B0 := Lib.hid B0
  clear h P0
  go_enter Try.func15, Try.ntmps15
  go_wp2_with (go_at_call 20; (with_reducible refine A.mono ?_); rintro e w20 ⟨rfl, rfl⟩)
  refine wp_loop_rounds 1 ?_
  rw [rounds_succ]
  go_wp2
  go_ret
  exact ⟨rfl, B0.out⟩
def knotV (f t i l r h top : Int) : Value := .agg #[.int .i64 f, .int .i64 t, .int .i64 i, .int .i64 l, .int .i64 r, .int .i64 h, .int .i64 top]
set_option maxRecDepth 100000 in
theorem node_no {w : World} {v : Value} {p : Int} (h : NoTree w v) : Calls Try.prog 19 #[v, .int .i64 p] w fun e w' => e = .returned (.tuple #[knotV 0 0 0 0 0 0 0, .bool false]) ∧ Below w.heap.size w w' := by
  have B0 := ba w (.cells #[.int .i64 0, .int .i64 0, .int .i64 0, .int .i64 0, .int .i64 0, .int .i64 0, .int .i64 0] 49)
  have A := none_no (h.below B0)
  replace B0 := Lib.hid B0
  clear h
  go_enter Try.func19, Try.ntmps19
  go_wp2_with (go_at_call 25; (with_reducible refine A.mono ?_); rintro e w20 ⟨rfl, rfl⟩)
  refine bodyPost_ret (v := .tuple #[knotV 0 0 0 0 0 0 0, .bool false]) (results_row2 (fn := Try.f19) (p := 4) (u := 5) rfl _ _ w.heap.size _ _ (0, 0) _ rfl (heap_alloc_new w _) Try.underlying49 rfl (by kernel_rfl)) rfl ?_
  exact ⟨rfl, B0.out⟩
set_option maxRecDepth 100000 in
theorem node_at {w : World} {B b : Nat} {most : Int} {t : Tr} {ns : List Nd} {free : List Nat} {nv fv : Value} {p : Nat} {n : Nd} (h : Tre w B b most t ns free nv fv) (hn : ns[p]? = some n) (hu : n.used = true) :
    Calls Try.prog 19 #[.pointer (some ⟨b, 0, none⟩), .int .i64 (p : Int)] w fun e w' => e = .returned (.tuple #[knotV n.x.f n.x.t n.x.i n.l n.r n.h n.top, .bool true]) ∧ Below w.heap.size w w' := by
  have B0 := ba w (.cells #[.int .i64 0, .int .i64 0, .int .i64 0, .int .i64 0, .int .i64 0, .int .i64 0, .int .i64 0] 49)
  have h1 := h.but (Below.but B0 (fun _ => False)) (fun _ _ k => k)
  have A := none_at h1.tt
  rw [show decide (most = 0) = false by have := h.m1; simp; omega] at A
  obtain ⟨an, cap, rfl, _, hg⟩ := row_form h1.rn
  have pl := (List.getElem?_eq_some_iff.1 hn).1
  obtain ⟨g, rfl⟩ := hg (by omega)
  have S1 : St (w.alloc (.cells #[.int .i64 0, .int .i64 0, .int .i64 0, .int .i64 0, .int .i64 0, .int .i64 0, .int .i64 0] 49)) B b g cap most (place t) (t.size : Int) fv ns := ⟨h1.tt, h1.rn, fun z => h1.bn (by rw [z]; rfl)⟩
  have c1 := S1.t.c1
  have p0 : (0 : Int) ≤ (p : Int) := by omega
  have p1 : (p : Int) < ((ns.length : Nat) : Int) := by omega
  have q0 := S1.cell p 0 n (.int .i64 n.x.f) hn (by omega) rfl
  rw [Nat.add_zero] at q0
  have q1 := S1.cell p 1 n (.int .i64 n.x.t) hn (by omega) rfl
  have q2 := S1.cell p 2 n (.int .i64 n.x.i) hn (by omega) rfl
  have q3 := S1.cell p 3 n (.int .i64 n.l) hn (by omega) rfl
  have q4 := S1.cell p 4 n (.int .i64 n.r) hn (by omega) rfl
  have q5 := S1.cell p 5 n (.int .i64 n.h) hn (by omega) rfl
  have q6 := S1.cell p 6 n (.int .i64 n.top) hn (by omega) rfl
  have q7 := S1.cell p 7 n (.bool true) hn (by omega) (by rw [← hu]; rfl)
  have d0 : decide ((p : Int) < 0) = false := by simp
  have d1 : decide (((ns.length : Nat) : Int) ≤ (p : Int)) = false := by simp; omega
  have d2 : decide (ns.length ≤ p) = false := by simp; omega
  replace B0 := Lib.hid B0
  clear h h1 hn hu S1 hg pl
  go_enter Try.func19, Try.ntmps19
  go_wp2_with (go_at_call 25; (with_reducible refine A.mono ?_); rintro e w20 ⟨rfl, rfl⟩)
  refine bodyPost_ret (v := .tuple #[knotV n.x.f n.x.t n.x.i n.l n.r n.h n.top, .bool true]) (results_row2 (fn := Try.f19) (p := 4) (u := 5) rfl _ _ w.heap.size _ _ (0, 0) _ rfl (heap_alloc_new w _) Try.underlying49 rfl (by kernel_rfl)) rfl ?_
  exact ⟨rfl, ba w _⟩
set_option maxRecDepth 100000 in
theorem new_no {w : World} {m : Int} (h : m < 1 ∨ 1000000 < m) : Calls Try.prog 8 #[.int .i64 m] w fun e w' => e = .returned (.tuple #[.pointer none, .int .i64 2]) ∧ w' = w := by
  by_cases h1 : m < 1
  · have d1 : decide (m < 1) = true := by simpa using h1
    clear h
    go_enter Try.func8, Try.ntmps8
    go_wp2_with fail
    go_ret2
    exact ⟨rfl, rfl⟩
  · have h2 : 1000000 < m := by omega
    have d1 : decide (m < 1) = false := by simpa using h1
    have d2 : decide (1000000 < m) = true := by simpa using h2
    clear h
    go_enter Try.func8, Try.ntmps8
    go_wp2_with fail
    go_ret2
    exact ⟨rfl, rfl⟩
set_option maxRecDepth 100000 in
theorem new_is {w : World} {B : Nat} {m : Int} (h1 : 1 ≤ m) (h2 : m ≤ 1000000) (hB : B ≤ w.heap.size) : Calls Try.prog 8 #[.int .i64 m] w fun e w' => e = .returned (.tuple #[.pointer (some ⟨w.heap.size, 0, none⟩), .int .i64 0]) ∧ TreeIs w' B w.heap.size m (· = w.heap.size) [] ∧ Below w.heap.size w w' := by
  have d1 : decide (m < 1) = false := by simp; omega
  have d2 : decide (1000000 < m) = false := by simp; omega
  have d3 : ¬ m < 1 := by omega
  have d4 : ¬ 1000000 < m := by omega
  have HM := Lib.hid (And.intro h1 (And.intro h2 hB))
  clear h1 h2 hB
  go_enter Try.func8, Try.ntmps8
  go_wp2_with fail
  go_ret2
  refine ⟨rfl, ⟨.nil, [], [], .slice none 0 0, .slice none 0 0, { tt := ?_, rn := rowN_nil _ _ _, rf := World.ownsRow_nil _ _ _ _, bn := by simp [Value.ownBlock], bf := by simp [Value.ownBlock], nf := fun k hk => by simp [Value.ownBlock] at hk, bB := HM.out.2.2, m1 := HM.out.1, m2 := HM.out.2.1, ok := ⟨trivial, by simp [Tr.Sorted, Tr.items], by simp [Tr.places]⟩, ls := trivial, ft := ⟨by omega, fun n hn => by simp at hn⟩, sz := rfl, le := by have := HM.out.1; simp; omega, ap := by simp [Tr.places], fl := fun q hq => by simp at hq }, rfl, ?_⟩, ba _ _⟩
  · exact heap_alloc_new w _
  · funext k; simp [own, Value.ownBlock]
end Go.Proofs.Ytpgmndbmcciniaa.Av
