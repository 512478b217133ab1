/-
  A TREE IN A WORLD: its block, its row of nodes, its free places; what putting and taking away leave, plain.
-/
import Derived.Test.YtmgljgmfipodeaaM16
import Derived.Maps.AppendAt
/-
  A TREE IN A WORLD: its block, its row of nodes, its free places; what putting and taking away leave, plain.
-/
namespace Go.Proofs.Ytmgljgmfipodeaa.Av
open Go Go.RowKit
set_option linter.unusedSimpArgs false
set_option linter.unusedVariables false

theorem bdN {B : Nat} {w w' : World} (h : Below B w w') (n : Nat) : Below B w (w'.drewN n) := ⟨h.os, h.tape, h.output, h.size, h.block⟩
theorem lies_fit {ns : List Nd} {t : Tr} (h : Lies ns t) : ∀ q ∈ t.places, ∃ n, ns[q]? = some n ∧ n.l < ns.length ∧ n.r < ns.length ∧ 0 ≤ n.h ∧ n.h ≤ t.ht ∧ n.used = true := by
  induction t with
  | nil => intro q hq; simp [Tr.places] at hq
  | nd p x l r hl hr =>
    intro q hq
    obtain ⟨h1, h2, h3⟩ := h
    simp only [Tr.places, List.mem_append, List.mem_cons] at hq
    rcases hq with hq | rfl | hq
    · obtain ⟨n, a, b, c, d, e, f⟩ := hl h2 q hq
      exact ⟨n, a, b, c, d, by simp only [Tr.ht]; omega, f⟩
    · exact ⟨_, h1, place_lt h2, place_lt h3, by simp, by simp, rfl⟩
    · obtain ⟨n, a, b, c, d, e, f⟩ := hr h3 q hq
      exact ⟨n, a, b, c, d, by simp only [Tr.ht]; omega, f⟩
theorem fit_of {ns ms : List Nd} {t : Tr} (h : Lies ms t) (ht : t.ht ≤ 39) (hF : Fit ns 40) (hl : ms.length = ns.length) (ho : ∀ i, i ∉ t.places → ms[i]? = ns[i]? ∨ ms[i]? = some zeroNd) : Fit ms 40 := by
  refine ⟨by omega, fun n hn => ?_⟩
  obtain ⟨i, hi⟩ := List.getElem?_of_mem hn
  have il := (List.getElem?_eq_some_iff.1 hi).1
  by_cases m : i ∈ t.places
  · obtain ⟨n', a, b, c, d, e, _⟩ := lies_fit h i m
    rw [hi] at a
    simp only [Option.some.injEq] at a
    subst a
    omega
  · rcases ho i m with k | k
    · rw [hi] at k
      have := hF.at k.symm
      rw [hl]; exact this
    · rw [hi] at k
      simp only [Option.some.injEq] at k
      subst k
      simp only [zeroNd]; omega
theorem Fit.app {ns : List Nd} {K : Int} (h : Fit ns K) : Fit (ns ++ [zeroNd]) K := by
  refine ⟨h.1, fun n hn => ?_⟩
  rw [List.length_append, List.length_singleton]
  rcases List.mem_append.1 hn with k | k
  · have := h.2 n k; omega
  · simp only [List.mem_singleton] at k; subst k; have := h.1; simp only [zeroNd]; omega
def putNd (x : It) : Nd := ⟨x, -1, -1, 1, x.t, true⟩
theorem perm_size {t t' : Tr} {p : Nat} (h : t'.places.Perm (p :: t.places)) : t'.size = t.size + 1 := by
  have := h.length_eq
  rw [List.length_cons, Tr.size_places, Tr.size_places] at this; exact this
/-- putting, plain -/
theorem put_all {ns : List Nd} {t : Tr} (ok : t.Ok) (hl : Lies ns t) (x : It) (h : (Tr.way x t []).2 = .nil) (p : Nat) (hp : p ∉ t.places) (hn : p < ns.length) (hF : Fit ns 40) (hs : t.size < 1000000) :
    ∃ (m : Int × List Nd) (t' : Tr), m = mendAll (hangTop (ns.set p (putNd x)) (Tr.way x t []).1 (p : Int)) (Tr.way x t []).1 (p : Int) ∧ m.1 = place t' ∧ Lies m.2 t' ∧ t'.Ok ∧ t'.places.Perm (p :: t.places) ∧ Fit m.2 40 ∧ m.2.length = ns.length ∧ t'.size = t.size + 1 ∧ t'.items = Tr.under x t.items ++ x :: Tr.beyond x t.items := by
  obtain ⟨h1, h2, h3⟩ := put_lies ok hl x h p hp hn
  obtain ⟨k1, k2⟩ := Tr.put_ok x t p ok h hp
  have sz := perm_size k2
  refine ⟨_, Tr.mendZ (Tr.way x t []).1 (.nd p x .nil .nil), rfl, h1, h2, k1, k2, ?_, h3.1, sz, Tr.insert_items x t p ok.sorted h⟩
  refine fit_of h2 (Tr.high_40 _ k1.bal (by omega)) hF h3.1 (fun i hi => .inl (h3.2 i (fun hm => hi (k2.mem_iff.2 hm))))
/-- a row of places -/
def RowI (w : World) (B : Nat) (v : Value) (xs : List Nat) : Prop := w.ownsRow B 3 1 v xs.length (xs.map fun n : Nat => Value.int .i64 (n : Int))
/-- the blocks that are a tree's -/
def own (b : Nat) (nv fv : Value) (k : Nat) : Prop := k = b ∨ nv.ownBlock = some k ∨ fv.ownBlock = some k
structure Tre (w : World) (B b : Nat) (most : Int) (t : Tr) (ns : List Nd) (free : List Nat) (nv fv : Value) : Prop where
  tt : TAt w b most nv fv (place t) (t.size : Int)
  rn : RowN 86 w B nv ns
  rf : RowI w B fv free
  bn : nv.ownBlock ≠ some b
  bf : fv.ownBlock ≠ some b
  nf : ∀ k, nv.ownBlock = some k → fv.ownBlock ≠ some k
  bB : B ≤ b
  m1 : 1 ≤ most
  m2 : most ≤ 1000000
  ok : t.Ok
  ls : Lies ns t
  ft : Fit ns 40
  sz : ns.length = t.size + free.length
  le : (ns.length : Int) ≤ most
  ap : (free ++ t.places).Nodup
  fl : ∀ q ∈ free, q < ns.length
theorem owns_but {S : Nat → Prop} {w w' : World} {B e m n : Nat} {v : Value} {xs : List Value} (h : w.ownsRow B e m v n xs) (k : But S w w') (hs : ∀ g, v.ownBlock = some g → ¬ S g) : w'.ownsRow B e m v n xs := by
  obtain ⟨h1, h2⟩ := h
  refine ⟨h1, ?_⟩
  rcases h2 with h2 | ⟨g', cap', cur, rfl, hg, hh, r⟩
  · exact .inl h2
  · exact .inr ⟨g', cap', cur, rfl, hg, by rw [k.block g' (Array.getElem?_eq_some_iff.1 hh).1 (hs g' rfl)]; exact hh, r⟩
section
variable {w : World} {B b : Nat} {most : Int} {t : Tr} {ns : List Nd} {free : List Nat} {nv fv : Value}
theorem Tre.but {S : Nat → Prop} {w' : World} (h : Tre w B b most t ns free nv fv) (k : But S w w') (hs : ∀ g, own b nv fv g → ¬ S g) : Tre w' B b most t ns free nv fv :=
  { h with
    tt := by have := h.tt; unfold TAt at this ⊢; rw [k.block b h.tt.lt (hs b (.inl rfl))]; exact this
    rn := owns_but h.rn k (fun g hg => hs g (.inr (.inl hg)))
    rf := owns_but h.rf k (fun g hg => hs g (.inr (.inr hg))) }
/-- a tree with nodes: its row has a block -/
theorem Tre.st (h : Tre w B b most t ns free nv fv) (hn : t.isNil = false) : ∃ g cap, nv = .slice (some ⟨g, 0, none⟩) ns.length cap ∧ St w B b g cap most (place t) (t.size : Int) fv ns := by
  rcases h.rn.2 with ⟨rfl, e⟩ | ⟨g, cap, cur, rfl, r⟩
  · exfalso
    have := h.sz
    cases t with
    | nil => simp [Tr.isNil] at hn
    | nd p x l r => simp only [Tr.size] at this; omega
  · exact ⟨g, cap, rfl, h.tt, h.rn, fun e => h.bn (by rw [e]; rfl)⟩
theorem Tre.small (h : Tre w B b most t ns free nv fv) : t.size ≤ 1000000 ∧ t.ht ≤ 39 := by
  have := h.sz; have := h.le; have := h.m2
  exact ⟨by omega, Tr.high_40 _ h.ok.bal (by omega)⟩
end
set_option maxRecDepth 100000 in
theorem down_nil {w : World} {b : Nat} {most many : Int} {nv fv : Value} {x : It} (h : TAt w b most nv fv (-1) many) :
    Calls Try.prog 33 #[.pointer (some ⟨b, 0, none⟩), .agg #[.int .i64 x.f, .int .i64 x.t, .int .i64 x.i]] w fun e w' => ∃ cs : Array Value, e = .returned (.tuple #[.agg cs, .bool false]) ∧ PathOut cs [] .nil ∧ Below w.heap.size w w' := by
  have zz := path_zero
  have P0 : PAt ((w.alloc (.cells #[.int .i64 x.f, .int .i64 x.t, .int .i64 x.i] 54)).alloc (.cells pathZ 82)) (w.heap.size + 1) pathZ := by
    have := heap_alloc_new (w.alloc (.cells #[.int .i64 x.f, .int .i64 x.t, .int .i64 x.i] 54)) (.cells pathZ 82)
    rw [World.size_alloc] at this; exact this
  have B0 : Below w.heap.size w ((w.alloc (.cells #[.int .i64 x.f, .int .i64 x.t, .int .i64 x.i] 54)).alloc (.cells pathZ 82)) := bt (ba _ _) (ba _ _)
  have d3 := (B0.cell (p := ⟨b, 3, none⟩) h.lt).trans h.c3
  replace P0 := Lib.hid P0
  replace B0 := Lib.hid B0
  clear h
  go_enter Try.func33, Try.ntmps33
  go_wp2_with fail
  clear zz d3
  obtain ⟨wb, hwb⟩ : ∃ v, Hid (v = (w.alloc (.cells #[.int .i64 x.f, .int .i64 x.t, .int .i64 x.i] 54)).alloc (.cells pathZ 82)) := ⟨_, rfl⟩
  rw [← hwb.out] at P0 B0 ⊢
  clear hwb
  obtain ⟨i4, hi4⟩ : ∃ i, Hid (w.heap.size + 1 = i) := ⟨_, rfl⟩
  rw [hi4.out] at P0 ⊢
  refine wp_loop_rounds 1 ?_
  rw [rounds_succ]
  go_wp2_with (first
        | (refine wpList_load_row rfl 82 _ rfl i4 rfl 82 pathZ (0, 0) _ P0.out Try.underlying82 rfl (by rw [pathZ_ok.size]; exact path_size) ?_)
        | (refine wpList_plain rfl fun _ hK => wp_store_row 82 _ _ rfl i4 pathZ rfl rfl 82 pathZ P0.out (by rw [pathZ_ok.size]; exact path_size) rfl pathZ_ok.one (hK _ _ ?_); rw [P0.out.setRow]))
  refine bodyPost_ret (v := .tuple #[.agg pathZ, .bool false]) (results_row2 (fn := Try.f33) (p := 4) (u := 5) rfl _ _ i4 _ pathZ (0, 0) _ rfl P0.out Try.underlying82 rfl (by rw [pathZ_ok.size]; exact path_size)) rfl ?_
  exact ⟨pathZ, rfl, ⟨pathZ_ok, fun _ _ _ _ h => by simp at h⟩, B0.out⟩
/-- down, whatever the tree -/
theorem down_tre {w : World} {B b : Nat} {most : Int} {t : Tr} {ns : List Nd} {free : List Nat} {nv fv : Value} {x : It} (h : Tre w B b most t ns free nv fv) :
    Calls Try.prog 33 #[.pointer (some ⟨b, 0, none⟩), .agg #[.int .i64 x.f, .int .i64 x.t, .int .i64 x.i]] w fun e w' => ∃ cs : Array Value, e = .returned (.tuple #[.agg cs, .bool (!(Tr.way x t []).2.isNil)]) ∧ PathOut cs (Tr.way x t []).1 (Tr.way x t []).2 ∧ Below w.heap.size w w' := by
  by_cases hn : t.isNil = true
  · cases t with
    | nil => exact down_nil h.tt
    | nd p y l r => simp [Tr.isNil] at hn
  · obtain ⟨g, cap, e, st⟩ := h.st (by simpa using hn)
    exact down_st st h.ls h.small.2 rfl
theorem mem_way {x : It} {t : Tr} (ok : t.Ok) : (!(Tr.way x t []).2.isNil) = decide (x ∈ t.items) := by
  obtain ⟨_, _, h | ⟨p, l, r, h⟩⟩ := Tr.way_sides0 x t ok.sorted
  · have := (Tr.absent x t ok.sorted h).2.2
    rw [h]; simp [Tr.isNil, this]
  · have := (Tr.present x t ok.sorted p l r h).2.2
    rw [h]; simp [Tr.isNil, this]
theorem row_form {w : World} {B e m n : Nat} {v : Value} {xs : List Value} (h : w.ownsRow B e m v n xs) : ∃ ao cap, v = .slice ao n cap ∧ n ≤ cap ∧ (0 < n → ∃ g, ao = some ⟨g, 0, none⟩) := by
  rcases h.2 with ⟨rfl, rfl⟩ | ⟨g, cap, cur, rfl, _, _, h1, _⟩
  · exact ⟨none, 0, rfl, Nat.le_refl _, fun h => absurd h (by omega)⟩
  · exact ⟨some ⟨g, 0, none⟩, cap, rfl, h1, fun _ => ⟨g, rfl⟩⟩
/-- one place off the end -/
theorem rowI_pop {w : World} {B g cap : Nat} {fr : List Nat} {p : Nat} (h : RowI w B (.slice (some ⟨g, 0, none⟩) (fr.length + 1) cap) (fr ++ [p])) : RowI w B (.slice (some ⟨g, 0, none⟩) fr.length cap) fr := by
  obtain ⟨h1, h2⟩ := h
  rcases h2 with ⟨h2, _⟩ | ⟨g', cap', cur, hv, hb, hg, hc, hm, hs, ht⟩
  · simp at h2
  · simp only [Value.slice.injEq, Option.some.injEq, Addr.mk.injEq, and_true] at hv
    obtain ⟨rfl, _, rfl⟩ := hv
    refine ⟨by simp, .inr ⟨g, cap, cur, rfl, hb, hg, by simp at hc; omega, hm, hs, ?_⟩⟩
    have := congrArg (List.take fr.length) ht
    rw [List.take_take, Nat.min_eq_left (by simp)] at this
    rw [Nat.mul_one, this, List.map_append, List.take_append_of_le_length (by simp), List.take_of_length_le (by simp)]
theorem rowI_cell {w : World} {B g cap : Nat} {xs : List Nat} (h : RowI w B (.slice (some ⟨g, 0, none⟩) xs.length cap) xs) (i p : Nat) (hi : xs[i]? = some p) : w.cell? ⟨g, i, none⟩ = some (.int .i64 (p : Int)) := by
  have il := (List.getElem?_eq_some_iff.1 hi).1
  have := World.ownsRow.cellAt h i (by omega)
  rw [this, List.getElem?_map, hi]; rfl
section
variable {w : World} {B b g cap : Nat} {most root many : Int} {fv : Value} {ns : List Nd}
theorem St.tree {cs : Array Value} {w' : World} {fv' : Value} {root' many' : Int} (h : St w B b g cap most root many fv ns) (e : w'.heap[g]? = w.heap[g]?) (k : TAt w' b most (.slice (some ⟨g, 0, none⟩) ns.length cap) fv' root' many') : St w' B b g cap most root' many' fv' ns := by
  refine ⟨k, ?_, h.ne⟩
  obtain ⟨h1, h2⟩ := h.r
  refine ⟨h1, ?_⟩
  rcases h2 with h2 | ⟨g', cap', cur, hv, hg, hh, r⟩
  · exact .inl h2
  · refine .inr ⟨g', cap', cur, hv, hg, ?_, r⟩
    simp only [Value.slice.injEq, Option.some.injEq, Addr.mk.injEq, and_true] at hv
    rw [← hv.1, e, hv.1]; exact hh
theorem TAt_set {nv : Value} (h : TAt w b most nv fv root many) :
    (∀ v, TAt (w.setCell ⟨b, 1, none⟩ v) b most v fv root many) ∧ (∀ v, TAt (w.setCell ⟨b, 2, none⟩ v) b most nv v root many) ∧ (∀ d : Int, TAt (w.setCell ⟨b, 4, none⟩ (.int .i64 d)) b most nv fv root d) := by
  unfold TAt at h ⊢
  exact ⟨fun v => heap_setCell_same w b 1 _ _ v h, fun v => heap_setCell_same w b 2 _ _ v h, fun d => heap_setCell_same w b 4 _ _ _ h⟩
theorem St.count (h : St w B b g cap most root many fv ns) (d : Int) : St (w.setCell ⟨b, 4, none⟩ (.int .i64 d)) B b g cap most root d fv ns :=
  h.tree (cs := #[]) (Below.heap_setCell _ _ _ _ (fun e => h.ne e.symm)) ((TAt_set h.t).2.2 d)
/-- a whole node stored -/
theorem St.put8 {p : Nat} {nd n' : Nd} (h : St w B b g cap most root many fv ns) (hp : ns[p]? = some nd) :
    St ((((((((w.setCell ⟨g, p * 8, none⟩ (.int .i64 n'.x.f)).setCell ⟨g, p * 8 + 1, none⟩ (.int .i64 n'.x.t)).setCell ⟨g, p * 8 + 2, none⟩ (.int .i64 n'.x.i)).setCell ⟨g, p * 8 + 3, none⟩ (.int .i64 n'.l)).setCell ⟨g, p * 8 + 4, none⟩ (.int .i64 n'.r)).setCell ⟨g, p * 8 + 5, none⟩ (.int .i64 n'.h)).setCell ⟨g, p * 8 + 6, none⟩ (.int .i64 n'.top)).setCell ⟨g, p * 8 + 7, none⟩ (.bool n'.used))
      B b g cap most root many fv (ns.set p n') := by
  have hl := (List.getElem?_eq_some_iff.1 hp).1
  have s0 := h.set (k := 0) (nd' := { nd with x := ⟨n'.x.f, nd.x.t, nd.x.i⟩ }) (v := .int .i64 n'.x.f) hp (by omega) rfl
  have s1 := s0.set (k := 1) (nd' := { nd with x := ⟨n'.x.f, n'.x.t, nd.x.i⟩ }) (v := .int .i64 n'.x.t) (List.getElem?_set_self hl) (by omega) rfl
  rw [List.set_set] at s1
  have s2 := s1.set (k := 2) (nd' := { nd with x := n'.x }) (v := .int .i64 n'.x.i) (List.getElem?_set_self hl) (by omega) rfl
  rw [List.set_set] at s2
  have s3 := s2.set (k := 3) (nd' := { nd with x := n'.x, l := n'.l }) (v := .int .i64 n'.l) (List.getElem?_set_self hl) (by omega) rfl
  rw [List.set_set] at s3
  have s4 := s3.set (k := 4) (nd' := { nd with x := n'.x, l := n'.l, r := n'.r }) (v := .int .i64 n'.r) (List.getElem?_set_self hl) (by omega) rfl
  rw [List.set_set] at s4
  have s5 := s4.set (k := 5) (nd' := { nd with x := n'.x, l := n'.l, r := n'.r, h := n'.h }) (v := .int .i64 n'.h) (List.getElem?_set_self hl) (by omega) rfl
  rw [List.set_set] at s5
  have s6 := s5.set (k := 6) (nd' := { nd with x := n'.x, l := n'.l, r := n'.r, h := n'.h, top := n'.top }) (v := .int .i64 n'.top) (List.getElem?_set_self hl) (by omega) rfl
  rw [List.set_set] at s6
  have s7 := s6.set (k := 7) (nd' := n') (v := .bool n'.used) (List.getElem?_set_self hl) (by omega) rfl
  rw [List.set_set] at s7
  exact s7
end
theorem info_node : (Try.prog.info? 86).map (fun i => (i.zero, i.size, i.bytes)) = some (some (.agg zeroNd.cells.toArray), 8, 64) := by kernel_rfl
theorem zero_cells (w : World) : ∀ j u, zeroNd.cells[j]? = some u → (w.alloc (Obj.cells zeroNd.cells.toArray 86)).cell? ⟨w.heap.size, j, none⟩ = some u := fun j u hu => by
  rw [cell_of_row _ _ _ _ _ (0, 0) (heap_alloc_new w _), List.getElem?_toArray]; exact hu
/-- append of one empty node -/
theorem app_node {w : World} {ops : Array Oper} {rest : List Oper} {o : Oper} {a : Act} {Q : Exit → Act → World → Prop} (hgd : o.guard = none) (s x : Operand)
    (ho : o.op = .call { callee := .builtin .append, args := #[s, x], argTypes := #[62, 62] }) (B : Nat) (v : Value) (ns : List Nd) (hs : a.eval s = v) (hown : RowN 86 w B v ns)
    (g : Nat) (hx : a.eval x = .slice (some ⟨g, 0, none⟩) 1 1) (hc : ∀ j u, zeroNd.cells[j]? = some u → w.cell? ⟨g, j, none⟩ = some u) (hl : ns.length < 1000000) (hB : B ≤ w.heap.size)
    (h : ∀ g' cap' w', RowN 86 w' B (.slice (some ⟨g', 0, none⟩) (ns ++ [zeroNd]).length cap') (ns ++ [zeroNd]) → But (fun k => v.ownBlock = some k) w w' → (v.ownBlock = some g' ∨ g' = w.heap.size) → wpList Try.prog ops Q rest (a.put o.dst (.slice (some ⟨g', 0, none⟩) (ns ++ [zeroNd]).length cap')) w') : wpList Try.prog ops Q (o :: rest) a w := by
  obtain ⟨i0, hi, hz0, hz1, hz2⟩ := info_parts info_node
  refine wpList_append_own_at _ hgd s x _ ho B 86 i0 (.agg zeroNd.cells.toArray) 8 64 Try.underlying62 hi hz0 hz1 hz2 rfl (by decide) v ns.length _ hs hown ⟨g, 0, none⟩ 1 1 zeroNd.cells hx rfl ?_ ?_ ?_ ?_ hB ?_
  · intro j u hu
    have := hc j u hu
    rw [show (⟨g, 0, none⟩ : Addr).add j = ⟨g, j, none⟩ by unfold Addr.add; split <;> simp_all]; exact this
  · intro u hu
    simp only [Nd.cells, List.mem_cons, List.not_mem_nil, or_false] at hu
    rcases hu with rfl | rfl | rfl | rfl | rfl | rfl | rfl | rfl <;> rfl
  · simp only [maxLen]; omega
  · omega
  · intro v' w' h1 h2 h3 h4
    have h1 : RowN 86 w' B v' (ns ++ [zeroNd]) := by
      unfold RowN flat
      rw [List.length_append, List.length_singleton, List.flatMap_append, List.flatMap_singleton]; exact h1
    obtain ⟨ao, cap', e, _, hg⟩ := row_form h1
    obtain ⟨g', rfl⟩ := hg (by simp)
    subst e
    refine h g' cap' w' h1 ⟨h2.os, h2.tape, h2.output, h2.size, fun k hk hs => h2.block k hk (fun e => hs e.symm)⟩ ?_
    rcases h4 with h4 | h4
    · exact .inl h4.symm
    · simp only [Value.ownBlock, Option.some.injEq] at h4; exact .inr h4
end Go.Proofs.Ytmgljgmfipodeaa.Av
