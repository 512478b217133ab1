/-
  HOW THE REFERENCE's NUMBERS LIE IN MEMORY: a row of thousands in a block; a number; both stand while nothing that was there is written.
-/
import Derived.Test.YtfonpegkaajnkaaDoorM3
import Derived.Test.YtfonpegkaajnkaaDoorM11
/-
  HOW THE REFERENCE's NUMBERS LIE IN MEMORY: a row of thousands in a block; a number; both stand while nothing that was there is written.
-/
namespace Go.Proofs.YtfonpegkaajnkaaDoor
set_option linter.unusedSimpArgs false
set_option linter.unusedVariables false
open Go.RowKit

def dv (d : Nat) : Value := .int .i64 (d : Int)
/-- the slice value v holds the thousands ds in world w -/
def RowW (w : World) (v : Value) (ds : List Nat) : Prop := w.ownsRow 0 3 1 v ds.length (ds.map dv)
def sg (neg : Bool) (n : Nat) : Int := if neg = true then -(n : Int) else (n : Int)
/-- the value v stands for the integer z in world w, in at most k thousands -/
def Num (k : Nat) (w : World) (v : Value) (z : Int) : Prop := ∃ (s : Value) (ds : List Nat), v = .agg #[.bool (decide (z < 0)), s] ∧ RowW w s ds ∧ Nm.Canon ds ∧ Nm.val ds = z.natAbs ∧ ds.length ≤ k

theorem rowW_below {w w' : World} {v : Value} {ds : List Nat} (h : RowW w v ds) (hb : Below w.heap.size w w') : RowW w' v ds := by
  refine ⟨h.1, ?_⟩
  rcases h.2 with hn | ⟨g, cap, cur, rfl, h0, hg, rest⟩
  · exact .inl hn
  · exact .inr ⟨g, cap, cur, rfl, h0, by rw [hb.block g (Array.getElem?_eq_some_iff.1 hg).1]; exact hg, rest⟩
theorem num_below {k : Nat} {w w' : World} {v : Value} {z : Int} (h : Num k w v z) (hb : Below w.heap.size w w') : Num k w' v z := by
  obtain ⟨s, ds, e, hr, hc, hv, hk⟩ := h; exact ⟨s, ds, e, rowW_below hr hb, hc, hv, hk⟩
theorem rowW_nil (w : World) : RowW w (.slice none 0 0) [] := World.ownsRow_nil w 0 _ 1
theorem rowW_form {w : World} {v : Value} {ds : List Nat} (h : RowW w v ds) : ∃ a cap, v = .slice a ds.length cap ∧ ds.length ≤ maxLen := by
  rcases h.2 with ⟨rfl, hn⟩ | ⟨g, cap, cur, rfl, h0, hg, h1, h2, _⟩
  · exact ⟨none, 0, by rw [hn], by rw [hn]; exact Nat.zero_le _⟩
  · exact ⟨_, cap, rfl, Nat.le_trans h1 h2⟩
theorem rowW_some {w : World} {a : Option Addr} {n cap : Nat} {ds : List Nat} (h : RowW w (.slice a n cap) ds) (hi : 0 < ds.length) : ∃ g, a = some ⟨g, 0, none⟩ ∧ g < w.heap.size := by
  rcases h.2 with ⟨_, hn⟩ | ⟨g, cap, cur, e, h0, hg, _⟩
  · omega
  · simp at e; exact ⟨g, e.1, (Array.getElem?_eq_some_iff.1 hg).1⟩
theorem rowW_at {w : World} {g n cap : Nat} {ds : List Nat} (h : RowW w (.slice (some ⟨g, 0, none⟩) n cap) ds) (i d : Nat) (hd : ds[i]? = some d) : w.cell? ⟨g, i, none⟩ = some (.int .i64 (d : Int)) := by
  have hn : n = ds.length := by
    rcases h.2 with ⟨e, _⟩ | ⟨_, _, _, e, _⟩ <;> simp at e
    exact e.2.1
  subst hn
  have := World.ownsRow.cellAt h i (by have := (List.getElem?_eq_some_iff.1 hd).1; omega)
  rw [this, List.getElem?_map, hd]; rfl
theorem rowW_at' {w : World} {g n cap : Nat} {ds : List Nat} (h : RowW w (.slice (some ⟨g, 0, none⟩) n cap) ds) (i : Nat) (hi : i < ds.length) : ∃ d, ds[i]? = some d ∧ w.cell? ⟨g, i, none⟩ = some (.int .i64 (d : Int)) :=
  ⟨ds[i], List.getElem?_eq_getElem hi, rowW_at h i _ (List.getElem?_eq_getElem hi)⟩
theorem num_len {k j : Nat} {w : World} {v : Value} {z : Int} (h : Num k w v z) (hz : z.natAbs < 1000 ^ j) : Num j w v z := by
  obtain ⟨s, ds, e, hr, hc, hv, hk⟩ := h; exact ⟨s, ds, e, hr, hc, hv, Nm.canon_len ds j hc (by rw [hv]; exact hz)⟩
theorem num_mono {k j : Nat} {w : World} {v : Value} {z : Int} (h : Num k w v z) (hk : k ≤ j) : Num j w v z := by
  obtain ⟨s, ds, e, hr, hc, hv, h1⟩ := h; exact ⟨s, ds, e, hr, hc, hv, Nat.le_trans h1 hk⟩
/-- the row without its last place -/
theorem rowW_pop {w : World} {g n cap : Nat} {ds : List Nat} {d : Nat} (h : RowW w (.slice (some ⟨g, 0, none⟩) n cap) (ds ++ [d])) : RowW w (.slice (some ⟨g, 0, none⟩) ds.length cap) ds := by
  obtain ⟨h1, h2⟩ := h
  rcases h2 with ⟨e, _⟩ | ⟨g', cap', cur, e, h0, hg, hn, hc, hs, ht⟩
  · simp at e
  · simp only [Value.slice.injEq, Option.some.injEq, Addr.mk.injEq, and_true, true_and] at e
    obtain ⟨rfl, hn', rfl⟩ := e
    refine ⟨by simp, .inr ⟨g, cap, cur, rfl, h0, hg, by simp at hn; omega, hc, hs, ?_⟩⟩
    have := congrArg (List.take (ds.length * 1)) ht
    rw [List.take_take, Nat.min_eq_left (by simp)] at this
    rw [this]; simp
theorem sg_natAbs (neg : Bool) (n : Nat) : (sg neg n).natAbs = n := by unfold sg; split <;> omega
theorem sg_neg (neg : Bool) (n : Nat) : decide (sg neg n < 0) = (neg && decide (0 < n)) := by
  unfold sg; cases neg <;> simp
  all_goals omega
theorem rowW_alloc {w : World} {v : Value} {ds : List Nat} (h : RowW w v ds) (o : Obj) : RowW (w.alloc o) v ds := rowW_below h (ba w o)
theorem rowW_drew {w : World} {v : Value} {ds : List Nat} (h : RowW w v ds) : RowW w.drew v ds := rowW_below h ((Below.refl _ _).drew)
theorem canon_pos (ds : List Nat) (h : Nm.Canon ds) : decide (0 < Nm.val ds) = decide (0 < ds.length) := by
  have := Nm.canon_zero ds h
  by_cases c : ds = []
  · subst c; rfl
  · have a : 0 < ds.length := List.length_pos_iff.2 c
    have b : 0 < Nm.val ds := by have := mt this.1 c; omega
    simp [a, b]

/-- as RowW, in a block from B on -/
def RowB (w : World) (B : Nat) (v : Value) (ds : List Nat) : Prop := w.ownsRow B 3 1 v ds.length (ds.map dv)
theorem RowB.row {w : World} {B : Nat} {v : Value} {ds : List Nat} (h : RowB w B v ds) : RowW w v ds := by
  refine ⟨h.1, ?_⟩
  rcases h.2 with hn | ⟨g, cap, cur, rfl, h0, rest⟩
  · exact .inl hn
  · exact .inr ⟨g, cap, cur, rfl, Nat.zero_le _, rest⟩
theorem rowB_nil (w : World) (B : Nat) : RowB w B (.slice none 0 0) [] := World.ownsRow_nil w B _ 1
theorem rowB_below {w w' : World} {B : Nat} {v : Value} {ds : List Nat} (h : RowB w B v ds) (hb : Below w.heap.size w w') : RowB w' B v ds := by
  refine ⟨h.1, ?_⟩
  rcases h.2 with hn | ⟨g, cap, cur, rfl, h0, hg, rest⟩
  · exact .inl hn
  · exact .inr ⟨g, cap, cur, rfl, h0, by rw [hb.block g (Array.getElem?_eq_some_iff.1 hg).1]; exact hg, rest⟩
theorem info_int : (Tryd.prog.info? 3).map (fun i => (i.zero, i.size, i.bytes)) = some (some (.int .i64 0), 1, 8) := by kernel_rfl
/-- append of one thousand to a row of the call's own -/
theorem append1 {w : World} {ops : Array Oper} {rest : List Oper} {o : Oper} {a : Act} {Q : Exit → Act → World → Prop} (hgd : o.guard = none) (s x : Operand)
    (ho : o.op = .call { callee := .builtin .append, args := #[s, x], argTypes := #[85, 85] }) (B : Nat) (v : Value) (ds : List Nat) (hs : a.eval s = v) (hown : RowB w B v ds)
    (g d : Nat) (hx : a.eval x = .slice (some ⟨g, 0, none⟩) 1 1) (hc : w.cell? ⟨g, 0, none⟩ = some (dv d)) (hl : ds.length < 1000000) (hB : B ≤ w.heap.size)
    (h : ∀ v' w', RowB w' B v' (ds ++ [d]) → Below B w w' → wpList Tryd.prog ops Q rest (a.put o.dst v') w') : wpList Tryd.prog ops Q (o :: rest) a w := by
  obtain ⟨i0, hi, hz0, hz1, hz2⟩ := info_parts info_int
  refine wpList_append_own _ hgd s x _ ho B 3 i0 (.int .i64 0) 1 8 Tryd.underlying85 hi hz0 hz1 hz2 rfl (by decide) v ds.length _ hs hown ⟨g, 0, none⟩ 1 1 [dv d] hx rfl ?_ ?_ ?_ ?_ hB ?_
  · intro j u hu
    rcases j with _ | j
    · simp at hu; subst hu; simpa [Addr.add] using hc
    · simp at hu
  · intro u hu; simp at hu; subst hu; rfl
  · simp only [maxLen]; omega
  · omega
  · intro v' w' h1 h2 _
    refine h v' w' ?_ ((Below.refl _ _).grown h2 hB ?_)
    · have e : (ds ++ [d]).length = ds.length + 1 := by simp
      unfold RowB; rw [e, List.map_append]; exact h1
    · intro k hk; exact (World.ownsRow.lt hown k hk).1

/-- the cells of a block that was laid ahead stand -/
theorem box_cell {w wr : World} {cs : Array Value} {t : TypeId} {B : Nat} (hb : Below B (w.alloc (.cells cs t)) wr) (hB : w.heap.size < B) (i : Nat) (v : Value) (hv : cs[i]? = some v) : wr.cell? ⟨w.heap.size, i, none⟩ = some v ∧ wr.frozen? ⟨w.heap.size, i, none⟩ = false := by
  have e : wr.heap[w.heap.size]? = some (.cells cs t (0, 0)) := by rw [hb.block _ hB]; exact heap_alloc_new w _
  exact ⟨by rw [cell_of_row wr _ _ cs t (0, 0) e]; exact hv, frozen_of_row wr _ _ cs t e⟩

/-- a store below the row's block -/
theorem rowB_store {w : World} {B : Nat} {v : Value} {ds : List Nat} (h : RowB w B v ds) {p : Addr} (hp : p.block < B) (u : Value) : RowB (w.setCell p u) B v ds := ownsRow_setCell_below h hp u

/-- the one cell of a block that was just laid -/
theorem cell_new1 (w : World) (t : TypeId) (n : Int) (d : Nat) (h : n = (d : Int)) : (w.alloc (.cells #[.int .i64 n] t)).cell? ⟨w.heap.size, 0, none⟩ = some (dv d) := by
  subst h; simp [dv]

/-- a variable of the reference's number type in block b -/
def BoxAt (w : World) (b : Nat) (v0 v1 : Value) : Prop := w.heap[b]? = some (.cells #[v0, v1] 87 (0, 0))
theorem boxAt_new (w : World) (v0 v1 : Value) : BoxAt (w.alloc (.cells #[v0, v1] 87)) w.heap.size v0 v1 := heap_alloc_new w _
theorem BoxAt.lt {w : World} {b : Nat} {v0 v1 : Value} (h : BoxAt w b v0 v1) : b < w.heap.size := (Array.getElem?_eq_some_iff.1 h).1
theorem boxAt_below {w w' : World} {b : Nat} {v0 v1 : Value} (h : BoxAt w b v0 v1) (hb : Below w.heap.size w w') : BoxAt w' b v0 v1 := by
  unfold BoxAt; rw [hb.block b h.lt]; exact h
theorem BoxAt.c0 {w : World} {b : Nat} {v0 v1 : Value} (h : BoxAt w b v0 v1) : w.cell? ⟨b, 0, none⟩ = some v0 := by rw [cell_of_row w _ _ _ _ (0, 0) h]; rfl
theorem BoxAt.c1 {w : World} {b : Nat} {v0 v1 : Value} (h : BoxAt w b v0 v1) : w.cell? ⟨b, 1, none⟩ = some v1 := by rw [cell_of_row w _ _ _ _ (0, 0) h]; rfl
theorem BoxAt.f0 {w : World} {b : Nat} {v0 v1 : Value} (h : BoxAt w b v0 v1) : w.frozen? ⟨b, 0, none⟩ = false := frozen_of_row w _ _ _ _ h
theorem BoxAt.f1 {w : World} {b : Nat} {v0 v1 : Value} (h : BoxAt w b v0 v1) : w.frozen? ⟨b, 1, none⟩ = false := frozen_of_row w _ _ _ _ h
theorem heap_set {w : World} {b o : Nat} {cs : Array Value} {t : TypeId} (u : Value) (h : w.heap[b]? = some (.cells cs t (0, 0))) : (w.setCell ⟨b, o, none⟩ u).heap[b]? = some (.cells (cs.setIfInBounds o u) t (0, 0)) := heap_setCell_same w b o cs t u h
theorem boxAt_set2 {w : World} {b : Nat} {v0 v1 : Value} (u0 u1 : Value) (h : BoxAt w b v0 v1) : BoxAt ((w.setCell ⟨b, 0, none⟩ u0).setCell ⟨b, 1, none⟩ u1) b u0 u1 := heap_set u1 (heap_set u0 h)
theorem boxAt_set_other {w : World} {b b' : Nat} {v0 v1 : Value} (o : Nat) (u : Value) (h : BoxAt w b v0 v1) (hb : b ≠ b') : BoxAt (w.setCell ⟨b', o, none⟩ u) b v0 v1 := by
  unfold BoxAt; rw [Below.heap_setCell _ _ _ _ hb]; exact h
theorem rowW_set {w : World} {v : Value} {ds : List Nat} {b o : Nat} {cs : Array Value} {t : TypeId} (u : Value) (h : RowW w v ds) (hb : w.heap[b]? = some (.cells cs t (0, 0))) (ht : t ≠ 3) : RowW (w.setCell ⟨b, o, none⟩ u) v ds := by
  refine ⟨h.1, ?_⟩
  rcases h.2 with hn | ⟨g, cap, cur, rfl, h0, hg, rest⟩
  · exact .inl hn
  · refine .inr ⟨g, cap, cur, rfl, h0, ?_, rest⟩
    rw [Below.heap_setCell _ _ _ _ (by intro e; subst e; rw [hg] at hb; simp at hb; exact ht hb.2.symm)]; exact hg
theorem rowW_set2 {w : World} {v : Value} {ds : List Nat} {b : Nat} {v0 v1 : Value} (u0 u1 : Value) (h : RowW w v ds) (hb : BoxAt w b v0 v1) : RowW ((w.setCell ⟨b, 0, none⟩ u0).setCell ⟨b, 1, none⟩ u1) v ds :=
  rowW_set u1 (rowW_set u0 h hb (by decide)) (heap_set u0 hb) (by decide)
theorem num_set2 {k : Nat} {w : World} {v : Value} {z : Int} {b : Nat} {v0 v1 : Value} (u0 u1 : Value) (h : Num k w v z) (hb : BoxAt w b v0 v1) : Num k ((w.setCell ⟨b, 0, none⟩ u0).setCell ⟨b, 1, none⟩ u1) v z := by
  obtain ⟨s, ds, e, hr, hc, hv, hk⟩ := h; exact ⟨s, ds, e, rowW_set2 u0 u1 hr hb, hc, hv, hk⟩

/-- make([]int, n) -/
theorem make1 {w : World} {ops : Array Oper} {rest : List Oper} {o : Oper} {a : Act} {Q : Exit → Act → World → Prop} (hgd : o.guard = none) (l c : Operand)
    (ho : o.op = Op.makeSlice 85 l c) (L : Int) (n : Nat) (hl : a.eval l = .int .i64 L) (hc : a.eval c = .int .i64 L) (hL : L = (n : Int)) (hn : n ≤ 1000000)
    (h : ∀ w', RowW w' (.slice (some ⟨w.heap.size, 0, none⟩) n n) (List.replicate n 0) → Below w.heap.size w w' → w.heap.size < w'.heap.size → wpList Tryd.prog ops Q rest (a.put o.dst (.slice (some ⟨w.heap.size, 0, none⟩) n n)) w') : wpList Tryd.prog ops Q (o :: rest) a w := by
  obtain ⟨i0, hi, hz0, hz1, hz2⟩ := info_parts info_int
  refine wpList_make_full _ hgd l c _ ho 0 3 i0 (.int .i64 0) 1 Tryd.underlying85 hi hz0 hz1 .i64 .i64 L L n hl hc hL hL (by rw [hz2]; omega) (by simp only [maxLen]; omega) (Nat.zero_le _) ?_
  intro w' h1 h2
  have e : (madeCells (Value.int .i64 0).cells (n * 1)).toList = (List.replicate n 0).map dv := by
    show (madeCells #[Value.int .i64 0] (n * 1)).toList = _
    rw [toList_madeCells_one, Nat.mul_one, List.map_replicate]; rfl
  rw [e] at h1
  refine h w' ?_ ((Below.refl _ _).grown h2 (Nat.le_refl _) (by intro k hk; cases hk)) ?_
  · unfold RowW; rw [List.length_replicate]; exact h1
  · exact (World.ownsRow.lt h1 _ rfl).2
/-- a store into a row -/
theorem rowW_stored {w : World} {g n cap : Nat} {ds : List Nat} (h : RowW w (.slice (some ⟨g, 0, none⟩) n cap) ds) (j d : Nat) : RowW (w.setCell ⟨g, j, none⟩ (dv d)) (.slice (some ⟨g, 0, none⟩) n cap) (ds.set j d) := by
  have hn : n = ds.length := by
    rcases h.2 with ⟨e, _⟩ | ⟨_, _, _, e, _⟩ <;> simp at e
    exact e.2.1
  subst hn
  have := (World.ownsRow.stored h j (dv d)).1
  unfold RowW; rw [List.map_set]; simpa using this
theorem rowW_frozen {w : World} {g n cap : Nat} {ds : List Nat} (h : RowW w (.slice (some ⟨g, 0, none⟩) n cap) ds) (j : Nat) : w.frozen? ⟨g, j, none⟩ = false := by
  have hn : n = ds.length := by
    rcases h.2 with ⟨e, _⟩ | ⟨_, _, _, e, _⟩ <;> simp at e
    exact e.2.1
  subst hn
  exact World.ownsRow.frozenAt h j
theorem boxAt_belowB {w w' : World} {b B : Nat} {v0 v1 : Value} (h : BoxAt w b v0 v1) (hb : Below B w w') (hB : b < B) : BoxAt w' b v0 v1 := by
  unfold BoxAt; rw [hb.block b hB]; exact h
end Go.Proofs.YtfonpegkaajnkaaDoor
