/-
  A map in memory by the table of its keys and elements, whatever the order they came in; a region that draws, by what holds behind each set of its operations.
-/
import Derived.Test.YtfonpegkaajnkaaDoorM0
import Derived.Maps.Keyed
import Derived.Maps.RangeRun
import Derived.Carry
/-
  A map in memory by the table of its keys and elements, whatever the order they came in; a region that draws, by what holds behind each set of its operations.
-/
namespace Go.Proofs.YtfonpegkaajnkaaDoor
open Go Go.ChangeMaps Go.RowKit

/-- keys of a type, as far as a map asks -/
structure KL (P : Program) (k : TypeId) (dom : Value → Prop) : Prop where
  check : ∀ (w : World) (em : Bool) {v : Value}, dom v → (Instr.checkKey em 10000 k v).run P w = .ok () w
  find : ∀ (w : World) {x : Value}, dom x → ∀ es : List MapEntry, (∀ e ∈ es, dom e.key) →
    ((Instr.findKey k x es).run P w = .ok none w ∧ ∀ e ∈ es, e.key ≠ x) ∨ ∃ j e, (Instr.findKey k x es).run P w = .ok (some (j, e.val)) w ∧ es[j]? = some e ∧ e.key = x
theorem KL.of_keyed {P : Program} {k : TypeId} (K : Maps.Keyed P k) : KL P k (fun v => ∃ l, keyOf P k v = some l) :=
  ⟨fun w em _ ⟨_, h⟩ => K.check w em h, fun w _ ⟨_, h⟩ es he => K.find w h es he⟩

def kv (x : MapEntry) : Value × Value := (x.key, x.val)
/-- block b is a map of just these keys and elements -/
structure MapAt (w : World) (b : Nat) (dom : Value → Prop) (T : List (Value × Value)) : Prop where
  ex : ∃ es clock, w.heap[b]? = some (.map es clock) ∧ (∀ x ∈ es.toList, x.born < clock) ∧ (es.toList.map (·.born)).Nodup ∧ (es.toList.map kv).Perm T
  dom : ∀ x ∈ T, dom x.1
section
variable {P : Program} {w : World} {b : Nat} {dom : Value → Prop} {T : List (Value × Value)} {t k e : TypeId}
theorem MapAt.lt (h : MapAt w b dom T) : b < w.heap.size := by obtain ⟨es, c, hb, _⟩ := h.ex; exact (Array.getElem?_eq_some_iff.1 hb).1
theorem MapAt.perm {T' : List (Value × Value)} (h : MapAt w b dom T) (p : T.Perm T') : MapAt w b dom T' := by
  obtain ⟨es, c, hb, h1, h2, h3⟩ := h.ex
  exact ⟨⟨es, c, hb, h1, h2, h3.trans p⟩, fun x hx => h.dom x (p.mem_iff.2 hx)⟩
theorem MapAt.keep {w' : World} (h : MapAt w b dom T) (e : w'.heap[b]? = w.heap[b]?) : MapAt w' b dom T := by
  obtain ⟨es, c, hb, r⟩ := h.ex
  exact ⟨⟨es, c, e.trans hb, r⟩, h.dom⟩
theorem MapAt.below {w' : World} (h : MapAt w b dom T) (k : Below w.heap.size w w') : MapAt w' b dom T := h.keep (k.block b h.lt)
theorem MapAt.new (w : World) (dom : Value → Prop) : MapAt (w.alloc (.map #[] 0)) w.heap.size dom [] :=
  ⟨⟨#[], 0, (MapKept.heap_alloc w _).1, by simp, by simp, List.Perm.refl _⟩, by simp⟩
theorem MapAt.entry_dom {es : Array MapEntry} (hd : ∀ x ∈ T, dom x.1) (h3 : (es.toList.map kv).Perm T) : ∀ x ∈ es.toList, dom x.key := fun x hx => hd _ (h3.mem_iff.1 (List.mem_map.2 ⟨x, hx, rfl⟩))
/-- a new key -/
theorem MapAt.put (h : MapAt w b dom T) (K : KL P k dom) (ht : P.underlying t = some (.map k e)) {x v : Value} (hx : dom x) (hn : ∀ y ∈ T, y.1 ≠ x) :
    ∃ w', (Instr.mapUpdate t (.map (some b)) x v).run P w = .ok () w' ∧ MapAt w' b dom ((x, v) :: T) ∧ (∀ B, B ≤ b → ∀ w0, Below B w0 w → Below B w0 w') ∧ w'.heap.size = w.heap.size ∧ ∀ i, i ≠ b → w'.heap[i]? = w.heap[i]? := by
  obtain ⟨es, c, hb, h1, h2, h3⟩ := h.ex
  have hd := MapAt.entry_dom h.dom h3
  rcases K.find w hx es.toList hd with ⟨hf, hne⟩ | ⟨j, e0, _, he, hk⟩
  · refine ⟨setBlock w b (.map (es.push ⟨x, v, c⟩) (c + 1)), ?_, ⟨⟨_, _, heap_setBlock_same hb _, ?_, ?_, ?_⟩, ?_⟩, ?_, by simp [setBlock], fun i hi => heap_setBlock_other hb _ hi⟩
    · simp [Instr.mapUpdate, run_underlying ht, MapKept.run_getObj_map hb, K.check w false hx, hf, MapKept.run_setObj_map _ hb, Result.andThen, setBlock]
    · intro y hy
      simp only [Array.toList_push, List.mem_append, List.mem_singleton] at hy
      rcases hy with hy | rfl
      · have := h1 y hy; omega
      · exact Nat.lt_succ_self _
    · rw [Array.toList_push, List.map_append, List.nodup_append]
      refine ⟨h2, by simp, fun a ha y hy => ?_⟩
      obtain ⟨z, hz, rfl⟩ := List.mem_map.1 ha
      simp only [List.map_cons, List.map_nil, List.mem_singleton] at hy
      have := h1 z hz; omega
    · rw [Array.toList_push, List.map_append]
      refine (List.perm_append_comm).trans ?_
      exact h3.cons (x, v)
    · intro y hy
      rcases List.mem_cons.1 hy with rfl | hy
      · exact hx
      · exact h.dom y hy
    · intro B hB w0 hw
      refine ⟨hw.1, hw.2, hw.3, by have := hw.size; simpa [setBlock] using this, fun i hi => ?_⟩
      rw [heap_setBlock_other hb _ (by omega)]
      exact hw.block i hi
  · exfalso
    exact hn _ (h3.mem_iff.1 (List.mem_map.2 ⟨e0, List.mem_of_getElem? he, rfl⟩)) hk
/-- a key that is there -/
theorem MapAt.look_some (h : MapAt w b dom T) (K : KL P k dom) (ht : P.underlying t = some (.map k e)) {x v : Value} (hu : ∀ y ∈ T, ∀ z ∈ T, y.1 = z.1 → y = z) (hm : (x, v) ∈ T) (c : Bool) :
    (Instr.lookup t (.map (some b)) x c).run P w = .ok (if c then .tuple #[v, .bool true] else v) w := by
  obtain ⟨es, cl, hb, h1, h2, h3⟩ := h.ex
  have hd := MapAt.entry_dom h.dom h3
  have hx : dom x := h.dom _ hm
  rcases K.find w hx es.toList hd with ⟨hf, hne⟩ | ⟨j, e0, hf, he, hk⟩
  · obtain ⟨y, hy, e1⟩ := List.mem_map.1 (h3.mem_iff.2 hm)
    exact absurd (congrArg Prod.fst e1) (hne y hy)
  · have m0 : kv e0 ∈ T := h3.mem_iff.1 (List.mem_map.2 ⟨e0, List.mem_of_getElem? he, rfl⟩)
    have := hu _ m0 _ hm hk
    have hv : e0.val = v := congrArg Prod.snd this
    simp [Instr.lookup, run_underlying ht, MapKept.run_getObj_map hb, K.check w _ hx, hf, Result.andThen, hv]
/-- .. and one that is not -/
theorem MapAt.look_none (h : MapAt w b dom T) (K : KL P k dom) (ht : P.underlying t = some (.map k e)) {z : Value} (hz : (zeroValue e).run P w = .ok z w) {x : Value} (hx : dom x) (hn : ∀ y ∈ T, y.1 ≠ x) (c : Bool) :
    (Instr.lookup t (.map (some b)) x c).run P w = .ok (if c then .tuple #[z, .bool false] else z) w := by
  obtain ⟨es, cl, hb, h1, h2, h3⟩ := h.ex
  have hd := MapAt.entry_dom h.dom h3
  rcases K.find w hx es.toList hd with ⟨hf, hne⟩ | ⟨j, e0, hf, he, hk⟩
  · simp [Instr.lookup, run_underlying ht, MapKept.run_getObj_map hb, K.check w _ hx, hf, hz, Result.andThen]
  · exact absurd hk (hn _ (h3.mem_iff.1 (List.mem_map.2 ⟨e0, List.mem_of_getElem? he, rfl⟩)))
end

section
variable {P : Program} {Q : Exit → Act → World → Prop} {md : Region.Mode} {ops : Array Oper}
theorem wpOp_run {i : Nat} {o : Oper} {K : Act → World → Prop} {a : Act} {w : World} (ho : ops[i]? = some o) (hg : o.guard = none) (h : o.wp P a w K Q) : wpOp P ops Q i K a w := by
  unfold wpOp
  rw [ho]
  have : Region.wanted o (yielded ops a.tmps) = true := by unfold Region.wanted; rw [hg]
  simp only [this, if_true]
  exact .inl h
theorem wp_makeMap {o : Oper} {K : Act → World → Prop} {a : Act} {w : World} {t : TypeId} (hop : o.op = Op.makeMap t none) (h : K (a.put o.dst (.map (some w.heap.size))) (w.alloc (.map #[] 0))) : o.wp P a w K Q := by
  have := @run_makeMap P
  unfold Oper.wp
  simp [execOp, hop, this, Result.andThen]
  exact h
theorem wp_insert {o : Oper} {K : Act → World → Prop} {a : Act} {w w' : World} {t : TypeId} {m x v : Operand} {M X V : Value} (hop : o.op = Op.insert t m x v) (hm : a.eval m = M) (hx : a.eval x = X) (hv : a.eval v = V)
    (hrun : (Instr.mapUpdate t M X V).run P w = .ok () w') (h : K (a.put o.dst undef) w') : o.wp P a w K Q := by
  unfold Oper.wp
  simp [execOp, hop, hm, hx, hv, hrun, Result.andThen]
  exact h
theorem set_same {l : Array Bool} {i : Nat} (h : i < l.size) : (l.setIfInBounds i true).getD i false = true := by simp [Array.getD_eq_getD_getElem?, h]
theorem set_other {l : Array Bool} {i j : Nat} (h : i ≠ j) : (l.setIfInBounds i true).getD j false = l.getD j false := by simp [Array.getD_eq_getD_getElem?, Array.getElem?_setIfInBounds_ne h]
theorem none_set (n i : Nat) : (Array.replicate n false).getD i false = false := by
  simp only [Array.getD_eq_getD_getElem?, Array.getElem?_replicate]
  split <;> rfl
def leftN (l : Array Bool) : Nat := (l.toList.filter (fun x => !x)).length
theorem leftN_set {l : Array Bool} {i : Nat} (h : l.getD i true = false) : leftN (l.setIfInBounds i true) + 1 = leftN l := by
  obtain ⟨l⟩ := l
  unfold leftN
  simp only [List.setIfInBounds_toArray]
  have hi : i < l.length := by
    rcases Nat.lt_or_ge i l.length with k | k
    · exact k
    · simp [Array.getD_eq_getD_getElem?, k] at h
  have hv : l[i] = false := by simpa [Array.getD_eq_getD_getElem?, hi] using h
  clear h
  induction l generalizing i with
  | nil => simp at hi
  | cons x r ih =>
    cases i with
    | zero => simp at hv; subst hv; simp
    | succ i =>
      simp at hi hv
      have := ih hi hv
      simp only [List.set_cons_succ, List.filter_cons]
      split
      · simp only [List.length_cons]; omega
      · exact this
theorem all_listed {n : Nat} {l : Array Bool} (hr : Region.ready md ops l = []) (hB : headB ops n = true) (hz : l.size = n) : ∀ i, i < n → l.getD i false = true := by
  have all : ∀ i, i < n → l.getD i true = true := fun i hi => by
    cases hl : l.getD i true with
    | true => rfl
    | false =>
      exfalso
      obtain ⟨i0, h1, h2, h3⟩ := first_unlisted n (fun i => l.getD i true) ⟨i, hi, hl⟩
      obtain ⟨o, ho, _, hed⟩ := headB_spec hB h1
      have : i0 ∈ Region.ready md ops l := mem_ready.2 ⟨h2, o, ho, fun e he _ => by
        have h4 := h3 _ (hed e he)
        have h5 : e.on < l.size := by have := hed e he; omega
        simp only [Array.getD_eq_getD_getElem?, Array.getElem?_eq_getElem h5, Option.getD_some] at h4 ⊢; exact h4⟩
      rw [hr] at this; cases this
  intro i hi
  have := all i hi
  have h5 : i < l.size := by omega
  simp only [Array.getD_eq_getD_getElem?, Array.getElem?_eq_getElem h5, Option.getD_some] at this ⊢; exact this
/-- a region that draws, by what holds behind each set of its operations -/
theorem wpAny_inv (J : Array Bool → Act → World → Prop)
    (hstep : ∀ l a w, J l a w → ∀ i ∈ Region.ready md ops l, wpOp P ops Q i (J (l.setIfInBounds i true)) a w)
    (hdone : ∀ l a w, J l a w → Region.ready md ops l = [] → Q .normal a w) :
    ∀ (fuel : Nat) (l : Array Bool) (a : Act) (w : World), leftN l ≤ fuel → J l a w → wpAny P md ops Q fuel l a w := by
  intro fuel
  induction fuel with
  | zero =>
    intro l a w hf hJ
    have hr : Region.ready md ops l = [] := List.eq_nil_iff_forall_not_mem.2 fun i hi => by
      have := leftN_set (mem_ready.1 hi).1; omega
    exact ⟨hr, hdone l a w hJ hr⟩
  | succ n ih =>
    intro l a w hf hJ
    refine ⟨fun hr => hdone l a w hJ hr, fun i hi => ?_⟩
    have := leftN_set (mem_ready.1 hi).1
    exact wpOp_mono (fun a' w' h' => ih _ a' w' (by omega) h') (hstep l a w hJ i hi)
end
end Go.Proofs.YtfonpegkaajnkaaDoor
