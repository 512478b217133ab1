/-
  ROWS OF ANY ELEMENT TYPE: a row of the call's own, a row that came in; append, at each place where it may stand.
-/
import Derived.Test.YtfonpegkaajnkaaDoorM3
import Derived.Maps.AppendAt
import Derived.Laws.OwnMore
import Derived.OwnWalk
import Derived.OwnWalkIn
import Derived.OrdersIn
/-
  ROWS OF ANY ELEMENT TYPE: a row of the call's own, a row that came in; append, at each place where it may stand.
-/
namespace Go.Proofs.YtfonpegkaajnkaaDoor
open Go Go.RowKit
/-- an element type: its slice's and its own number, how many cells and bytes, its nought, its cells -/
structure Elem (P : Program) (α : Type) where
  sl : TypeId
  e : TypeId
  sz : Nat
  bytes : Nat
  z : Value
  enc : α → List Value
  und : P.underlying sl = some (.slice e)
  info : (P.info? e).map (fun i => (i.zero, i.size, i.bytes)) = some (some z, sz, bytes)
  zs : z.cells.size = sz
  pos : 0 < sz
  len : ∀ x, (enc x).length = sz
  one : ∀ x, ∀ u ∈ enc x, u.oneCell' = true
theorem cell_eq {w w' : World} {p : Addr} (h : w'.heap[p.block]? = w.heap[p.block]?) : w'.cell? p = w.cell? p := by
  unfold World.cell?; rw [h]
theorem add_lit0 (b o j : Nat) : (⟨b, o, none⟩ : Addr).add j = ⟨b, o + j, none⟩ := by unfold Addr.add; split <;> simp_all
theorem grown_below {n : Nat} {w w' : World} {row : Option Nat} (h : w.grownBy w' row) (hr : ∀ k, row = some k → n ≤ k) (hn : n ≤ w.heap.size) : Below n w w' :=
  (Below.refl n w).grown h hn hr
namespace Elem
variable {P : Program} {α : Type} (E : Elem P α)
/-- a row of the call's own, in a block from B on -/
def Row (w : World) (B : Nat) (v : Value) (xs : List α) : Prop := w.ownsRow B E.e E.sz v xs.length (xs.flatMap E.enc)
/-- a row that may be read -/
def Arg (w : World) (v : Value) (xs : List α) : Prop := ∃ (ao : Option Addr) (cap : Nat), v = .slice ao xs.length cap ∧ (xs.length ≤ cap ∧ (ao = none → cap = 0)) ∧
  ∀ (i : Nat) (x : α), xs[i]? = some x → ∃ b o : Nat, ao = some ⟨b, o, none⟩ ∧ b < w.heap.size ∧ ∀ j u, (E.enc x)[j]? = some u → w.cell? ⟨b, o + i * E.sz + j, none⟩ = some u
theorem flat (xs : List α) : (xs.flatMap E.enc).length = xs.length * E.sz := by
  induction xs with
  | nil => simp
  | cons x xs ih => rw [List.flatMap_cons, List.length_append, ih, E.len, List.length_cons, Nat.add_mul]; omega
theorem flat_get : ∀ (xs : List α) {i : Nat} {x : α} (_ : xs[i]? = some x) {j : Nat} (_ : j < E.sz), (xs.flatMap E.enc)[i * E.sz + j]? = (E.enc x)[j]?
  | [], i, x, h, _, _ => by simp at h
  | y :: ys, 0, x, h, j, hj => by
    simp only [List.getElem?_cons_zero, Option.some.injEq] at h
    subst h
    rw [List.flatMap_cons, Nat.zero_mul, Nat.zero_add, List.getElem?_append_left (by rw [E.len]; exact hj)]
  | y :: ys, i + 1, x, h, j, hj => by
    rw [List.getElem?_cons_succ] at h
    rw [List.flatMap_cons, List.getElem?_append_right (by rw [E.len, Nat.add_mul]; omega), E.len, show (i + 1) * E.sz + j - E.sz = i * E.sz + j by rw [Nat.add_mul]; omega]
    exact flat_get ys h hj
theorem ones (xs : List α) : ∀ u ∈ xs.flatMap E.enc, u.oneCell' = true := by
  intro u hu
  obtain ⟨y, _, hy⟩ := List.mem_flatMap.1 hu
  exact E.one y u hy
variable {E}
theorem Row.nil (w : World) (B : Nat) : E.Row w B (.slice none 0 0) [] := World.ownsRow_nil _ _ _ _
theorem Row.form {w : World} {B : Nat} {v : Value} {xs : List α} (h : E.Row w B v xs) : ∃ ao cap, v = .slice ao xs.length cap ∧ xs.length ≤ cap ∧ (0 < xs.length → ∃ g, ao = some ⟨g, 0, none⟩) := by
  rcases h.2 with ⟨rfl, hn⟩ | ⟨g, cap, cur, rfl, _, _, h1, _⟩
  · exact ⟨none, 0, by rw [hn], by omega, fun h => absurd h (by omega)⟩
  · exact ⟨some ⟨g, 0, none⟩, cap, rfl, h1, fun _ => ⟨g, rfl⟩⟩
theorem Row.kept {w w' : World} {B : Nat} {v : Value} {xs : List α} {row : Option Nat} (h : E.Row w B v xs) (hg : w.grownBy w' row) (hne : v.ownBlock = none ∨ v.ownBlock ≠ row) : E.Row w' B v xs := World.ownsRow.kept h hg hne
theorem Row.alloc {w : World} {B : Nat} {v : Value} {xs : List α} (h : E.Row w B v xs) (o : Obj) : E.Row (w.alloc o) B v xs := World.ownsRow.alloc h o
theorem Row.lt {w : World} {B : Nat} {v : Value} {xs : List α} (h : E.Row w B v xs) : ∀ k, v.ownBlock = some k → B ≤ k ∧ k < w.heap.size := World.ownsRow.lt h
theorem Row.block {w w' : World} {B : Nat} {v : Value} {xs : List α} (h : E.Row w B v xs) (k : ∀ g, v.ownBlock = some g → w'.heap[g]? = w.heap[g]?) : E.Row w' B v xs := by
  refine ⟨h.1, ?_⟩
  rcases h.2 with hn | ⟨g, cap, cur, rfl, hb, hgg, rest⟩
  · exact .inl hn
  · exact .inr ⟨g, cap, cur, rfl, hb, (k g rfl).trans hgg, rest⟩
theorem Row.at {w : World} {B : Nat} {v : Value} {xs : List α} (h : E.Row w B v xs) {g : Nat} (hg : v.ownBlock = some g) : ∃ cur, w.heap[g]? = some (.cells cur E.e (0, 0)) := by
  rcases h.2 with ⟨rfl, _⟩ | ⟨g', cap, cur, rfl, _, hgg, _⟩
  · cases hg
  · cases hg; exact ⟨cur, hgg⟩
/-- a block of another type is no row's block -/
theorem Row.ne {w : World} {B : Nat} {v : Value} {xs : List α} (h : E.Row w B v xs) {g : Nat} {cur : Array Value} {t : TypeId} (hg : w.heap[g]? = some (.cells cur t (0, 0))) (ht : t ≠ E.e) : some g ≠ v.ownBlock := by
  intro e
  obtain ⟨cur', h2⟩ := h.at e.symm
  rw [h2] at hg
  cases hg
  exact ht rfl
theorem Row.below {w w' : World} {B : Nat} {v : Value} {xs : List α} (h : E.Row w B v xs) (k : Below w.heap.size w w') : E.Row w' B v xs := h.block fun g hg => k.block g (h.lt g hg).2
theorem Row.low {w : World} {B B' : Nat} {v : Value} {xs : List α} (h : E.Row w B v xs) (hb : B' ≤ B) : E.Row w B' v xs := by
  refine ⟨h.1, ?_⟩
  rcases h.2 with hn | ⟨g, cap, cur, rfl, h4, rest⟩
  · exact .inl hn
  · exact .inr ⟨g, cap, cur, rfl, by omega, rest⟩
theorem Row.arg {w : World} {B : Nat} {v : Value} {xs : List α} (h : E.Row w B v xs) : E.Arg w v xs := by
  have hnil : ∀ ao cap, v = .slice ao xs.length cap → ao = none → cap = 0 := fun ao cap e1 e2 => by
    rcases h.2 with ⟨e, _⟩ | ⟨g, c, cur, e, _⟩
    · rw [e1] at e; simp only [Value.slice.injEq] at e; exact e.2.2
    · rw [e1] at e; simp only [Value.slice.injEq] at e; rw [e2] at e; cases e.1
  obtain ⟨ao, cap, rfl, hc, hg⟩ := h.form
  refine ⟨ao, cap, rfl, ⟨hc, hnil _ _ rfl⟩, fun i x hx => ?_⟩
  have il := (List.getElem?_eq_some_iff.1 hx).1
  obtain ⟨g, rfl⟩ := hg (by omega)
  refine ⟨g, 0, rfl, (h.lt g rfl).2, fun j u hu => ?_⟩
  have jl : j < E.sz := by have := (List.getElem?_eq_some_iff.1 hu).1; rw [E.len] at this; exact this
  have := World.ownsRow.cells h (g := g) rfl (i * E.sz + j) u (by rw [E.flat_get xs hx jl]; exact hu)
  rw [add_lit0, ← Nat.add_assoc] at this; exact this
theorem Arg.nil (w : World) : E.Arg w (.slice none 0 0) [] := ⟨none, 0, rfl, ⟨Nat.le_refl _, fun _ => rfl⟩, fun i x h => by simp at h⟩
/-- a block that a row which came in lies in -/
def argBlock (v : Value) (g : Nat) : Prop := ∃ o n c, v = .slice (some ⟨g, o, none⟩) n c
theorem Arg.block {w w' : World} {v : Value} {xs : List α} (h : E.Arg w v xs) (hz : w.heap.size ≤ w'.heap.size) (k : ∀ g, argBlock v g → 0 < xs.length → g < w.heap.size → w'.heap[g]? = w.heap[g]?) : E.Arg w' v xs := by
  obtain ⟨ao, cap, e, hc, h⟩ := h
  refine ⟨ao, cap, e, hc, fun i x hx => ?_⟩
  obtain ⟨b, o, h1, h2, h3⟩ := h i x hx
  have il := (List.getElem?_eq_some_iff.1 hx).1
  exact ⟨b, o, h1, by omega, fun j u hu => (cell_eq (p := ⟨b, _, none⟩) (k b ⟨o, _, _, by rw [e, h1]⟩ (by omega) h2)).trans (h3 j u hu)⟩
theorem Arg.below {w w' : World} {v : Value} {xs : List α} (h : E.Arg w v xs) (k : Below w.heap.size w w') : E.Arg w' v xs := h.block k.size fun g _ _ hg => k.block g hg
theorem Arg.lt {w : World} {v : Value} {xs : List α} (h : E.Arg w v xs) {g : Nat} (hg : argBlock v g) (hl : 0 < xs.length) : g < w.heap.size := by
  obtain ⟨ao, cap, rfl, hc, h⟩ := h
  obtain ⟨o, n, c, e⟩ := hg
  obtain ⟨b, o', h1, h2, _⟩ := h 0 _ (List.getElem?_eq_getElem hl)
  rw [h1] at e
  cases e
  exact h2
/-- a part of it: s[i:j] -/
theorem Arg.part {w : World} {b o n c : Nat} {xs : List α} (h : E.Arg w (.slice (some ⟨b, o, none⟩) n c) xs) (i j c' : Nat) (_ : i ≤ j) (hj : j ≤ xs.length) (hc : j - i ≤ c') : E.Arg w (.slice (some ⟨b, o + i * E.sz, none⟩) (j - i) c') ((xs.take j).drop i) := by
  obtain ⟨ao, cap, e, hcap, h⟩ := h
  cases e
  refine ⟨_, c', by rw [List.length_drop, List.length_take, Nat.min_eq_left hj], ⟨by rw [List.length_drop, List.length_take, Nat.min_eq_left hj]; exact hc, fun e => by cases e⟩, fun k x hx => ?_⟩
  rw [List.getElem?_drop, List.getElem?_take] at hx
  split at hx
  · obtain ⟨b', o', h1, h2, h3⟩ := h (i + k) x hx
    cases h1
    refine ⟨b, o + i * E.sz, rfl, h2, fun q u hu => ?_⟩
    rw [show o + i * E.sz + k * E.sz + q = o + (i + k) * E.sz + q by rw [Nat.add_mul]; omega]
    exact h3 q u hu
  · cases hx
/-- THE RUN OF append -/
theorem run_app {w : World} {B : Nat} {v : Value} {xs : List α} {vs : Value} {rs : List α} (ty : TypeId) (hown : E.Row w B v xs) (hsrc : E.Arg w vs rs) (h1 : xs.length + rs.length ≤ 1000001)
    (h2 : (1000001 : Nat) * E.bytes ≤ 140737488355328) (hB : B ≤ w.heap.size) :
    ∃ (v' : Value) (w' : World), (Builtin.append_ #[E.sl, E.sl] ty #[v, vs]).run P w = .ok v' w' ∧ E.Row w' B v' (xs ++ rs) ∧ w.grownBy w' v.ownBlock ∧ (v'.ownBlock = v.ownBlock ∨ v'.ownBlock = some w.heap.size) := by
  obtain ⟨i0, hi, hz0, hz1, hz2⟩ := info_parts E.info
  obtain ⟨ao, cap, rfl, hc, hcell⟩ := hsrc
  cases ao with
  | none =>
    have hr : rs = [] := by
      cases rs with
      | nil => rfl
      | cons x rs => obtain ⟨b, o, e, _⟩ := hcell 0 x rfl; cases e
    subst hr
    obtain rfl := hc.2 rfl
    have hrun := run_append_owned_none (P := P) (w := w) B E.sl ty E.e i0 E.sz E.und hi v xs.length _ hown
    exact ⟨v, w, hrun, by rw [List.append_nil]; exact hown, ⟨rfl, rfl, rfl, Nat.le_refl _, fun _ _ _ => rfl⟩, .inl rfl⟩
  | some a =>
    have hb2 : (xs.length + rs.length) * E.bytes ≤ 140737488355328 := Nat.le_trans (Nat.mul_le_mul_right _ h1) h2
    obtain ⟨v', w', k1, k2, k3, _, k5⟩ := run_append_own_at (P := P) w B E.sl ty E.e i0 E.z E.sz E.bytes E.und hi hz0 hz1 hz2 E.zs E.pos v xs.length _ hown a rs.length cap (rs.flatMap E.enc) (E.flat rs) (fun j u hu => by
      have jl := (List.getElem?_eq_some_iff.1 hu).1
      rw [E.flat] at jl
      have hq : j / E.sz < rs.length := Nat.div_lt_of_lt_mul (by rw [Nat.mul_comm]; exact jl)
      have hm := Nat.mod_lt j E.pos
      have hdm := Nat.div_add_mod j E.sz
      have ej : j / E.sz * E.sz + j % E.sz = j := by rw [Nat.mul_comm]; exact hdm
      have hx := List.getElem?_eq_getElem hq
      have hu2 := E.flat_get rs hx hm
      rw [ej, hu] at hu2
      obtain ⟨b', o', e1, _, h3⟩ := hcell _ _ hx
      cases e1
      have := h3 _ _ hu2.symm
      rw [add_lit0, ← ej, ← Nat.add_assoc]; exact this) (E.ones rs) (by simp only [maxLen]; omega) hb2 hB
    refine ⟨v', w', k1, ?_, k3, k5⟩
    unfold Row
    rw [List.length_append, List.flatMap_append]; exact k2
/-- in a region in the order of its text -/
theorem app {w : World} {ops : Array Oper} {rest : List Oper} {o : Oper} {a : Act} {Q : Exit → Act → World → Prop} (hgd : o.guard = none) (s x : Operand)
    (ho : o.op = .call { callee := .builtin .append, args := #[s, x], argTypes := #[E.sl, E.sl] }) (B : Nat) (v : Value) (xs : List α) (vs : Value) (rs : List α) (hs : a.eval s = v) (hx : a.eval x = vs)
    (hown : E.Row w B v xs) (hsrc : E.Arg w vs rs) (h1 : xs.length + rs.length ≤ 1000001) (h2 : (1000001 : Nat) * E.bytes ≤ 140737488355328) (hB : B ≤ w.heap.size)
    (h : ∀ v' w', E.Row w' B v' (xs ++ rs) → w.grownBy w' v.ownBlock → (v'.ownBlock = v.ownBlock ∨ v'.ownBlock = some w.heap.size) → wpList P ops Q rest (a.put o.dst v') w') : wpList P ops Q (o :: rest) a w := by
  refine wpList_plain hgd fun K hK => ?_
  obtain ⟨v', w', hr, k2, k3, k4⟩ := run_app o.type hown hsrc h1 h2 hB
  unfold Oper.wp execOp
  simp only [ho, resolve, invoke, builtin, Sem.run_bind, Sem.run_pure, Result.andThen_ok, List.map_toArray, List.map_cons, List.map_nil, hs, hx, hr]
  exact hK _ _ (h v' w' k2 k3 k4)
/-- in a fence -/
theorem appIn {F : Fence} {n : Nat} {w : World} {ops : Array Oper} {rest : List Oper} {o : Oper} {a : Act} {Q : Exit → Act → World → Prop} (hgd : o.guard = none) (s x : Operand)
    (ho : o.op = .call { callee := .builtin .append, args := #[s, x], argTypes := #[E.sl, E.sl] }) (B : Nat) (v : Value) (xs : List α) (vs : Value) (rs : List α) (hs : a.eval s = v) (hx : a.eval x = vs)
    (hown : E.Row w B v xs) (hsrc : E.Arg w vs rs) (h1 : xs.length + rs.length ≤ 1000001) (h2 : (1000001 : Nat) * E.bytes ≤ 140737488355328) (hB : B ≤ w.heap.size)
    (h : ∀ v' w', E.Row w' B v' (xs ++ rs) → w.grownBy w' v.ownBlock → (v'.ownBlock = v.ownBlock ∨ v'.ownBlock = some w.heap.size) → wpListIn F n P ops Q rest (a.put o.dst v') w') : wpListIn F n P ops Q (o :: rest) a w := by
  refine wpListIn_plain hgd fun K hK => ?_
  obtain ⟨v', w', hr, k2, k3, k4⟩ := run_app o.type hown hsrc h1 h2 hB
  unfold Oper.wpIn
  refine ⟨?_, ?_⟩
  · simp [Oper.about, ho, resolve, Target.leads, Sem.run_pure]
  · rw [Oper.semAt_eq _ _ _ (by rw [ho]; intro c hc'; cases hc')]
    unfold execOp
    simp only [ho, resolve, invoke, builtin, Sem.run_bind, Sem.run_pure, Result.andThen_ok, List.map_toArray, List.map_cons, List.map_nil, hs, hx, hr]
    exact hK _ _ (h v' w' k2 k3 k4)
/-- at a step of a region that draws its order -/
theorem step {w : World} {ops : Array Oper} {o : Oper} {a : Act} {K : Act → World → Prop} {Q : Exit → Act → World → Prop} {G : Prop} (hgd : o.guard = none) (s x : Operand)
    (ho : o.op = .call { callee := .builtin .append, args := #[s, x], argTypes := #[E.sl, E.sl] }) (B : Nat) (v : Value) (xs : List α) (vs : Value) (rs : List α) (hs : a.eval s = v) (hx : a.eval x = vs)
    (hown : E.Row w B v xs) (hsrc : E.Arg w vs rs) (h1 : xs.length + rs.length ≤ 1000001) (h2 : (1000001 : Nat) * E.bytes ≤ 140737488355328) (hB : B ≤ w.heap.size)
    (h : ∀ v' w', E.Row w' B v' (xs ++ rs) → w.grownBy w' v.ownBlock → (v'.ownBlock = v.ownBlock ∨ v'.ownBlock = some w.heap.size) → K (a.put o.dst v') w') :
    if Region.wanted o (yielded ops a.tmps) = true then Oper.wp P o a w K Q else G := by
  have hw : Region.wanted o (yielded ops a.tmps) = true := by simp [Region.wanted, hgd]
  rw [if_pos hw]
  obtain ⟨v', w', hr, k2, k3, k4⟩ := run_app o.type hown hsrc h1 h2 hB
  unfold Oper.wp execOp
  simp only [ho, resolve, invoke, builtin, Sem.run_bind, Sem.run_pure, Result.andThen_ok, List.map_toArray, List.map_cons, List.map_nil, hs, hx, hr]
  exact h v' w' k2 k3 k4
/-- one element, in a new block: what append's slice literal lays -/
theorem arg_one {w : World} (x : α) (ty : TypeId) : E.Arg (w.alloc (.cells (E.enc x).toArray ty)) (.slice (some ⟨w.heap.size, 0, none⟩) 1 1) [x] := by
  refine ⟨_, 1, rfl, ⟨Nat.le_refl _, fun e => by cases e⟩, fun i y hy => ?_⟩
  match i, hy with
  | 0, hy =>
    cases hy
    refine ⟨w.heap.size, 0, rfl, by simp, fun j u hu => ?_⟩
    rw [cell_of_row _ _ _ _ _ (0, 0) (heap_alloc_new w _)]
    simpa using hu
  | i + 1, hy => simp at hy
/-- a row that a literal lays -/
theorem arg_lit {w : World} (xs : List α) (n : Nat) (hn : xs.length = n) (ty : TypeId) : E.Arg (w.alloc (.cells (xs.flatMap E.enc).toArray ty)) (.slice (some ⟨w.heap.size, 0, none⟩) n n) xs := by
  subst hn
  refine ⟨_, _, rfl, ⟨Nat.le_refl _, fun e => by cases e⟩, fun i x hx => ⟨w.heap.size, 0, rfl, by simp, fun j u hu => ?_⟩⟩
  have jl : j < E.sz := by have := (List.getElem?_eq_some_iff.1 hu).1; rw [E.len] at this; exact this
  rw [cell_of_row _ _ _ _ _ (0, 0) (heap_alloc_new w _), Nat.zero_add, List.getElem?_toArray, E.flat_get xs hx jl]; exact hu
/-- an empty row, made by a literal -/
theorem row_empty {w : World} (ty : TypeId) (h : ty = E.e) : E.Row (w.alloc (.cells #[] ty)) w.heap.size (.slice (some ⟨w.heap.size, 0, none⟩) 0 0) [] := by
  subst h
  exact World.ownsRow_made w #[] 0 (Nat.le_refl _) (by simp [maxLen]) (by simp)
end Elem
end Go.Proofs.YtfonpegkaajnkaaDoor
