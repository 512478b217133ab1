/-
  BALANCED TREES, plain: turning, balancing, putting, taking away; order, height, places.
-/
import Derived.Test.YtmgljgmfipodeaaM0
/-
  BALANCED TREES, plain: turning, balancing, putting, taking away; order, height, places.
-/
namespace Go.Proofs.Ytmgljgmfipodeaa.Av

/-- an item: from, to, number -/
structure It where
  f : Int
  t : Int
  i : Int
deriving DecidableEq
def It.lt (a b : It) : Prop := a.f < b.f ∨ (a.f = b.f ∧ (a.t < b.t ∨ (a.t = b.t ∧ a.i < b.i)))
instance (a b : It) : Decidable (a.lt b) := by unfold It.lt; exact inferInstance
theorem It.lt_irrefl (a : It) : ¬ a.lt a := by unfold It.lt; omega
theorem It.lt_trans {a b c : It} (h : a.lt b) (k : b.lt c) : a.lt c := by unfold It.lt at *; omega
theorem It.lt_asymm {a b : It} (h : a.lt b) : ¬ b.lt a := by unfold It.lt at *; omega
theorem It.eq_of {a b : It} (h : ¬ a.lt b) (k : ¬ b.lt a) : a = b := by
  cases a; cases b; unfold It.lt at *; simp only [It.mk.injEq] at *; omega
/-- a tree: a node has a place, an item, two sides -/
inductive Tr where
  | nil : Tr
  | nd (p : Nat) (x : It) (l r : Tr) : Tr
namespace Tr
def ht : Tr → Nat
  | nil => 0
  | nd _ _ l r => 1 + max l.ht r.ht
def isNil : Tr → Bool
  | nil => true
  | nd .. => false
def top : Tr → Int
  | nil => 0
  | nd _ x l r => if r.isNil then (if l.isNil then x.t else max x.t l.top) else max (if l.isNil then x.t else max x.t l.top) r.top
def items : Tr → List It
  | nil => []
  | nd _ x l r => l.items ++ x :: r.items
def places : Tr → List Nat
  | nil => []
  | nd p _ l r => l.places ++ p :: r.places
def size : Tr → Nat
  | nil => 0
  | nd _ _ l r => l.size + r.size + 1
def Bal : Tr → Prop
  | nil => True
  | nd _ _ l r => l.Bal ∧ r.Bal ∧ l.ht ≤ r.ht + 1 ∧ r.ht ≤ l.ht + 1
def rotL : Tr → Tr
  | nd p x l (nd q y rl rr) => nd q y (nd p x l rl) rr
  | t => t
def rotR : Tr → Tr
  | nd p x (nd q y ll lr) r => nd q y ll (nd p x lr r)
  | t => t
/-- a side that leans inward is turned first -/
def preL : Tr → Tr
  | nd q y rl rr => if rl.ht > rr.ht then rotR (nd q y rl rr) else nd q y rl rr
  | nil => nil
def preR : Tr → Tr
  | nd q y ll lr => if lr.ht > ll.ht then rotL (nd q y ll lr) else nd q y ll lr
  | nil => nil
def bal : Tr → Tr
  | nil => nil
  | nd p x l r => if r.ht > l.ht + 1 then rotL (nd p x l (preL r)) else if l.ht > r.ht + 1 then rotR (nd p x (preR l) r) else nd p x l r
theorem bal_nd (p : Nat) (x : It) (l r : Tr) : bal (nd p x l r) = if r.ht > l.ht + 1 then rotL (nd p x l (preL r)) else if l.ht > r.ht + 1 then rotR (nd p x (preR l) r) else nd p x l r := rfl
theorem preL_nd (q : Nat) (y : It) (rl rr : Tr) : preL (nd q y rl rr) = if rl.ht > rr.ht then rotR (nd q y rl rr) else nd q y rl rr := rfl
theorem preR_nd (q : Nat) (y : It) (ll lr : Tr) : preR (nd q y ll lr) = if lr.ht > ll.ht then rotL (nd q y ll lr) else nd q y ll lr := rfl
theorem items_rotL (t : Tr) : (rotL t).items = t.items := by
  unfold rotL; split
  · simp [items]
  · rfl
theorem items_rotR (t : Tr) : (rotR t).items = t.items := by
  unfold rotR; split
  · simp [items]
  · rfl
theorem places_rotL (t : Tr) : (rotL t).places = t.places := by
  unfold rotL; split
  · simp [places]
  · rfl
theorem places_rotR (t : Tr) : (rotR t).places = t.places := by
  unfold rotR; split
  · simp [places]
  · rfl
theorem items_preL (t : Tr) : (preL t).items = t.items := by
  unfold preL; split
  · split
    · exact items_rotR _
    · rfl
  · rfl
theorem items_preR (t : Tr) : (preR t).items = t.items := by
  unfold preR; split
  · split
    · exact items_rotL _
    · rfl
  · rfl
theorem places_preL (t : Tr) : (preL t).places = t.places := by
  unfold preL; split
  · split
    · exact places_rotR _
    · rfl
  · rfl
theorem places_preR (t : Tr) : (preR t).places = t.places := by
  unfold preR; split
  · split
    · exact places_rotL _
    · rfl
  · rfl
theorem items_bal (t : Tr) : (bal t).items = t.items := by
  cases t with
  | nil => rfl
  | nd p x l r =>
    rw [bal_nd]; split
    · rw [items_rotL]; simp [items, items_preL]
    · split
      · rw [items_rotR]; simp [items, items_preR]
      · rfl
theorem places_bal (t : Tr) : (bal t).places = t.places := by
  cases t with
  | nil => rfl
  | nd p x l r =>
    rw [bal_nd]; split
    · rw [places_rotL]; simp [places, places_preL]
    · split
      · rw [places_rotR]; simp [places, places_preR]
      · rfl
theorem size_places (t : Tr) : t.places.length = t.size := by
  induction t with
  | nil => rfl
  | nd p x l r hl hr => simp [places, size, hl, hr]; omega
theorem size_items (t : Tr) : t.items.length = t.size := by
  induction t with
  | nil => rfl
  | nd p x l r hl hr => simp [items, size, hl, hr]; omega
/-- balancing a node whose sides are balanced and lean by two at most -/
theorem bal_bal (p : Nat) (x : It) (l r : Tr) (hl : l.Bal) (hr : r.Bal) (h1 : l.ht ≤ r.ht + 2) (h2 : r.ht ≤ l.ht + 2) :
    (bal (nd p x l r)).Bal ∧ max l.ht r.ht ≤ (bal (nd p x l r)).ht ∧ (bal (nd p x l r)).ht ≤ 1 + max l.ht r.ht ∧ ((l.ht ≤ r.ht + 1 ∧ r.ht ≤ l.ht + 1) → (bal (nd p x l r)).ht = 1 + max l.ht r.ht) := by
  rw [bal_nd]
  split
  · rename_i h
    cases r with
    | nil => simp [ht] at h
    | nd q y rl rr =>
      simp only [Bal, ht] at hr h h1 h2
      rw [preL_nd]
      split
      · rename_i k
        cases rl with
        | nil => simp [ht] at k
        | nd s z a b =>
          simp only [Bal, ht] at hr h h1 h2 k
          simp only [rotR, rotL, Bal, ht]
          exact ⟨⟨⟨hl, hr.1.1, by omega, by omega⟩, ⟨hr.1.2.1, hr.2.1, by omega, by omega⟩, by omega, by omega⟩, by omega, by omega, fun g => by omega⟩
      · simp only [rotL, Bal, ht]
        exact ⟨⟨⟨hl, hr.1, by omega, by omega⟩, hr.2.1, by omega, by omega⟩, by omega, by omega, fun g => by omega⟩
  · rename_i h
    split
    · rename_i h'
      cases l with
      | nil => simp [ht] at h'
      | nd q y ll lr =>
        simp only [Bal, ht] at hl h h' h1 h2
        rw [preR_nd]
        split
        · rename_i k
          cases lr with
          | nil => simp [ht] at k
          | nd s z a b =>
            simp only [Bal, ht] at hl h h' h1 h2 k
            simp only [rotR, rotL, Bal, ht]
            exact ⟨⟨⟨hl.1, hl.2.1.1, by omega, by omega⟩, ⟨hl.2.1.2.1, hr, by omega, by omega⟩, by omega, by omega⟩, by omega, by omega, fun g => by omega⟩
        · simp only [rotR, Bal, ht]
          exact ⟨⟨hl.1, ⟨hl.2.1, hr, by omega, by omega⟩, by omega, by omega⟩, by omega, by omega, fun g => by omega⟩
    · rename_i h'
      simp only [Bal, ht]
      exact ⟨⟨hl, hr, by omega, by omega⟩, by omega, by omega, fun _ => trivial⟩
/-- a balanced tree is not high -/
theorem bal_high (t : Tr) (h : t.Bal) : 2 ^ (t.ht / 2) ≤ t.size + 1 := by
  induction t with
  | nil => simp [ht, size]
  | nd p x l r hl hr =>
    simp only [Bal] at h
    have a := hl h.1; have b := hr h.2.1
    simp only [ht, size]
    have e : ∀ n m : Nat, m ≤ n + 1 → n ≤ m + 1 → 2 ^ ((1 + max n m) / 2) ≤ 2 ^ (n / 2) + 2 ^ (m / 2) := by
      intro n m h1 h2
      have c : (1 + max n m) / 2 ≤ (min n m) / 2 + 1 := by omega
      refine Nat.le_trans (Nat.pow_le_pow_right (by omega) c) ?_
      rw [Nat.pow_succ]
      have d1 : 2 ^ ((min n m) / 2) ≤ 2 ^ (n / 2) := Nat.pow_le_pow_right (by omega) (by omega)
      have d2 : 2 ^ ((min n m) / 2) ≤ 2 ^ (m / 2) := Nat.pow_le_pow_right (by omega) (by omega)
      omega
    have := e l.ht r.ht h.2.2.2 h.2.2.1
    omega
theorem high_40 (t : Tr) (h : t.Bal) (hs : t.size ≤ 1000000) : t.ht ≤ 39 := by
  have := bal_high t h
  rcases Nat.lt_or_ge 39 t.ht with k | k
  · have d : 2 ^ 20 ≤ 2 ^ (t.ht / 2) := Nat.pow_le_pow_right (by omega) (by omega)
    have : 2 ^ 20 = 1048576 := by decide
    omega
  · exact k
/-- a step of the way down: the node's place, its item, whether the way goes right, its other side -/
structure Fr where
  p : Nat
  x : It
  right : Bool
  o : Tr
def Fr.fill (f : Fr) (t : Tr) : Tr := if f.right = true then nd f.p f.x f.o t else nd f.p f.x t f.o
/-- put back up, from the bottom on, as it was -/
def plug : List Fr → Tr → Tr
  | [], t => t
  | f :: c, t => plug c (f.fill t)
/-- put back up, each balanced -/
def mendZ : List Fr → Tr → Tr
  | [], t => t
  | f :: c, t => mendZ c (bal (f.fill t))
/-- the way down to an item (the last step first), and what is there -/
def way (x : It) : Tr → List Fr → List Fr × Tr
  | nil, c => (c, nil)
  | nd p y l r, c => if x.lt y then way x l (⟨p, y, false, r⟩ :: c) else if y.lt x then way x r (⟨p, y, true, l⟩ :: c) else (c, nd p y l r)
theorem way_plug (x : It) (t : Tr) (c : List Fr) : plug (way x t c).1 (way x t c).2 = plug c t := by
  induction t generalizing c with
  | nil => rfl
  | nd p y l r hl hr =>
    unfold way; split
    · rw [hl]; rfl
    · split
      · rw [hr]; rfl
      · rfl
/-- items to the left, to the right of the way -/
def lefts : List Fr → List It
  | [] => []
  | f :: c => lefts c ++ (if f.right = true then f.o.items ++ [f.x] else [])
def rights : List Fr → List It
  | [] => []
  | f :: c => (if f.right = true then [] else f.x :: f.o.items) ++ rights c
theorem items_plug (c : List Fr) (t : Tr) : (plug c t).items = lefts c ++ t.items ++ rights c := by
  induction c generalizing t with
  | nil => simp [plug, lefts, rights]
  | cons f c ih =>
    simp only [plug, lefts, rights, ih, Fr.fill]
    split <;> simp [items]
theorem items_mendZ (c : List Fr) (t : Tr) : (mendZ c t).items = lefts c ++ t.items ++ rights c := by
  induction c generalizing t with
  | nil => simp [mendZ, lefts, rights]
  | cons f c ih =>
    simp only [mendZ, lefts, rights, ih, items_bal, Fr.fill]
    split <;> simp [items]
theorem plug_bal (c : List Fr) (t : Tr) (h : (plug c t).Bal) : t.Bal := by
  induction c generalizing t with
  | nil => exact h
  | cons f c ih =>
    have := ih _ h
    unfold Fr.fill at this
    split at this
    · exact this.2.1
    · exact this.1
theorem fill_ht (f : Fr) (t : Tr) : (f.fill t).ht = 1 + max f.o.ht t.ht := by unfold Fr.fill; split <;> simp [ht]; omega
theorem fill_bal (f : Fr) (t : Tr) : (f.fill t).Bal ↔ (f.o.Bal ∧ t.Bal ∧ f.o.ht ≤ t.ht + 1 ∧ t.ht ≤ f.o.ht + 1) := by
  unfold Fr.fill; split
  · simp only [Bal]
  · simp only [Bal]; constructor <;> rintro ⟨a, b, c, d⟩ <;> exact ⟨b, a, d, c⟩
/-- one step of mending, below an old balanced one -/
theorem mend_step (f : Fr) (s s' : Tr) (h : (f.fill s).Bal) (h' : s'.Bal) (k1 : s'.ht ≤ s.ht + 1) (k2 : s.ht ≤ s'.ht + 1) :
    (bal (f.fill s')).Bal ∧ (bal (f.fill s')).ht ≤ (f.fill s).ht + 1 ∧ (f.fill s).ht ≤ (bal (f.fill s')).ht + 1 ∧ f.o.ht ≤ s'.ht + 2 ∧ s'.ht ≤ f.o.ht + 2 := by
  rw [fill_ht]
  rw [fill_bal] at h
  unfold Fr.fill
  split
  · have := bal_bal f.p f.x f.o s' h.1 h' (by omega) (by omega)
    refine ⟨this.1, ?_, ?_, by omega, by omega⟩ <;> rcases Nat.lt_or_ge (f.o.ht + 1) s'.ht with g | g <;> rcases Nat.lt_or_ge (s'.ht + 1) f.o.ht with g' | g' <;> first | omega | (have := this.2.2.2 (by omega); omega)
  · have := bal_bal f.p f.x s' f.o h' h.1 (by omega) (by omega)
    refine ⟨this.1, ?_, ?_, by omega, by omega⟩ <;> rcases Nat.lt_or_ge (f.o.ht + 1) s'.ht with g | g <;> rcases Nat.lt_or_ge (s'.ht + 1) f.o.ht with g' | g' <;> first | omega | (have := this.2.2.2 (by omega); omega)
theorem mendZ_bal (c : List Fr) (s s' : Tr) (h : (plug c s).Bal) (h' : s'.Bal) (k1 : s'.ht ≤ s.ht + 1) (k2 : s.ht ≤ s'.ht + 1) : (mendZ c s').Bal := by
  induction c generalizing s s' with
  | nil => exact h'
  | cons f c ih =>
    have hb := plug_bal c _ h
    have := mend_step f s s' hb h' k1 k2
    exact ih (f.fill s) _ h this.1 this.2.1 this.2.2.1
theorem places_plug (c : List Fr) (t : Tr) : (plug c t).places.Perm (t.places ++ c.flatMap (fun f => f.p :: f.o.places)) := by
  induction c generalizing t with
  | nil => simp [plug]
  | cons f c ih =>
    refine List.perm_iff_count.2 fun a => ?_
    have := List.perm_iff_count.1 (ih (f.fill t)) a
    simp only [plug, List.flatMap_cons]
    rw [this]
    unfold Fr.fill
    split <;> simp only [places, List.count_append, List.count_cons] <;> omega
theorem places_mendZ (c : List Fr) (t : Tr) : (mendZ c t).places = (plug c t).places := by
  induction c generalizing t with
  | nil => rfl
  | cons f c ih =>
    simp only [mendZ, plug]
    rw [ih]
    have e : ∀ (c : List Fr) (a b : Tr), a.places = b.places → (plug c a).places = (plug c b).places := by
      intro c
      induction c with
      | nil => intro a b h; exact h
      | cons g c ih => intro a b h; exact ih _ _ (by unfold Fr.fill; split <;> simp [places, h])
    exact e c _ _ (places_bal _)
/-- rising, no item twice -/
def Sorted (l : List It) : Prop := l.Pairwise It.lt
theorem way_sides (x : It) (t : Tr) (c : List Fr) (hl : ∀ y ∈ lefts c, y.lt x) (hr : ∀ y ∈ rights c, x.lt y) (hs : Sorted t.items) :
    (∀ y ∈ lefts (way x t c).1, y.lt x) ∧ (∀ y ∈ rights (way x t c).1, x.lt y) ∧ ((way x t c).2 = nil ∨ ∃ p l r, (way x t c).2 = nd p x l r) := by
  induction t generalizing c with
  | nil => exact ⟨hl, hr, .inl rfl⟩
  | nd p y l r il ir =>
    simp only [items, Sorted, List.pairwise_append, List.pairwise_cons] at hs
    unfold way; split
    · rename_i h
      refine il _ (by simpa [lefts] using hl) ?_ hs.1
      intro z hz
      simp only [rights, Bool.false_eq_true, if_false, List.mem_append, List.mem_cons] at hz
      rcases hz with (rfl | hz) | hz
      · exact h
      · exact It.lt_trans h (hs.2.1.1 z hz)
      · exact hr z hz
    · split
      · rename_i h
        refine ir _ ?_ (by simpa [rights] using hr) hs.2.1.2
        intro z hz
        simp only [lefts, if_true, List.mem_append, List.mem_cons, List.not_mem_nil, or_false] at hz
        rcases hz with hz | hz | rfl
        · exact hl z hz
        · exact It.lt_trans (hs.2.2 z hz y (by simp)) h
        · exact h
      · rename_i h1 h2
        exact ⟨hl, hr, .inr ⟨p, l, r, by rw [It.eq_of h1 h2]⟩⟩
/-- the items under x, those behind -/
def under (x : It) (L : List It) : List It := L.takeWhile (fun y => decide (y.lt x))
def beyond (x : It) (L : List It) : List It := L.dropWhile (fun y => decide (y.lt x))
theorem split_at (x : It) (A B : List It) (hA : ∀ y ∈ A, y.lt x) (hB : ∀ y ∈ B, ¬ y.lt x) : under x (A ++ B) = A ∧ beyond x (A ++ B) = B := by
  unfold under beyond
  induction A with
  | nil =>
    cases B with
    | nil => simp
    | cons b B => simp [hB b (by simp)]
  | cons a A ih =>
    have h := hA a (by simp)
    have := ih (fun y hy => hA y (by simp [hy]))
    simp [h, this]
theorem items_way (x : It) (t : Tr) : t.items = lefts (way x t []).1 ++ (way x t []).2.items ++ rights (way x t []).1 := by
  have := way_plug x t []
  rw [← items_plug, this]; rfl
theorem way_sides0 (x : It) (t : Tr) (hs : Sorted t.items) :
    (∀ y ∈ lefts (way x t []).1, y.lt x) ∧ (∀ y ∈ rights (way x t []).1, x.lt y) ∧ ((way x t []).2 = nil ∨ ∃ p l r, (way x t []).2 = nd p x l r) :=
  way_sides x t [] (by simp [lefts]) (by simp [rights]) hs
/-- what is not there: its place in the row -/
theorem absent (x : It) (t : Tr) (hs : Sorted t.items) (h : (way x t []).2 = nil) :
    under x t.items = lefts (way x t []).1 ∧ beyond x t.items = rights (way x t []).1 ∧ x ∉ t.items := by
  obtain ⟨h1, h2, _⟩ := way_sides0 x t hs
  have e := items_way x t
  rw [h] at e
  simp only [items, List.append_nil] at e
  have := split_at x _ _ h1 (fun y hy => It.lt_asymm (h2 y hy))
  rw [← e] at this
  refine ⟨this.1, this.2, fun hx => ?_⟩
  rw [e, List.mem_append] at hx
  rcases hx with hx | hx
  · exact It.lt_irrefl x (h1 x hx)
  · exact It.lt_irrefl x (h2 x hx)
theorem present (x : It) (t : Tr) (hs : Sorted t.items) (p : Nat) (l r : Tr) (h : (way x t []).2 = nd p x l r) :
    under x t.items = lefts (way x t []).1 ++ l.items ∧ beyond x t.items = x :: (r.items ++ rights (way x t []).1) ∧ x ∈ t.items := by
  obtain ⟨h1, h2, _⟩ := way_sides0 x t hs
  have e := items_way x t
  rw [h] at e
  simp only [items] at e
  have e2 : t.items = (lefts (way x t []).1 ++ l.items) ++ (x :: (r.items ++ rights (way x t []).1)) := by rw [e]; simp
  have hs2 := hs
  rw [e2, Sorted, List.pairwise_append] at hs2
  have := split_at x (lefts (way x t []).1 ++ l.items) (x :: (r.items ++ rights (way x t []).1)) (fun y hy => hs2.2.2 y hy x (by simp)) (fun y hy => by
    rcases List.mem_cons.1 hy with rfl | hy
    · exact It.lt_irrefl _
    · have h3 := List.pairwise_cons.1 hs2.2.1
      exact It.lt_asymm (h3.1 y hy))
  rw [← e2] at this
  exact ⟨this.1, this.2, by rw [e2]; simp⟩
theorem insert_items (x : It) (t : Tr) (p : Nat) (hs : Sorted t.items) (h : (way x t []).2 = nil) :
    (mendZ (way x t []).1 (nd p x nil nil)).items = under x t.items ++ x :: beyond x t.items := by
  obtain ⟨h1, h2, _⟩ := absent x t hs h
  rw [items_mendZ, h1, h2]; simp [items]
/-- down to the least one -/
def wayMin : Tr → List Fr → List Fr × Tr
  | nil, c => (c, nil)
  | nd q y nil r, c => (c, nd q y nil r)
  | nd q y (nd q' y' l' r') r, c => wayMin (nd q' y' l' r') (⟨q, y, false, r⟩ :: c)
theorem wayMin_spec (t : Tr) (c : List Fr) (h : t ≠ nil) : ∃ (d : List Fr) (q : Nat) (y : It) (r : Tr), wayMin t c = (d ++ c, nd q y nil r) ∧ plug (d ++ c) (nd q y nil r) = plug c t ∧ lefts d = [] ∧ y :: (r.items ++ rights d) = t.items ∧ (∀ f ∈ d, f.right = false) := by
  induction t generalizing c with
  | nil => exact absurd rfl h
  | nd q y l r il ir =>
    cases l with
    | nil => exact ⟨[], q, y, r, rfl, rfl, rfl, by simp [items, rights], by simp⟩
    | nd q' y' l' r' =>
      obtain ⟨d, q2, y2, r2, h1, h2, h3, h4, h5⟩ := il (⟨q, y, false, r⟩ :: c) (by simp)
      refine ⟨d ++ [⟨q, y, false, r⟩], q2, y2, r2, ?_, ?_, ?_, ?_, ?_⟩
      · unfold wayMin; rw [h1]; simp
      · rw [List.append_assoc]; exact h2
      · have : ∀ (d e : List Fr), lefts (d ++ e) = lefts e ++ lefts d := by
          intro d e; induction d with
          | nil => simp [lefts]
          | cons f d ih => simp [lefts, ih]
        rw [this, h3]; simp [lefts]
      · have : ∀ (d e : List Fr), rights (d ++ e) = rights d ++ rights e := by
          intro d e; induction d with
          | nil => simp [rights]
          | cons f d ih => simp [rights, ih]
        rw [this]
        simp only [items] at h4 ⊢
        rw [show rights [(⟨q, y, false, r⟩ : Fr)] = y :: r.items by simp [rights], ← List.append_assoc, ← List.cons_append, h4]
      · intro f hf
        rcases List.mem_append.1 hf with hf | hf
        · exact h5 f hf
        · simp only [List.mem_singleton] at hf; rw [hf]
theorem lefts_append (d e : List Fr) : lefts (d ++ e) = lefts e ++ lefts d := by
  induction d with
  | nil => simp [lefts]
  | cons f d ih => simp [lefts, ih]
theorem rights_append (d e : List Fr) : rights (d ++ e) = rights d ++ rights e := by
  induction d with
  | nil => simp [rights]
  | cons f d ih => simp [rights, ih]
/-- taking away a node with one side at most -/
theorem delete1_items (x : It) (t : Tr) (hs : Sorted t.items) (p : Nat) (l r : Tr) (h : (way x t []).2 = nd p x l r) (hn : l = nil ∨ r = nil) :
    (mendZ (way x t []).1 (if l.isNil then r else l)).items = under x t.items ++ (beyond x t.items).tail := by
  obtain ⟨h1, h2, _⟩ := present x t hs p l r h
  rw [items_mendZ, h1, h2]
  rcases hn with rfl | rfl
  · simp [isNil, items]
  · cases l with
    | nil => simp [isNil, items]
    | nd a b c d => simp [isNil, items]
/-- taking away a node with two sides: the least one of the right side takes its place -/
theorem delete2_items (x : It) (t : Tr) (hs : Sorted t.items) (p : Nat) (l r : Tr) (h : (way x t []).2 = nd p x l r) (d : List Fr) (q : Nat) (y : It) (rr : Tr)
    (hl : lefts d = []) (hr : y :: (rr.items ++ rights d) = r.items) :
    (mendZ (d ++ ⟨p, y, true, l⟩ :: (way x t []).1) rr).items = under x t.items ++ (beyond x t.items).tail := by
  obtain ⟨h1, h2, _⟩ := present x t hs p l r h
  rw [items_mendZ, h1, h2, lefts_append, rights_append, hl, ← hr]
  simp [lefts, rights]
end Tr
end Go.Proofs.Ytmgljgmfipodeaa.Av
