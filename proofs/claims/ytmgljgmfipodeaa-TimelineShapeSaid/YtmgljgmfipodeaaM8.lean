/-
  TIMELINES, plain: a lay's two ways; the value of a day; TIMELINES, plain: neighbours are unlike, also behind a put.
-/
import Derived.Test.YtmgljgmfipodeaaM7
/-
  TIMELINES, plain: a lay's two ways; the value of a day.
-/
namespace Go.Proofs.Ytmgljgmfipodeaa.Tl
open Av

/-- the row with a segment more -/
def ins (x : It) (L : List It) : List It := Tr.under x L ++ x :: Tr.beyond x L
theorem mem_ins (x y : It) (L : List It) : y ∈ ins x L ↔ y = x ∨ y ∈ L := Av.mem_put x y L
theorem len_ins (x : It) (L : List It) : (ins x L).length = L.length + 1 := by
  have := congrArg List.length (Tr.sorted_split x L)
  rw [List.length_append] at this
  unfold ins
  rw [List.length_append, List.length_cons]; omega
theorem nd_of {L : List It} (h : Tr.Sorted L) : L.Nodup := by
  refine List.Pairwise.imp ?_ h
  intro a b hab e
  subst e
  exact It.lt_irrefl _ hab
theorem nd_ins {x : It} {L : List It} (h : L.Nodup) (hx : x ∉ L) : (ins x L).Nodup := by
  have e := Tr.sorted_split x L
  rw [e] at h hx
  unfold ins
  obtain ⟨h1, h2, h3⟩ := List.nodup_append.1 h
  refine List.nodup_append.2 ⟨h1, List.nodup_cons.2 ⟨fun k => hx (List.mem_append.2 (.inr k)), h2⟩, fun a ha b hb => ?_⟩
  rcases List.mem_cons.1 hb with rfl | hb
  · exact fun e2 => hx (List.mem_append.2 (.inl (e2 ▸ ha)))
  · exact h3 a ha b hb
theorem Laid.new {E : List Int} {L : List It} {vals : List Int} {a b v : Int} (h : Inv E L vals []) (hab : a < b) (ha : 1 ≤ a) (hb : b ≤ 3652060) (hE : a ∈ E) (hv : v ≠ 0) (hd : ∀ y ∈ L, y.t ≤ a ∨ b ≤ y.f) :
    (⟨a, b, vals.length⟩ : It) ∉ L ∧ Laid E L vals [] a b v (ins ⟨a, b, vals.length⟩ L) (vals ++ [v]) [] := by
  have hi : ∀ y ∈ L, y.i ≠ (vals.length : Int) := fun y hy => by have := h.id y hy; omega
  have hx : (⟨a, b, vals.length⟩ : It) ∉ L := fun k => hi _ k rfl
  have hva : ∀ j : Int, 0 ≤ j → j < vals.length → j ≠ (vals.length : Int) → va (vals ++ [v]) j = va vals j := fun j h1 h2 _ => va_app vals v j h1 h2
  refine ⟨hx, h.lay (i := (vals.length : Int)) (v := v) hab ha hb hE hv hd (fun y => mem_ins _ y L) (nd_ins h.nd hx) (len_ins _ L) hi ⟨by omega, by rw [List.length_append, List.length_singleton]; omega, va_new vals v⟩ hva (by rw [List.length_append]; omega) (fun j hj => by cases hj) List.nodup_nil ?_ (.inl rfl),
    fun G hG => Fn.lay h hG hd (fun y => mem_ins _ y L) hi (va_new vals v) hva, fun y hy => ?_, fun y hy => (mem_ins _ y L).2 (.inr hy)⟩
  · have := h.len; rw [len_ins, List.length_append, List.length_singleton]; simp only [List.length_nil] at *; omega
  · rcases (mem_ins _ y L).1 hy with rfl | hy
    · exact .inr ⟨rfl, rfl, hab⟩
    · exact .inl hy
theorem Laid.pop {E : List Int} {L : List It} {vals fr : List Int} {a b v i : Int} (h : Inv E L vals (fr ++ [i])) (hab : a < b) (ha : 1 ≤ a) (hb : b ≤ 3652060) (hE : a ∈ E) (hv : v ≠ 0) (hd : ∀ y ∈ L, y.t ≤ a ∨ b ≤ y.f) :
    (⟨a, b, i⟩ : It) ∉ L ∧ Laid E L vals (fr ++ [i]) a b v (ins ⟨a, b, i⟩ L) (vals.set i.toNat v) fr := by
  have him : i ∈ fr ++ [i] := by simp
  have hi : ∀ y ∈ L, y.i ≠ i := fun y hy e => h.no y hy (e ▸ him)
  have hx : (⟨a, b, i⟩ : It) ∉ L := fun k => hi _ k rfl
  obtain ⟨i0, i1⟩ := h.fr i him
  have hva : ∀ j : Int, 0 ≤ j → j < vals.length → j ≠ i → va (vals.set i.toNat v) j = va vals j := fun j h1 _ h3 => va_set vals v i j i0 h1 h3
  obtain ⟨n1, _, n3⟩ := List.nodup_append.1 h.fn
  refine ⟨hx, h.lay (i := i) (v := v) hab ha hb hE hv hd (fun y => mem_ins _ y L) (nd_ins h.nd hx) (len_ins _ L) hi ⟨i0, by rw [List.length_set]; exact i1, va_here vals v i i0 i1⟩ hva (by rw [List.length_set]; exact Nat.le_refl _) (fun j hj => ⟨List.mem_append.2 (.inl hj), fun e => n3 j hj i (by simp) e⟩) n1 ?_ (.inr (List.length_set ..)),
    fun G hG => Fn.lay h hG hd (fun y => mem_ins _ y L) hi (va_here vals v i i0 i1) hva, fun y hy => ?_, fun y hy => (mem_ins _ y L).2 (.inr hy)⟩
  · have := h.len; rw [List.length_append, List.length_singleton] at this; rw [len_ins, List.length_set]; omega
  · rcases (mem_ins _ y L).1 hy with rfl | hy
    · exact .inr ⟨rfl, rfl, hab⟩
    · exact .inl hy
/-- a day's value, by the segments that have it -/
theorem Fn.has {L : List It} {vals : List Int} {F : Int → Int} (h : Fn L vals F) {x : It} {d : Int} (hx : x ∈ L) (h1 : x.f ≤ d) (h2 : d < x.t) : F d = va vals x.i := h.1 x hx d h1 h2
theorem Fn.wide {E : List Int} {L : List It} {vals free : List Int} {F : Int → Int} (hi : Inv E L vals free) (h : Fn L vals F) {d : Int} (hd : d < 1 ∨ 3652059 < d) : F d = 0 := h.2 d fun x hx => by have := hi.bd x hx; omega
/-- nothing laid -/
theorem Inv.zero : Inv [] [] [] [] where
  bd := fun x hx => by cases hx
  id := fun x hx => by cases hx
  dis := fun x hx => by cases hx
  one := fun x hx => by cases hx
  no := fun x hx => by cases hx
  fr := fun x hx => by cases hx
  fn := List.nodup_nil
  len := rfl
  nd := List.nodup_nil
  most := Nat.le_refl _
theorem Fn.zero : Fn [] [] fun _ => 0 := ⟨fun x hx => absurd hx (List.not_mem_nil), fun _ _ => rfl⟩
end Go.Proofs.Ytmgljgmfipodeaa.Tl
/-
  TIMELINES, plain: neighbours are unlike, also behind a put.
-/
namespace Go.Proofs.Ytmgljgmfipodeaa.Tl
open Av

/-- no segment can be made longer -/
def Sharp (L : List It) (F : Int → Int) : Prop := ∀ x ∈ L, F (x.f - 1) ≠ F x.f ∧ F x.t ≠ F (x.t - 1)
theorem Sharp.eq {L : List It} {F G : Int → Int} (h : Sharp L F) (e : ∀ d, G d = F d) : Sharp L G := fun x hx => by rw [e, e, e, e]; exact h x hx
/-- where the segments come from, while a put is under way -/
structure Orig (sF sT v : Int) (F : Int → Int) (L0 X : List It) (k : Nat) (L : List It) (a z : Int) : Prop where
  all : ∀ y ∈ L, (y ∈ L0 ∧ (y.t < sF ∨ sT < y.f ∨ ∃ j : Nat, k ≤ j ∧ X[j]? = some y)) ∨ ∃ x ∈ L0, F x.f ≠ v ∧ ((y.f = x.f ∧ y.t = sF ∧ x.f < sF ∧ sF ≤ x.t) ∨ (y.f = sT ∧ y.t = x.t ∧ sT < x.t ∧ x.f ≤ sT))
  took : ∀ (j : Nat) (x : It), j < k → X[j]? = some x → F x.f = v → a ≤ x.f ∧ x.t ≤ z
theorem Orig.start {sF sT v : Int} {F : Int → Int} {L X : List It} (hX : ∀ y ∈ L, y.f ≤ sT → sF ≤ y.t → ∃ j : Nat, X[j]? = some y) : Orig sF sT v F L X 0 L sF sT where
  all := fun y hy => .inl ⟨hy, by
    by_cases h1 : y.t < sF
    · exact .inl h1
    · by_cases h2 : sT < y.f
      · exact .inr (.inl h2)
      · obtain ⟨j, hj⟩ := hX y hy (by omega) (by omega)
        exact .inr (.inr ⟨j, Nat.zero_le _, hj⟩)⟩
  took := fun j x hj => by omega
theorem Orig.takes {sF sT v : Int} {F : Int → Int} {L0 X L L1 : List It} {k : Nat} {a z : Int} {x : It} (h : Orig sF sT v F L0 X k L a z) (hk : X[k]? = some x) (hm : ∀ y, y ∈ L1 ↔ y ≠ x ∧ y ∈ L) : Orig sF sT v F L0 X (k + 1) L1 (min a x.f) (max z x.t) where
  all := fun y hy => by
    obtain ⟨ne, hy⟩ := (hm y).1 hy
    rcases h.all y hy with ⟨h1, h2 | h2 | ⟨j, h2, h3⟩⟩ | r
    · exact .inl ⟨h1, .inl h2⟩
    · exact .inl ⟨h1, .inr (.inl h2)⟩
    · refine .inl ⟨h1, .inr (.inr ⟨j, ?_, h3⟩)⟩
      rcases Nat.lt_or_ge k j with g | g
      · omega
      · obtain rfl : j = k := by omega
        rw [hk] at h3; cases h3; exact absurd rfl ne
    · exact .inr r
  took := fun j y hj hy e => by
    rcases Nat.lt_or_ge j k with g | g
    · have := h.took j y g hy e; omega
    · obtain rfl : j = k := by omega
      rw [hk] at hy; cases hy; omega
theorem Orig.parts {E : List Int} {sF sT v : Int} {F : Int → Int} {L0 X L L1 L2 L3 : List It} {k : Nat} {a z w : Int} {x : It} {vals1 free1 vals2 free2 vals3 free3 : List Int} (h : Orig sF sT v F L0 X k L a z) (hX : Xs sF sT X) (hk : X[k]? = some x) (hx : x ∈ L0) (hw : F x.f ≠ v)
    (hm : ∀ y, y ∈ L1 ↔ y ≠ x ∧ y ∈ L) (h2 : Laid E L1 vals1 free1 x.f (min x.t sF) w L2 vals2 free2) (h3 : Laid E L2 vals2 free2 (max x.f sT) x.t w L3 vals3 free3) : Orig sF sT v F L0 X (k + 1) L3 a z where
  all := fun y hy => by
    obtain ⟨q1, q2, q3⟩ := hX.q k x hk
    rcases h3.2.2.1 y hy with hy2 | ⟨e1, e2, e3⟩
    · rcases h2.2.2.1 y hy2 with hy1 | ⟨e1, e2, e3⟩
      · obtain ⟨ne, hy⟩ := (hm y).1 hy1
        rcases h.all y hy with ⟨h1, h2 | h2 | ⟨j, h2, h3⟩⟩ | r
        · exact .inl ⟨h1, .inl h2⟩
        · exact .inl ⟨h1, .inr (.inl h2)⟩
        · refine .inl ⟨h1, .inr (.inr ⟨j, ?_, h3⟩)⟩
          rcases Nat.lt_or_ge k j with g | g
          · omega
          · obtain rfl : j = k := by omega
            rw [hk] at h3; cases h3; exact absurd rfl ne
        · exact .inr r
      · exact .inr ⟨x, hx, hw, .inl ⟨e1, by omega, by omega, q2⟩⟩
    · exact .inr ⟨x, hx, hw, .inr ⟨by omega, e2, by omega, q1⟩⟩
  took := fun j y hj hy e => by
    rcases Nat.lt_or_ge j k with g | g
    · exact h.took j y g hy e
    · obtain rfl : j = k := by omega
      rw [hk] at hy; cases hy; exact absurd e hw
theorem Orig.done {E E0 : List Int} {sF sT v : Int} {F : Int → Int} {L0 X L L' : List It} {k : Nat} {vals0 free0 vals free vals' free' : List Int} {a z : Int} {G : Int → Int} (h : Orig sF sT v F L0 X k L a z) (hM : Mid E sF sT v F X k L vals free a z G) (hs : sF < sT) (hk : X.length ≤ k)
    (h0 : Inv E0 L0 vals0 free0) (hF : Fn L0 vals0 F) (hS : Sharp L0 F) (hX1 : ∀ (j : Nat) (y : It), X[j]? = some y → y ∈ L0) (hX2 : ∀ y ∈ L0, y.f ≤ sT → sF ≤ y.t → ∃ j : Nat, X[j]? = some y)
    (hl : ∀ y ∈ L', y ∈ L ∨ (y.f = a ∧ y.t = z ∧ v ≠ 0)) : Sharp L' (upd F sF sT v) := fun y hy => by
  obtain ⟨u1, u2, _⟩ := hM.hull
  have con : ∀ x ∈ L0, ∀ d, x.f ≤ d → d < x.t → F d = F x.f := fun x hx d h1 h2 => by rw [hF.1 x hx d h1 h2, hF.1 x hx x.f (Int.le_refl _) (by omega)]
  -- a day of the value v, in the span or beside it, lies in the hull
  have near : ∀ d, v ≠ 0 → sF - 1 ≤ d → d ≤ sT → F d = v → a ≤ d ∧ d < z := fun d hv h1 h2 e => by
    by_cases c : ∃ x ∈ L0, x.f ≤ d ∧ d < x.t
    · obtain ⟨x, hx, c1, c2⟩ := c
      obtain ⟨j, hj⟩ := hX2 x hx (by omega) (by omega)
      have jl := (List.getElem?_eq_some_iff.1 hj).1
      have := h.took j x (by omega) hj ((con x hx d c1 c2).symm.trans e)
      omega
    · exact absurd (e.symm.trans (hF.2 d fun x hx k => c ⟨x, hx, k⟩)) hv
  rcases hl y hy with hy | ⟨e1, e2, hv⟩
  · rcases h.all y hy with ⟨h1, h2 | h2 | ⟨j, h2, h3⟩⟩ | ⟨x, hx, hw, ⟨e1, e2, e3, e4⟩ | ⟨e1, e2, e3, e4⟩⟩
    · have b := h0.bd y h1
      rw [upd_out (by omega), upd_out (by omega), upd_out (by omega), upd_out (by omega)]; exact hS y h1
    · have b := h0.bd y h1
      rw [upd_out (by omega), upd_out (by omega), upd_out (by omega), upd_out (by omega)]; exact hS y h1
    · have := (List.getElem?_eq_some_iff.1 h3).1; omega
    · have s := (hS x hx).1
      rw [e1, e2, upd_out (by omega), upd_out (by omega), upd_in (Int.le_refl _) hs, upd_out (by omega)]
      exact ⟨s, fun e => hw ((con x hx (sF - 1) (by omega) (by omega)).symm.trans e.symm)⟩
    · have s := (hS x hx).2
      rw [e1, e2, upd_in (by omega) (by omega), upd_out (by omega), upd_out (by omega), upd_out (by omega)]
      exact ⟨fun e => hw ((con x hx sT (by omega) (by omega)).symm.trans e.symm), s⟩
  · have ha : upd F sF sT v a = v := by
      rcases hM.eqv a (Int.le_refl _) (by omega) with r | r
      · exact upd_in r.1 r.2
      · by_cases k2 : sF ≤ a ∧ a < sT
        · exact upd_in k2.1 k2.2
        · rw [upd_out k2]; exact r
    have hz : upd F sF sT v (z - 1) = v := by
      rcases hM.eqv (z - 1) (by omega) (by omega) with r | r
      · exact upd_in r.1 r.2
      · by_cases k2 : sF ≤ z - 1 ∧ z - 1 < sT
        · exact upd_in k2.1 k2.2
        · rw [upd_out k2]; exact r
    rw [e1, e2, ha, hz, upd_out (by omega), upd_out (by omega)]
    refine ⟨fun e => ?_, fun e => ?_⟩
    · rcases hM.left with r | ⟨j, y', hj, hy', r1, r2⟩
      · have := near (a - 1) hv (by omega) (by omega) e; omega
      · have s := (hS y' (hX1 j y' hy')).1
        rw [r1, e] at s
        rcases hM.eqv a (Int.le_refl _) (by omega) with r | r
        · omega
        · exact s r.symm
    · rcases hM.right with r | ⟨j, y', hj, hy', r1, r2⟩
      · have := near z hv (by omega) (by omega) e; omega
      · have s := (hS y' (hX1 j y' hy')).2
        rw [r1, e] at s
        rcases hM.eqv (z - 1) (by omega) (by omega) with r | r
        · omega
        · exact s r.symm
end Go.Proofs.Ytmgljgmfipodeaa.Tl
