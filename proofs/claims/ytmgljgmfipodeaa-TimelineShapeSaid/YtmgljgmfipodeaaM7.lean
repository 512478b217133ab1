/-
  TIMELINES, plain: a put, segment by segment.
-/
import Derived.Test.YtmgljgmfipodeaaM6
/-
  TIMELINES, plain: a put, segment by segment.
-/
namespace Go.Proofs.Ytmgljgmfipodeaa.Tl
open Av

/-- what a lay makes -/
def Laid (E : List Int) (L : List It) (vals free : List Int) (a b w : Int) (L' : List It) (vals' free' : List Int) : Prop :=
  Inv E L' vals' free' ∧ (∀ G, Fn L vals G → Fn L' vals' (upd G a b w)) ∧ (∀ y ∈ L', y ∈ L ∨ (y.f = a ∧ y.t = b ∧ a < b)) ∧ ∀ y ∈ L, y ∈ L'
theorem Laid.none {E : List Int} {L : List It} {vals free : List Int} {a b w : Int} (h : Inv E L vals free) (hab : b ≤ a) : Laid E L vals free a b w L vals free :=
  ⟨h, fun G hG => hG.eq fun d => upd_out (by omega), fun y hy => .inl hy, fun y hy => hy⟩
theorem Laid.zero {E : List Int} {L : List It} {vals free : List Int} {a b : Int} (h : Inv E L vals free) (hd : ∀ y ∈ L, y.t ≤ a ∨ b ≤ y.f) : Laid E L vals free a b 0 L vals free :=
  ⟨h, fun G hG => hG.eq fun d => by
    by_cases k : a ≤ d ∧ d < b
    · rw [upd_in k.1 k.2]
      exact (hG.2 d fun y hy => by have := hd y hy; omega).symm
    · exact upd_out k, fun y hy => .inl hy, fun y hy => hy⟩
/-- the segments that a put meets -/
structure Xs (sF sT : Int) (X : List It) : Prop where
  dis : ∀ (i j : Nat) (x y : It), X[i]? = some x → X[j]? = some y → i ≠ j → x.t ≤ y.f ∨ y.t ≤ x.f
  q : ∀ (i : Nat) (x : It), X[i]? = some x → x.f ≤ sT ∧ sF ≤ x.t ∧ x.f < x.t
/-- a put under way: k segments are done -/
structure Mid (E : List Int) (sF sT v : Int) (F : Int → Int) (X : List It) (k : Nat) (L : List It) (vals free : List Int) (a z : Int) (G : Int → Int) : Prop where
  inv : Inv E L vals free
  fn : Fn L vals G
  hull : a ≤ sF ∧ sT ≤ z ∧ 1 ≤ a ∧ z ≤ 3652060 ∧ a ∈ E
  out : ∀ d, d < a ∨ z ≤ d → G d = F d
  eqv : ∀ d, a ≤ d → d < z → (sF ≤ d ∧ d < sT) ∨ F d = v
  left : a = sF ∨ ∃ (j : Nat) (y : It), j < k ∧ X[j]? = some y ∧ y.f = a ∧ a < sF
  right : z = sT ∨ ∃ (j : Nat) (y : It), j < k ∧ X[j]? = some y ∧ y.t = z ∧ sT < z
  todo : ∀ (j : Nat) (y : It), k ≤ j → X[j]? = some y → y ∈ L
  hit : ∀ y ∈ L, y.f < z → a < y.t → ∃ j : Nat, k ≤ j ∧ X[j]? = some y
  same : ∀ (j : Nat) (y : It), k ≤ j → X[j]? = some y → ∀ d, y.f ≤ d → d < y.t → G d = F d
/-- a segment of the same value is taken in -/
theorem Mid.takes {E : List Int} {sF sT v : Int} {F : Int → Int} {X : List It} {k : Nat} {L : List It} {vals free : List Int} {a z : Int} {G : Int → Int} {x : It} {L1 : List It}
    (h : Mid E sF sT v F X k L vals free a z G) (hX : Xs sF sT X) (hk : X[k]? = some x) (hw : va vals x.i = v) (hm : ∀ y, y ∈ L1 ↔ y ≠ x ∧ y ∈ L) (hl : L1.length + 1 = L.length) (hn : L1.Nodup) :
    Mid E sF sT v F X (k + 1) L1 vals (free ++ [x.i]) (min a x.f) (max z x.t) (upd G x.f x.t 0) := by
  have hx := h.todo k x (Nat.le_refl _) hk
  obtain ⟨q1, q2, q3⟩ := hX.q k x hk
  obtain ⟨hu1, hu2, hu3, hu4, hu5⟩ := h.hull
  obtain ⟨bd1, bd2, bd3, bd4⟩ := h.inv.bd x hx
  have inF : ∀ d, x.f ≤ d → d < x.t → F d = v := fun d h1 h2 => by rw [← h.same k x (Nat.le_refl _) hk d h1 h2, h.fn.1 x hx d h1 h2]; exact hw
  refine ⟨h.inv.drop hx hm hl hn, Fn.drop h.inv h.fn hx hm, ⟨by omega, by omega, by omega, by omega, ?_⟩, fun d hd => ?_, fun d h1 h2 => ?_, ?_, ?_, fun j y hj hy => ?_, fun y hy h1 h2 => ?_, fun j y hj hy d h1 h2 => ?_⟩
  · rcases Int.le_total a x.f with e | e
    · rw [Int.min_eq_left e]; exact hu5
    · rw [Int.min_eq_right e]; exact bd4
  · rw [upd_out (by omega)]; exact h.out d (by omega)
  · by_cases k1 : a ≤ d ∧ d < z
    · exact h.eqv d k1.1 k1.2
    · exact .inr (inF d (by omega) (by omega))
  · by_cases e : x.f < a
    · exact .inr ⟨k, x, by omega, hk, by omega, by omega⟩
    · rcases h.left with r | ⟨j, y, hj, hy, r1, r2⟩
      · exact .inl (by omega)
      · exact .inr ⟨j, y, by omega, hy, by omega, by omega⟩
  · by_cases e : z < x.t
    · exact .inr ⟨k, x, by omega, hk, by omega, by omega⟩
    · rcases h.right with r | ⟨j, y, hj, hy, r1, r2⟩
      · exact .inl (by omega)
      · exact .inr ⟨j, y, by omega, hy, by omega, by omega⟩
  · refine (hm y).2 ⟨fun e => ?_, h.todo j y (by omega) hy⟩
    subst e
    have := hX.dis j k y y hy hk (by omega)
    omega
  · obtain ⟨ne, hy⟩ := (hm y).1 hy
    have dj := h.inv.dis y hy x hx ne
    have by' := h.inv.bd y hy
    obtain ⟨j, hj, hjy⟩ := h.hit y hy (by omega) (by omega)
    refine ⟨j, ?_, hjy⟩
    rcases Nat.lt_or_ge k j with g | g
    · omega
    · obtain rfl : j = k := by omega
      rw [hk] at hjy; cases hjy; exact absurd rfl ne
  · have := hX.dis j k y x hy hk (by omega)
    rw [upd_out (by omega)]
    exact h.same j y (by omega) hy d h1 h2
/-- a segment of another value: what stands out is laid again -/
theorem Mid.parts {E : List Int} {sF sT v : Int} {F : Int → Int} {X : List It} {k : Nat} {L : List It} {vals free : List Int} {a z : Int} {G : Int → Int} {x : It} {L1 L2 L3 : List It} {vals2 free2 vals3 free3 : List Int}
    (h : Mid E sF sT v F X k L vals free a z G) (hX : Xs sF sT X) (hs : sF < sT) (hk : X[k]? = some x) (hm : ∀ y, y ∈ L1 ↔ y ≠ x ∧ y ∈ L) (hl : L1.length + 1 = L.length) (hn : L1.Nodup)
    (h2 : Laid E L1 vals (free ++ [x.i]) x.f (min x.t sF) (va vals x.i) L2 vals2 free2) (h3 : Laid E L2 vals2 free2 (max x.f sT) x.t (va vals x.i) L3 vals3 free3) :
    ∃ G', Mid E sF sT v F X (k + 1) L3 vals3 free3 a z G' := by
  have hx := h.todo k x (Nat.le_refl _) hk
  obtain ⟨q1, q2, q3⟩ := hX.q k x hk
  obtain ⟨hu1, hu2, hu3, hu4, hu5⟩ := h.hull
  have inF : ∀ d, x.f ≤ d → d < x.t → va vals x.i = F d := fun d h1 h2 => by rw [← h.same k x (Nat.le_refl _) hk d h1 h2, h.fn.1 x hx d h1 h2]
  have f1 := Fn.drop h.inv h.fn hx hm
  have i1 := h.inv.drop hx hm hl hn
  obtain ⟨i2, f2, m2, s2⟩ := h2
  obtain ⟨i3, f3, m3, s3⟩ := h3
  have f3' := f3 _ (f2 _ f1)
  have off : ∀ d, ¬ (x.f ≤ d ∧ d < x.t) → upd (upd (upd G x.f x.t 0) x.f (min x.t sF) (va vals x.i)) (max x.f sT) x.t (va vals x.i) d = G d := fun d hd => by
    rw [upd_out (by omega), upd_out (by omega), upd_out hd]
  refine ⟨_, i3, f3', ⟨hu1, hu2, hu3, hu4, hu5⟩, fun d hd => ?_, h.eqv, ?_, ?_, fun j y hj hy => ?_, fun y hy h1 h2 => ?_, fun j y hj hy d h1 h2 => ?_⟩
  · by_cases k1 : x.f ≤ d ∧ d < x.t
    · by_cases k2 : max x.f sT ≤ d
      · rw [upd_in k2 k1.2]; exact inF d k1.1 k1.2
      · rw [upd_out (by omega), upd_in k1.1 (by omega)]; exact inF d k1.1 k1.2
    · rw [off d k1]; exact h.out d hd
  · rcases h.left with r | ⟨j, y, hj, hy, r⟩
    · exact .inl r
    · exact .inr ⟨j, y, by omega, hy, r⟩
  · rcases h.right with r | ⟨j, y, hj, hy, r⟩
    · exact .inl r
    · exact .inr ⟨j, y, by omega, hy, r⟩
  · refine s3 y (s2 y ((hm y).2 ⟨fun e => ?_, h.todo j y (by omega) hy⟩))
    subst e
    have := hX.dis j k y y hy hk (by omega)
    omega
  · rcases m3 y hy with hy2 | ⟨e1, e2, e3⟩
    · rcases m2 y hy2 with hy1 | ⟨e1, e2, e3⟩
      · obtain ⟨ne, hy0⟩ := (hm y).1 hy1
        obtain ⟨j, hj, hjy⟩ := h.hit y hy0 h1 h2
        refine ⟨j, ?_, hjy⟩
        rcases Nat.lt_or_ge k j with g | g
        · omega
        · obtain rfl : j = k := by omega
          rw [hk] at hjy; cases hjy; exact absurd rfl ne
      · exfalso
        rcases h.left with r | ⟨j, y', hj, hy', r1, r2⟩
        · omega
        · have := hX.dis j k y' x hy' hk (by omega)
          have := hX.q j y' hy'
          omega
    · exfalso
      rcases h.right with r | ⟨j, y', hj, hy', r1, r2⟩
      · omega
      · have := hX.dis j k y' x hy' hk (by omega)
        have := hX.q j y' hy'
        omega
  · have := hX.dis j k y x hy hk (by omega)
    rw [off d (by omega)]
    exact h.same j y (by omega) hy d h1 h2
/-- at first -/
theorem Mid.start {E : List Int} {sF sT v : Int} {F : Int → Int} {X : List It} {L : List It} {vals free : List Int} (h : Inv E L vals free) (hf : Fn L vals F) (h1 : 1 ≤ sF) (hs : sF < sT) (h2 : sT ≤ 3652060)
    (hX1 : ∀ (j : Nat) (y : It), X[j]? = some y → y ∈ L) (hX2 : ∀ y ∈ L, y.f ≤ sT → sF ≤ y.t → ∃ j : Nat, X[j]? = some y) : Mid (sF :: sT :: E) sF sT v F X 0 L vals free sF sT F where
  inv := h.widen (fun x hx => .tail _ (.tail _ hx)) (by simp only [List.length_cons]; omega)
  fn := hf
  hull := ⟨Int.le_refl _, Int.le_refl _, h1, h2, .head _⟩
  out := fun d _ => rfl
  eqv := fun d h1 h2 => .inl ⟨h1, h2⟩
  left := .inl rfl
  right := .inl rfl
  todo := fun j y _ hy => hX1 j y hy
  hit := fun y hy h1 h2 => by
    obtain ⟨j, hj⟩ := hX2 y hy (by omega) (by omega)
    exact ⟨j, Nat.zero_le _, hj⟩
  same := fun j y _ hy d h1 h2 => rfl
/-- at the end: where the hull is laid -/
theorem Mid.free {E : List Int} {sF sT v : Int} {F : Int → Int} {X : List It} {k : Nat} {L : List It} {vals free : List Int} {a z : Int} {G : Int → Int} (h : Mid E sF sT v F X k L vals free a z G) (hk : X.length ≤ k) : ∀ y ∈ L, y.t ≤ a ∨ z ≤ y.f := fun y hy => by
  by_cases c : y.f < z ∧ a < y.t
  · obtain ⟨j, hj, e⟩ := h.hit y hy c.1 c.2
    have := (List.getElem?_eq_some_iff.1 e).1
    omega
  · omega
theorem Mid.done {E : List Int} {sF sT v : Int} {F : Int → Int} {X : List It} {k : Nat} {L L' : List It} {vals free vals' free' : List Int} {a z : Int} {G : Int → Int} (h : Mid E sF sT v F X k L vals free a z G)
    (hl : Laid E L vals free a z v L' vals' free') : Inv E L' vals' free' ∧ Fn L' vals' (upd F sF sT v) := by
  refine ⟨hl.1, (hl.2.1 _ h.fn).eq fun d => ?_⟩
  obtain ⟨hu1, hu2, _⟩ := h.hull
  by_cases k1 : a ≤ d ∧ d < z
  · rw [upd_in k1.1 k1.2]
    rcases h.eqv d k1.1 k1.2 with r | r
    · exact upd_in r.1 r.2
    · by_cases k2 : sF ≤ d ∧ d < sT
      · exact upd_in k2.1 k2.2
      · rw [upd_out k2]; exact r
  · rw [upd_out k1, upd_out (by omega)]
    exact (h.out d (by omega)).symm
end Go.Proofs.Ytmgljgmfipodeaa.Tl
