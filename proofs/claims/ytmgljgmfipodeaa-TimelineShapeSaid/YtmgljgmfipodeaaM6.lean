/-
  TIMELINES, plain: segments, their places, dropping, laying, putting.
-/
import Derived.Test.YtmgljgmfipodeaaM5
/-
  TIMELINES, plain: segments, their places, dropping, laying, putting.
-/
namespace Go.Proofs.Ytmgljgmfipodeaa.Tl
open Av

/-- the value at a place -/
def va (vals : List Int) (i : Int) : Int := vals.getD i.toNat 0
/-- what a timeline's parts keep: E holds all starts -/
structure Inv (E : List Int) (L : List It) (vals free : List Int) : Prop where
  bd : ∀ x ∈ L, 1 ≤ x.f ∧ x.f < x.t ∧ x.t ≤ 3652060 ∧ x.f ∈ E
  id : ∀ x ∈ L, 0 ≤ x.i ∧ x.i < vals.length ∧ va vals x.i ≠ 0
  dis : ∀ x ∈ L, ∀ y ∈ L, x ≠ y → x.t ≤ y.f ∨ y.t ≤ x.f
  one : ∀ x ∈ L, ∀ y ∈ L, x.i = y.i → x = y
  no : ∀ x ∈ L, x.i ∉ free
  fr : ∀ i ∈ free, 0 ≤ i ∧ i < vals.length
  fn : free.Nodup
  len : L.length + free.length = vals.length
  nd : L.Nodup
  most : vals.length ≤ E.length
/-- the function of days that it is -/
def Fn (L : List It) (vals : List Int) (F : Int → Int) : Prop := (∀ x ∈ L, ∀ d, x.f ≤ d → d < x.t → F d = va vals x.i) ∧ ∀ d, (∀ x ∈ L, ¬ (x.f ≤ d ∧ d < x.t)) → F d = 0
def upd (F : Int → Int) (a b v : Int) : Int → Int := fun d => if a ≤ d ∧ d < b then v else F d
theorem upd_in {F : Int → Int} {a b v d : Int} (h1 : a ≤ d) (h2 : d < b) : upd F a b v d = v := by unfold upd; rw [if_pos ⟨h1, h2⟩]
theorem upd_out {F : Int → Int} {a b v d : Int} (h : ¬ (a ≤ d ∧ d < b)) : upd F a b v d = F d := by unfold upd; rw [if_neg h]
theorem Fn.eq {L : List It} {vals : List Int} {F G : Int → Int} (h : Fn L vals F) (e : ∀ d, G d = F d) : Fn L vals G := ⟨fun x hx d h1 h2 => (e d).trans (h.1 x hx d h1 h2), fun d hd => (e d).trans (h.2 d hd)⟩
theorem starts_le : ∀ (L : List It) (E : List Int), L.Nodup → (∀ x ∈ L, ∀ y ∈ L, x ≠ y → x.f ≠ y.f) → (∀ x ∈ L, x.f ∈ E) → L.length ≤ E.length
  | [], _, _, _, _ => Nat.zero_le _
  | x :: L, E, h1, h2, h3 => by
    have hn := List.nodup_cons.1 h1
    have ih := starts_le L (E.erase x.f) hn.2 (fun a ha b hb => h2 a (.tail _ ha) b (.tail _ hb)) (fun y hy => (List.mem_erase_of_ne (h2 y (.tail _ hy) x (.head _) (fun e => hn.1 (e ▸ hy)))).2 (h3 y (.tail _ hy)))
    have hx := h3 x (.head _)
    rw [List.length_erase_of_mem hx] at ih
    have := List.length_pos_of_mem hx
    simp only [List.length_cons]; omega
theorem Inv.widen {E E' : List Int} {L : List It} {vals free : List Int} (h : Inv E L vals free) (h1 : ∀ x ∈ E, x ∈ E') (h2 : E.length ≤ E'.length) : Inv E' L vals free :=
  ⟨fun x hx => by obtain ⟨a, b, c, d⟩ := h.bd x hx; exact ⟨a, b, c, h1 _ d⟩, h.id, h.dis, h.one, h.no, h.fr, h.fn, h.len, h.nd, Nat.le_trans h.most h2⟩
theorem Inv.starts {E : List Int} {L : List It} (bd : ∀ x ∈ L, 1 ≤ x.f ∧ x.f < x.t ∧ x.t ≤ 3652060 ∧ x.f ∈ E) (dis : ∀ x ∈ L, ∀ y ∈ L, x ≠ y → x.t ≤ y.f ∨ y.t ≤ x.f) (nd : L.Nodup) : L.length ≤ E.length :=
  starts_le L E nd (fun x hx y hy ne e => by have := dis x hx y hy ne; have := bd x hx; have := bd y hy; omega) (fun x hx => (bd x hx).2.2.2)
/-- a segment is dropped -/
theorem Inv.drop {E : List Int} {L L' : List It} {vals free : List Int} {x : It} (h : Inv E L vals free) (hx : x ∈ L) (hm : ∀ y, y ∈ L' ↔ y ≠ x ∧ y ∈ L) (hl : L'.length + 1 = L.length) (hn : L'.Nodup) : Inv E L' vals (free ++ [x.i]) where
  bd := fun y hy => h.bd y ((hm y).1 hy).2
  id := fun y hy => h.id y ((hm y).1 hy).2
  dis := fun y hy z hz => h.dis y ((hm y).1 hy).2 z ((hm z).1 hz).2
  one := fun y hy z hz => h.one y ((hm y).1 hy).2 z ((hm z).1 hz).2
  no := fun y hy k => by
    obtain ⟨ne, hy⟩ := (hm y).1 hy
    rcases List.mem_append.1 k with k | k
    · exact h.no y hy k
    · exact ne (h.one y hy x hx (List.mem_singleton.1 k))
  fr := fun i hi => by
    rcases List.mem_append.1 hi with k | k
    · exact h.fr i k
    · rw [List.mem_singleton.1 k]; have := h.id x hx; exact ⟨this.1, this.2.1⟩
  fn := by
    refine List.nodup_append.2 ⟨h.fn, by simp, fun a ha b hb e => ?_⟩
    rw [List.mem_singleton.1 hb] at e
    exact h.no x hx (e ▸ ha)
  len := by have := h.len; rw [List.length_append, List.length_singleton]; omega
  nd := hn
  most := h.most
theorem Fn.drop {E : List Int} {L L' : List It} {vals free : List Int} {x : It} {F : Int → Int} (h : Inv E L vals free) (hf : Fn L vals F) (hx : x ∈ L) (hm : ∀ y, y ∈ L' ↔ y ≠ x ∧ y ∈ L) : Fn L' vals (upd F x.f x.t 0) := by
  refine ⟨fun y hy d h1 h2 => ?_, fun d hd => ?_⟩
  · obtain ⟨ne, hy⟩ := (hm y).1 hy
    rw [upd_out (by have := h.dis y hy x hx ne; omega)]
    exact hf.1 y hy d h1 h2
  · by_cases k : x.f ≤ d ∧ d < x.t
    · exact upd_in k.1 k.2
    · rw [upd_out k]
      refine hf.2 d fun y hy => ?_
      by_cases e : y = x
      · subst e; exact k
      · exact hd y ((hm y).2 ⟨e, hy⟩)
/-- a segment is laid -/
theorem Inv.lay {E : List Int} {L L' : List It} {vals free vals' free' : List Int} {a b i v : Int} (h : Inv E L vals free) (hab : a < b) (ha : 1 ≤ a) (hb : b ≤ 3652060) (hE : a ∈ E) (hv : v ≠ 0) (hd : ∀ y ∈ L, y.t ≤ a ∨ b ≤ y.f)
    (hm : ∀ y, y ∈ L' ↔ y = ⟨a, b, i⟩ ∨ y ∈ L) (hn : L'.Nodup) (hl : L'.length = L.length + 1) (hi : ∀ y ∈ L, y.i ≠ i) (hvi : 0 ≤ i ∧ i < vals'.length ∧ va vals' i = v) (hva : ∀ j : Int, 0 ≤ j → j < vals.length → j ≠ i → va vals' j = va vals j) (hvl : vals.length ≤ vals'.length)
    (hf1 : ∀ j ∈ free', j ∈ free ∧ j ≠ i) (hf2 : free'.Nodup) (hlen : L'.length + free'.length = vals'.length) (hmost : free' = [] ∨ vals'.length = vals.length) : Inv E L' vals' free' := by
  have bd : ∀ x ∈ L', 1 ≤ x.f ∧ x.f < x.t ∧ x.t ≤ 3652060 ∧ x.f ∈ E := fun x hx => by
    rcases (hm x).1 hx with rfl | hx
    · exact ⟨ha, hab, hb, hE⟩
    · exact h.bd x hx
  have dis : ∀ x ∈ L', ∀ y ∈ L', x ≠ y → x.t ≤ y.f ∨ y.t ≤ x.f := fun x hx y hy ne => by
    rcases (hm x).1 hx with rfl | hx <;> rcases (hm y).1 hy with rfl | hy
    · exact absurd rfl ne
    · show b ≤ y.f ∨ y.t ≤ a; have := hd y hy; omega
    · show x.t ≤ a ∨ b ≤ x.f; exact hd x hx
    · exact h.dis x hx y hy ne
  refine ⟨bd, fun x hx => ?_, dis, fun x hx y hy e => ?_, fun x hx k => ?_, fun j hj => ?_, hf2, hlen, hn, ?_⟩
  · rcases (hm x).1 hx with rfl | hx
    · exact ⟨hvi.1, hvi.2.1, by show va vals' i ≠ 0; rw [hvi.2.2]; exact hv⟩
    · obtain ⟨a1, a2, a3⟩ := h.id x hx
      exact ⟨a1, by omega, by rw [hva _ a1 a2 (hi x hx)]; exact a3⟩
  · rcases (hm x).1 hx with rfl | hx <;> rcases (hm y).1 hy with rfl | hy
    · rfl
    · exact absurd e.symm (hi y hy)
    · exact absurd e (hi x hx)
    · exact h.one x hx y hy e
  · rcases (hm x).1 hx with rfl | hx
    · exact (hf1 _ k).2 rfl
    · exact h.no x hx (hf1 _ k).1
  · have := h.fr j (hf1 j hj).1; exact ⟨this.1, by omega⟩
  · rcases hmost with e | e
    · have := Inv.starts bd dis hn
      rw [e] at hlen
      simp only [List.length_nil] at hlen
      omega
    · rw [e]; exact h.most
theorem Fn.lay {E : List Int} {L L' : List It} {vals free vals' : List Int} {a b i v : Int} {F : Int → Int} (h : Inv E L vals free) (hf : Fn L vals F) (hd : ∀ y ∈ L, y.t ≤ a ∨ b ≤ y.f)
    (hm : ∀ y, y ∈ L' ↔ y = ⟨a, b, i⟩ ∨ y ∈ L) (hi : ∀ y ∈ L, y.i ≠ i) (hvi : va vals' i = v) (hva : ∀ j : Int, 0 ≤ j → j < vals.length → j ≠ i → va vals' j = va vals j) : Fn L' vals' (upd F a b v) := by
  refine ⟨fun x hx d h1 h2 => ?_, fun d k => ?_⟩
  · rcases (hm x).1 hx with rfl | hx
    · rw [upd_in h1 h2]; exact hvi.symm
    · rw [upd_out (by have := hd x hx; omega), hf.1 x hx d h1 h2]
      have := h.id x hx
      exact (hva _ this.1 this.2.1 (hi x hx)).symm
  · rw [upd_out (k _ ((hm _).2 (.inl rfl)))]
    exact hf.2 d fun y hy => k y ((hm y).2 (.inr hy))
theorem va_app (vals : List Int) (v j : Int) (h1 : 0 ≤ j) (h2 : j < vals.length) : va (vals ++ [v]) j = va vals j := by
  unfold va
  rw [List.getD_eq_getElem?_getD, List.getD_eq_getElem?_getD, List.getElem?_append_left (by omega)]
theorem va_new (vals : List Int) (v : Int) : va (vals ++ [v]) (vals.length : Int) = v := by unfold va; simp
theorem va_set (vals : List Int) (v i j : Int) (hi : 0 ≤ i) (h1 : 0 ≤ j) (h : j ≠ i) : va (vals.set i.toNat v) j = va vals j := by
  unfold va
  rw [List.getD_eq_getElem?_getD, List.getD_eq_getElem?_getD, List.getElem?_set_ne (by omega)]
theorem va_here (vals : List Int) (v i : Int) (h1 : 0 ≤ i) (h2 : i < vals.length) : va (vals.set i.toNat v) i = v := by
  unfold va
  rw [List.getD_eq_getElem?_getD, List.getElem?_set_self (by omega)]; rfl
end Go.Proofs.Ytmgljgmfipodeaa.Tl
