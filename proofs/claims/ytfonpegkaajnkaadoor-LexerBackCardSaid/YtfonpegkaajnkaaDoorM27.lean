/-
  A REGION WHOSE LAST OPERATIONS WAIT FOR ALL OTHERS: the others may be walked as a region of their own, the last ones behind it in their order; THE WALK of wide's Cmp.
-/
import Derived.Test.YtfonpegkaajnkaaDoorM3
import Derived.StillTail
import Derived.OrdersHeld
import Derived.Test.YtfonpegkaajnkaaDoorM26
import Derived.Test.YtfonpegkaajnkaaDoorM25
import Derived.Deep.RegionHeld3
/-
  A REGION WHOSE LAST OPERATIONS WAIT FOR ALL OTHERS: the others may be walked as a region of their own, the last ones behind it in their order.
-/
namespace Go.Proofs.YtfonpegkaajnkaaDoor
open Go

/-- what holds behind the first operations: the last ones are still to come -/
def headQ (P : Program) (ops : Array Oper) (Q : Exit → Act → World → Prop) (t : List Oper) : Exit → Act → World → Prop
  | .normal, a, w => wpList P ops Q t a w
  | e, a, w => Q e a w
/-- the first n operations have no guard, and wait for earlier ones alone -/
def headB (ops : Array Oper) (n : Nat) : Bool :=
  (List.range n).all fun i => ((ops[i]?).map fun o => o.guard.isNone && o.after.all fun e => decide (e.on < i)).getD false
theorem headB_spec {ops : Array Oper} {n i : Nat} (h : headB ops n = true) (hi : i < n) : ∃ o, ops[i]? = some o ∧ o.guard = none ∧ ∀ e ∈ o.after, e.on < i := by
  have h1 := List.all_eq_true.1 h i (List.mem_range.2 hi)
  cases ho : ops[i]? with
  | none => rw [ho] at h1; simp at h1
  | some o =>
    rw [ho] at h1
    simp only [Option.map_some, Option.getD_some, Bool.and_eq_true, Option.isNone_iff_eq_none] at h1
    refine ⟨o, rfl, h1.1, fun e he => ?_⟩
    have h2 := Array.all_eq_true_iff_forall_mem.1 h1.2 e he
    simpa using h2

section
variable {P : Program} {Q : Exit → Act → World → Prop} {md : Region.Mode} {ops : Array Oper}
theorem wpAny_more : ∀ (f : Nat) (listed : Array Bool) (a : Act) (w : World), wpAny P md ops Q f listed a w → wpAny P md ops Q (f + 1) listed a w
  | 0, _, _, _, h => ⟨fun _ => h.2, fun i hi => by rw [h.1] at hi; cases hi⟩
  | f + 1, _, _, _, h => ⟨h.1, fun i hi => wpOp_mono (fun a' w' h' => wpAny_more f _ a' w' h') (h.2 i hi)⟩
theorem wpAny_up (f : Nat) (listed : Array Bool) (a : Act) (w : World) (h : wpAny P md ops Q f listed a w) : ∀ k, wpAny P md ops Q (k + f) listed a w
  | 0 => by rw [Nat.zero_add]; exact h
  | k + 1 => by rw [show k + 1 + f = (k + f) + 1 by omega]; exact wpAny_more _ _ _ _ (wpAny_up f listed a w h k)
theorem first_unlisted (n : Nat) (f : Nat → Bool) (h : ∃ i, i < n ∧ f i = false) : ∃ i, i < n ∧ f i = false ∧ ∀ j, j < i → f j = true := by
  induction n with
  | zero => obtain ⟨i, hi, _⟩ := h; omega
  | succ n ih =>
    by_cases g : ∃ i, i < n ∧ f i = false
    · obtain ⟨i, h1, h2, h3⟩ := ih g
      exact ⟨i, by omega, h2, h3⟩
    · obtain ⟨i, h1, h2⟩ := h
      refine ⟨i, h1, h2, fun j hj => ?_⟩
      cases hf : f j with
      | true => rfl
      | false => exact absurd ⟨j, by omega, hf⟩ g
theorem wpAny_head {l : List Oper} {n : Nat} (hn : n < l.length) (hB : headB l.toArray n = true) (hs : Region.sinkB md l.toArray n = true) (hc : Region.chainB md l.toArray n = true)
    (hq : Region.seqB md l.toArray (l.length - n) n (Array.replicate n true ++ Array.replicate (l.length - n) false) = true) :
    ∀ (f : Nat) (listed' listed : Array Bool) (a : Act) (w : World), HeadInv md l.toArray n listed → listed'.size = n → (∀ i, i < n → listed'.getD i true = listed.getD i true) →
      wpAny P md (l.take n).toArray (headQ P l.toArray Q (l.drop n)) f listed' a w → wpAny P md l.toArray Q (f + (l.length - n)) listed a w := by
  intro f
  have hsz : l.toArray.size = l.length := by simp
  have hop : ∀ i, i < n → (l.take n).toArray[i]? = l.toArray[i]? := fun i hi => by simp [hi]
  induction f with
  | zero => 
    intro listed' listed a w inv hl' hag h
    by_cases hu : ∃ i, i < n ∧ listed.getD i true = false
    · exfalso
      obtain ⟨i, hi, hf, hall⟩ := first_unlisted n _ hu
      obtain ⟨o, ho, _, hed⟩ := headB_spec hB hi
      have : i ∈ Region.ready md (l.take n).toArray listed' := mem_ready.2 ⟨by rw [hag i hi]; exact hf, o, by rw [hop i hi]; exact ho, fun e he _ => by
        have h1 := hed e he
        have h2 := hall _ h1
        have h3 := hag e.on (by omega)
        rw [h2] at h3
        have h4 : e.on < listed'.size := by omega
        simp only [Array.getD_eq_getD_getElem?, Array.getElem?_eq_getElem h4, Option.getD_some] at h3 ⊢; exact h3⟩
      rw [h.1] at this; cases this
    · have hL : listed = Array.replicate n true ++ Array.replicate (l.length - n) false := by
        have s1 := inv.size
        refine Array.ext (by simp; omega) (fun i h1 h2 => ?_)
        rcases Nat.lt_or_ge i n with hin | hin
        · have : listed.getD i true = true := by
            cases hx : listed.getD i true with
            | true => rfl
            | false => exact absurd ⟨i, hin, hx⟩ hu
          rw [Array.getElem_append_left (by simpa using hin)]
          simp only [Array.getD_eq_getD_getElem?, Array.getElem?_eq_getElem h1, Option.getD_some] at this
          simpa using this
        · have := inv.tail i hin (by omega)
          rw [Array.getElem_append_right (by simpa using hin)]
          simp only [Array.getD_eq_getD_getElem?, Array.getElem?_eq_getElem h1, Option.getD_some] at this
          simpa using this
      have hw : wpList P l.toArray Q (l.drop n) a w := h.2
      have := wpAny_of_seq (md := md) (Q' := Q) (l.drop n) n listed a w (fun j => by simp [List.getElem?_drop]) (by rw [hL, List.length_drop]; exact hq) hw
      rw [List.length_drop] at this
      exact wpAny_up _ _ _ _ this 0
  | succ f ih =>
    intro listed' listed a w inv hl' hag h
    by_cases hu : ∃ i, i < n ∧ listed.getD i true = false
    · obtain ⟨i0, hi0, hf0, hall0⟩ := first_unlisted n _ hu
      have hmem : ∀ i, i < n → (i ∈ Region.ready md l.toArray listed ↔ i ∈ Region.ready md (l.take n).toArray listed') := fun i hi => by
        rw [mem_ready, mem_ready, hag i hi, hop i hi]
        refine and_congr_right fun _ => exists_congr fun o => and_congr_right fun ho => ?_
        obtain ⟨o', ho', _, hed⟩ := headB_spec hB hi
        have : o' = o := Option.some.inj (ho'.symm.trans ho)
        subst this
        refine forall_congr' fun e => forall_congr' fun he => forall_congr' fun _ => ?_
        have h1 := hed e he
        have h3 := hag e.on (by omega)
        have h4 : e.on < listed'.size := by omega
        have h5 : e.on < listed.size := by have := inv.size; omega
        simp only [Array.getD_eq_getD_getElem?, Array.getElem?_eq_getElem h4, Array.getElem?_eq_getElem h5, Option.getD_some] at h3 ⊢
        rw [h3]
      have hlt : ∀ j, j ∈ Region.ready md l.toArray listed → j < n := fun j hj => by
        rcases Nat.lt_or_ge j n with h1 | h1
        · exact h1
        · exact absurd hj (tail_waits hs hc (by omega) inv _ i0 rfl hi0 hf0 j h1)
      have hne : i0 ∈ Region.ready md l.toArray listed := by
        obtain ⟨o, ho, _, hed⟩ := headB_spec hB hi0
        refine mem_ready.2 ⟨hf0, o, ho, fun e he _ => ?_⟩
        have h1 := hed e he
        have h2 := hall0 _ h1
        have h5 : e.on < listed.size := by have := inv.size; omega
        simp only [Array.getD_eq_getD_getElem?, Array.getElem?_eq_getElem h5, Option.getD_some] at h2 ⊢; exact h2
      rw [show f + 1 + (l.length - n) = f + (l.length - n) + 1 by omega]
      refine ⟨fun h0 => (by rw [h0] at hne; cases hne), fun i hi => ?_⟩
      have hin := hlt i hi
      have h1 := h.2 i ((hmem i hin).1 hi)
      obtain ⟨o, ho, hg, _⟩ := headB_spec hB hin
      have hrec : ∀ a' w', wpAny P md (l.take n).toArray (headQ P l.toArray Q (l.drop n)) f (listed'.setIfInBounds i true) a' w' → wpAny P md l.toArray Q (f + (l.length - n)) (listed.setIfInBounds i true) a' w' := fun a' w' h' => by
        refine ih _ _ a' w' (inv.set hi hin) (by simpa using hl') (fun k hk => ?_) h'
        by_cases hki : i = k
        · subst hki
          have h4 : i < listed'.size := by omega
          have h5 : i < listed.size := by have := inv.size; omega
          simp [Array.getD_eq_getD_getElem?, h4, h5]
        · rw [getD_set_ne true hki, getD_set_ne true hki]; exact hag k hk
      unfold wpOp at h1 ⊢
      rw [hop i hin] at h1
      simp only [ho] at h1 ⊢
      have hw1 : ∀ y, Region.wanted o y = true := fun y => by unfold Region.wanted; rw [hg]
      rw [hw1] at h1 ⊢
      simp only [if_true] at h1 ⊢
      rcases h1 with h1 | ⟨h1, h2⟩
      · left
        unfold Oper.wp at h1 ⊢
        generalize (execOp a.eval o).run P w = r at *
        cases r with
        | ok n' w' =>
          cases n' <;> simp only [Oper.upon] at h1 ⊢
          case value u => exact hrec _ _ h1
          case skip => exact hrec _ _ h1
          case defer d => exact hrec _ _ h1
          case enter f' args =>
            refine Calls.mono h1 fun e w'' he => ?_
            cases e with
            | returned u => exact hrec _ _ he
            | panicked c => exact he
            | outgrown => exact he
          case row row args => exact Rows.mono h1 fun u w'' he => hrec _ _ he
        | halt x w' =>
          cases x <;> simp only [Oper.upon] at h1 ⊢
          case panic u => exact h1
      · right
        exact ⟨h1, h2⟩
    · refine ih listed' listed a w inv hl' hag ?_ |> fun h' => by rw [show f + 1 + (l.length - n) = (f + (l.length - n)) + 1 by omega]; exact wpAny_more _ _ _ _ h'
      have hr : Region.ready md (l.take n).toArray listed' = [] := by
        refine List.eq_nil_iff_forall_not_mem.2 fun j hj => ?_
        obtain ⟨h1, o, ho, _⟩ := mem_ready.1 hj
        have hjn : j < n := by
          have := (Array.getElem?_eq_some_iff.1 ho).1
          simp at this; omega
        exact hu ⟨j, hjn, by rw [← hag j hjn]; exact h1⟩
      have hQ := h.1 hr
      cases f with
      | zero => exact ⟨hr, hQ⟩
      | succ f => exact ⟨fun _ => hQ, by rw [hr]; simp⟩

theorem wp_region_head {id : Nat} {a : Act} {w : World} {l : List Oper} (n : Nat) (hm : P.follows .mixedOrders = true)
    (hB : (decide (n < l.length) && headB l.toArray n && Region.sinkB .any l.toArray n && Region.chainB .any l.toArray n && Region.seqB .any l.toArray (l.length - n) n (Array.replicate n true ++ Array.replicate (l.length - n) false)) = true)
    (h : wpAny P .any (l.take n).toArray (headQ P l.toArray Q (l.drop n)) n (Array.replicate n false) a w.drew) : (Code.region id l.toArray true).wp P Q a w := by
  simp only [Bool.and_eq_true, decide_eq_true_eq] at hB
  obtain ⟨⟨⟨⟨hn, h1⟩, h2⟩, h3⟩, h4⟩ := hB
  refine wp_region_any hm ?_
  have inv0 : HeadInv .any l.toArray n (Array.replicate l.toArray.size false) :=
    ⟨by simp, fun j oj _ hl => (by rw [getD_replicate_false] at hl; cases hl), fun t _ ht => getD_in (by simpa using ht) (getD_replicate_false _ _)⟩
  have := wpAny_head (Q := Q) hn h1 h2 h3 h4 n (Array.replicate n false) (Array.replicate l.toArray.size false) a w.drew inv0 (by simp) (fun i hi => by
    have h5 : i < l.length := by omega
    simp [Array.getD_eq_getD_getElem?, hi, h5]) h
  rw [show n + (l.length - n) = l.toArray.size by simp; omega] at this
  exact this
/-- the first operations, walked with a condition on the cells that they read -/
theorem wp_head_held {S : World → Prop} {a : Act} {w : World} {l : List Oper} (n : Nat) (hl : l.length = n) 
    (h : wpAnyH P .any l.toArray Q S l.toArray.size (Array.replicate l.toArray.size false) a w) : wpAny P .any l.toArray Q n (Array.replicate n false) a w := by
  subst hl
  exact wpAny_of_held _ _ _ _ (by simpa using h)
end
end Go.Proofs.YtfonpegkaajnkaaDoor
/-
  THE WALK of wide's Cmp.
-/
namespace Go.Proofs.YtfonpegkaajnkaaDoor
open Go.RowKit
attribute [local go_sem ↓] Go.wp_at_zero Go.wp_at_succ

theorem wv_is (n : Bool) (hi lo : Nat) (h : lo < 18446744073709551616) (b : Bool) (hb : (n && decide (0 < hi ∨ 0 < lo)) = b) : wv (wz n hi lo) = .agg #[.bool b, .int .u64 (hi : Int), .int .u64 (lo : Int)] := by
  rw [wv_wz n hi lo h, hb]; rfl
/-- the comparison out of signs and sizes -/
theorem cmp_parts (n1 n2 : Bool) (h1 l1 h2 l2 : Nat) (p q : Bool) (hp : (n1 && decide (0 < h1 ∨ 0 < l1)) = p) (hq : (n2 && decide (0 < h2 ∨ 0 < l2)) = q) :
    cmpZ (wz n1 h1 l1) (wz n2 h2 l2) = if p = true then (if q = true then cmpZ ((h2 * 18446744073709551616 + l2 : Nat) : Int) ((h1 * 18446744073709551616 + l1 : Nat) : Int) else -1) else (if q = true then 1 else cmpZ ((h1 * 18446744073709551616 + l1 : Nat) : Int) ((h2 * 18446744073709551616 + l2 : Nat) : Int)) := by
  have a1 := wz_abs n1 h1 l1; have a2 := wz_abs n2 h2 l2
  have s1 := wz_neg n1 h1 l1; have s2 := wz_neg n2 h2 l2
  rw [hp] at s1; rw [hq] at s2
  generalize wz n1 h1 l1 = x at *
  generalize wz n2 h2 l2 = y at *
  have e1 : ((h1 * 18446744073709551616 + l1 : Nat) : Int) = (x.natAbs : Int) := by rw [a1]
  have e2 : ((h2 * 18446744073709551616 + l2 : Nat) : Int) = (y.natAbs : Int) := by rw [a2]
  rw [e1, e2]
  clear a1 a2 e1 e2 hp hq
  cases p <;> cases q <;> simp only [decide_eq_true_eq, decide_eq_false_iff_not, Bool.false_eq_true, if_false, if_true] at s1 s2 ⊢ <;> unfold cmpZ <;> (repeat' split) <;> omega
/-- behind 'x, y = put(..), put(..)' -/
def CmpMid (B1 : Nat) (w : World) (p q : Bool) (h1 l1 h2 l2 : Nat) (wx : World) : Prop :=
  WAt wx B1 p h1 l1 ∧ WAt wx (B1 + 1) q h2 l2 ∧ Below w.heap.size w wx

theorem below_set3 {w w' : World} {B b : Nat} (u0 u1 u2 : Value) (h : Below B w w') (hb : B ≤ b) : Below B w (((w'.setCell ⟨b, 0, none⟩ u0).setCell ⟨b, 1, none⟩ u1).setCell ⟨b, 2, none⟩ u2) := ((h.setCell hb _).setCell hb _).setCell hb _
theorem wAt_other3 {w : World} {b b' : Nat} {n : Bool} {h l : Int} (u0 u1 u2 : Value) (H : WAt w b n h l) (hb : b ≠ b') : WAt (((w.setCell ⟨b', 0, none⟩ u0).setCell ⟨b', 1, none⟩ u1).setCell ⟨b', 2, none⟩ u2) b n h l := by
  unfold WAt; rw [Below.heap_setCell _ _ _ _ hb, Below.heap_setCell _ _ _ _ hb, Below.heap_setCell _ _ _ _ hb]; exact H
end Go.Proofs.YtfonpegkaajnkaaDoor
