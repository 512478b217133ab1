/-
  PUTTING AND TAKING AWAY on the row of nodes, plain; THE WALK THROUGH ALL ITEMS, plain: a stack of nodes whose left sides are done; THE DOCUMENT's row, plain: where an item stands in a rising row.
-/
import Derived.Test.YtmgljgmfipodeaaM4
/-
  PUTTING AND TAKING AWAY on the row of nodes, plain.
-/
namespace Go.Proofs.Ytmgljgmfipodeaa.Av
open Go Go.RowKit

def hangTop (ns : List Nd) (c : List Tr.Fr) (d : Int) : List Nd := match c with | [] => ns | g :: _ => hangN ns g.p g.right d
theorem hangTop_up {ns : List Nd} {c : List Tr.Fr} {d d' : Int} (h : LiesUp ns c d) (nd : (upPlaces c).Nodup) : LiesUp (hangTop ns c d') c d' := by
  cases c with
  | nil => trivial
  | cons g c =>
    simp only [upPlaces, List.flatMap_cons, List.cons_append, List.nodup_cons, List.mem_append, not_or] at nd
    exact hang_up h nd.1.1 nd.1.2
theorem hangTop_only (ns : List Nd) (c : List Tr.Fr) (d : Int) : Only ns (hangTop ns c d) (upPlaces c) := by
  cases c with
  | nil => exact ⟨rfl, fun _ _ => rfl⟩
  | cons g c => exact (only_upd _ _ _).mono (by simp [upPlaces])
def zeroNd : Nd := ⟨⟨0, 0, 0⟩, 0, 0, 0, 0, false⟩
theorem only_set (ns : List Nd) (p : Nat) (n : Nd) : Only ns (ns.set p n) [p] := ⟨by simp, fun q hq => List.getElem?_set_ne (by simp only [List.mem_singleton] at hq; exact Ne.symm hq)⟩
theorem put_lies {ns : List Nd} {t : Tr} (ok : t.Ok) (hl : Lies ns t) (x : It) (h : (Tr.way x t []).2 = .nil) (p : Nat) (hp : p ∉ t.places) (hn : p < ns.length) :
    let c := (Tr.way x t []).1
    let m := mendAll (hangTop (ns.set p ⟨x, -1, -1, 1, x.t, true⟩) c (p : Int)) c (p : Int)
    m.1 = place (Tr.mendZ c (.nd p x .nil .nil)) ∧ Lies m.2 (Tr.mendZ c (.nd p x .nil .nil)) ∧ Only ns m.2 (p :: t.places) := by
  intro c m
  have e := Tr.way_plug x t []
  rw [h] at e
  have e : Tr.plug c .nil = t := e
  have hw := liesUp_way x t [] hl trivial
  rw [h] at hw
  have hu : LiesUp ns c (-1) := hw.1
  have hmem : ∀ q, q ∈ t.places ↔ q ∈ upPlaces c := fun q => by rw [← e, mem_plug]; simp [Tr.places]
  have ndc : (upPlaces c).Nodup := by have := (nodup_plug c .nil).1 (by rw [e]; exact ok.apart); simpa [Tr.places] using this
  have pc : p ∉ upPlaces c := fun k => hp ((hmem p).2 k)
  have hu1 : LiesUp (ns.set p ⟨x, -1, -1, 1, x.t, true⟩) c (-1) := liesUp_congr hu (fun q hq => (only_set ns p _).2 q (by simp only [List.mem_singleton]; exact fun k => pc (k ▸ hq)))
  have hu2 := hangTop_up (d' := (p : Int)) hu1 ndc
  have hs : Lies (hangTop (ns.set p ⟨x, -1, -1, 1, x.t, true⟩) c (p : Int)) (.nd p x .nil .nil) := by
    refine ⟨?_, trivial, trivial⟩
    rw [(hangTop_only _ c _).2 p pc, List.getElem?_set_self hn]; rfl
  have nd2 : (Tr.plug c (.nd p x .nil .nil)).places.Nodup := by
    rw [nodup_plug]; simp only [Tr.places, List.nil_append, List.cons_append, List.nodup_cons]; exact ⟨pc, ndc⟩
  obtain ⟨m1, m2, m3⟩ := mendAll_lies c _ (.nd p x .nil .nil) hu2 hs nd2
  refine ⟨m1, m2, ?_⟩
  refine ((only_set ns p _).mono (by simp)).trans (((hangTop_only _ c _).mono (fun q hq => by simp [(hmem q).2 hq])).trans (m3.mono (fun q hq => ?_)))
  rw [mem_plug] at hq
  simp only [Tr.places, List.nil_append, List.mem_singleton] at hq
  rcases hq with rfl | hq
  · simp
  · simp [(hmem q).2 hq]
/-- taking away: the way c leads to a node q, of which the side rr alone is kept -/
theorem cut_lies {ns : List Nd} {c : List Tr.Fr} {q : Nat} {y : It} {rr l : Tr} (d : Int) (hu : LiesUp ns c d) (hr : Lies ns rr) (nd : (Tr.plug c (.nd q y l rr)).places.Nodup) :
    let m := mendAll ((hangTop ns c (place rr)).set q zeroNd) c (place rr)
    m.1 = place (Tr.mendZ c rr) ∧ Lies m.2 (Tr.mendZ c rr) ∧ Only ns m.2 (Tr.plug c (.nd q y l rr)).places := by
  intro m
  have nd1 := (nodup_plug c _).1 nd
  simp only [Tr.places] at nd1
  rw [List.nodup_append] at nd1
  have nq := nd1.1
  rw [List.nodup_append, List.nodup_cons] at nq
  have qc : q ∉ upPlaces c := fun k => nd1.2.2 q (by simp) q k rfl
  have qr : q ∉ rr.places := nq.2.1.1
  have ho := hangTop_only ns c (place rr)
  have hu1 := hangTop_up (d' := place rr) hu nd1.2.1
  have hu2 : LiesUp ((hangTop ns c (place rr)).set q zeroNd) c (place rr) := liesUp_congr hu1 (fun z hz => (only_set _ q _).2 z (by simp only [List.mem_singleton]; exact fun k => qc (k ▸ hz)))
  have hr2 : Lies ((hangTop ns c (place rr)).set q zeroNd) rr := lies_congr hr (fun z hz => by
    rw [(only_set _ q _).2 z (by simp only [List.mem_singleton]; exact fun k => qr (k ▸ hz)), ho.2 z (fun k => nd1.2.2 z (by simp [hz]) z k rfl)])
  have nd2 : (Tr.plug c rr).places.Nodup := by
    rw [nodup_plug, List.nodup_append]; exact ⟨nq.2.1.2, nd1.2.1, fun a ha b hb => nd1.2.2 a (by simp [ha]) b hb⟩
  obtain ⟨m1, m2, m3⟩ := mendAll_lies c _ rr hu2 hr2 nd2
  refine ⟨m1, m2, ?_⟩
  refine (ho.mono (fun z hz => ?_)).trans (((only_set _ q _).mono (fun z hz => ?_)).trans (m3.mono (fun z hz => ?_)))
  · rw [mem_plug]; exact .inr hz
  · rw [mem_plug]; simp only [List.mem_singleton] at hz; subst hz; left; simp [Tr.places]
  · rw [mem_plug] at hz ⊢; rcases hz with hz | hz
    · left; simp [Tr.places, hz]
    · exact .inr hz
end Go.Proofs.Ytmgljgmfipodeaa.Av
/-
  THE WALK THROUGH ALL ITEMS, plain: a stack of nodes whose left sides are done.
-/
namespace Go.Proofs.Ytmgljgmfipodeaa.Av
open Go Go.RowKit

/-- a node that waits: its place, its item, its right side -/
structure Wt where
  p : Nat
  x : It
  r : Tr
def waiting (s : List Wt) : List It := s.flatMap fun k => k.x :: k.r.items
/-- a stack over N: each waits no higher than it may -/
def Deep (N : Nat) : List Wt → Prop
  | [] => True
  | k :: s => k.r.ht + 1 + s.length ≤ N ∧ Deep N s
def WtLies (ns : List Nd) (s : List Wt) : Prop := ∀ k ∈ s, Lies ns k.r ∧ ∃ n, ns[k.p]? = some n ∧ n.x = k.x ∧ n.r = place k.r
theorem deep_push {N : Nat} {s : List Wt} {p : Nat} {x : It} {l r : Tr} (h : Deep N s) (hc : (Tr.nd p x l r).ht + s.length ≤ N) : Deep N (⟨p, x, r⟩ :: s) ∧ l.ht + (s.length + 1) ≤ N ∧ s.length < N := by
  simp only [Tr.ht] at hc
  refine ⟨⟨?_, h⟩, ?_, ?_⟩
  · show r.ht + 1 + s.length ≤ N; omega
  · omega
  · omega
theorem deep_pop {N : Nat} {s : List Wt} {k : Wt} (h : Deep N (k :: s)) : Deep N s ∧ k.r.ht + s.length ≤ N := ⟨h.2, by have := h.1; omega⟩
theorem wt_push {ns : List Nd} {s : List Wt} {p : Nat} {x : It} {l r : Tr} (h : WtLies ns s) (hc : Lies ns (.nd p x l r)) : WtLies ns (⟨p, x, r⟩ :: s) := by
  intro k hk
  rcases List.mem_cons.1 hk with rfl | hk
  · exact ⟨hc.2.2, _, hc.1, rfl, rfl⟩
  · exact h k hk
theorem rem_push (s : List Wt) (p : Nat) (x : It) (l r : Tr) : (Tr.nd p x l r).items ++ waiting s = l.items ++ waiting (⟨p, x, r⟩ :: s) := by simp [Tr.items, waiting]
theorem rem_pop (s : List Wt) (k : Wt) : Tr.nil.items ++ waiting (k :: s) = k.x :: (k.r.items ++ waiting s) := by simp [Tr.items, waiting]
end Go.Proofs.Ytmgljgmfipodeaa.Av
/-
  THE DOCUMENT's row, plain: where an item stands in a rising row.
-/
namespace Go.Proofs.Ytmgljgmfipodeaa.Av
open Tr

theorem take_under (x : It) (L : List It) : L.take (under x L).length = under x L ∧ L.drop (under x L).length = beyond x L := by
  have e := sorted_split x L
  generalize under x L = A at *
  generalize beyond x L = B at *
  subst e
  simp
theorem under_le (x : It) (L : List It) : (under x L).length ≤ L.length := by
  conv => rhs; rw [sorted_split x L]
  simp
/-- the document's loop: on while the item there is less -/
theorem under_at (x : It) (L : List It) (i : Nat) (y : It) (h : i ≤ (under x L).length) (hy : L[i]? = some y) : y.lt x ↔ i < (under x L).length := by
  have e := sorted_split x L
  rcases Nat.lt_or_ge i (under x L).length with k | k
  · have : (under x L)[i]? = some y := by rw [e, List.getElem?_append_left k] at hy; exact hy
    exact ⟨fun _ => k, fun _ => under_lt x L y (List.mem_of_getElem? this)⟩
  · have hi : i = (under x L).length := by omega
    have : (beyond x L)[0]? = some y := by rw [e, List.getElem?_append_right k] at hy; rw [hi, Nat.sub_self] at hy; exact hy
    refine ⟨fun g => ?_, fun g => by omega⟩
    exfalso
    cases hb : beyond x L with
    | nil => rw [hb] at this; simp at this
    | cons b B =>
      rw [hb] at this
      simp only [List.getElem?_cons_zero, Option.some.injEq] at this
      subst this
      have hd : ¬ b.lt x := by
        unfold beyond at hb
        have := List.head?_dropWhile_not (fun y : It => decide (y.lt x)) L
        rw [hb] at this
        simpa using this
      exact hd g
/-- is an item in the row? -/
theorem mem_at (x : It) (L : List It) (hs : Sorted L) : x ∈ L ↔ L[(under x L).length]? = some x := by
  have e := sorted_split x L
  constructor
  · intro h
    rw [e, List.mem_append] at h
    rcases h with h | h
    · exact absurd (under_lt x L x h) (It.lt_irrefl x)
    · have e3 : L[(under x L).length]? = (beyond x L)[0]? := by
        conv => lhs; arg 1; rw [e]
        rw [List.getElem?_append_right (Nat.le_refl _), Nat.sub_self]
      rw [e3]
      cases hb : beyond x L with
      | nil => rw [hb] at h; simp at h
      | cons b B =>
        have hb0 : ¬ b.lt x := by
          have k := under_at x L (under x L).length b (Nat.le_refl _) (by rw [e3, hb]; rfl)
          exact fun g => Nat.lt_irrefl _ (k.1 g)
        rw [hb] at h
        rcases List.mem_cons.1 h with rfl | h
        · rfl
        · rw [e, hb, Sorted, List.pairwise_append, List.pairwise_cons] at hs
          exact absurd (hs.2.1.1 x h) hb0
  · exact fun h => List.mem_of_getElem? h
/-- a rising row is told by what is in it -/
theorem sorted_ext : ∀ (A B : List It), Sorted A → Sorted B → (∀ x, x ∈ A ↔ x ∈ B) → A = B
  | [], [], _, _, _ => rfl
  | [], b :: B, _, _, h => absurd ((h b).2 (by simp)) (by simp)
  | a :: A, [], _, _, h => absurd ((h a).1 (by simp)) (by simp)
  | a :: A, b :: B, ha, hb, h => by
    have ha' := List.pairwise_cons.1 ha
    have hb' := List.pairwise_cons.1 hb
    have e : a = b := by
      rcases List.mem_cons.1 ((h a).1 (by simp)) with k | k
      · exact k
      · rcases List.mem_cons.1 ((h b).2 (by simp)) with k' | k'
        · exact k'.symm
        · exact absurd (ha'.1 b k') (It.lt_asymm (hb'.1 a k))
    subst e
    rw [sorted_ext A B ha'.2 hb'.2 (fun x => ?_)]
    constructor
    · intro hx
      rcases List.mem_cons.1 ((h x).1 (by simp [hx])) with k | k
      · subst k; exact absurd (ha'.1 x hx) (It.lt_irrefl x)
      · exact k
    · intro hx
      rcases List.mem_cons.1 ((h x).2 (by simp [hx])) with k | k
      · subst k; exact absurd (hb'.1 x hx) (It.lt_irrefl x)
      · exact k
theorem mem_put (x y : It) (L : List It) : y ∈ under x L ++ x :: beyond x L ↔ y = x ∨ y ∈ L := by
  conv => rhs; rw [sorted_split x L]
  simp only [List.mem_append, List.mem_cons]
  constructor
  · rintro (h | h | h)
    · exact .inr (.inl h)
    · exact .inl h
    · exact .inr (.inr h)
  · rintro (h | h | h)
    · exact .inr (.inl h)
    · exact .inl h
    · exact .inr (.inr h)
theorem mem_del (x y : It) (L : List It) (hs : Sorted L) (hx : x ∈ L) : y ∈ under x L ++ (beyond x L).tail ↔ (y ≠ x ∧ y ∈ L) := by
  have e := sorted_split x L
  have hm := (mem_at x L hs).1 hx
  have e3 : L[(under x L).length]? = (beyond x L)[0]? := by
    conv => lhs; arg 1; rw [e]
    rw [List.getElem?_append_right (Nat.le_refl _), Nat.sub_self]
  rw [e3] at hm
  cases hb : beyond x L with
  | nil => rw [hb] at hm; simp at hm
  | cons b B =>
    rw [hb] at hm
    simp only [List.getElem?_cons_zero, Option.some.injEq] at hm
    subst hm
    rw [hb] at e
    have hs' := hs
    rw [e, Sorted, List.pairwise_append, List.pairwise_cons] at hs'
    simp only [List.tail_cons, List.mem_append]
    constructor
    · rintro (h | h)
      · exact ⟨fun k => It.lt_irrefl b (k ▸ under_lt b L y h), by rw [e]; simp [h]⟩
      · exact ⟨fun k => It.lt_irrefl b (by have := hs'.2.1.1 y h; rw [k] at this; exact this), by rw [e]; simp [h]⟩
    · rintro ⟨h1, h2⟩
      rw [e, List.mem_append, List.mem_cons] at h2
      rcases h2 with h2 | h2 | h2
      · exact .inl h2
      · exact absurd h2 h1
      · exact .inr h2
end Go.Proofs.Ytmgljgmfipodeaa.Av
