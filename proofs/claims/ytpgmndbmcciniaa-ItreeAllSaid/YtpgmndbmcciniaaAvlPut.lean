/-
  PUTTING AND TAKING AWAY on the row of nodes, plain.
-/
import Derived.Test.YtpgmndbmcciniaaAvlMem
namespace Go.Proofs.Ytpgmndbmcciniaa.Av
open Go Go.RowKit

def hangTop (ns : List Nd) (c : List Tr.Fr) (d : Int) : List Nd := match c with | [] => ns | g :: _ => hangN ns g.p g.right d
theorem hangTop_up {ns : List Nd} {c : List Tr.Fr} {d d' : Int} (h : LiesUp ns c d) (nd : (upPlaces c).Nodup) : LiesUp (hangTop ns c d') c d' := by
  cases c with
  | nil => trivial
  | cons g c =>
    simp only [upPlaces, List.flatMap_cons, List.cons_append, List.nodup_cons, List.mem_append, not_or] at nd
    exact hang_up h nd.1.1 nd.1.2
theorem hangTop_only (ns : List Nd) (c : List Tr.Fr) (d : Int) : Only ns (hangTop ns c d) (upPlaces c) := by
  cases c with
  | nil => exact ⟨rfl, fun _ _ => rfl⟩
  | cons g c => exact (only_upd _ _ _).mono (by simp [upPlaces])
def zeroNd : Nd := ⟨⟨0, 0, 0⟩, 0, 0, 0, 0, false⟩
theorem only_set (ns : List Nd) (p : Nat) (n : Nd) : Only ns (ns.set p n) [p] := ⟨by simp, fun q hq => List.getElem?_set_ne (by simp only [List.mem_singleton] at hq; exact Ne.symm hq)⟩
theorem put_lies {ns : List Nd} {t : Tr} (ok : t.Ok) (hl : Lies ns t) (x : It) (h : (Tr.way x t []).2 = .nil) (p : Nat) (hp : p ∉ t.places) (hn : p < ns.length) :
    let c := (Tr.way x t []).1
    let m := mendAll (hangTop (ns.set p ⟨x, -1, -1, 1, x.t, true⟩) c (p : Int)) c (p : Int)
    m.1 = place (Tr.mendZ c (.nd p x .nil .nil)) ∧ Lies m.2 (Tr.mendZ c (.nd p x .nil .nil)) ∧ Only ns m.2 (p :: t.places) := by
  intro c m
  have e := Tr.way_plug x t []
  rw [h] at e
  have e : Tr.plug c .nil = t := e
  have hw := liesUp_way x t [] hl trivial
  rw [h] at hw
  have hu : LiesUp ns c (-1) := hw.1
  have hmem : ∀ q, q ∈ t.places ↔ q ∈ upPlaces c := fun q => by rw [← e, mem_plug]; simp [Tr.places]
  have ndc : (upPlaces c).Nodup := by have := (nodup_plug c .nil).1 (by rw [e]; exact ok.apart); simpa [Tr.places] using this
  have pc : p ∉ upPlaces c := fun k => hp ((hmem p).2 k)
  have hu1 : LiesUp (ns.set p ⟨x, -1, -1, 1, x.t, true⟩) c (-1) := liesUp_congr hu (fun q hq => (only_set ns p _).2 q (by simp only [List.mem_singleton]; exact fun k => pc (k ▸ hq)))
  have hu2 := hangTop_up (d' := (p : Int)) hu1 ndc
  have hs : Lies (hangTop (ns.set p ⟨x, -1, -1, 1, x.t, true⟩) c (p : Int)) (.nd p x .nil .nil) := by
    refine ⟨?_, trivial, trivial⟩
    rw [(hangTop_only _ c _).2 p pc, List.getElem?_set_self hn]; rfl
  have nd2 : (Tr.plug c (.nd p x .nil .nil)).places.Nodup := by
    rw [nodup_plug]; simp only [Tr.places, List.nil_append, List.cons_append, List.nodup_cons]; exact ⟨pc, ndc⟩
  obtain ⟨m1, m2, m3⟩ := mendAll_lies c _ (.nd p x .nil .nil) hu2 hs nd2
  refine ⟨m1, m2, ?_⟩
  refine ((only_set ns p _).mono (by simp)).trans (((hangTop_only _ c _).mono (fun q hq => by simp [(hmem q).2 hq])).trans (m3.mono (fun q hq => ?_)))
  rw [mem_plug] at hq
  simp only [Tr.places, List.nil_append, List.mem_singleton] at hq
  rcases hq with rfl | hq
  · simp
  · simp [(hmem q).2 hq]
/-- taking away: the way c leads to a node q, of which the side rr alone is kept -/
theorem cut_lies {ns : List Nd} {c : List Tr.Fr} {q : Nat} {y : It} {rr l : Tr} (d : Int) (hu : LiesUp ns c d) (hr : Lies ns rr) (nd : (Tr.plug c (.nd q y l rr)).places.Nodup) :
    let m := mendAll ((hangTop ns c (place rr)).set q zeroNd) c (place rr)
    m.1 = place (Tr.mendZ c rr) ∧ Lies m.2 (Tr.mendZ c rr) ∧ Only ns m.2 (Tr.plug c (.nd q y l rr)).places := by
  intro m
  have nd1 := (nodup_plug c _).1 nd
  simp only [Tr.places] at nd1
  rw [List.nodup_append] at nd1
  have nq := nd1.1
  rw [List.nodup_append, List.nodup_cons] at nq
  have qc : q ∉ upPlaces c := fun k => nd1.2.2 q (by simp) q k rfl
  have qr : q ∉ rr.places := nq.2.1.1
  have ho := hangTop_only ns c (place rr)
  have hu1 := hangTop_up (d' := place rr) hu nd1.2.1
  have hu2 : LiesUp ((hangTop ns c (place rr)).set q zeroNd) c (place rr) := liesUp_congr hu1 (fun z hz => (only_set _ q _).2 z (by simp only [List.mem_singleton]; exact fun k => qc (k ▸ hz)))
  have hr2 : Lies ((hangTop ns c (place rr)).set q zeroNd) rr := lies_congr hr (fun z hz => by
    rw [(only_set _ q _).2 z (by simp only [List.mem_singleton]; exact fun k => qr (k ▸ hz)), ho.2 z (fun k => nd1.2.2 z (by simp [hz]) z k rfl)])
  have nd2 : (Tr.plug c rr).places.Nodup := by
    rw [nodup_plug, List.nodup_append]; exact ⟨nq.2.1.2, nd1.2.1, fun a ha b hb => nd1.2.2 a (by simp [ha]) b hb⟩
  obtain ⟨m1, m2, m3⟩ := mendAll_lies c _ rr hu2 hr2 nd2
  refine ⟨m1, m2, ?_⟩
  refine (ho.mono (fun z hz => ?_)).trans (((only_set _ q _).mono (fun z hz => ?_)).trans (m3.mono (fun z hz => ?_)))
  · rw [mem_plug]; exact .inr hz
  · rw [mem_plug]; simp only [List.mem_singleton] at hz; subst hz; left; simp [Tr.places]
  · rw [mem_plug] at hz ⊢; rcases hz with hz | hz
    · left; simp [Tr.places, hz]
    · exact .inr hz
end Go.Proofs.Ytpgmndbmcciniaa.Av
