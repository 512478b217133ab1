/-
  TAKING AWAY, plain: what stands when a node with one side at most is to go, and what is left.
-/
import Derived.Test.YtmgljgmfipodeaaM19
/-
  TAKING AWAY, plain: what stands when a node with one side at most is to go, and what is left.
-/
namespace Go.Proofs.Ytmgljgmfipodeaa.Av
open Go Go.RowKit
set_option linter.unusedSimpArgs false
set_option linter.unusedVariables false

theorem nodup_place {c : List Tr.Fr} {a b : Tr} (h : (Tr.plug c a).places.Nodup) (k : b.places.Perm a.places) : (Tr.plug c b).places.Nodup := by
  rw [nodup_plug] at h ⊢
  exact (List.Perm.nodup_iff (List.Perm.append_right _ k)).2 h
theorem perm_plug {c : List Tr.Fr} {a b : Tr} (k : b.places.Perm a.places) : (Tr.plug c b).places.Perm (Tr.plug c a).places :=
  (Tr.places_plug c b).trans ((List.Perm.append_right _ k).trans (Tr.places_plug c a).symm)
theorem cut_zero {ns : List Nd} {c : List Tr.Fr} {q : Nat} {y : It} {rr l : Tr} (d : Int) (hu : LiesUp ns c d) (hr : Lies ns rr) (nd : (Tr.plug c (.nd q y l rr)).places.Nodup) (hq : q < ns.length) :
    (mendAll ((hangTop ns c (place rr)).set q zeroNd) c (place rr)).2[q]? = some zeroNd := by
  have nd1 := (nodup_plug c _).1 nd
  simp only [Tr.places] at nd1
  rw [List.nodup_append] at nd1
  have nq := nd1.1
  rw [List.nodup_append, List.nodup_cons] at nq
  have qc : q ∉ upPlaces c := fun k => nd1.2.2 q (by simp) q k rfl
  have qr : q ∉ rr.places := nq.2.1.1
  have ho := hangTop_only ns c (place rr)
  have hu1 := hangTop_up (d' := place rr) hu nd1.2.1
  have hu2 : LiesUp ((hangTop ns c (place rr)).set q zeroNd) c (place rr) := liesUp_congr hu1 (fun z hz => (only_set _ q _).2 z (by simp only [List.mem_singleton]; exact fun k => qc (k ▸ hz)))
  have hr2 : Lies ((hangTop ns c (place rr)).set q zeroNd) rr := lies_congr hr (fun z hz => by
    rw [(only_set _ q _).2 z (by simp only [List.mem_singleton]; exact fun k => qr (k ▸ hz)), ho.2 z (fun k => nd1.2.2 z (by simp [hz]) z k rfl)])
  have nd2 : (Tr.plug c rr).places.Nodup := by
    rw [nodup_plug, List.nodup_append]; exact ⟨nq.2.1.2, nd1.2.1, fun a ha b hb => nd1.2.2 a (by simp [ha]) b hb⟩
  obtain ⟨m1, m2, m3⟩ := mendAll_lies c _ rr hu2 hr2 nd2
  rw [m3.2 q (fun z => by rw [mem_plug] at z; rcases z with z | z; exact qr z; exact qc z)]
  exact List.getElem?_set_self (by rw [hangTop_len]; exact hq)
/-- what stands ahead of the node's going -/
structure Gone (t : Tr) (ns1 : List Nd) (x : It) (c : List Tr.Fr) (q : Nat) (kept : Tr) : Prop where
  lu : LiesUp ns1 c (q : Int)
  lk : Lies ns1 kept
  hq : ∃ n, ns1[q]? = some n ∧ (if n.l < n.r then n.r else n.l) = place kept
  nd : ∃ y, (Tr.plug c (.nd q y .nil kept)).places.Nodup ∧ (Tr.plug c (.nd q y .nil kept)).places.Perm t.places
  ft : Fit ns1 40
  ok : (Tr.mendZ c kept).Ok
  pm : (q :: (Tr.mendZ c kept).places).Perm t.places
  it : (Tr.mendZ c kept).items = Tr.under x t.items ++ (Tr.beyond x t.items).tail
  cl : c.length ≤ 39
theorem cut_all {t : Tr} {ns1 : List Nd} {x : It} {c : List Tr.Fr} {q : Nat} {kept : Tr} (G : Gone t ns1 x c q kept) (ht : t.size ≤ 1000000) :
    ∃ (m : Int × List Nd) (t' : Tr), m = mendAll ((hangTop ns1 c (place kept)).set q zeroNd) c (place kept) ∧ m.1 = place t' ∧ Lies m.2 t' ∧ t'.Ok ∧ (q :: t'.places).Perm t.places ∧ Fit m.2 40 ∧ m.2.length = ns1.length ∧ t.size = t'.size + 1 ∧ t'.items = Tr.under x t.items ++ (Tr.beyond x t.items).tail := by
  obtain ⟨n, hn, _⟩ := G.hq
  obtain ⟨y, nd, pm⟩ := G.nd
  have hql := (List.getElem?_eq_some_iff.1 hn).1
  obtain ⟨h1, h2, h3⟩ := cut_lies _ G.lu G.lk nd
  have h4 := cut_zero _ G.lu G.lk nd hql
  have sz := perm_size (t := Tr.mendZ c kept) (t' := t) G.pm.symm
  refine ⟨_, Tr.mendZ c kept, rfl, h1, h2, G.ok, G.pm, ?_, h3.1, sz, G.it⟩
  refine fit_of h2 (Tr.high_40 _ G.ok.bal (by omega)) G.ft h3.1 (fun i hi => ?_)
  by_cases e : i = q
  · subst e; exact .inr h4
  · left
    refine h3.2 i (fun hm => ?_)
    have := G.pm.mem_iff.2 (pm.mem_iff.1 hm)
    rcases List.mem_cons.1 this with z | z
    · exact e z
    · exact hi z
theorem plug_ht (c : List Tr.Fr) (s : Tr) : c.length + s.ht ≤ (Tr.plug c s).ht := by
  induction c generalizing s with
  | nil => simp [Tr.plug]
  | cons f c ih =>
    have := ih (f.fill s)
    rw [Tr.fill_ht] at this
    simp only [Tr.plug, List.length_cons]; omega
theorem way_nd {x : It} {t : Tr} (ok : t.Ok) (h : x ∈ t.items) : ∃ p l r, (Tr.way x t []).2 = .nd p x l r := by
  obtain ⟨_, _, k | k⟩ := Tr.way_sides0 x t ok.sorted
  · exact absurd h (Tr.absent x t ok.sorted k).2.2
  · exact k
theorem gone_one {t : Tr} {ns : List Nd} {x : It} (ok : t.Ok) (ls : Lies ns t) (ft : Fit ns 40) (ht : t.ht ≤ 39) {p : Nat} {l r : Tr} (h : (Tr.way x t []).2 = .nd p x l r) (hn : l = .nil ∨ r = .nil) :
    Gone t ns x (Tr.way x t []).1 p (if l.isNil = true then r else l) := by
  have e := Tr.way_plug x t []
  rw [h] at e
  have e : Tr.plug (Tr.way x t []).1 (.nd p x l r) = t := e
  obtain ⟨hu, hl⟩ := liesUp_way x t [] ls trivial
  rw [h] at hu hl
  have k := Tr.del1_ok x t ok p l r h hn
  have pm : (Tr.nd p x .nil (if l.isNil = true then r else l)).places.Perm (Tr.nd p x l r).places := by
    rcases hn with rfl | rfl
    · simp [Tr.isNil]
    · cases l with
      | nil => simp [Tr.isNil]
      | nd a b cc d =>
        simp only [Tr.isNil, Bool.false_eq_true, if_false]
        show ([] ++ p :: (Tr.nd a b cc d).places).Perm ((Tr.nd a b cc d).places ++ p :: [])
        simp only [List.nil_append]
        exact (List.perm_append_singleton p _).symm
  refine { lu := hu, lk := ?_, hq := ⟨_, hl.1, ?_⟩, nd := ⟨x, ?_, ?_⟩, ft := ft, ok := k.1, pm := k.2, it := Tr.delete1_items x t ok.sorted p l r h hn, cl := ?_ }
  · split
    · exact hl.2.2
    · exact hl.2.1
  · show (if place l < place r then place r else place l) = _
    rcases hn with rfl | rfl
    · cases r with
      | nil => rfl
      | nd a b cc d => simp [Tr.isNil, place]; omega
    · cases l with
      | nil => rfl
      | nd a b cc d => simp [Tr.isNil, place]; omega
  · exact nodup_place (by rw [e]; exact ok.apart) pm
  · exact (perm_plug pm).trans (by rw [e])
  · have := plug_ht (Tr.way x t []).1 (.nd p x l r)
    rw [e] at this; omega
theorem liesUp_wayMin {ns : List Nd} (t : Tr) (c : List Tr.Fr) (h : Lies ns t) (hc : LiesUp ns c (place t)) :
    LiesUp ns (Tr.wayMin t c).1 (place (Tr.wayMin t c).2) ∧ Lies ns (Tr.wayMin t c).2 := by
  induction t generalizing c with
  | nil => exact ⟨hc, h⟩
  | nd q y l r il ir =>
    cases l with
    | nil => exact ⟨hc, h⟩
    | nd q' y' l' r' =>
      obtain ⟨h1, h2, h3⟩ := h
      exact il (⟨q, y, false, r⟩ :: c) h2 ⟨⟨_, _, h1⟩, h3, hc⟩
theorem wayMin_app (t : Tr) (c : List Tr.Fr) (e : List Tr.Fr) : Tr.wayMin t (e ++ c) = ((Tr.wayMin t e).1 ++ c, (Tr.wayMin t e).2) := by
  induction t generalizing e with
  | nil => rfl
  | nd q y l r il ir =>
    cases l with
    | nil => rfl
    | nd q' y' l' r' => exact il (⟨q, y, false, r⟩ :: e)
/-- the item of one step changed -/
theorem liesUp_item {ns : List Nd} (d c : List Tr.Fr) (p : Nat) (x y : It) (b : Bool) (o : Tr) (n : Nd) (e : Int) (h : LiesUp ns (d ++ ⟨p, x, b, o⟩ :: c) e) (hn : ns[p]? = some n) (nd : (upPlaces (d ++ ⟨p, x, b, o⟩ :: c)).Nodup) :
    LiesUp (ns.set p { n with x := y }) (d ++ ⟨p, y, b, o⟩ :: c) e := by
  have pl := (List.getElem?_eq_some_iff.1 hn).1
  induction d generalizing e with
  | nil =>
    obtain ⟨⟨hh, tt, h1⟩, h2, h3⟩ := h
    simp only [List.nil_append, upPlaces, List.flatMap_cons, List.cons_append, List.nodup_cons, List.mem_append, not_or] at nd
    refine ⟨⟨hh, tt, ?_⟩, lies_set _ _ _ _ h2 nd.1.1, liesUp_congr h3 (fun z hz => List.getElem?_set_ne (fun k => nd.1.2 (by rw [k]; exact hz)))⟩
    rw [List.getElem?_set_self pl]
    rw [h1] at hn
    simp only [Option.some.injEq] at hn
    rw [← hn]
  | cons f d ih =>
    obtain ⟨⟨hh, tt, h1⟩, h2, h3⟩ := h
    simp only [List.cons_append, upPlaces, List.flatMap_cons, List.nodup_cons, List.mem_append, not_or] at nd
    have pm : p ∈ upPlaces (d ++ ⟨p, x, b, o⟩ :: c) := by simp [upPlaces]
    have nd' := List.nodup_append.1 nd.2
    refine ⟨⟨hh, tt, ?_⟩, lies_set _ _ _ _ h2 (fun k => nd'.2.2 p k p pm rfl), ih _ h3 nd'.2.1⟩
    rw [List.getElem?_set_ne (fun k => nd.1.2 (by rw [← k]; exact pm))]
    exact h1
theorem gone_two {t : Tr} {ns : List Nd} {x : It} (ok : t.Ok) (ls : Lies ns t) (ft : Fit ns 40) (ht : t.ht ≤ 39) {p : Nat} {l r : Tr} (h : (Tr.way x t []).2 = .nd p x l r) (hr : r ≠ .nil) (d : List Tr.Fr) (q : Nat) (y : It) (rr : Tr) (hm : Tr.wayMin r [] = (d, .nd q y .nil rr)) (n : Nd) (hn : ns[p]? = some n) :
    Gone t (ns.set p { n with x := y }) x (d ++ ⟨p, y, true, l⟩ :: (Tr.way x t []).1) q rr ∧ (∃ m, ns[q]? = some m ∧ m.x = y) ∧ q ≠ p := by
  have e := Tr.way_plug x t []
  rw [h] at e
  have e : Tr.plug (Tr.way x t []).1 (.nd p x l r) = t := e
  obtain ⟨hu, hl⟩ := liesUp_way x t [] ls trivial
  rw [h] at hu hl
  obtain ⟨d', q', y', rr', w1, w2, w3, w4, w5⟩ := Tr.wayMin_spec r (⟨p, x, true, l⟩ :: (Tr.way x t []).1) hr
  have w1' := wayMin_app r (⟨p, x, true, l⟩ :: (Tr.way x t []).1) []
  rw [List.nil_append, hm, w1] at w1'
  simp only [Prod.mk.injEq, List.append_cancel_right_eq, Tr.nd.injEq, true_and] at w1'
  obtain ⟨rfl, rfl, rfl, rfl⟩ := w1'
  have hup : LiesUp ns (⟨p, x, true, l⟩ :: (Tr.way x t []).1) (place r) := by
    exact ⟨⟨_, _, hl.1⟩, hl.2.1, hu⟩
  obtain ⟨m1, m2⟩ := liesUp_wayMin r (⟨p, x, true, l⟩ :: (Tr.way x t []).1) hl.2.2 hup
  rw [w1] at m1 m2
  have pt : Tr.plug (d' ++ ⟨p, x, true, l⟩ :: (Tr.way x t []).1) (.nd q' y' .nil rr') = t := by rw [w2]; simp only [Tr.plug, Tr.Fr.fill, if_true]; exact e
  have ndp : (Tr.plug (d' ++ ⟨p, x, true, l⟩ :: (Tr.way x t []).1) (.nd q' y' .nil rr')).places.Nodup := by rw [pt]; exact ok.apart
  have nd1 := (nodup_plug _ _).1 ndp
  rw [List.nodup_append] at nd1
  have pu : p ∈ upPlaces (d' ++ ⟨p, x, true, l⟩ :: (Tr.way x t []).1) := by simp [upPlaces]
  have pq : q' ≠ p := fun k => nd1.2.2 q' (by simp [Tr.places]) p pu k
  have pr : p ∉ rr'.places := fun k => nd1.2.2 p (by simp [Tr.places, k]) p pu rfl
  have pl := (List.getElem?_eq_some_iff.1 hn).1
  have k := Tr.del2_ok x t ok p l r h d' q' y' rr' w2 w3 w4
  have pi := (Tr.plug_item d' (Tr.way x t []).1 p x y' true l (.nd q' y' .nil rr')).2
  refine ⟨{ lu := liesUp_item _ _ p x y' true l n _ m1 hn nd1.2.1, lk := lies_set _ _ _ _ m2.2.2 pr, hq := ⟨_, by rw [List.getElem?_set_ne (Ne.symm pq)]; exact m2.1, ?_⟩, nd := ⟨y', by rw [pi]; exact ndp, by rw [pi, pt]⟩, ft := ⟨ft.1, fun z hz => ?_⟩, ok := k.1, pm := k.2, it := Tr.delete2_items x t ok.sorted p l r h d' q' y' rr' w3 w4, cl := ?_ }, ⟨_, m2.1, rfl⟩, pq⟩
  · show (if place Tr.nil < place rr' then place rr' else place Tr.nil) = _
    cases rr' with
    | nil => rfl
    | nd a b cc dd => simp [place]; omega
  · rw [List.length_set]
    rcases List.mem_or_eq_of_mem_set hz with z' | rfl
    · exact ft.2 z z'
    · have := ft.at hn; exact this
  · have := plug_ht (d' ++ ⟨p, x, true, l⟩ :: (Tr.way x t []).1) (.nd q' y' .nil rr')
    rw [pt] at this
    simp only [Tr.ht, List.length_append, List.length_cons] at this ⊢
    omega
end Go.Proofs.Ytmgljgmfipodeaa.Av
