/-
  WHAT THE PROGRAM DOES TO THE ROW OF NODES, plain: sums, turns, balancing.
-/
import Derived.Test.YtmgljgmfipodeaaM2
/-
  WHAT THE PROGRAM DOES TO THE ROW OF NODES, plain: sums, turns, balancing.
-/
namespace Go.Proofs.Ytmgljgmfipodeaa.Av
open Go Go.RowKit

def hOf (ns : List Nd) (a : Int) : Int := if a < 0 then 0 else ((ns[a.toNat]?).map (·.h)).getD 0
def tOf (ns : List Nd) (a : Int) : Int := ((ns[a.toNat]?).map (·.top)).getD 0
def upd (ns : List Nd) (p : Nat) (f : Nd → Nd) : List Nd := match ns[p]? with | some n => ns.set p (f n) | none => ns
theorem upd_some {ns : List Nd} {p : Nat} {n : Nd} (f : Nd → Nd) (h : ns[p]? = some n) : upd ns p f = ns.set p (f n) := by unfold upd; rw [h]
theorem upd_len (ns : List Nd) (p : Nat) (f : Nd → Nd) : (upd ns p f).length = ns.length := by unfold upd; split <;> simp
theorem upd_ne (ns : List Nd) (p q : Nat) (f : Nd → Nd) (h : q ≠ p) : (upd ns p f)[q]? = ns[q]? := by
  unfold upd; split
  · exact List.getElem?_set_ne (Ne.symm h)
  · rfl
theorem upd_at {ns : List Nd} {p : Nat} {n : Nd} (f : Nd → Nd) (h : ns[p]? = some n) : (upd ns p f)[p]? = some (f n) := by
  rw [upd_some f h, List.getElem?_set_self (List.getElem?_eq_some_iff.1 h).1]
theorem lies_congr {ns ms : List Nd} {t : Tr} (h : Lies ns t) (k : ∀ q ∈ t.places, ms[q]? = ns[q]?) : Lies ms t := by
  induction t with
  | nil => trivial
  | nd p x l r hl hr =>
    refine ⟨by rw [k p (by simp [Tr.places])]; exact h.1, hl h.2.1 (fun q hq => k q (by simp [Tr.places, hq])), hr h.2.2 (fun q hq => k q (by simp [Tr.places, hq]))⟩
theorem lies_upd (ns : List Nd) (t : Tr) (p : Nat) (f : Nd → Nd) (h : Lies ns t) (hp : p ∉ t.places) : Lies (upd ns p f) t :=
  lies_congr h (fun q hq => upd_ne ns p q f (fun e => hp (e ▸ hq)))
def topL (ns : List Nd) (p : Nat) (n : Nd) : Int := if n.l < 0 ∨ n.l = (p : Int) then n.x.t else max n.x.t (tOf ns n.l)
def topR (ns : List Nd) (p : Nat) (n : Nd) (a : Int) : Int := if n.r < 0 ∨ n.r = (p : Int) then a else max a (tOf ns n.r)
def sumNd (ns : List Nd) (p : Nat) (n : Nd) : Nd := { n with h := 1 + max (hOf ns n.l) (hOf ns n.r), top := topR ns p n (topL ns p n) }
def sumN (ns : List Nd) (p : Nat) : List Nd := upd ns p (sumNd ns p)
theorem place_nil (t : Tr) : (place t < 0) ↔ t.isNil = true := by cases t <;> simp [place, Tr.isNil]
theorem hOf_lies {ns : List Nd} {t : Tr} (h : Lies ns t) : hOf ns (place t) = (t.ht : Int) := by
  cases t with
  | nil => simp [hOf, place, Tr.ht]
  | nd p x l r =>
    have h1 := h.1
    unfold hOf
    rw [show place (Tr.nd p x l r) = (p : Int) from rfl, if_neg (by omega), show ((p : Nat) : Int).toNat = p from rfl, h1]; rfl
theorem tOf_lies {ns : List Nd} {t : Tr} (h : Lies ns t) (hn : t.isNil = false) : tOf ns (place t) = t.top := by
  cases t with
  | nil => simp [Tr.isNil] at hn
  | nd p x l r =>
    have h1 := h.1
    unfold tOf place
    rw [show ((p : Nat) : Int).toNat = p from rfl, h1]; rfl
theorem place_ne {t : Tr} {p : Nat} (h : p ∉ t.places) : place t ≠ (p : Int) := by
  cases t with
  | nil => simp only [place]; omega
  | nd q x l r => simp only [Tr.places, List.mem_append, List.mem_cons, not_or] at h; simp only [place]; omega
theorem sumNd_lies {ns : List Nd} {p : Nat} {x : It} {l r : Tr} {h0 t0 : Int} (hl : Lies ns l) (hr : Lies ns r) (pl : p ∉ l.places) (pr : p ∉ r.places) :
    sumNd ns p ⟨x, place l, place r, h0, t0, true⟩ = ⟨x, place l, place r, ((Tr.nd p x l r).ht : Int), (Tr.nd p x l r).top, true⟩ := by
  unfold sumNd topR topL
  simp only [hOf_lies hl, hOf_lies hr, place_nil, place_ne pl, place_ne pr, or_false, Nd.mk.injEq, true_and, and_true]
  constructor
  · simp only [Tr.ht]; omega
  · simp only [Tr.top]
    cases el : l.isNil <;> cases er : r.isNil <;> simp [tOf_lies, hl, hr, el, er]
/-- a node whose sides are right is right once it is summed -/
theorem sumN_lies {ns : List Nd} {p : Nat} {x : It} {l r : Tr} {h0 t0 : Int} (hp : ns[p]? = some ⟨x, place l, place r, h0, t0, true⟩) (hl : Lies ns l) (hr : Lies ns r) (pl : p ∉ l.places) (pr : p ∉ r.places) :
    Lies (sumN ns p) (.nd p x l r) := by
  refine ⟨?_, lies_upd _ _ _ _ hl pl, lies_upd _ _ _ _ hr pr⟩
  unfold sumN
  rw [upd_at _ hp, sumNd_lies hl hr pl pr]
def sideN (ns : List Nd) (p : Nat) (right : Bool) : Int := ((ns[p]?).map fun n => if right = true then n.r else n.l).getD 0
def hangN (ns : List Nd) (p : Nat) (right : Bool) (b : Int) : List Nd := upd ns p fun n => if right = true then { n with r := b } else { n with l := b }
/-- turn: what is up then, and the row -/
def turnN (ns : List Nd) (p : Nat) (right : Bool) : Nat × List Nd :=
  let up := (sideN ns p right).toNat
  let a := hangN ns p right (sideN ns up (!right))
  let b := hangN a up (!right) (p : Int)
  (up, sumN (sumN b p) up)
/-- the same places, and nothing else, turned -/
def Only (ns ms : List Nd) (ps : List Nat) : Prop := ms.length = ns.length ∧ ∀ q, q ∉ ps → ms[q]? = ns[q]?
theorem only_upd (ns : List Nd) (p : Nat) (f : Nd → Nd) : Only ns (upd ns p f) [p] := ⟨upd_len _ _ _, fun q hq => upd_ne _ _ _ _ (by simpa using hq)⟩
theorem Only.trans {a b c : List Nd} {ps : List Nat} (h : Only a b ps) (k : Only b c ps) : Only a c ps := ⟨k.1.trans h.1, fun q hq => (k.2 q hq).trans (h.2 q hq)⟩
theorem Only.mono {a b : List Nd} {ps qs : List Nat} (h : Only a b ps) (k : ∀ q ∈ ps, q ∈ qs) : Only a b qs := ⟨h.1, fun q hq => h.2 q (fun g => hq (k q g))⟩
theorem turnL_lies {ns : List Nd} {p : Nat} {x : It} {l rl rr : Tr} {q : Nat} {y : It} {h0 t0 : Int} (hp : ns[p]? = some ⟨x, place l, (q : Int), h0, t0, true⟩) (hl : Lies ns l) (hr : Lies ns (.nd q y rl rr))
    (nd : (Tr.nd p x l (.nd q y rl rr)).places.Nodup) :
    (turnN ns p true).1 = q ∧ Lies (turnN ns p true).2 (.nd q y (.nd p x l rl) rr) ∧ Only ns (turnN ns p true).2 [p, q] := by
  obtain ⟨hq0, tq0, hq⟩ : ∃ h t, ns[q]? = some ⟨y, place rl, place rr, h, t, true⟩ := ⟨_, _, hr.1⟩
  simp only [Tr.places, List.nodup_append, List.nodup_cons, List.mem_append, List.mem_cons] at nd
  have npq : p ≠ q := fun e => nd.2.1.1 (by rw [e]; simp)
  have e1 : sideN ns p true = (q : Int) := by unfold sideN; rw [hp]; rfl
  have e2 : sideN ns q (!true) = place rl := by unfold sideN; rw [hq]; rfl
  unfold turnN
  simp only [e1, show ((q : Nat) : Int).toNat = q from rfl, e2]
  have a1 : (hangN ns p true (place rl))[p]? = some ⟨x, place l, place rl, h0, t0, true⟩ := by unfold hangN; rw [upd_at _ hp]; rfl
  have a2 : (hangN ns p true (place rl))[q]? = some ⟨y, place rl, place rr, hq0, tq0, true⟩ := by unfold hangN; rw [upd_ne _ _ _ _ (Ne.symm npq)]; exact hq
  have b1 : (hangN (hangN ns p true (place rl)) q (!true) (p : Int))[p]? = some ⟨x, place l, place rl, h0, t0, true⟩ := by unfold hangN; rw [upd_ne _ _ _ _ npq]; exact a1
  have b2 : (hangN (hangN ns p true (place rl)) q (!true) (p : Int))[q]? = some ⟨y, (p : Int), place rr, hq0, tq0, true⟩ := by rw [hangN, upd_at _ a2]; rfl
  have ob : Only ns (hangN (hangN ns p true (place rl)) q (!true) (p : Int)) [p, q] := ((only_upd _ _ _).mono (by simp)).trans ((only_upd _ _ _).mono (by simp))
  have lb : ∀ t : Tr, Lies ns t → p ∉ t.places → q ∉ t.places → Lies (hangN (hangN ns p true (place rl)) q (!true) (p : Int)) t := fun t h h1 h2 =>
    lies_congr h (fun z hz => ob.2 z (by simp only [List.mem_cons, List.not_mem_nil, or_false, not_or]; exact ⟨fun e => h1 (e ▸ hz), fun e => h2 (e ▸ hz)⟩))
  have pl : p ∉ l.places := fun h => nd.2.2 p h p (.inl rfl) rfl
  have prl : p ∉ rl.places := fun h => nd.2.1.1 (.inl h)
  have prr : p ∉ rr.places := fun h => nd.2.1.1 (.inr (.inr h))
  have ql : q ∉ l.places := fun h => nd.2.2 q h q (.inr (.inr (.inl rfl))) rfl
  have qrl : q ∉ rl.places := fun h => nd.2.1.2.2.2 q h q (.inl rfl) rfl
  have qrr : q ∉ rr.places := nd.2.1.2.2.1.1
  generalize hangN (hangN ns p true (place rl)) q (!true) (p : Int) = b at *
  have s1 := sumN_lies b1 (lb l hl pl ql) (lb rl hr.2.1 prl qrl) pl prl
  have s2 : (sumN b p)[q]? = some ⟨y, place (.nd p x l rl), place rr, hq0, tq0, true⟩ := by unfold sumN; rw [upd_ne _ _ _ _ (Ne.symm npq)]; exact b2
  refine ⟨trivial, ?_, (ob.trans ((only_upd _ _ _).mono (by simp))).trans ((only_upd _ _ _).mono (by simp))⟩
  refine sumN_lies s2 s1 (lies_upd _ _ _ _ (lb rr hr.2.2 prr qrr) prr) ?_ qrr
  simp only [Tr.places, List.mem_append, List.mem_cons, not_or]
  exact ⟨ql, Ne.symm npq, qrl⟩
theorem turnR_lies {ns : List Nd} {p : Nat} {x : It} {ll lr r : Tr} {q : Nat} {y : It} {h0 t0 : Int} (hp : ns[p]? = some ⟨x, (q : Int), place r, h0, t0, true⟩) (hl : Lies ns (.nd q y ll lr)) (hr : Lies ns r)
    (nd : (Tr.nd p x (.nd q y ll lr) r).places.Nodup) :
    (turnN ns p false).1 = q ∧ Lies (turnN ns p false).2 (.nd q y ll (.nd p x lr r)) ∧ Only ns (turnN ns p false).2 [p, q] := by
  obtain ⟨hq0, tq0, hq⟩ : ∃ h t, ns[q]? = some ⟨y, place ll, place lr, h, t, true⟩ := ⟨_, _, hl.1⟩
  simp only [Tr.places, List.nodup_append, List.nodup_cons, List.mem_append, List.mem_cons] at nd
  have npq : p ≠ q := fun e => nd.2.2 q (.inr (.inl rfl)) p (.inl rfl) e.symm
  have e1 : sideN ns p false = (q : Int) := by unfold sideN; rw [hp]; rfl
  have e2 : sideN ns q (!false) = place lr := by unfold sideN; rw [hq]; rfl
  unfold turnN
  simp only [e1, show ((q : Nat) : Int).toNat = q from rfl, e2]
  have a1 : (hangN ns p false (place lr))[p]? = some ⟨x, place lr, place r, h0, t0, true⟩ := by unfold hangN; rw [upd_at _ hp]; rfl
  have a2 : (hangN ns p false (place lr))[q]? = some ⟨y, place ll, place lr, hq0, tq0, true⟩ := by unfold hangN; rw [upd_ne _ _ _ _ (Ne.symm npq)]; exact hq
  have b1 : (hangN (hangN ns p false (place lr)) q (!false) (p : Int))[p]? = some ⟨x, place lr, place r, h0, t0, true⟩ := by unfold hangN; rw [upd_ne _ _ _ _ npq]; exact a1
  have b2 : (hangN (hangN ns p false (place lr)) q (!false) (p : Int))[q]? = some ⟨y, place ll, (p : Int), hq0, tq0, true⟩ := by rw [hangN, upd_at _ a2]; rfl
  have ob : Only ns (hangN (hangN ns p false (place lr)) q (!false) (p : Int)) [p, q] := ((only_upd _ _ _).mono (by simp)).trans ((only_upd _ _ _).mono (by simp))
  have lb : ∀ t : Tr, Lies ns t → p ∉ t.places → q ∉ t.places → Lies (hangN (hangN ns p false (place lr)) q (!false) (p : Int)) t := fun t h h1 h2 =>
    lies_congr h (fun z hz => ob.2 z (by simp only [List.mem_cons, List.not_mem_nil, or_false, not_or]; exact ⟨fun e => h1 (e ▸ hz), fun e => h2 (e ▸ hz)⟩))
  have pll : p ∉ ll.places := fun h => nd.2.2 p (.inl h) p (.inl rfl) rfl
  have plr : p ∉ lr.places := fun h => nd.2.2 p (.inr (.inr h)) p (.inl rfl) rfl
  have pr : p ∉ r.places := nd.2.1.1
  have qll : q ∉ ll.places := fun h => nd.1.2.2 q h q (.inl rfl) rfl
  have qlr : q ∉ lr.places := nd.1.2.1.1
  have qr : q ∉ r.places := fun h => nd.2.2 q (.inr (.inl rfl)) q (.inr h) rfl
  generalize hangN (hangN ns p false (place lr)) q (!false) (p : Int) = b at *
  have s1 := sumN_lies b1 (lb lr hl.2.2 plr qlr) (lb r hr pr qr) plr pr
  have s2 : (sumN b p)[q]? = some ⟨y, place ll, place (.nd p x lr r), hq0, tq0, true⟩ := by unfold sumN; rw [upd_ne _ _ _ _ (Ne.symm npq)]; exact b2
  refine ⟨trivial, ?_, (ob.trans ((only_upd _ _ _).mono (by simp))).trans ((only_upd _ _ _).mono (by simp))⟩
  refine sumN_lies s2 (lies_upd _ _ _ _ (lb ll hl.2.1 pll qll) pll) s1 qll ?_
  simp only [Tr.places, List.mem_append, List.mem_cons, not_or]
  exact ⟨qlr, Ne.symm npq, qr⟩
/-- mended: what is above then, and the row -/
def mendedN (ns : List Nd) (p : Nat) : Nat × List Nd :=
  let a := sumN ns p
  let lean := hOf a (sideN a p true) - hOf a (sideN a p false)
  if -1 ≤ lean ∧ lean ≤ 1 then (p, a) else
    let s := (sideN a p (decide (0 < lean))).toNat
    let b := if hOf a (sideN a s (decide (lean < 0))) > hOf a (sideN a s (decide (0 < lean))) then hangN (turnN a s (!decide (0 < lean))).2 p (decide (0 < lean)) ((turnN a s (!decide (0 < lean))).1 : Int) else a
    turnN b p (decide (0 < lean))
theorem mendedN_lies {ns : List Nd} {p : Nat} {x : It} {l r : Tr} {h0 t0 : Int} (hp : ns[p]? = some ⟨x, place l, place r, h0, t0, true⟩) (hl : Lies ns l) (hr : Lies ns r) (nd : (Tr.nd p x l r).places.Nodup) :
    ((mendedN ns p).1 : Int) = place (Tr.bal (.nd p x l r)) ∧ Lies (mendedN ns p).2 (Tr.bal (.nd p x l r)) ∧ Only ns (mendedN ns p).2 (Tr.nd p x l r).places := by
  have nd' := nd
  simp only [Tr.places, List.nodup_append, List.nodup_cons, List.mem_cons] at nd'
  have pl : p ∉ l.places := fun h => nd'.2.2 p h p (.inl rfl) rfl
  have pr : p ∉ r.places := nd'.2.1.1
  have hs := sumN_lies hp hl hr pl pr
  have os : Only ns (sumN ns p) (Tr.nd p x l r).places := (only_upd _ _ _).mono (by simp [Tr.places])
  unfold mendedN
  simp only
  generalize sumN ns p = a at *
  have ea := hs.1
  have e1 : sideN a p true = place r := by unfold sideN; rw [ea]; rfl
  have e2 : sideN a p false = place l := by unfold sideN; rw [ea]; rfl
  simp only [e1, e2, hOf_lies hs.2.1, hOf_lies hs.2.2]
  rw [Tr.bal_nd]
  by_cases g1 : r.ht > l.ht + 1
  · rw [if_pos g1, if_neg (by omega)]
    have d1 : decide (0 < (r.ht : Int) - (l.ht : Int)) = true := by simp; omega
    have d2 : decide ((r.ht : Int) - (l.ht : Int) < 0) = false := by simp; omega
    simp only [d1, d2, Bool.not_true]
    rw [e1]
    cases r with
    | nil => simp [Tr.ht] at g1
    | nd q y rl rr =>
      have hq := hs.2.2.1
      have f1 : sideN a q false = place rl := by unfold sideN; rw [hq]; rfl
      have f2 : sideN a q true = place rr := by unfold sideN; rw [hq]; rfl
      rw [show (place (Tr.nd q y rl rr)).toNat = q from rfl, f1, f2, hOf_lies hs.2.2.2.1, hOf_lies hs.2.2.2.2, Tr.preL_nd]
      by_cases g2 : rl.ht > rr.ht
      · rw [if_pos (by omega), if_pos g2]
        cases rl with
        | nil => simp [Tr.ht] at g2
        | nd s z u v =>
          have ndr : (Tr.nd q y (.nd s z u v) rr).places.Nodup := nd'.2.1.2
          obtain ⟨t1, t2, t3⟩ := turnR_lies (r := rr) hq hs.2.2.2.1 hs.2.2.2.2 ndr
          have op : Only a (turnN a q false).2 (Tr.nd q y (.nd s z u v) rr).places := t3.mono (by simp [Tr.places])
          have hp2 : (turnN a q false).2[p]? = a[p]? := op.2 p pr
          rw [t1]
          obtain ⟨ch, ct, c1⟩ : ∃ h t, (hangN (turnN a q false).2 p true (s : Int))[p]? = some ⟨x, place l, (s : Int), h, t, true⟩ := ⟨_, _, by rw [hangN, upd_at _ (hp2.trans ea)]; rfl⟩
          have lc : Lies (turnN a q false).2 l := lies_congr hs.2.1 (fun z' hz => op.2 z' (fun k => nd'.2.2 z' hz z' (.inr k) rfl))
          have prot : Tr.rotR (.nd q y (.nd s z u v) rr) = .nd s z u (.nd q y v rr) := rfl
          have pm : (Tr.nd s z u (.nd q y v rr)).places = (Tr.nd q y (.nd s z u v) rr).places := by rw [← prot, Tr.places_rotR]
          have pr2 : p ∉ (Tr.nd s z u (.nd q y v rr)).places := by rw [pm]; exact pr
          have nd3 : (Tr.nd p x l (.nd s z u (.nd q y v rr))).places.Nodup := by
            have : (Tr.nd p x l (.nd s z u (.nd q y v rr))).places = (Tr.nd p x l (.nd q y (.nd s z u v) rr)).places := by simp only [Tr.places, List.append_assoc, List.cons_append]
            rw [this]; exact nd
          obtain ⟨w1, w2, w3⟩ := turnL_lies c1 (lies_upd _ _ _ _ lc pl) (lies_upd _ _ _ _ t2 pr2) nd3
          rw [prot]
          refine ⟨by rw [w1]; rfl, w2, ?_⟩
          refine os.trans ((op.mono (by intro k hk; simp only [Tr.places, List.mem_append, List.mem_cons] at hk ⊢; exact .inr (.inr hk))).trans (Only.trans ((only_upd _ _ _).mono (by simp [Tr.places])) (w3.mono ?_)))
          intro k hk
          simp only [List.mem_cons, List.not_mem_nil, or_false] at hk
          simp only [Tr.places, List.mem_append, List.mem_cons]
          rcases hk with rfl | rfl <;> simp
      · rw [if_neg (by omega), if_neg g2]
        obtain ⟨w1, w2, w3⟩ := turnL_lies (l := l) ea hs.2.1 hs.2.2 nd
        refine ⟨by rw [w1]; rfl, w2, os.trans (w3.mono ?_)⟩
        intro k hk
        simp only [List.mem_cons, List.not_mem_nil, or_false] at hk
        simp only [Tr.places, List.mem_append, List.mem_cons]
        rcases hk with rfl | rfl <;> simp
  · rw [if_neg g1]
    by_cases g3 : l.ht > r.ht + 1
    · rw [if_pos g3, if_neg (by omega)]
      have d1 : decide (0 < (r.ht : Int) - (l.ht : Int)) = false := by simp; omega
      have d2 : decide ((r.ht : Int) - (l.ht : Int) < 0) = true := by simp; omega
      simp only [d1, d2, Bool.not_false]
      rw [e2]
      cases l with
      | nil => simp [Tr.ht] at g3
      | nd q y ll lr =>
        have hq := hs.2.1.1
        have f1 : sideN a q false = place ll := by unfold sideN; rw [hq]; rfl
        have f2 : sideN a q true = place lr := by unfold sideN; rw [hq]; rfl
        rw [show (place (Tr.nd q y ll lr)).toNat = q from rfl, f1, f2, hOf_lies hs.2.1.2.1, hOf_lies hs.2.1.2.2, Tr.preR_nd]
        by_cases g2 : lr.ht > ll.ht
        · rw [if_pos (by omega), if_pos g2]
          cases lr with
          | nil => simp [Tr.ht] at g2
          | nd s z u v =>
            have ndl : (Tr.nd q y ll (.nd s z u v)).places.Nodup := nd'.1
            obtain ⟨t1, t2, t3⟩ := turnL_lies (l := ll) hq hs.2.1.2.1 hs.2.1.2.2 ndl
            have op : Only a (turnN a q true).2 (Tr.nd q y ll (.nd s z u v)).places := t3.mono (by simp [Tr.places])
            have hp2 : (turnN a q true).2[p]? = a[p]? := op.2 p pl
            rw [t1]
            obtain ⟨ch, ct, c1⟩ : ∃ h t, (hangN (turnN a q true).2 p false (s : Int))[p]? = some ⟨x, (s : Int), place r, h, t, true⟩ := ⟨_, _, by rw [hangN, upd_at _ (hp2.trans ea)]; rfl⟩
            have lc : Lies (turnN a q true).2 r := lies_congr hs.2.2 (fun z' hz => op.2 z' (fun k => nd'.2.2 z' k z' (.inr hz) rfl))
            have prot : Tr.rotL (.nd q y ll (.nd s z u v)) = .nd s z (.nd q y ll u) v := rfl
            have pm : (Tr.nd s z (.nd q y ll u) v).places = (Tr.nd q y ll (.nd s z u v)).places := by rw [← prot, Tr.places_rotL]
            have pl2 : p ∉ (Tr.nd s z (.nd q y ll u) v).places := by rw [pm]; exact pl
            have nd3 : (Tr.nd p x (.nd s z (.nd q y ll u) v) r).places.Nodup := by
              have : (Tr.nd p x (.nd s z (.nd q y ll u) v) r).places = (Tr.nd p x (.nd q y ll (.nd s z u v)) r).places := by simp only [Tr.places, List.append_assoc, List.cons_append]
              rw [this]; exact nd
            obtain ⟨w1, w2, w3⟩ := turnR_lies c1 (lies_upd _ _ _ _ t2 pl2) (lies_upd _ _ _ _ lc pr) nd3
            rw [prot]
            refine ⟨by rw [w1]; rfl, w2, ?_⟩
            refine os.trans ((op.mono (by intro k hk; simp only [Tr.places, List.mem_append, List.mem_cons] at hk ⊢; exact .inl hk)).trans (Only.trans ((only_upd _ _ _).mono (by simp [Tr.places])) (w3.mono ?_)))
            intro k hk
            simp only [List.mem_cons, List.not_mem_nil, or_false] at hk
            simp only [Tr.places, List.mem_append, List.mem_cons]
            rcases hk with rfl | rfl <;> simp
        · rw [if_neg (by omega), if_neg g2]
          obtain ⟨w1, w2, w3⟩ := turnR_lies (r := r) ea hs.2.1 hs.2.2 nd
          refine ⟨by rw [w1]; rfl, w2, os.trans (w3.mono ?_)⟩
          intro k hk
          simp only [List.mem_cons, List.not_mem_nil, or_false] at hk
          simp only [Tr.places, List.mem_append, List.mem_cons]
          rcases hk with rfl | rfl <;> simp
    · rw [if_neg g3, if_pos (by omega)]
      exact ⟨rfl, hs, os⟩
end Go.Proofs.Ytmgljgmfipodeaa.Av
