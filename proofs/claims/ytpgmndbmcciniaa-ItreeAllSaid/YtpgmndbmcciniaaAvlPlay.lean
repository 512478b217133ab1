/-
  avl: the tree and the document's row, side by side.
-/
import Derived.Test.YtpgmndbmcciniaaAvlRefDel
namespace Go.Proofs.Ytpgmndbmcciniaa.Av
open Go Go.RowKit
set_option linter.unusedSimpArgs false
set_option linter.unusedVariables false
attribute [local go_sem ↓] Go.wp_at_zero Go.wp_at_succ

structure Play (w wr : World) (t r : Nat) (most : Int) (O : Nat → Prop) (v : Value) (La Lb : List It) : Prop where
  ti : TreeIs wr w.heap.size t most O La
  ri : RefIs wr r most v Lb
  nr : ¬ O r
  nv : ∀ k, v.ownBlock = some k → ¬ O k
  lo : ∀ k, O k → w.heap.size ≤ k
  lr : w.heap.size ≤ r
  lv : ∀ k, v.ownBlock = some k → w.heap.size ≤ k
  be : Below w.heap.size w wr
section
variable {w wr w' : World} {t r : Nat} {most : Int} {O : Nat → Prop} {v : Value} {La Lb : List It}
theorem Play.but {S : Nat → Prop} (h : Play w wr t r most O v La Lb) (k : But S wr w') (ho : ∀ z, O z → ¬ S z) (hr : ¬ S r) (hv : ∀ z, v.ownBlock = some z → ¬ S z) (hl : ∀ z, S z → w.heap.size ≤ z) : Play w w' t r most O v La Lb :=
  ⟨h.ti.but k ho, h.ri.but k hr hv, h.nr, h.nv, h.lo, h.lr, h.lv, h.be.trans ⟨k.os, k.tape, k.output, k.size, fun z hz => k.block z (by have := h.be.size; omega) (fun s => by have := hl z s; omega)⟩⟩
theorem Play.below (h : Play w wr t r most O v La Lb) (k : Below wr.heap.size wr w') : Play w w' t r most O v La Lb :=
  h.but (Below.but k (fun _ => False)) (fun _ _ z => z) (fun z => z) (fun _ _ z => z) (fun z s => s.elim)
theorem Play.vlt (h : Play w wr t r most O v La Lb) : ∀ k, v.ownBlock = some k → k < wr.heap.size := fun k hk => (World.ownsRow.lt h.ri.row k hk).2
theorem play_turn (h : Play w wr t r most O v La Lb) {L' : List It} (T : Turned wr w' w.heap.size t most O L') : ∃ O', Play w w' t r most O' v L' Lb ∧ But O wr w' := by
  obtain ⟨O', t1, t2, t3⟩ := T
  have hs := h.be.size
  refine ⟨O', ⟨t1, h.ri.but t2 h.nr h.nv, fun z => ?_, fun k hk z => ?_, fun k hk => ?_, h.lr, h.lv, h.be.trans ⟨t2.os, t2.tape, t2.output, t2.size, fun z hz => t2.block z (by omega) (fun y => by have := h.lo z y; omega)⟩⟩, t2⟩
  · rcases t3 r z with q | q
    · exact h.nr q
    · have := h.ri.lt; omega
  · rcases t3 k z with q | q
    · exact h.nv k hk q
    · have := h.vlt k hk; omega
  · rcases t3 k hk with q | q
    · exact h.lo k q
    · omega
theorem play_insT {x : It} (h : Play w wr t r most O v La Lb) : Calls Try.prog 9 #[.pointer (some ⟨t, 0, none⟩), .agg #[.int .i64 x.f, .int .i64 x.t, .int .i64 x.i]] wr fun e w' => e = .returned (.int .i64 (putA most x La).1) ∧ ∃ O', Play w w' t r most O' v (putA most x La).2 Lb ∧ But O wr w' := by
  refine (insert_is h.ti).mono ?_
  rintro e w' ⟨rfl, T⟩
  exact ⟨rfl, play_turn h T⟩
theorem play_delT {x : It} (h : Play w wr t r most O v La Lb) : Calls Try.prog 11 #[.pointer (some ⟨t, 0, none⟩), .agg #[.int .i64 x.f, .int .i64 x.t, .int .i64 x.i]] wr fun e w' => e = .returned (.int .i64 (delA x La).1) ∧ ∃ O', Play w w' t r most O' v (delA x La).2 Lb ∧ But O wr w' := by
  refine (delete_is h.ti).mono ?_
  rintro e w' ⟨rfl, T⟩
  exact ⟨rfl, play_turn h T⟩
theorem play_ref (h : Play w wr t r most O v La Lb) {v' : Value} {L' : List It} (hr : RefIs w' r most v' L') (k : But (· = r) wr w') (hv : v' = v ∨ ∀ z, v'.ownBlock = some z → wr.heap.size ≤ z) : Play w w' t r most O v' La L' := by
  have hs := h.be.size
  refine ⟨h.ti.but k (fun z hz e => h.nr (by rw [← e]; exact hz)), hr, h.nr, fun z hz => ?_, h.lo, h.lr, fun z hz => ?_, h.be.trans ⟨k.os, k.tape, k.output, k.size, fun z hz => k.block z (by omega) (fun e => by have := h.lr; omega)⟩⟩
  · rcases hv with rfl | hv
    · exact h.nv z hz
    · intro y; have := hv z hz; have := h.ti.lt z y; omega
  · rcases hv with rfl | hv
    · exact h.lv z hz
    · have := hv z hz; omega
theorem play_insR {x : It} (h : Play w wr t r most O v La Lb) (hs : Tr.Sorted Lb) (hl : Lb.length ≤ 100000) : Calls Try.prog 10 #[.pointer (some ⟨r, 0, none⟩), .agg #[.int .i64 x.f, .int .i64 x.t, .int .i64 x.i]] wr fun e w' => e = .returned (.int .i64 (putA most x Lb).1) ∧ ∃ v', Play w w' t r most O v' La (putA most x Lb).2 ∧ But (· = r) wr w' := by
  refine (rinsert_any h.ri hs hl).mono ?_
  rintro e w' ⟨v', rfl, q1, q2, q3⟩
  exact ⟨rfl, v', play_ref h q1 q2 q3, q2⟩
theorem play_delR {x : It} (h : Play w wr t r most O v La Lb) (hs : Tr.Sorted Lb) (hl : Lb.length ≤ 100000) : Calls Try.prog 12 #[.pointer (some ⟨r, 0, none⟩), .agg #[.int .i64 x.f, .int .i64 x.t, .int .i64 x.i]] wr fun e w' => e = .returned (.int .i64 (delA x Lb).1) ∧ ∃ v', Play w w' t r most O v' La (delA x Lb).2 ∧ But (· = r) wr w' := by
  refine (rdelete_any h.ri hs hl).mono ?_
  rintro e w' ⟨v', rfl, q1, q2, q3⟩
  exact ⟨rfl, v', play_ref h q1 q2 q3, q2⟩
end
theorem putA_lenM (most : Int) (x : It) (L : List It) : (putA most x L).2.length ≤ L.length + 1 := by
  unfold putA
  have := Tr.sorted_split x L
  have e := congrArg List.length this
  rw [List.length_append] at e
  repeat' split
  all_goals simp
  all_goals omega
theorem delA_len (x : It) (L : List It) : (delA x L).2.length ≤ L.length := by
  unfold delA
  have := Tr.sorted_split x L
  have e := congrArg List.length this
  rw [List.length_append] at e
  split <;> simp <;> omega
theorem rowT_at {w : World} {B g cap : Nat} {xs : List It} {i : Nat} {x : It} (h : RowT w B (.slice (some ⟨g, 0, none⟩) xs.length cap) xs) (hx : xs[i]? = some x) : w.cell? ⟨g, i * 3 + 1, none⟩ = some (.int .i64 x.t) := by
  have il := (List.getElem?_eq_some_iff.1 hx).1
  have := World.ownsRow.cellAt h (i * 3 + 1) (by omega)
  rw [this, flat_get It.cells 3 (fun _ => rfl) xs i 1 (by omega), hx]; rfl
/-- the document's Same, of a row with itself -/
theorem rowT_set {w : World} {B g cap : Nat} {xs : List It} {i : Nat} {x : It} (h : RowT w B (.slice (some ⟨g, 0, none⟩) xs.length cap) xs) (hx : xs[i]? = some x) (n : Int) :
    RowT (w.setCell ⟨g, i * 3 + 1, none⟩ (.int .i64 n)) B (.slice (some ⟨g, 0, none⟩) (xs.set i { x with t := n }).length cap) (xs.set i { x with t := n }) := by
  have := (World.ownsRow.stored h (i * 3 + 1) (.int .i64 n)).1
  have e : (xs.set i { x with t := n }).flatMap It.cells = (xs.flatMap It.cells).set (i * 3 + 1) (.int .i64 n) := (flat_set It.cells 3 (fun _ => rfl) xs i 1 (by omega) x { x with t := n } (.int .i64 n) hx rfl).symm
  unfold RowT
  rw [e, List.length_set]; exact this
set_option maxRecDepth 100000 in
theorem same_eq {va vb : Value} {L : List It} {w : World} (ha : ArgT w va L) (hb : ArgT w vb L) (hl : L.length ≤ 100000) : Calls Try.prog 16 #[va, vb] w fun e w' => e = .returned (.bool true) ∧ Below w.heap.size w w' := by
  obtain ⟨a1, cp1, rfl, hc1, ce1⟩ := ha
  obtain ⟨a2, cp2, rfl, hc2, ce2⟩ := hb
  have U1 : Hid (ArgT w (.slice a1 L.length cp1) L) := ⟨a1, cp1, rfl, hc1, ce1⟩
  have U2 : Hid (ArgT w (.slice a2 L.length cp2) L) := ⟨a2, cp2, rfl, hc2, ce2⟩
  have LL := Lib.hid hl
  clear hc1 hc2 ce1 ce2 hl
  go_enter Try.func16, Try.ntmps16
  go_wp2_with fail
  go_loopw [5] (fun i wr => ∃ k : Nat, i = .int .i64 (k : Int) ∧ k ≤ L.length ∧ Hid (Below w.heap.size w wr) ∧ Hid (ArgT wr (.slice a1 L.length cp1) L) ∧ Hid (ArgT wr (.slice a2 L.length cp2) L)) (fun i _ => L.length - (intOf i).toNat)
  case atStart => exact ⟨0, rfl, by omega, Below.refl _ _, U1.out, U2.out⟩
  case round =>
    obtain ⟨wo, rfl⟩ : ∃ wo : World, wo = wr := ⟨_, rfl⟩
    clear U1 U2
    obtain ⟨k, rfl, hk, BW, U1, U2⟩ := hrel
    by_cases hkl : k < L.length
    · obtain ⟨x, hx⟩ : ∃ x, L[k]? = some x := ⟨_, List.getElem?_eq_getElem hkl⟩
      have U1o := U1.out
      have U2o := U2.out
      obtain ⟨a1', cp1', ee1, _, hcells1⟩ := U1o
      obtain ⟨a2', cp2', ee2, _, hcells2⟩ := U2o
      simp only [Value.slice.injEq, true_and] at ee1 ee2
      obtain ⟨f1, f2⟩ := ee1
      obtain ⟨f3, f4⟩ := ee2
      subst f1; subst f2; subst f3; subst f4
      obtain ⟨b1, o1, rfl, hb1, c0, c1, c2⟩ := hcells1 k x hx
      obtain ⟨b2, o2, rfl, hb2, g0, g1, g2⟩ := hcells2 k x hx
      have V1 : Hid (ArgT wo (.slice (some ⟨b1, o1, none⟩) L.length cp1) L) := U1.out
      have V2 : Hid (ArgT wo (.slice (some ⟨b2, o2, none⟩) L.length cp2) L) := U2.out
      have i0 : (0 : Int) ≤ (k : Int) := by omega
      have i1 : (k : Int) < ((L.length : Nat) : Int) := by omega
      have HK := Lib.hid hkl
      have kw : IntKind.i64.wrap ((k : Int) + 1) = (k : Int) + 1 := by rw [IntWalk.i64_left]; exact IntWalk.wrap64_in _ (by have := LL.out; omega)
      clear hcells1 hcells2 hk hkl U1 U2 hx hb1 hb2
      go_upto_region 6 with fail
      go_quiet (fail)
      clear c0 c1 c2 g0 g1 g2
      go_wp2_with fail
      go_roundw
      case rel => exact ⟨k + 1, rfl, by have := HK.out; omega, bdN BW.out nq, V1.out.below (bdN (Below.refl _ _) nq), V2.out.below (bdN (Below.refl _ _) nq)⟩
      case measure => show _ - ((k : Int) + 1).toNat < _ - ((k : Int)).toNat; have := HK.out; omega
    · have hke : k = L.length := by omega
      subst hke
      clear hkl hk
      go_wp2_with fail
      go_ret
      exact ⟨rfl, BW.out⟩
end Go.Proofs.Ytpgmndbmcciniaa.Av
