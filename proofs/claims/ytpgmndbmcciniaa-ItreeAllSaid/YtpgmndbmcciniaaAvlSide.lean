/-
  avl: side, height: what is read of the row of nodes.
-/
import Derived.Test.YtpgmndbmcciniaaAvlSeq
import Derived.Deep.DrawnRows
namespace Go.Proofs.Ytpgmndbmcciniaa.Av
open Go Go.RowKit
set_option linter.unusedSimpArgs false
attribute [local go_sem ↓] Go.wp_at_zero Go.wp_at_succ

/-- a variable of type avl.Tree -/
def TAt (w : World) (b : Nat) (most : Int) (nv fv : Value) (root many : Int) : Prop := w.heap[b]? = some (.cells #[.int .i64 most, nv, fv, .int .i64 root, .int .i64 many] 46 (0, 0))
section
variable {w : World} {b : Nat} {most root many : Int} {nv fv : Value}
theorem TAt.lt (h : TAt w b most nv fv root many) : b < w.heap.size := (Array.getElem?_eq_some_iff.1 h).1
theorem TAt.c0 (h : TAt w b most nv fv root many) : w.cell? ⟨b, 0, none⟩ = some (.int .i64 most) := by rw [cell_of_row w _ _ _ _ (0, 0) h]; rfl
theorem TAt.c1 (h : TAt w b most nv fv root many) : w.cell? ⟨b, 1, none⟩ = some nv := by rw [cell_of_row w _ _ _ _ (0, 0) h]; rfl
theorem TAt.c2 (h : TAt w b most nv fv root many) : w.cell? ⟨b, 2, none⟩ = some fv := by rw [cell_of_row w _ _ _ _ (0, 0) h]; rfl
theorem TAt.c3 (h : TAt w b most nv fv root many) : w.cell? ⟨b, 3, none⟩ = some (.int .i64 root) := by rw [cell_of_row w _ _ _ _ (0, 0) h]; rfl
theorem TAt.c4 (h : TAt w b most nv fv root many) : w.cell? ⟨b, 4, none⟩ = some (.int .i64 many) := by rw [cell_of_row w _ _ _ _ (0, 0) h]; rfl
theorem TAt.f (h : TAt w b most nv fv root many) (i : Nat) : w.frozen? ⟨b, i, none⟩ = false := frozen_of_row w _ _ _ _ h
end
set_option maxRecDepth 100000 in
theorem side_any (b g cap p B : Nat) (ns : List Nd) (nd : Nd) (most root many : Int) (fv : Value) (r : Bool) (w : World) (hT : TAt w b most (.slice (some ⟨g, 0, none⟩) ns.length cap) fv root many)
    (hR : RowN 68 w B (.slice (some ⟨g, 0, none⟩) ns.length cap) ns) (hp : ns[p]? = some nd) :
    Calls Try.prog 38 #[.pointer (some ⟨b, 0, none⟩), .int .i64 (p : Int), .bool r] w fun e w' => e = .returned (.int .i64 (if r = true then nd.r else nd.l)) ∧ w' = w := by
  have c1 := hT.c1
  have hl := (List.getElem?_eq_some_iff.1 hp).1
  have i0 : (0 : Int) ≤ (p : Int) := by omega
  have i1 : (p : Int) < ((ns.length : Nat) : Int) := by omega
  have d3 := hR.cell p 3 nd (.int .i64 nd.l) hp (by omega) rfl
  have d4 := hR.cell p 4 nd (.int .i64 nd.r) hp (by omega) rfl
  clear hR hp
  cases r
  · go_enter Try.func38, Try.ntmps38
    go_wp2_with fail
    go_ret
    exact ⟨rfl, rfl⟩
  · go_enter Try.func38, Try.ntmps38
    go_wp2_with fail
    go_ret
    exact ⟨rfl, rfl⟩
set_option maxRecDepth 100000 in
theorem height_any (b g cap B : Nat) (ns : List Nd) (a : Int) (most root many : Int) (fv : Value) (w : World) (hT : TAt w b most (.slice (some ⟨g, 0, none⟩) ns.length cap) fv root many)
    (hR : RowN 68 w B (.slice (some ⟨g, 0, none⟩) ns.length cap) ns) (ha : a < 0 ∨ ∃ (p : Nat) (nd : Nd), a = (p : Int) ∧ ns[p]? = some nd) :
    Calls Try.prog 47 #[.pointer (some ⟨b, 0, none⟩), .int .i64 a] w fun e w' => e = .returned (.int .i64 (hOf ns a)) ∧ w' = w := by
  rcases ha with ha | ⟨p, nd, rfl, hp⟩
  · have e : hOf ns a = 0 := by unfold hOf; rw [if_pos ha]
    rw [e]
    have d1 : decide (a < 0) = true := by simpa using ha
    clear hT hR
    go_enter Try.func47, Try.ntmps47
    go_wp2_with fail
    go_ret
    exact ⟨rfl, rfl⟩
  · have e : hOf ns (p : Int) = nd.h := by unfold hOf; rw [if_neg (by omega), show ((p : Nat) : Int).toNat = p from rfl, hp]; rfl
    rw [e]
    have c1 := hT.c1
    have hl := (List.getElem?_eq_some_iff.1 hp).1
    have i0 : (0 : Int) ≤ (p : Int) := by omega
    have i1 : (p : Int) < ((ns.length : Nat) : Int) := by omega
    have d1 : ¬ ((p : Int) < 0) := by omega
    have d5 := hR.cell p 5 nd (.int .i64 nd.h) hp (by omega) rfl
    clear hR hp hT
    go_enter Try.func47, Try.ntmps47
    go_wp2_with fail
    go_ret
    exact ⟨rfl, rfl⟩
set_option maxRecDepth 100000 in
theorem hang_any (b g cap p B : Nat) (ns : List Nd) (nd : Nd) (most root many d : Int) (fv : Value) (r : Bool) (w : World) (hT : TAt w b most (.slice (some ⟨g, 0, none⟩) ns.length cap) fv root many)
    (hR : RowN 68 w B (.slice (some ⟨g, 0, none⟩) ns.length cap) ns) (hp : ns[p]? = some nd) :
    Calls Try.prog 39 #[.pointer (some ⟨b, 0, none⟩), .int .i64 (p : Int), .bool r, .int .i64 d] w fun e w' => e = .returned (.tuple #[]) ∧ w' = w.setCell ⟨g, p * 8 + (if r = true then 4 else 3), none⟩ (.int .i64 d) := by
  have c1 := hT.c1
  have hl := (List.getElem?_eq_some_iff.1 hp).1
  have i0 : (0 : Int) ≤ (p : Int) := by omega
  have i1 : (p : Int) < ((ns.length : Nat) : Int) := by omega
  have d3 := hR.cell p 3 nd (.int .i64 nd.l) hp (by omega) rfl
  have d4 := hR.cell p 4 nd (.int .i64 nd.r) hp (by omega) rfl
  have f3 := hR.frozen (p * 8 + 3)
  have f4 := hR.frozen (p * 8 + 4)
  clear hR hp
  cases r
  · go_enter Try.func39, Try.ntmps39
    go_wp2_with fail
    go_end0
    exact ⟨rfl, rfl⟩
  · go_enter Try.func39, Try.ntmps39
    go_wp2_with fail
    go_end0
    exact ⟨rfl, rfl⟩
/-- what hang leaves, as a row -/
theorem hang_row {w : World} {g cap p B : Nat} {ns : List Nd} {nd : Nd} {r : Bool} {d : Int} (hR : RowN 68 w B (.slice (some ⟨g, 0, none⟩) ns.length cap) ns) (hp : ns[p]? = some nd) :
    RowN 68 (w.setCell ⟨g, p * 8 + (if r = true then 4 else 3), none⟩ (.int .i64 d)) B (.slice (some ⟨g, 0, none⟩) (hangN ns p r d).length cap) (hangN ns p r d) := by
  unfold hangN
  rw [upd_some _ hp]
  cases r
  · exact hR.store p 3 nd { nd with l := d } (.int .i64 d) hp (by omega) rfl
  · exact hR.store p 4 nd { nd with r := d } (.int .i64 d) hp (by omega) rfl
end Go.Proofs.Ytpgmndbmcciniaa.Av
