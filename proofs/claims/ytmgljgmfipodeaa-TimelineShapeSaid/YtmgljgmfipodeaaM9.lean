/-
  TIMELINES, plain: the segments of a span; avl: side, height: what is read of the row of nodes.
-/
import Derived.Test.YtmgljgmfipodeaaM8
import Derived.Test.YtmgljgmfipodeaaM5
import Derived.Deep.DrawnRows
/-
  TIMELINES, plain: the segments of a span.
-/
namespace Go.Proofs.Ytmgljgmfipodeaa.Tl
open Av

def addS (st : Int × List (Int × Int × Int)) (to v : Int) : Int × List (Int × Int × Int) := if st.1 < to then (to, st.2 ++ [(st.1, to, v)]) else st
def segs (sT : Int) (vals : List Int) : List It → Int × List (Int × Int × Int) → Int × List (Int × Int × Int)
  | [], st => addS st sT 0
  | x :: xs, st => segs sT vals xs (addS (addS st x.f 0) (min x.t sT) (va vals x.i))
/-- side by side, neighbours unlike, each with the value of its first and its last day -/
def Row (F : Int → Int) : Int → Option Int → List (Int × Int × Int) → Int → Prop
  | at', _, [], e => at' = e
  | at', prev, y :: r, e => y.1 = at' ∧ y.1 < y.2.1 ∧ F y.1 = y.2.2 ∧ F (y.2.1 - 1) = y.2.2 ∧ prev ≠ some y.2.2 ∧ Row F y.2.1 (some y.2.2) r e
theorem Row.app {F : Int → Int} {e b v : Int} : ∀ {out : List (Int × Int × Int)} {a : Int} {prev : Option Int}, Row F a prev out e → (out = [] → prev ≠ some v) → (out ≠ [] → F (e - 1) ≠ v) → e < b → F e = v → F (b - 1) = v → Row F a prev (out ++ [(e, b, v)]) b
  | [], a, prev, h, h1, _, h3, h4, h5 => by
    have h : a = e := h
    subst h
    exact ⟨rfl, h3, h4, h5, h1 rfl, rfl⟩
  | y :: r, a, prev, h, _, h2, h3, h4, h5 => by
    obtain ⟨g1, g2, g3, g4, g5, g6⟩ := h
    refine ⟨g1, g2, g3, g4, g5, Row.app g6 (fun hr e2 => ?_) (fun _ => h2 (by simp)) h3 h4 h5⟩
    subst hr
    have e3 : y.2.1 = e := g6
    rw [e3] at g4
    simp only [Option.some.injEq] at e2
    exact h2 (by simp) (g4.trans e2)
theorem segs_row {sF sT : Int} {vals : List Int} {F : Int → Int} (hs : sF < sT) : ∀ (xs : List It) (at' : Int) (out : List (Int × Int × Int)),
    Row F sF none out at' → sF ≤ at' → at' ≤ sT → (out ≠ [] → F (at' - 1) ≠ 0) → (∀ d, at' ≤ d → d < sT → (∃ y ∈ xs, y.f ≤ d ∧ d < y.t) ∨ F d = 0) → (∀ y ∈ xs, at' ≤ y.f ∨ (out = [] ∧ at' = sF)) →
    (∀ y ∈ xs, y.f < sT ∧ sF < y.t ∧ y.f < y.t ∧ va vals y.i ≠ 0 ∧ (∀ d, y.f ≤ d → d < y.t → F d = va vals y.i) ∧ F (y.f - 1) ≠ F y.f) → xs.Pairwise (fun x y => x.t ≤ y.f) →
    Row F sF none (segs sT vals xs (at', out)).2 sT
  | [], a, out, h, h1, h2, h3, h4, _, _, _ => by
    unfold segs addS
    by_cases c : a < sT
    · rw [if_pos c]
      have z : ∀ d, a ≤ d → d < sT → F d = 0 := fun d k1 k2 => by
        rcases h4 d k1 k2 with ⟨y, hy, _⟩ | r
        · cases hy
        · exact r
      exact h.app (fun _ e => by cases e) h3 c (z a (Int.le_refl _) c) (z _ (by omega) (by omega))
    · rw [if_neg c]
      have : a = sT := by omega
      subst this; exact h
  | x :: xs, a, out, h, h1, h2, h3, h4, h5, h6, h7 => by
    obtain ⟨x1, x2, x3, x4, x5, x6⟩ := h6 x (.head _)
    obtain ⟨p1, p2⟩ := List.pairwise_cons.1 h7
    have xa := h5 x (.head _)
    -- the gap ahead of it, then it
    have key : ∀ (a1 : Int) (out1 : List (Int × Int × Int)), Row F sF none out1 a1 → x.f ≤ a1 → a1 < min x.t sT → sF ≤ a1 → (out1 ≠ [] → F (a1 - 1) ≠ va vals x.i) → Row F sF none (segs sT vals xs (addS (a1, out1) (min x.t sT) (va vals x.i))).2 sT := fun a1 out1 g1 g2 g3 g4 g5 => by
      have e : addS (a1, out1) (min x.t sT) (va vals x.i) = (min x.t sT, out1 ++ [(a1, min x.t sT, va vals x.i)]) := by unfold addS; rw [if_pos g3]
      rw [e]
      have fb : F (min x.t sT - 1) = va vals x.i := x5 _ (by omega) (by omega)
      refine segs_row hs xs _ _ (g1.app (fun _ e2 => by cases e2) g5 g3 (x5 a1 g2 (by omega)) fb) (by omega) (by omega) (fun _ => by rw [fb]; exact x4) (fun d k1 k2 => ?_) (fun y hy => .inl (by have := p1 y hy; omega)) (fun y hy => h6 y (.tail _ hy)) p2
      rcases h4 d (by omega) k2 with ⟨y, hy, r⟩ | r
      · rcases List.mem_cons.1 hy with rfl | hy
        · omega
        · exact .inl ⟨y, hy, r⟩
      · exact .inr r
    unfold segs
    by_cases c : a < x.f
    · have e : addS (a, out) x.f 0 = (x.f, out ++ [(a, x.f, 0)]) := by unfold addS; rw [if_pos c]
      rw [e]
      have z : ∀ d, a ≤ d → d < x.f → F d = 0 := fun d k1 k2 => by
        rcases h4 d k1 (by omega) with ⟨y, hy, r⟩ | r
        · rcases List.mem_cons.1 hy with rfl | hy
          · omega
          · have := p1 y hy; omega
        · exact r
      have z1 := z (x.f - 1) (by omega) (by omega)
      exact key _ _ (h.app (fun _ e2 => by cases e2) h3 c (z a (Int.le_refl _) c) z1) (Int.le_refl _) (by omega) (by omega) (fun _ => by rw [z1]; exact fun e2 => x4 e2.symm)
    · have e : addS (a, out) x.f 0 = (a, out) := by unfold addS; rw [if_neg c]
      rw [e]
      have ha : a < min x.t sT := by
        rcases xa with r | ⟨_, r⟩ <;> omega
      refine key a out h (by omega) ha h1 (fun ne => ?_)
      rcases xa with r | ⟨r, _⟩
      · have : a = x.f := by omega
        subst this
        rw [← x5 x.f (Int.le_refl _) x3]; exact x6
      · exact absurd r ne
end Go.Proofs.Ytmgljgmfipodeaa.Tl
/-
  avl: side, height: what is read of the row of nodes.
-/
namespace Go.Proofs.Ytmgljgmfipodeaa.Av
open Go Go.RowKit
set_option linter.unusedSimpArgs false
attribute [local go_sem ↓] Go.wp_at_zero Go.wp_at_succ

/-- a variable of type avl.Tree -/
def TAt (w : World) (b : Nat) (most : Int) (nv fv : Value) (root many : Int) : Prop := w.heap[b]? = some (.cells #[.int .i64 most, nv, fv, .int .i64 root, .int .i64 many] 64 (0, 0))
section
variable {w : World} {b : Nat} {most root many : Int} {nv fv : Value}
theorem TAt.lt (h : TAt w b most nv fv root many) : b < w.heap.size := (Array.getElem?_eq_some_iff.1 h).1
theorem TAt.c0 (h : TAt w b most nv fv root many) : w.cell? ⟨b, 0, none⟩ = some (.int .i64 most) := by rw [cell_of_row w _ _ _ _ (0, 0) h]; rfl
theorem TAt.c1 (h : TAt w b most nv fv root many) : w.cell? ⟨b, 1, none⟩ = some nv := by rw [cell_of_row w _ _ _ _ (0, 0) h]; rfl
theorem TAt.c2 (h : TAt w b most nv fv root many) : w.cell? ⟨b, 2, none⟩ = some fv := by rw [cell_of_row w _ _ _ _ (0, 0) h]; rfl
theorem TAt.c3 (h : TAt w b most nv fv root many) : w.cell? ⟨b, 3, none⟩ = some (.int .i64 root) := by rw [cell_of_row w _ _ _ _ (0, 0) h]; rfl
theorem TAt.c4 (h : TAt w b most nv fv root many) : w.cell? ⟨b, 4, none⟩ = some (.int .i64 many) := by rw [cell_of_row w _ _ _ _ (0, 0) h]; rfl
theorem TAt.f (h : TAt w b most nv fv root many) (i : Nat) : w.frozen? ⟨b, i, none⟩ = false := frozen_of_row w _ _ _ _ h
end
set_option maxRecDepth 100000 in
theorem side_any (b g cap p B : Nat) (ns : List Nd) (nd : Nd) (most root many : Int) (fv : Value) (r : Bool) (w : World) (hT : TAt w b most (.slice (some ⟨g, 0, none⟩) ns.length cap) fv root many)
    (hR : RowN 86 w B (.slice (some ⟨g, 0, none⟩) ns.length cap) ns) (hp : ns[p]? = some nd) :
    Calls Try.prog 38 #[.pointer (some ⟨b, 0, none⟩), .int .i64 (p : Int), .bool r] w fun e w' => e = .returned (.int .i64 (if r = true then nd.r else nd.l)) ∧ w' = w := by
  have c1 := hT.c1
  have hl := (List.getElem?_eq_some_iff.1 hp).1
  have i0 : (0 : Int) ≤ (p : Int) := by omega
  have i1 : (p : Int) < ((ns.length : Nat) : Int) := by omega
  have d3 := hR.cell p 3 nd (.int .i64 nd.l) hp (by omega) rfl
  have d4 := hR.cell p 4 nd (.int .i64 nd.r) hp (by omega) rfl
  clear hR hp
  cases r
  · go_enter Try.func38, Try.ntmps38
    go_wp2_with fail
    go_ret
    exact ⟨rfl, rfl⟩
  · go_enter Try.func38, Try.ntmps38
    go_wp2_with fail
    go_ret
    exact ⟨rfl, rfl⟩
set_option maxRecDepth 100000 in
theorem height_any (b g cap B : Nat) (ns : List Nd) (a : Int) (most root many : Int) (fv : Value) (w : World) (hT : TAt w b most (.slice (some ⟨g, 0, none⟩) ns.length cap) fv root many)
    (hR : RowN 86 w B (.slice (some ⟨g, 0, none⟩) ns.length cap) ns) (ha : a < 0 ∨ ∃ (p : Nat) (nd : Nd), a = (p : Int) ∧ ns[p]? = some nd) :
    Calls Try.prog 44 #[.pointer (some ⟨b, 0, none⟩), .int .i64 a] w fun e w' => e = .returned (.int .i64 (hOf ns a)) ∧ w' = w := by
  rcases ha with ha | ⟨p, nd, rfl, hp⟩
  · have e : hOf ns a = 0 := by unfold hOf; rw [if_pos ha]
    rw [e]
    have d1 : decide (a < 0) = true := by simpa using ha
    clear hT hR
    go_enter Try.func44, Try.ntmps44
    go_wp2_with fail
    go_ret
    exact ⟨rfl, rfl⟩
  · have e : hOf ns (p : Int) = nd.h := by unfold hOf; rw [if_neg (by omega), show ((p : Nat) : Int).toNat = p from rfl, hp]; rfl
    rw [e]
    have c1 := hT.c1
    have hl := (List.getElem?_eq_some_iff.1 hp).1
    have i0 : (0 : Int) ≤ (p : Int) := by omega
    have i1 : (p : Int) < ((ns.length : Nat) : Int) := by omega
    have d1 : ¬ ((p : Int) < 0) := by omega
    have d5 := hR.cell p 5 nd (.int .i64 nd.h) hp (by omega) rfl
    clear hR hp hT
    go_enter Try.func44, Try.ntmps44
    go_wp2_with fail
    go_ret
    exact ⟨rfl, rfl⟩
set_option maxRecDepth 100000 in
theorem hang_any (b g cap p B : Nat) (ns : List Nd) (nd : Nd) (most root many d : Int) (fv : Value) (r : Bool) (w : World) (hT : TAt w b most (.slice (some ⟨g, 0, none⟩) ns.length cap) fv root many)
    (hR : RowN 86 w B (.slice (some ⟨g, 0, none⟩) ns.length cap) ns) (hp : ns[p]? = some nd) :
    Calls Try.prog 39 #[.pointer (some ⟨b, 0, none⟩), .int .i64 (p : Int), .bool r, .int .i64 d] w fun e w' => e = .returned (.tuple #[]) ∧ w' = w.setCell ⟨g, p * 8 + (if r = true then 4 else 3), none⟩ (.int .i64 d) := by
  have c1 := hT.c1
  have hl := (List.getElem?_eq_some_iff.1 hp).1
  have i0 : (0 : Int) ≤ (p : Int) := by omega
  have i1 : (p : Int) < ((ns.length : Nat) : Int) := by omega
  have d3 := hR.cell p 3 nd (.int .i64 nd.l) hp (by omega) rfl
  have d4 := hR.cell p 4 nd (.int .i64 nd.r) hp (by omega) rfl
  have f3 := hR.frozen (p * 8 + 3)
  have f4 := hR.frozen (p * 8 + 4)
  clear hR hp
  cases r
  · go_enter Try.func39, Try.ntmps39
    go_wp2_with fail
    go_end0
    exact ⟨rfl, rfl⟩
  · go_enter Try.func39, Try.ntmps39
    go_wp2_with fail
    go_end0
    exact ⟨rfl, rfl⟩
/-- what hang leaves, as a row -/
theorem hang_row {w : World} {g cap p B : Nat} {ns : List Nd} {nd : Nd} {r : Bool} {d : Int} (hR : RowN 86 w B (.slice (some ⟨g, 0, none⟩) ns.length cap) ns) (hp : ns[p]? = some nd) :
    RowN 86 (w.setCell ⟨g, p * 8 + (if r = true then 4 else 3), none⟩ (.int .i64 d)) B (.slice (some ⟨g, 0, none⟩) (hangN ns p r d).length cap) (hangN ns p r d) := by
  unfold hangN
  rw [upd_some _ hp]
  cases r
  · exact hR.store p 3 nd { nd with l := d } (.int .i64 d) hp (by omega) rfl
  · exact hR.store p 4 nd { nd with r := d } (.int .i64 d) hp (by omega) rfl
end Go.Proofs.Ytmgljgmfipodeaa.Av
