/-
  corrodylaw11: same; walked, at rows that are alike; TIMELINES, plain: what three known puts leave.
-/
import Derived.Test.YtmgljgmfipodeaaM41
import Derived.BigQuiet
import Derived.Test.YtmgljgmfipodeaaM9
/-
  corrodylaw11: same; walked, at rows that are alike.
-/
namespace Go.Proofs.Ytmgljgmfipodeaa.Tl
open Go Go.RowKit Av Itr
set_option linter.unusedSimpArgs false
set_option linter.unusedVariables false
attribute [local go_sem ↓] Go.wp_at_zero Go.wp_at_succ

def rsegE : Elem Try.prog (Int × Int × Int) where
  sl := 44
  e := 43
  sz := 3
  bytes := 24
  z := .agg #[.int .i64 0, .int .i64 0, .int .i64 0]
  enc := fun x => [.int .i64 x.1, .int .i64 x.2.1, .int .i64 x.2.2]
  und := Try.underlying44
  info := by kernel_rfl
  zs := rfl
  pos := by decide
  len := fun _ => rfl
  one := fun x u hu => by simp only [List.mem_cons, List.not_mem_nil, or_false] at hu; rcases hu with rfl | rfl | rfl <;> rfl
theorem argG {w : World} {v : Value} {xs : List (Int × Int × Int)} (h : segE.Arg w v xs) : ∃ (ao : Option Addr) (cap : Nat), v = .slice ao xs.length cap ∧ ∀ (i : Nat) (x : Int × Int × Int), xs[i]? = some x → ∃ b o : Nat, ao = some ⟨b, o, none⟩ ∧ b < w.heap.size ∧
    w.cell? ⟨b, o + i * 3, none⟩ = some (.int .i64 x.1) ∧ w.cell? ⟨b, o + i * 3 + 1, none⟩ = some (.int .i64 x.2.1) ∧ w.cell? ⟨b, o + i * 3 + 2, none⟩ = some (.int .i64 x.2.2) := by
  obtain ⟨ao, cap, e, _, h⟩ := h
  refine ⟨ao, cap, e, fun i x hx => ?_⟩
  obtain ⟨b, o, h1, h2, h3⟩ := h i x hx
  exact ⟨b, o, h1, h2, h3 0 _ rfl, h3 1 _ rfl, h3 2 _ rfl⟩
theorem argR {w : World} {v : Value} {xs : List (Int × Int × Int)} (h : rsegE.Arg w v xs) : ∃ (ao : Option Addr) (cap : Nat), v = .slice ao xs.length cap ∧ ∀ (i : Nat) (x : Int × Int × Int), xs[i]? = some x → ∃ b o : Nat, ao = some ⟨b, o, none⟩ ∧ b < w.heap.size ∧
    w.cell? ⟨b, o + i * 3, none⟩ = some (.int .i64 x.1) ∧ w.cell? ⟨b, o + i * 3 + 1, none⟩ = some (.int .i64 x.2.1) ∧ w.cell? ⟨b, o + i * 3 + 2, none⟩ = some (.int .i64 x.2.2) := by
  obtain ⟨ao, cap, e, _, h⟩ := h
  refine ⟨ao, cap, e, fun i x hx => ?_⟩
  obtain ⟨b, o, h1, h2, h3⟩ := h i x hx
  exact ⟨b, o, h1, h2, h3 0 _ rfl, h3 1 _ rfl, h3 2 _ rfl⟩
set_option maxRecDepth 100000 in
set_option maxHeartbeats 1000000 in
theorem same_is {w : World} {va vb : Value} {xs : List (Int × Int × Int)} (ha : segE.Arg w va xs) (hb : rsegE.Arg w vb xs) (hl : xs.length ≤ 1000000) :
    Calls Try.prog 12 #[va, vb] w fun e w' => e = .returned (.bool true) ∧ Below w.heap.size w w' := by
  obtain ⟨aa, ca, rfl, h1⟩ := argG ha
  obtain ⟨ab, cb, rfl, h2⟩ := argR hb
  have HA := Lib.hid h1; have HB := Lib.hid h2; have HL := Lib.hid hl
  clear ha hb h1 h2 hl
  go_enter Try.func12, Try.ntmps12
  go_wp2_with fail
  go_loopw [13] (fun i wr => ∃ (k : Nat), i = .int .i64 (k : Int) ∧ k ≤ xs.length ∧ Hid (Below w.heap.size w wr)) (fun i _ => xs.length - (intOf i).toNat)
  case atStart => exact ⟨0, rfl, by omega, Below.refl _ _⟩
  case round =>
    obtain ⟨wo, rfl⟩ : ∃ wo : World, wo = wr := ⟨_, rfl⟩
    obtain ⟨k, rfl, hk, B⟩ := hrel
    by_cases hkl : k < xs.length
    · obtain ⟨x, hx⟩ : ∃ x, xs[k]? = some x := ⟨_, List.getElem?_eq_getElem hkl⟩
      obtain ⟨ba', oa, rfl, l1, c0, c1, c2⟩ := HA.out k x hx
      obtain ⟨bb, ob, rfl, l2, d0, d1, d2⟩ := HB.out k x hx
      have i0 : (0 : Int) ≤ (k : Int) := by omega
      have i1 : (k : Int) < ((xs.length : Nat) : Int) := by omega
      have c0' := (B.out.cell (p := ⟨ba', _, none⟩) l1).trans c0; have c1' := (B.out.cell (p := ⟨ba', _, none⟩) l1).trans c1; have c2' := (B.out.cell (p := ⟨ba', _, none⟩) l1).trans c2
      have d0' := (B.out.cell (p := ⟨bb, _, none⟩) l2).trans d0; have d1' := (B.out.cell (p := ⟨bb, _, none⟩) l2).trans d1; have d2' := (B.out.cell (p := ⟨bb, _, none⟩) l2).trans d2
      have HK := Lib.hid hkl
      have kw : IntKind.i64.wrap ((k : Int) + 1) = (k : Int) + 1 := by rw [IntWalk.i64_left]; exact IntWalk.wrap64_in _ (by have := HL.out; omega)
      clear hx hkl hk c0 c1 c2 d0 d1 d2
      go_upto_region 6 with fail
      go_quiet (fail)
      go_wp2_with fail
      go_roundw
      case rel => exact ⟨k + 1, rfl, by have := HK.out; omega, bdN B.out _⟩
      case measure => show _ - ((k : Int) + 1).toNat < _ - ((k : Int)).toNat; have := HK.out; omega
    · have hke : k = xs.length := by omega
      subst hke
      clear hkl hk
      go_wp2_with fail
      go_ret
      exact ⟨rfl, B.out⟩
end Go.Proofs.Ytmgljgmfipodeaa.Tl
/-
  TIMELINES, plain: what three known puts leave.
-/
namespace Go.Proofs.Ytmgljgmfipodeaa.Tl
open Av

def F0 : Int → Int := fun _ => 0
def F1 : Int → Int := upd (upd F0 3 7 5) 5 9 5
def F2 : Int → Int := upd F1 4 6 0
theorem F1_at (d : Int) : F1 d = if 3 ≤ d ∧ d < 9 then 5 else 0 := by
  unfold F1 upd F0
  repeat' split
  all_goals omega
theorem F2_at (d : Int) : F2 d = if (3 ≤ d ∧ d < 4) ∨ (6 ≤ d ∧ d < 9) then 5 else 0 := by
  unfold F2 upd
  rw [F1_at]
  repeat' split
  all_goals omega
section
variable {E L0 : List Int} {L : List It} {vals free : List Int}
theorem seg_f (hi : Inv E L vals free) {F : Int → Int} (hf : Fn L vals F) {x : It} (hx : x ∈ L) : F x.f ≠ 0 ∧ F (x.t - 1) ≠ 0 ∧ F x.f = va vals x.i ∧ x.f < x.t := by
  have h1 := (hi.id x hx).2.2
  have h2 := (hi.bd x hx).2.1
  have h3 := hf.1 x hx x.f (Int.le_refl _) h2
  have h4 := hf.1 x hx (x.t - 1) (by omega) (by omega)
  exact ⟨by rw [h3]; exact h1, by rw [h4]; exact h1, h3, h2⟩
theorem has_of {F : Int → Int} (hf : Fn L vals F) {d : Int} (hd : F d ≠ 0) : ∃ x ∈ L, x.f ≤ d ∧ d < x.t := by
  by_cases c : ∃ x ∈ L, x.f ≤ d ∧ d < x.t
  · exact c
  · exact absurd (hf.2 d fun x hx k => c ⟨x, hx, k⟩) hd
theorem same_day (hi : Inv E L vals free) {x y : It} (hx : x ∈ L) (hy : y ∈ L) {d : Int} (h1 : x.f ≤ d ∧ d < x.t) (h2 : y.f ≤ d ∧ d < y.t) : x = y := by
  by_cases e : x = y
  · exact e
  · have := hi.dis x hx y hy e; omega
theorem one_piece (hi : Inv E L vals free) (hf : Fn L vals F1) (hs : Sharp L F1) (so : Tr.Sorted L) : L.length = 1 := by
  have key : ∀ x ∈ L, x.f = 3 ∧ x.t = 9 := fun x hx => by
    obtain ⟨a, b, _, c⟩ := seg_f hi hf hx
    obtain ⟨p, q⟩ := hs x hx
    rw [F1_at] at a b p q
    rw [F1_at] at p q
    constructor <;> (repeat' split at a) <;> (repeat' split at b) <;> (repeat' split at p) <;> (repeat' split at q) <;> omega
  obtain ⟨x, hx, h1, h2⟩ := has_of hf (d := 3) (by rw [F1_at]; decide)
  have := sorted_ext L [x] so (by simp [Tr.Sorted]) (fun y => ⟨fun hy => by
    have a := key x hx; have b := key y hy
    rw [same_day hi hy hx (d := 3) (by omega) (by omega)]; simp, fun hy => by rw [List.mem_singleton.1 hy]; exact hx⟩)
  rw [this]; rfl
theorem two_pieces (hi : Inv E L vals free) (hf : Fn L vals F2) (hs : Sharp L F2) (so : Tr.Sorted L) : ∃ i j, L = [⟨3, 4, i⟩, ⟨6, 9, j⟩] ∧ va vals i = 5 ∧ va vals j = 5 := by
  have key : ∀ x ∈ L, (x.f = 3 ∧ x.t = 4) ∨ (x.f = 6 ∧ x.t = 9) := fun x hx => by
    obtain ⟨a, b, _, c⟩ := seg_f hi hf hx
    obtain ⟨p, q⟩ := hs x hx
    have m := hf.1 x hx
    by_cases k : x.f = 3
    · have : x.t ≤ 4 := by
        by_cases g : 4 < x.t
        · have e1 := m 4 (by omega) g
          have e2 := m 3 (by omega) (by omega)
          rw [F2_at] at e1 e2
          rw [if_neg (by omega)] at e1
          rw [if_pos (by omega)] at e2
          omega
        · omega
      left; omega
    · rw [F2_at] at a b p q
      rw [F2_at] at p q
      right
      have f6 : x.f = 6 := by
        (repeat' split at a) <;> (repeat' split at p) <;> omega
      refine ⟨f6, ?_⟩
      (repeat' split at b) <;> (repeat' split at q) <;> omega
  obtain ⟨x, hx, h1, h2⟩ := has_of hf (d := 3) (by rw [F2_at]; decide)
  obtain ⟨y, hy, h3, h4⟩ := has_of hf (d := 6) (by rw [F2_at]; decide)
  have kx := key x hx
  have ky := key y hy
  have vx := (seg_f hi hf hx).2.2.1
  have vy := (seg_f hi hf hy).2.2.1
  obtain ⟨xf, xt, i⟩ := x
  obtain ⟨yf, yt, j⟩ := y
  dsimp only at *
  obtain ⟨rfl, rfl⟩ : xf = 3 ∧ xt = 4 := by omega
  obtain ⟨rfl, rfl⟩ : yf = 6 ∧ yt = 9 := by omega
  refine ⟨i, j, ?_, by rw [← vx, F2_at]; decide, by rw [← vy, F2_at]; decide⟩
  refine sorted_ext L _ so (by simp [Tr.Sorted, It.lt]) (fun z => ⟨fun hz => ?_, fun hz => ?_⟩)
  · rcases key z hz with k | k
    · rw [same_day hi hz hx (d := 3) (by omega) (by show (3 : Int) ≤ 3 ∧ (3 : Int) < 4; omega)]; simp
    · rw [same_day hi hz hy (d := 6) (by omega) (by show (6 : Int) ≤ 6 ∧ (6 : Int) < 9; omega)]; simp
  · simp only [List.mem_cons, List.not_mem_nil, or_false] at hz
    rcases hz with rfl | rfl
    · exact hx
    · exact hy
end
theorem sharp_nil (F : Int → Int) : Sharp [] F := fun x hx => by cases hx
theorem known_segs {vals : List Int} {i j : Int} (hi : va vals i = 5) (hj : va vals j = 5) : (segs 10 vals [⟨3, 4, i⟩, ⟨6, 9, j⟩] (1, [])).2 = [(1, 3, 0), (3, 4, 5), (4, 6, 0), (6, 9, 5), (9, 10, 0)] := by
  unfold segs segs segs
  dsimp only
  rw [hi, hj]
  rfl
end Go.Proofs.Ytmgljgmfipodeaa.Tl
