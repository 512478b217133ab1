/-
  PLAIN LAWS of the reference's division (no Go in sight), and the step law of an append in a region that draws its order.
-/
import Derived.Test.YtbcnbahfjpgmaaaDoorM18
import Derived.Deep.RegionLaw
/-
  PLAIN LAWS of the reference's division (no Go in sight), and the step law of an append in a region that draws its order.
-/
namespace Go.Proofs.YtbcnbahfjpgmaaaDoor
open Go.RowKit

namespace Nm
/-- one place more: x is what stood there, R what was left, Q the places above -/
theorem down_step (V Q R x y q : Nat) (h : V = Q * y + R) (hq : q = (x + 1000 * R) / y) (_hy : 0 < y) : x + 1000 * V = (q + 1000 * Q) * y + (x + 1000 * R - q * y) := by
  have a : q * y ≤ x + 1000 * R := by rw [hq]; exact Nat.div_mul_le_self _ _
  rw [Nat.add_mul, h, Nat.mul_add, Nat.mul_assoc]; omega
theorem down_left (R x y q : Nat) (hq : q = (x + 1000 * R) / y) (hy : 0 < y) : x + 1000 * R - q * y < y := by
  have := Nat.mod_lt (x + 1000 * R) hy
  have e := Nat.div_add_mod (x + 1000 * R) y
  rw [Nat.mul_comm, ← hq] at e; omega
theorem down_digit (R x y : Nat) (hR : R < y) (hx : x < 1000) (hy : 0 < y) : (x + 1000 * R) / y < 1000 := by
  rw [Nat.div_lt_iff_lt_mul hy]
  have : 1000 * (R + 1) ≤ 1000 * y := Nat.mul_le_mul_left _ hR
  omega
theorem down_found (A y l : Nat) (h1 : l * y ≤ A) (h2 : A < (l + 1) * y) : l = A / y := by
  have hy : 0 < y := by
    rcases Nat.eq_zero_or_pos y with e | e
    · subst e; simp at h2
    · exact e
  have a := (Nat.le_div_iff_mul_le hy).2 h1
  have b := (Nat.div_lt_iff_lt_mul hy).2 h2
  omega
theorem drop_set (l : List Nat) (i d : Nat) (h : i < l.length) : val ((l.set i d).drop i) = d + 1000 * val (l.drop (i + 1)) := by
  have e : (l.set i d)[i]? = some d := by rw [List.getElem?_set_self h]
  rw [val_drop _ _ _ e, List.drop_set_of_lt (by omega)]
end Nm

theorem down_pos (x : Int) (y n : Nat) (h : 0 ≤ x) (hn : x.natAbs = n) : x / (y : Int) = ((n / y : Nat) : Int) ∧ x % (y : Int) = ((n % y : Nat) : Int) := by
  have e : x = (n : Int) := by omega
  subst e
  exact ⟨(Int.natCast_ediv n y).symm, (Int.natCast_emod n y).symm⟩
theorem down_neg0 (x : Int) (y n : Nat) (h : x < 0) (hn : x.natAbs = n) (hr : n % y = 0) : x / (y : Int) = -((n / y : Nat) : Int) ∧ x % (y : Int) = 0 := by
  have e : x = -(n : Int) := by omega
  subst e
  have hd : (y : Int) ∣ (n : Int) := Int.natCast_dvd_natCast.2 (Nat.dvd_of_mod_eq_zero hr)
  refine ⟨?_, ?_⟩
  · rw [Int.neg_ediv_of_dvd hd]; rfl
  · exact Int.emod_eq_zero_of_dvd (Int.dvd_neg.mpr hd)
theorem down_neg1 (x : Int) (y n : Nat) (h : x < 0) (hn : x.natAbs = n) (hy : 0 < y) (hr : n % y ≠ 0) : x / (y : Int) = -((n / y : Nat) : Int) - 1 ∧ x % (y : Int) = (y : Int) - ((n % y : Nat) : Int) := by
  have e : x = -(n : Int) := by omega
  have d := Nat.div_add_mod n y
  have l := Nat.mod_lt n hy
  have key : x = (y : Int) * (-((n / y : Nat) : Int) - 1) + ((y : Int) - ((n % y : Nat) : Int)) := by
    rw [e, Int.mul_sub, Int.mul_neg, ← Int.natCast_mul]; omega
  have u := Int.ediv_emod_unique (a := x) (b := (y : Int)) (r := (y : Int) - ((n % y : Nat) : Int)) (q := -((n / y : Nat) : Int) - 1) (by omega)
  exact u.2 ⟨by omega, by omega, by omega⟩

/-- append(l, r...) to a row of the call's own, at a step of a region that draws its order -/
theorem step_app {ops : Array Oper} {o : Oper} {a : Act} {w : World} {K : Act → World → Prop} {Q : Exit → Act → World → Prop} {E : Prop} (hgd : o.guard = none) (s x : Operand)
    (ho : o.op = .call { callee := .builtin .append, args := #[s, x], argTypes := #[34, 34] }) (B : Nat) (v vs : Value) (ds rs : List Nat) (hs : a.eval s = v) (hx : a.eval x = vs)
    (hown : RowB w B v ds) (hsrc : RowW w vs rs) (h1 : ds.length ≤ 100000) (h2 : rs.length ≤ 100000) (hB : B ≤ w.heap.size)
    (h : ∀ v' w', RowB w' B v' (ds ++ rs) → Below B w w' → K (a.put o.dst v') w') :
    if Region.wanted o (yielded ops a.tmps) = true then Oper.wp Tryd.prog o a w K Q else E := by
  have hw : Region.wanted o (yielded ops a.tmps) = true := by simp [Region.wanted, hgd]
  rw [if_pos hw]
  obtain ⟨i0, hi, hz0, hz1, hz2⟩ := info_parts info_int
  rcases hsrc.2 with ⟨rfl, hn⟩ | ⟨g, cap, cur, rfl, h0, hg, hnc, hcm, hcs, ht⟩
  · have e : rs = [] := List.eq_nil_of_length_eq_zero hn
    subst e
    have hrun := run_append_owned_none (P := Tryd.prog) (w := w) B 34 o.type 3 i0 1 Tryd.underlying34 hi v ds.length _ hown
    unfold Oper.wp
    simp [execOp, ho, resolve, invoke, builtin, hs, hx, hrun, Result.andThen]
    exact h _ _ (by simpa using hown) (Below.refl _ _)
  · refine wp_append_own _ s x _ ho B 3 i0 (.int .i64 0) 1 8 Tryd.underlying34 hi hz0 hz1 hz2 rfl (by decide) v ds.length _ hs hown ⟨g, 0, none⟩ rs.length cap (rs.map dv) hx (by simp) ?_ ?_ ?_ ?_ hB ?_
    · intro j u hu
      have := World.ownsRow.cells hsrc rfl j u hu
      exact this
    · intro u hu; simp at hu; obtain ⟨d, _, rfl⟩ := hu; rfl
    · simp only [maxLen]; omega
    · omega
    · intro v' w' k1 k2 _
      refine h v' w' ?_ ((Below.refl _ _).grown k2 hB ?_)
      · unfold RowB; rw [List.length_append, List.map_append]; exact k1
      · intro k hk; exact (World.ownsRow.lt hown k hk).1

theorem rowB_lit (w : World) (d : Nat) (n : Int) (h : n = (d : Int)) : RowB (w.alloc (.cells #[.int .i64 n] 3)) w.heap.size (.slice (some ⟨w.heap.size, 0, none⟩) 1 1) [d] := by
  subst h
  exact World.ownsRow_lit w #[.int .i64 (d : Int)] 1 (Nat.le_refl _) (by decide) rfl
theorem num_row {k : Nat} {w : World} {b : Bool} {a : Option Addr} {n cap : Nat} {z : Int} (h : Num k w (.agg #[.bool b, .slice a n cap]) z) : ∃ ds, RowW w (.slice a n cap) ds ∧ Nm.Canon ds ∧ Nm.val ds = z.natAbs ∧ ds.length ≤ k ∧ ds.length = n ∧ decide (z < 0) = b := by
  obtain ⟨s, ds, e, hr, hc, hv, hk⟩ := h
  simp at e
  obtain ⟨e1, rfl⟩ := e
  obtain ⟨a', cap', e2, _⟩ := rowW_form hr
  simp at e2
  exact ⟨ds, hr, hc, hv, hk, e2.2.1.symm, e1.symm⟩
/-- a store into another block than the number's row -/
theorem num_far {k : Nat} {w : World} {b : Bool} {a : Option Addr} {n cap : Nat} {z : Int} (h : Num k w (.agg #[.bool b, .slice a n cap]) z) {p : Addr} (hp : ∀ g, a = some ⟨g, 0, none⟩ → g ≠ p.block) (u : Value) : Num k (w.setCell p u) (.agg #[.bool b, .slice a n cap]) z := by
  obtain ⟨s, ds, e, hr, hc, hv, hk⟩ := h
  refine ⟨s, ds, e, ?_, hc, hv, hk⟩
  simp at e
  obtain ⟨_, rfl⟩ := e
  refine ⟨hr.1, ?_⟩
  rcases hr.2 with hn | ⟨g, cap', cur, e2, h0, hg, rest⟩
  · exact .inl hn
  · refine .inr ⟨g, cap', cur, e2, h0, ?_, rest⟩
    simp at e2
    rw [Below.heap_setCell _ _ _ _ (hp g e2.1)]; exact hg
theorem rowB_far {w : World} {B : Nat} {a : Option Addr} {n cap : Nat} {ds : List Nat} (h : RowB w B (.slice a n cap) ds) : ∀ g, a = some ⟨g, 0, none⟩ → B ≤ g := by
  intro g e
  rcases h.2 with ⟨e2, _⟩ | ⟨g', _, _, e2, h0, _⟩
  · simp at e2; rw [e] at e2; simp at e2
  · simp at e2; rw [e] at e2; simp at e2; omega
theorem cmp_c (k1 k2 : Nat) (va vb : Value) (x y c : Int) (w : World) (ha : Num k1 w va x) (hb : Num k2 w vb y) (l1 : k1 ≤ 10000) (l2 : k2 ≤ 10000) (hc : cmpZ x y = c) :
    Calls Tryd.prog 33 #[va, vb] w (IntPost c w) := by
  rw [← hc]; exact cmp_any k1 k2 va vb x y w ha hb l1 l2
theorem cmpZ_le (x y c : Int) (h : cmpZ x y = c) : c ≤ 0 ↔ x ≤ y := by
  subst h; unfold cmpZ; split
  · omega
  · split <;> omega

theorem down_qr (n q R Y : Nat) (h : n = q * Y + R) (hR : R < Y) : n / Y = q ∧ n % Y = R := by
  subst h
  constructor
  · rw [Nat.mul_comm, Nat.mul_add_div (by omega), Nat.div_eq_of_lt hR]; rfl
  · rw [Nat.mul_comm, Nat.mul_add_mod, Nat.mod_eq_of_lt hR]
theorem two_out {W : World} {p q : Nat} {a0 a1 b0 b1 : Value} (u0 u1 v0 v1 : Value) (h : BoxAt W p a0 a1) (k : BoxAt W q b0 b1) (hpq : p ≠ q) {n : Nat} {v : Value} {z : Int} (hv : Num n W v z) :
    Num n ((((W.setCell ⟨p, 0, none⟩ u0).setCell ⟨p, 1, none⟩ u1).setCell ⟨q, 0, none⟩ v0).setCell ⟨q, 1, none⟩ v1) v z :=
  num_set2 _ _ (num_set2 _ _ hv h) (boxAt_set_other _ _ (boxAt_set_other _ _ k (fun e => hpq e.symm)) (fun e => hpq e.symm))
theorem two_below {w W : World} {p q : Nat} (u0 u1 v0 v1 : Value) (h : Below w.heap.size w W) (hp : w.heap.size ≤ p) (hq : w.heap.size ≤ q) :
    Below w.heap.size w ((((W.setCell ⟨p, 0, none⟩ u0).setCell ⟨p, 1, none⟩ u1).setCell ⟨q, 0, none⟩ v0).setCell ⟨q, 1, none⟩ v1) :=
  (((h.setCell hp _).setCell hp _).setCell hq _).setCell hq _
theorem num_drew {n : Nat} {W : World} {v : Value} {z : Int} (h : Num n W v z) : Num n W.drew v z := num_below h ((Below.refl _ _).drew)
end Go.Proofs.YtbcnbahfjpgmaaaDoor
