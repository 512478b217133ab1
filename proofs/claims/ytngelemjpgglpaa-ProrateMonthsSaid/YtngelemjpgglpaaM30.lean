/-
  PRORATE, plain: the shares as they are told one by one; A REGION THAT DRAWS, IN A ROUND OF A RANGE OVER A FUNCTION: walked by the plain rules ('wpAny', 'wpAnyH', 'wpList'), carried into the round's fence.
-/
import Derived.Test.YtngelemjpgglpaaM14
import Derived.Test.YtngelemjpgglpaaM26
import Derived.Test.YtngelemjpgglpaaM24
import Derived.OrdersIn
import Derived.TacticsIn
import Derived.Sort.CutIn
/-
  PRORATE, plain: the shares as they are told one by one.
-/
namespace Go.Proofs.Ytngelemjpgglpaa.Pro
open Go.RowKit
/-- a sum that is told -/
abbrev Sm := {x : Nat // x ≤ 3652059}
def lowN (u : Int) (al x : Nat) : Int := u * (x : Int) / (al : Int)
def rowG (u : Int) (al s : Nat) : Nat → List Nat → List (Int × Nat)
  | _, [] => []
  | y, x :: xs => trim (lowN u al x - lowN u al y) s :: rowG u al s x xs
theorem rowG_len (u : Int) (al s : Nat) : ∀ (xs : List Nat) (y : Nat), (rowG u al s y xs).length = xs.length
  | [], _ => rfl
  | x :: xs, _ => by rw [rowG, List.length_cons, rowG_len u al s xs x, List.length_cons]
theorem lastD_cons (x y : Nat) (xs : List Nat) : (x :: xs).getLastD y = xs.getLastD x := by cases xs <;> rfl
theorem rowG_append (u : Int) (al s : Nat) : ∀ (a b : List Nat) (y : Nat), rowG u al s y (a ++ b) = rowG u al s y a ++ rowG u al s (a.getLastD y) b
  | [], _, _ => rfl
  | x :: a, b, y => by rw [List.cons_append, rowG, rowG, rowG_append u al s a b x, List.cons_append, lastD_cons]
theorem rowG_snoc (u : Int) (al s y x : Nat) (a : List Nat) : rowG u al s y (a ++ [x]) = rowG u al s y a ++ [trim (lowN u al x - lowN u al (a.getLastD y)) s] := by
  rw [rowG_append]; rfl
def lastN (l : List Sm) : Nat := (l.map (·.1)).getLastD 0
theorem lastN_snoc (l : List Sm) (x : Sm) : lastN (l ++ [x]) = x.1 := by unfold lastN; rw [List.map_append, List.getLastD_eq_getLast?, List.map_singleton, List.getLast?_append]; rfl
theorem lastN_le (l : List Sm) : lastN l ≤ 3652059 := by
  unfold lastN
  rw [List.getLastD_eq_getLast?, List.getLast?_map]
  cases l.getLast? with
  | none => simp
  | some x => exact x.2
/-- the row that is told of some sums -/
def rowS (u : Int) (al s : Nat) (l : List Sm) : List (Int × Nat) := rowG u al s 0 (l.map (·.1))
theorem rowS_len (u : Int) (al s : Nat) (l : List Sm) : (rowS u al s l).length = l.length := by unfold rowS; rw [rowG_len, List.length_map]
theorem rowS_snoc (u : Int) (al s : Nat) (l : List Sm) (x : Sm) : rowS u al s (l ++ [x]) = rowS u al s l ++ [trim (lowN u al x.1 - lowN u al (lastN l)) s] := by
  unfold rowS lastN; rw [List.map_append, List.map_singleton, rowG_snoc]
def fitS (l : List (Int × Nat)) : Prop := ∀ p ∈ l, fits p.1
theorem fitS_snoc (l : List (Int × Nat)) (p : Int × Nat) : fitS (l ++ [p]) ↔ fitS l ∧ fits p.1 := by unfold fitS; simp [or_imp, forall_and]
theorem fitS_prefix {u : Int} {al s : Nat} {a b : List Sm} (h : a <+: b) (hf : fitS (rowS u al s b)) : fitS (rowS u al s a) := by
  obtain ⟨c, rfl⟩ := h
  unfold rowS at hf ⊢
  rw [List.map_append, rowG_append] at hf
  exact fun p hp => hf p (List.mem_append_left _ hp)
theorem low_eq (u : Int) (al : Nat) (ws : List Int) (k x : Nat) (hx : (x : Int) = pre ws k) : lowN u al x = low u al ws k := by unfold lowN low; rw [hx]
/-- the sums of some weights -/
theorem sums_sm {ws : List Int} (h : ∀ x ∈ ws, okW x) (hs : ws.sum ≤ 3652059) : ∃ L : List Sm, L.map (fun x => (x.1 : Int)) = sumsL ws := by
  refine ⟨(List.range ws.length).map fun i => ⟨(pre ws (i + 1)).toNat, ?_⟩, ?_⟩
  · have h1 := (pre_bound h (i + 1)).1
    have h2 := pre_mono h (show i + 1 ≤ i + 1 + ws.length by omega)
    rw [pre_all ws (k := i + 1 + ws.length) (by omega)] at h2
    omega
  · rw [List.map_map]
    unfold sumsL
    refine List.map_congr_left fun i _ => ?_
    have h1 := (pre_bound h (i + 1)).1
    show (((pre ws (i + 1)).toNat : Nat) : Int) = _
    omega
theorem rowS_take {u : Int} {al s : Nat} {ws : List Int} {L : List Sm} (hL : L.map (fun x => (x.1 : Int)) = sumsL ws) : ∀ k, k ≤ ws.length → rowS u al s (L.take k) = rowA u al s ws k ∧ ((lastN (L.take k) : Nat) : Int) = pre ws k := by
  have hl : L.length = ws.length := by rw [← sumsL_len ws, ← hL, List.length_map]
  intro k
  induction k with
  | zero => intro _; exact ⟨rfl, by rw [pre_zero]; rfl⟩
  | succ k ih =>
    intro hk
    obtain ⟨i1, i2⟩ := ih (by omega)
    obtain ⟨y, hy⟩ : ∃ y, L[k]? = some y := ⟨_, List.getElem?_eq_getElem (by omega)⟩
    have hfy : (y.1 : Int) = pre ws (k + 1) := by
      have h1 : (L.map (fun x => (x.1 : Int)))[k]? = some (y.1 : Int) := by rw [List.getElem?_map, hy]; rfl
      rw [hL, sumsL_get (by omega)] at h1
      exact (Option.some.inj h1).symm
    rw [List.take_add_one, hy]
    show rowS u al s (L.take k ++ [y]) = _ ∧ ((lastN (L.take k ++ [y]) : Nat) : Int) = _
    rw [rowS_snoc, lastN_snoc, i1, rowA]
    refine ⟨?_, hfy⟩
    rw [low_eq u al ws (k + 1) y.1 hfy, low_eq u al ws k _ i2]
    rfl
theorem rowS_all {u : Int} {al s : Nat} {ws : List Int} {L : List Sm} (hL : L.map (fun x => (x.1 : Int)) = sumsL ws) : rowS u al s L = rowA u al s ws ws.length := by
  have hl : L.length = ws.length := by rw [← sumsL_len ws, ← hL, List.length_map]
  have := (rowS_take (u := u) (al := al) (s := s) hL ws.length (Nat.le_refl _)).1
  rwa [List.take_of_length_le (by omega)] at this
theorem fitS_rowA {u all : Int} {s : Nat} {ws : List Int} : ∀ k, fitS (rowA u all s ws k) ↔ allFit u all s ws k
  | 0 => by unfold fitS allFit rowA; simp
  | k + 1 => by
    rw [rowA, fitS_snoc, fitS_rowA k]
    unfold allFit
    constructor
    · rintro ⟨h1, h2⟩ i hi
      by_cases e : i = k
      · subst e; exact h2
      · exact h1 i (by omega)
    · intro h
      exact ⟨fun i hi => h i (by omega), h k (by omega)⟩
/-- bounds: all of it stays below what two words bear -/
theorem low_abs {u : Int} {al x : Nat} (hu : u.natAbs ≤ 9223372036854775808000000000) (ha : 0 < al) (hx : x ≤ 3652059) : (u * (x : Int)).natAbs ≤ 9223372036854775808000000000 * 3652059 ∧ (lowN u al x).natAbs ≤ 9223372036854775808000000000 * 3652059 := by
  have h1 : (u * (x : Int)).natAbs ≤ 9223372036854775808000000000 * 3652059 := by
    rw [Int.natAbs_mul]
    exact Nat.mul_le_mul hu (by simpa using hx)
  refine ⟨h1, Nat.le_trans ?_ h1⟩
  exact (evenZ_abs (u * (x : Int)) al ha).2
theorem units_abs (c : Int) (j : Nat) (hc : fits c) (hj : j ≤ 9) : (c * ((10 ^ j : Nat) : Int)).natAbs ≤ 9223372036854775808000000000 := by
  rw [Int.natAbs_mul]
  have h1 : c.natAbs ≤ 9223372036854775808 := by have h := hc; unfold fits at h; omega
  have h2 : (((10 ^ j : Nat) : Int)).natAbs ≤ 1000000000 := by
    rw [show (((10 ^ j : Nat) : Int)).natAbs = 10 ^ j from rfl]
    exact Nat.le_trans (Nat.pow_le_pow_right (by omega) hj) (by decide)
  exact Nat.mul_le_mul h1 h2
end Go.Proofs.Ytngelemjpgglpaa.Pro
/-
  A REGION THAT DRAWS, IN A ROUND OF A RANGE OVER A FUNCTION: walked by the plain rules ('wpAny', 'wpAnyH', 'wpList'), carried into the round's fence.
-/
namespace Go.Proofs.Ytngelemjpgglpaa
open Go
section
variable {P : Program} {Q : Exit → Act → World → Prop} {md : Region.Mode} {ops : Array Oper} {l n : Nat}
def noDeferB (ops : Array Oper) : Bool := ops.all fun o => match o.op with | .defer _ => false | _ => true
theorem noDefer_spec {i : Nat} {o : Oper} (h : noDeferB ops = true) (ho : ops[i]? = some o) : ∀ c, o.op ≠ .defer c := by
  intro c hc
  have h2 := Array.all_eq_true_iff_forall_mem.1 h o (Array.mem_of_getElem? ho)
  rw [hc] at h2
  cases h2
theorem callsIn_round {m : Nat} {f : FuncId} {args : Array Value} {w : World} {R : Ending → World → Prop} (h : Calls P f args w R) : CallsIn (Fence.wide.inRound l) m P f args w R :=
  show CallsIn Fence.wide m P f args w R from callsIn_wide.2 h
theorem rowsIn_round {m : Nat} {row : String} {args : Array Value} {w : World} {R : Value → World → Prop} (h : Rows P row args w R) : RowsIn (Fence.wide.inRound l) m P row args w R :=
  show RowsIn Fence.wide m P row args w R from fun c cs _ => let ⟨v, w', r, s⟩ := h c cs; ⟨v, w', r, stepsIn_wide.2 s⟩
theorem wpOp_round {i : Nat} {K : Act → World → Prop} {a : Act} {w : World} (hd : noDeferB ops = true) (hQ : ¬ LetsOut Q) (h : wpOp P ops Q i K a w) : wpOpIn (Fence.wide.inRound l) n P ops Q i K a w := by
  unfold wpOp at h
  unfold wpOpIn
  split
  · rename_i ho
    simp only [ho] at h; exact h
  · rename_i o ho
    simp only [ho] at h
    split
    · rename_i hw
      simp only [hw, if_true] at h
      rcases h with h | ⟨_, h⟩
      · refine ⟨fun _ _ => trivial, ?_⟩
      
        rw [Oper.semAt_eq _ _ _ (noDefer_spec hd ho)]
        unfold Oper.wp at h
        generalize (execOp a.eval o).run P w = r at *
        have D : (Fence.wide.inRound l).depth.isSome = true → 1 ≤ n := fun hd => by cases hd
        cases r with
        | ok x w' =>
          cases x <;> simp only [Oper.upon, Oper.uponIn] at h ⊢
          case value u => exact h
          case skip => exact h
          case defer d => exact h
          case enter f args => exact ⟨D, callsIn_round h⟩
          case row row args => exact ⟨D, rowsIn_round h⟩
        | halt x w' => cases x <;> simp only [Oper.upon, Oper.uponIn] at h ⊢ <;> exact h
      · exact absurd h hQ
    · rename_i hw
      simp only [hw] at h
      exact ⟨fun _ _ => trivial, h⟩
theorem wpAny_round (hd : noDeferB ops = true) (hQ : ¬ LetsOut Q) : ∀ (fuel : Nat) (listed : Array Bool) (a : Act) (w : World), wpAny P md ops Q fuel listed a w → wpAnyIn (Fence.wide.inRound l) n P md ops Q fuel listed a w
  | 0, _, _, _, h => h
  | fuel + 1, _, _, _, h => ⟨h.1, fun i hi => wpOp_round hd hQ (wpOp_mono (fun a' w' h' => wpAny_round hd hQ fuel _ a' w' h') (h.2 i hi)) |> fun k => k⟩
/-- the post of a round's piece: nothing is let out -/
theorem noLets_then {K : Act → World → Prop} (hQ : ¬ LetsOut Q) : ¬ LetsOut (Exit.then K Q) := hQ
/-- a whole region, walked by the plain rules -/
theorem region_round {id : Nat} {a : Act} {w : World} (hm : P.follows .mixedOrders = true) (hd : noDeferB ops = true) (hQ : ¬ LetsOut Q)
    (h : wpAny P .any ops Q ops.size (Array.replicate ops.size false) a w.drew) : (Code.region id ops true).wpIn (Fence.wide.inRound l) n P Q a w :=
  wpIn_region_any hm (wpAny_round hd hQ _ _ _ _ h)
/-- with a condition on the cells that it reads -/
theorem region_round_held {S : World → Prop} {id : Nat} {a : Act} {w : World} (hm : P.follows .mixedOrders = true) (hd : noDeferB ops = true) (hQ : ¬ LetsOut Q)
    (h : wpAnyH P .any ops Q S ops.size (Array.replicate ops.size false) a w.drew) : (Code.region id ops true).wpIn (Fence.wide.inRound l) n P Q a w :=
  region_round hm hd hQ (wpAny_of_held _ _ _ _ h)
/-- the first operations first, the others in their order -/
theorem region_round_head {id : Nat} {a : Act} {w : World} {L : List Oper} (k : Nat) (hm : P.follows .mixedOrders = true) (hd : noDeferB L.toArray = true) (hQ : ¬ LetsOut Q)
    (hB : (decide (k < L.length) && headB L.toArray k && Region.sinkB .any L.toArray k && Region.chainB .any L.toArray k && Region.seqB .any L.toArray (L.length - k) k (Array.replicate k true ++ Array.replicate (L.length - k) false)) = true)
    (h : wpAny P .any (L.take k).toArray (headQ P L.toArray Q (L.drop k)) k (Array.replicate k false) a w.drew) : (Code.region id L.toArray true).wpIn (Fence.wide.inRound l) n P Q a w := by
  simp only [Bool.and_eq_true, decide_eq_true_eq] at hB
  obtain ⟨⟨⟨⟨hn, h1⟩, h2⟩, h3⟩, h4⟩ := hB
  refine region_round hm hd hQ ?_
  have inv0 : HeadInv .any L.toArray k (Array.replicate L.toArray.size false) :=
    ⟨by simp, fun j oj _ hl => (by rw [getD_replicate_false] at hl; cases hl), fun t _ ht => getD_in (by simpa using ht) (getD_replicate_false _ _)⟩
  have := wpAny_head (Q := Q) hn h1 h2 h3 h4 k (Array.replicate k false) (Array.replicate L.toArray.size false) a w.drew inv0 (by simp) (fun i hi => by
    have h5 : i < L.length := by omega
    simp [Array.getD_eq_getD_getElem?, hi, h5]) h
  rw [show k + (L.length - k) = L.toArray.size by simp; omega] at this
  exact this
end
end Go.Proofs.Ytngelemjpgglpaa
