/-
  A REGION THAT DRAWS, IN A ROUND OF A RANGE OVER A FUNCTION: walked by the plain rules ('wpAny', 'wpAnyH', 'wpList'), carried into the round's fence.
-/
import Derived.Test.YtmgljgmfipodeaaM39
import Derived.OrdersIn
import Derived.TacticsIn
import Derived.Sort.CutIn
/-
  A REGION THAT DRAWS, IN A ROUND OF A RANGE OVER A FUNCTION: walked by the plain rules ('wpAny', 'wpAnyH', 'wpList'), carried into the round's fence.
-/
namespace Go.Proofs.Ytmgljgmfipodeaa
open Go
section
variable {P : Program} {Q : Exit → Act → World → Prop} {md : Region.Mode} {ops : Array Oper} {l n : Nat}
def noDeferB (ops : Array Oper) : Bool := ops.all fun o => match o.op with | .defer _ => false | _ => true
theorem noDefer_spec {i : Nat} {o : Oper} (h : noDeferB ops = true) (ho : ops[i]? = some o) : ∀ c, o.op ≠ .defer c := by
  intro c hc
  have h2 := Array.all_eq_true_iff_forall_mem.1 h o (Array.mem_of_getElem? ho)
  rw [hc] at h2
  cases h2
theorem callsIn_round {m : Nat} {f : FuncId} {args : Array Value} {w : World} {R : Ending → World → Prop} (h : Calls P f args w R) : CallsIn (Fence.wide.inRound l) m P f args w R :=
  show CallsIn Fence.wide m P f args w R from callsIn_wide.2 h
theorem rowsIn_round {m : Nat} {row : String} {args : Array Value} {w : World} {R : Value → World → Prop} (h : Rows P row args w R) : RowsIn (Fence.wide.inRound l) m P row args w R :=
  show RowsIn Fence.wide m P row args w R from fun c cs _ => let ⟨v, w', r, s⟩ := h c cs; ⟨v, w', r, stepsIn_wide.2 s⟩
theorem wpOp_round {i : Nat} {K : Act → World → Prop} {a : Act} {w : World} (hd : noDeferB ops = true) (hQ : ¬ LetsOut Q) (h : wpOp P ops Q i K a w) : wpOpIn (Fence.wide.inRound l) n P ops Q i K a w := by
  unfold wpOp at h
  unfold wpOpIn
  split
  · rename_i ho
    simp only [ho] at h; exact h
  · rename_i o ho
    simp only [ho] at h
    split
    · rename_i hw
      simp only [hw, if_true] at h
      rcases h with h | ⟨_, h⟩
      · refine ⟨fun _ _ => trivial, ?_⟩
      
        rw [Oper.semAt_eq _ _ _ (noDefer_spec hd ho)]
        unfold Oper.wp at h
        generalize (execOp a.eval o).run P w = r at *
        have D : (Fence.wide.inRound l).depth.isSome = true → 1 ≤ n := fun hd => by cases hd
        cases r with
        | ok x w' =>
          cases x <;> simp only [Oper.upon, Oper.uponIn] at h ⊢
          case value u => exact h
          case skip => exact h
          case defer d => exact h
          case enter f args => exact ⟨D, callsIn_round h⟩
          case row row args => exact ⟨D, rowsIn_round h⟩
        | halt x w' => cases x <;> simp only [Oper.upon, Oper.uponIn] at h ⊢ <;> exact h
      · exact absurd h hQ
    · rename_i hw
      simp only [hw] at h
      exact ⟨fun _ _ => trivial, h⟩
theorem wpAny_round (hd : noDeferB ops = true) (hQ : ¬ LetsOut Q) : ∀ (fuel : Nat) (listed : Array Bool) (a : Act) (w : World), wpAny P md ops Q fuel listed a w → wpAnyIn (Fence.wide.inRound l) n P md ops Q fuel listed a w
  | 0, _, _, _, h => h
  | fuel + 1, _, _, _, h => ⟨h.1, fun i hi => wpOp_round hd hQ (wpOp_mono (fun a' w' h' => wpAny_round hd hQ fuel _ a' w' h') (h.2 i hi)) |> fun k => k⟩
/-- the post of a round's piece: nothing is let out -/
theorem noLets_then {K : Act → World → Prop} (hQ : ¬ LetsOut Q) : ¬ LetsOut (Exit.then K Q) := hQ
/-- a whole region, walked by the plain rules -/
theorem region_round {id : Nat} {a : Act} {w : World} (hm : P.follows .mixedOrders = true) (hd : noDeferB ops = true) (hQ : ¬ LetsOut Q)
    (h : wpAny P .any ops Q ops.size (Array.replicate ops.size false) a w.drew) : (Code.region id ops true).wpIn (Fence.wide.inRound l) n P Q a w :=
  wpIn_region_any hm (wpAny_round hd hQ _ _ _ _ h)
/-- with a condition on the cells that it reads -/
theorem region_round_held {S : World → Prop} {id : Nat} {a : Act} {w : World} (hm : P.follows .mixedOrders = true) (hd : noDeferB ops = true) (hQ : ¬ LetsOut Q)
    (h : wpAnyH P .any ops Q S ops.size (Array.replicate ops.size false) a w.drew) : (Code.region id ops true).wpIn (Fence.wide.inRound l) n P Q a w :=
  region_round hm hd hQ (wpAny_of_held _ _ _ _ h)
/-- the first operations first, the others in their order -/
theorem region_round_head {id : Nat} {a : Act} {w : World} {L : List Oper} (k : Nat) (hm : P.follows .mixedOrders = true) (hd : noDeferB L.toArray = true) (hQ : ¬ LetsOut Q)
    (hB : (decide (k < L.length) && headB L.toArray k && Region.sinkB .any L.toArray k && Region.chainB .any L.toArray k && Region.seqB .any L.toArray (L.length - k) k (Array.replicate k true ++ Array.replicate (L.length - k) false)) = true)
    (h : wpAny P .any (L.take k).toArray (headQ P L.toArray Q (L.drop k)) k (Array.replicate k false) a w.drew) : (Code.region id L.toArray true).wpIn (Fence.wide.inRound l) n P Q a w := by
  simp only [Bool.and_eq_true, decide_eq_true_eq] at hB
  obtain ⟨⟨⟨⟨hn, h1⟩, h2⟩, h3⟩, h4⟩ := hB
  refine region_round hm hd hQ ?_
  have inv0 : HeadInv .any L.toArray k (Array.replicate L.toArray.size false) :=
    ⟨by simp, fun j oj _ hl => (by rw [getD_replicate_false] at hl; cases hl), fun t _ ht => getD_in (by simpa using ht) (getD_replicate_false _ _)⟩
  have := wpAny_head (Q := Q) hn h1 h2 h3 h4 k (Array.replicate k false) (Array.replicate L.toArray.size false) a w.drew inv0 (by simp) (fun i hi => by
    have h5 : i < L.length := by omega
    simp [Array.getD_eq_getD_getElem?, hi, h5]) h
  rw [show k + (L.length - k) = L.toArray.size by simp; omega] at this
  exact this
end
end Go.Proofs.Ytmgljgmfipodeaa
