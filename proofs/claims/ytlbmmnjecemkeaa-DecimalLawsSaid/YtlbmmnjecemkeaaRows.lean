/-
  No cell of these rows narrows 'for every input' (looked for: loops, veiled, ifaces, maps, wideKeys, modest, calm, conditions, laid).
  DERIVED. THE GIVEN ROWS OF THIS SEAT. 6 by the template 'for every input the law returns true; each argument reads behind the call as it read before'; 0 by the template 'total and deterministic' (their statements: YtlbmmnjecemkeaaTotals.lean).
  GIVEN WITH THE SEED: the statements are not yours to turn. If you find one false, say at which input.
  Laid BY PROGRAM, IN A SANDBOX (cutbox-rows.mjs): the forced cells as the released guide's own fill.sh prints them over the translation c670db774486621f… (all of the seat's roots in one cut). By AI agents, Wed Nov 11 2026. No macro, syntax, notation, axiom, sorry.
-/
import Derived.Test.YtlbmmnjecemkeaaChecked
import GoSem.Claim
import GoSem.ClaimJoined
import GoSem.ClaimMapViews
import Derived.JoinedTies
import Derived.KernelRfl
namespace Go.Proofs.Ytlbmmnjecemkeaa
/- THE CELL 'sum', in the pinned program and in every row, IS THE sha256 OF THE DUMP (.gsa) THAT YtlbmmnjecemkeaaProg.lean LOADS. Nothing in Lean hashes anything: it is a label: what it is worth is what the hold of that sum in a sandbox is worth. -/
noncomputable def Try.pinned : Pinned := { name := "ytlbmmnjecemkeaa", sum := "c670db774486621f583731e1c3889da8b35d53979394fd9f6bcd880d1a76df2b", checked := Try.checked }
namespace Rows
def none {H : Type} : Left H := { results := [], args := [] }

/-- 'corrodylaw01.WideDivides': WHATEVER THE INPUT: true; the input reads as it did. -/
def wideDividesSpec : ChangeSpec := { name := "wideDivides", fn := fun _ => fun
  | [d1, d2, d3] => { results := [.lit (.bool true)], args := [d1, d2, d3] }
  | _ => none }
def wideDividesRow : OpenClaim := { program := "ytlbmmnjecemkeaa", sum := "c670db774486621f583731e1c3889da8b35d53979394fd9f6bcd880d1a76df2b", func := "corrody/corrodylaw01.WideDivides", spec := "wideDivides", inPlace := ["math/bits.Add64"], unfollowed := true, recurses := true, named := ["math/bits.divideError", "math/bits.overflowError"], apart := false }
def WideDividesSaid : Prop := wideDividesRow.holds Try.pinned (OpenSpec.ofChange wideDividesSpec)

/-- ITS FALSE NEIGHBOUR: 'it returns false'. Refute it at one input. -/
def wideDividesWrong : ChangeSpec := { name := "wideDivides", fn := fun _ => fun
  | [d1, d2, d3] => { results := [.lit (.bool false)], args := [d1, d2, d3] }
  | _ => none }
def WideDividesWrongFalsely : Prop := wideDividesRow.holds Try.pinned (OpenSpec.ofChange wideDividesWrong)

/-- 'corrodylaw01.WideRing': WHATEVER THE INPUT: true; the input reads as it did. -/
def wideRingSpec : ChangeSpec := { name := "wideRing", fn := fun _ => fun
  | [d1, d2, d3, d4, d5] => { results := [.lit (.bool true)], args := [d1, d2, d3, d4, d5] }
  | _ => none }
def wideRingRow : OpenClaim := { program := "ytlbmmnjecemkeaa", sum := "c670db774486621f583731e1c3889da8b35d53979394fd9f6bcd880d1a76df2b", func := "corrody/corrodylaw01.WideRing", spec := "wideRing", inPlace := ["math/bits.Add64", "math/bits.Sub64"], unfollowed := true, recurses := true, named := ["math/bits.divideError", "math/bits.overflowError"], apart := false }
def WideRingSaid : Prop := wideRingRow.holds Try.pinned (OpenSpec.ofChange wideRingSpec)

/-- ITS FALSE NEIGHBOUR: 'it returns false'. Refute it at one input. -/
def wideRingWrong : ChangeSpec := { name := "wideRing", fn := fun _ => fun
  | [d1, d2, d3, d4, d5] => { results := [.lit (.bool false)], args := [d1, d2, d3, d4, d5] }
  | _ => none }
def WideRingWrongFalsely : Prop := wideRingRow.holds Try.pinned (OpenSpec.ofChange wideRingWrong)

/-- 'corrodylaw01.WideBack': WHATEVER THE INPUT: true; the input reads as it did. -/
def wideBackSpec : ChangeSpec := { name := "wideBack", fn := fun _ => fun
  | [d1, d2, d3] => { results := [.lit (.bool true)], args := [d1, d2, d3] }
  | _ => none }
def wideBackRow : OpenClaim := { program := "ytlbmmnjecemkeaa", sum := "c670db774486621f583731e1c3889da8b35d53979394fd9f6bcd880d1a76df2b", func := "corrody/corrodylaw01.WideBack", spec := "wideBack", inPlace := ["math/bits.Sub64", "math/bits.Add64"], unfollowed := true, recurses := true, named := ["math/bits.divideError", "math/bits.overflowError"], apart := false }
def WideBackSaid : Prop := wideBackRow.holds Try.pinned (OpenSpec.ofChange wideBackSpec)

/-- ITS FALSE NEIGHBOUR: 'it returns false'. Refute it at one input. -/
def wideBackWrong : ChangeSpec := { name := "wideBack", fn := fun _ => fun
  | [d1, d2, d3] => { results := [.lit (.bool false)], args := [d1, d2, d3] }
  | _ => none }
def WideBackWrongFalsely : Prop := wideBackRow.holds Try.pinned (OpenSpec.ofChange wideBackWrong)

/-- 'corrodylaw02.DecimalOne': WHATEVER THE INPUT: true; the input reads as it did. -/
def decimalOneSpec : ChangeSpec := { name := "decimalOne", fn := fun _ => fun
  | [d1, d2, d3] => { results := [.lit (.bool true)], args := [d1, d2, d3] }
  | _ => none }
def decimalOneRow : OpenClaim := { program := "ytlbmmnjecemkeaa", sum := "c670db774486621f583731e1c3889da8b35d53979394fd9f6bcd880d1a76df2b", func := "corrody/corrodylaw02.DecimalOne", spec := "decimalOne", inPlace := ["math/bits.Add64", "math/bits.Sub64"], unfollowed := true, recurses := true, named := ["math/bits.divideError", "math/bits.overflowError"], apart := false }
def DecimalOneSaid : Prop := decimalOneRow.holds Try.pinned (OpenSpec.ofChange decimalOneSpec)

/-- ITS FALSE NEIGHBOUR: 'it returns false'. Refute it at one input. -/
def decimalOneWrong : ChangeSpec := { name := "decimalOne", fn := fun _ => fun
  | [d1, d2, d3] => { results := [.lit (.bool false)], args := [d1, d2, d3] }
  | _ => none }
def DecimalOneWrongFalsely : Prop := decimalOneRow.holds Try.pinned (OpenSpec.ofChange decimalOneWrong)

/-- 'corrodylaw02.DecimalDoes': WHATEVER THE INPUT: true; the input reads as it did. -/
def decimalDoesSpec : ChangeSpec := { name := "decimalDoes", fn := fun _ => fun
  | [d1, d2] => { results := [.lit (.bool true)], args := [d1, d2] }
  | _ => none }
def decimalDoesRow : OpenClaim := { program := "ytlbmmnjecemkeaa", sum := "c670db774486621f583731e1c3889da8b35d53979394fd9f6bcd880d1a76df2b", func := "corrody/corrodylaw02.DecimalDoes", spec := "decimalDoes", inPlace := ["math/bits.Add64", "math/bits.Sub64"], unfollowed := true, recurses := true, named := ["math/bits.divideError", "math/bits.overflowError"], apart := false }
def DecimalDoesSaid : Prop := decimalDoesRow.holds Try.pinned (OpenSpec.ofChange decimalDoesSpec)

/-- ITS FALSE NEIGHBOUR: 'it returns false'. Refute it at one input. -/
def decimalDoesWrong : ChangeSpec := { name := "decimalDoes", fn := fun _ => fun
  | [d1, d2] => { results := [.lit (.bool false)], args := [d1, d2] }
  | _ => none }
def DecimalDoesWrongFalsely : Prop := decimalDoesRow.holds Try.pinned (OpenSpec.ofChange decimalDoesWrong)

/-- 'corrodylaw02.DecimalLaws': WHATEVER THE INPUT: true; the input reads as it did. -/
def decimalLawsSpec : ChangeSpec := { name := "decimalLaws", fn := fun _ => fun
  | [d1, d2] => { results := [.lit (.bool true)], args := [d1, d2] }
  | _ => none }
def decimalLawsRow : OpenClaim := { program := "ytlbmmnjecemkeaa", sum := "c670db774486621f583731e1c3889da8b35d53979394fd9f6bcd880d1a76df2b", func := "corrody/corrodylaw02.DecimalLaws", spec := "decimalLaws", inPlace := ["math/bits.Add64", "math/bits.Sub64"], unfollowed := true, recurses := true, named := ["math/bits.divideError", "math/bits.overflowError"], apart := false }
def DecimalLawsSaid : Prop := decimalLawsRow.holds Try.pinned (OpenSpec.ofChange decimalLawsSpec)

/-- ITS FALSE NEIGHBOUR: 'it returns false'. Refute it at one input. -/
def decimalLawsWrong : ChangeSpec := { name := "decimalLaws", fn := fun _ => fun
  | [d1, d2] => { results := [.lit (.bool false)], args := [d1, d2] }
  | _ => none }
def DecimalLawsWrongFalsely : Prop := decimalLawsRow.holds Try.pinned (OpenSpec.ofChange decimalLawsWrong)

/- THE SECOND FORM. 'bulk': how many values and letters a reading holds, each counted each time it is reached (what is shared counts as often as it is met; a slice's spare places count too). A statement '..UptoSaid' is the law's where the arguments, and the package variables that the reading takes, are together of bulk at most 1048576: NARROWER than '..Said'. Prove '..Said' where nothing that the law and all that it calls make is longer than what came in: it says more and counts as full. Else prove '..UptoSaid'. A law counts once. -/
mutual
def uptoBulk {H : Type} : DataW H → Nat
  | .lit (.string bytes) => bytes.length + 1
  | .lit _ => 1
  | .nil => 1
  | .ptr d => uptoBulk d + 1
  | .slice elems spare => uptoBulkAll elems + uptoBulkAll spare + 1
  | .agg parts => uptoBulkAll parts + 1
  | .iface _ d => uptoBulk d + 1
  | .map entries => uptoBulkEntries entries + 1
  | .held _ => 1
def uptoBulkAll {H : Type} : List (DataW H) → Nat
  | [] => 0
  | d :: r => uptoBulk d + uptoBulkAll r
def uptoBulkEntries {H : Type} : List (Lit × DataW H) → Nat
  | [] => 0
  | x :: r => uptoBulkEntry x + uptoBulkEntries r
def uptoBulkEntry {H : Type} : Lit × DataW H → Nat
  | (.string bytes, d) => bytes.length + uptoBulk d + 1
  | (_, d) => uptoBulk d + 1
 end
def uptoSmall : (H : Type) → List (DataW H) → Bool := fun _ ds => decide (uptoBulkAll ds ≤ 1048576)
def OpenSpec.upto (s : _root_.Go.ChangeSpec) : _root_.Go.OpenSpec := { _root_.Go.OpenSpec.ofChange s with cond := some uptoSmall }

/-- 'corrodylaw01.WideDivides', WHERE WHAT IT READS IS OF BULK AT MOST 1048576: true; the input reads as it did. -/
def wideDividesUptoRow : OpenClaim := { program := "ytlbmmnjecemkeaa", sum := "c670db774486621f583731e1c3889da8b35d53979394fd9f6bcd880d1a76df2b", func := "corrody/corrodylaw01.WideDivides", spec := "wideDivides", inPlace := ["math/bits.Add64"], unfollowed := true, recurses := true, named := ["math/bits.divideError", "math/bits.overflowError"], apart := false, narrowed := true }
def WideDividesUptoSaid : Prop := wideDividesUptoRow.holds Try.pinned (OpenSpec.upto wideDividesSpec)

/-- 'corrodylaw01.WideRing', WHERE WHAT IT READS IS OF BULK AT MOST 1048576: true; the input reads as it did. -/
def wideRingUptoRow : OpenClaim := { program := "ytlbmmnjecemkeaa", sum := "c670db774486621f583731e1c3889da8b35d53979394fd9f6bcd880d1a76df2b", func := "corrody/corrodylaw01.WideRing", spec := "wideRing", inPlace := ["math/bits.Add64", "math/bits.Sub64"], unfollowed := true, recurses := true, named := ["math/bits.divideError", "math/bits.overflowError"], apart := false, narrowed := true }
def WideRingUptoSaid : Prop := wideRingUptoRow.holds Try.pinned (OpenSpec.upto wideRingSpec)

/-- 'corrodylaw01.WideBack', WHERE WHAT IT READS IS OF BULK AT MOST 1048576: true; the input reads as it did. -/
def wideBackUptoRow : OpenClaim := { program := "ytlbmmnjecemkeaa", sum := "c670db774486621f583731e1c3889da8b35d53979394fd9f6bcd880d1a76df2b", func := "corrody/corrodylaw01.WideBack", spec := "wideBack", inPlace := ["math/bits.Sub64", "math/bits.Add64"], unfollowed := true, recurses := true, named := ["math/bits.divideError", "math/bits.overflowError"], apart := false, narrowed := true }
def WideBackUptoSaid : Prop := wideBackUptoRow.holds Try.pinned (OpenSpec.upto wideBackSpec)

/-- 'corrodylaw02.DecimalOne', WHERE WHAT IT READS IS OF BULK AT MOST 1048576: true; the input reads as it did. -/
def decimalOneUptoRow : OpenClaim := { program := "ytlbmmnjecemkeaa", sum := "c670db774486621f583731e1c3889da8b35d53979394fd9f6bcd880d1a76df2b", func := "corrody/corrodylaw02.DecimalOne", spec := "decimalOne", inPlace := ["math/bits.Add64", "math/bits.Sub64"], unfollowed := true, recurses := true, named := ["math/bits.divideError", "math/bits.overflowError"], apart := false, narrowed := true }
def DecimalOneUptoSaid : Prop := decimalOneUptoRow.holds Try.pinned (OpenSpec.upto decimalOneSpec)

/-- 'corrodylaw02.DecimalDoes', WHERE WHAT IT READS IS OF BULK AT MOST 1048576: true; the input reads as it did. -/
def decimalDoesUptoRow : OpenClaim := { program := "ytlbmmnjecemkeaa", sum := "c670db774486621f583731e1c3889da8b35d53979394fd9f6bcd880d1a76df2b", func := "corrody/corrodylaw02.DecimalDoes", spec := "decimalDoes", inPlace := ["math/bits.Add64", "math/bits.Sub64"], unfollowed := true, recurses := true, named := ["math/bits.divideError", "math/bits.overflowError"], apart := false, narrowed := true }
def DecimalDoesUptoSaid : Prop := decimalDoesUptoRow.holds Try.pinned (OpenSpec.upto decimalDoesSpec)

/-- 'corrodylaw02.DecimalLaws', WHERE WHAT IT READS IS OF BULK AT MOST 1048576: true; the input reads as it did. -/
def decimalLawsUptoRow : OpenClaim := { program := "ytlbmmnjecemkeaa", sum := "c670db774486621f583731e1c3889da8b35d53979394fd9f6bcd880d1a76df2b", func := "corrody/corrodylaw02.DecimalLaws", spec := "decimalLaws", inPlace := ["math/bits.Add64", "math/bits.Sub64"], unfollowed := true, recurses := true, named := ["math/bits.divideError", "math/bits.overflowError"], apart := false, narrowed := true }
def DecimalLawsUptoSaid : Prop := decimalLawsUptoRow.holds Try.pinned (OpenSpec.upto decimalLawsSpec)

end Rows
end Go.Proofs.Ytlbmmnjecemkeaa
