/-
  No cell of these rows narrows 'for every input' (looked for: loops, veiled, ifaces, maps, wideKeys, modest, calm, conditions, laid).
  DERIVED. THE GIVEN ROWS OF THIS SEAT. 6 by the template 'for every input the law returns true; each argument reads behind the call as it read before'; 0 by the template 'total and deterministic' (their statements: YtgolflindjanhaaTotals.lean).
  GIVEN WITH THE SEED: the statements are not yours to turn. If you find one false, say at which input.
  Laid BY PROGRAM, IN A SANDBOX (cutbox-rows.mjs): the forced cells as the released guide's own fill.sh prints them over the translation a86d7f2251898226… (all of the seat's roots in one cut). By AI agents, Wed Nov 11 2026. No macro, syntax, notation, axiom, sorry.
-/
import Derived.Test.YtgolflindjanhaaChecked
import GoSem.Claim
import GoSem.ClaimJoined
import GoSem.ClaimMapViews
import Derived.JoinedTies
import Derived.KernelRfl
namespace Go.Proofs.Ytgolflindjanhaa
/- THE CELL 'sum', in the pinned program and in every row, IS THE sha256 OF THE DUMP (.gsa) THAT YtgolflindjanhaaProg.lean LOADS. Nothing in Lean hashes anything: it is a label: what it is worth is what the hold of that sum in a sandbox is worth. -/
noncomputable def Try.pinned : Pinned := { name := "ytgolflindjanhaa", sum := "a86d7f225189822663d11527a61a7b710880d293930e7bb234332178579e9cc3", checked := Try.checked }
namespace Rows
def none {H : Type} : Left H := { results := [], args := [] }

/-- 'corrodylaw04.CivilDays': WHATEVER THE INPUT: true; the input reads as it did. -/
def civilDaysSpec : ChangeSpec := { name := "civilDays", fn := fun _ => fun
  | [d1, d2, d3] => { results := [.lit (.bool true)], args := [d1, d2, d3] }
  | _ => none }
def civilDaysRow : OpenClaim := { program := "ytgolflindjanhaa", sum := "a86d7f225189822663d11527a61a7b710880d293930e7bb234332178579e9cc3", func := "corrody/corrodylaw04.CivilDays", spec := "civilDays", apart := false }
def CivilDaysSaid : Prop := civilDaysRow.holds Try.pinned (OpenSpec.ofChange civilDaysSpec)

/-- ITS FALSE NEIGHBOUR: 'it returns false'. Refute it at one input. -/
def civilDaysWrong : ChangeSpec := { name := "civilDays", fn := fun _ => fun
  | [d1, d2, d3] => { results := [.lit (.bool false)], args := [d1, d2, d3] }
  | _ => none }
def CivilDaysWrongFalsely : Prop := civilDaysRow.holds Try.pinned (OpenSpec.ofChange civilDaysWrong)

/-- 'corrodylaw04.CivilDates': WHATEVER THE INPUT: true; the input reads as it did. -/
def civilDatesSpec : ChangeSpec := { name := "civilDates", fn := fun _ => fun
  | [d] => { results := [.lit (.bool true)], args := [d] }
  | _ => none }
def civilDatesRow : OpenClaim := { program := "ytgolflindjanhaa", sum := "a86d7f225189822663d11527a61a7b710880d293930e7bb234332178579e9cc3", func := "corrody/corrodylaw04.CivilDates", spec := "civilDates", apart := false }
def CivilDatesSaid : Prop := civilDatesRow.holds Try.pinned (OpenSpec.ofChange civilDatesSpec)

/-- ITS FALSE NEIGHBOUR: 'it returns false'. Refute it at one input. -/
def civilDatesWrong : ChangeSpec := { name := "civilDates", fn := fun _ => fun
  | [d] => { results := [.lit (.bool false)], args := [d] }
  | _ => none }
def CivilDatesWrongFalsely : Prop := civilDatesRow.holds Try.pinned (OpenSpec.ofChange civilDatesWrong)

/-- 'corrodylaw04.CivilNext': WHATEVER THE INPUT: true; the input reads as it did. -/
def civilNextSpec : ChangeSpec := { name := "civilNext", fn := fun _ => fun
  | [d] => { results := [.lit (.bool true)], args := [d] }
  | _ => none }
def civilNextRow : OpenClaim := { program := "ytgolflindjanhaa", sum := "a86d7f225189822663d11527a61a7b710880d293930e7bb234332178579e9cc3", func := "corrody/corrodylaw04.CivilNext", spec := "civilNext", apart := false }
def CivilNextSaid : Prop := civilNextRow.holds Try.pinned (OpenSpec.ofChange civilNextSpec)

/-- ITS FALSE NEIGHBOUR: 'it returns false'. Refute it at one input. -/
def civilNextWrong : ChangeSpec := { name := "civilNext", fn := fun _ => fun
  | [d] => { results := [.lit (.bool false)], args := [d] }
  | _ => none }
def CivilNextWrongFalsely : Prop := civilNextRow.holds Try.pinned (OpenSpec.ofChange civilNextWrong)

/-- 'corrodylaw05.MonthsBetween': WHATEVER THE INPUT: true; the input reads as it did. -/
def monthsBetweenSpec : ChangeSpec := { name := "monthsBetween", fn := fun _ => fun
  | [d1, d2] => { results := [.lit (.bool true)], args := [d1, d2] }
  | _ => none }
def monthsBetweenRow : OpenClaim := { program := "ytgolflindjanhaa", sum := "a86d7f225189822663d11527a61a7b710880d293930e7bb234332178579e9cc3", func := "corrody/corrodylaw05.MonthsBetween", spec := "monthsBetween", unfollowed := true, recurses := true, apart := false }
def MonthsBetweenSaid : Prop := monthsBetweenRow.holds Try.pinned (OpenSpec.ofChange monthsBetweenSpec)

/-- ITS FALSE NEIGHBOUR: 'it returns false'. Refute it at one input. -/
def monthsBetweenWrong : ChangeSpec := { name := "monthsBetween", fn := fun _ => fun
  | [d1, d2] => { results := [.lit (.bool false)], args := [d1, d2] }
  | _ => none }
def MonthsBetweenWrongFalsely : Prop := monthsBetweenRow.holds Try.pinned (OpenSpec.ofChange monthsBetweenWrong)

/-- 'corrodylaw05.MonthsAdd': WHATEVER THE INPUT: true; the input reads as it did. -/
def monthsAddSpec : ChangeSpec := { name := "monthsAdd", fn := fun _ => fun
  | [d1, d2] => { results := [.lit (.bool true)], args := [d1, d2] }
  | _ => none }
def monthsAddRow : OpenClaim := { program := "ytgolflindjanhaa", sum := "a86d7f225189822663d11527a61a7b710880d293930e7bb234332178579e9cc3", func := "corrody/corrodylaw05.MonthsAdd", spec := "monthsAdd", unfollowed := true, recurses := true, apart := false }
def MonthsAddSaid : Prop := monthsAddRow.holds Try.pinned (OpenSpec.ofChange monthsAddSpec)

/-- ITS FALSE NEIGHBOUR: 'it returns false'. Refute it at one input. -/
def monthsAddWrong : ChangeSpec := { name := "monthsAdd", fn := fun _ => fun
  | [d1, d2] => { results := [.lit (.bool false)], args := [d1, d2] }
  | _ => none }
def MonthsAddWrongFalsely : Prop := monthsAddRow.holds Try.pinned (OpenSpec.ofChange monthsAddWrong)

/-- 'corrodylaw05.MonthsBack': WHATEVER THE INPUT: true; the input reads as it did. -/
def monthsBackSpec : ChangeSpec := { name := "monthsBack", fn := fun _ => fun
  | [d1, d2] => { results := [.lit (.bool true)], args := [d1, d2] }
  | _ => none }
def monthsBackRow : OpenClaim := { program := "ytgolflindjanhaa", sum := "a86d7f225189822663d11527a61a7b710880d293930e7bb234332178579e9cc3", func := "corrody/corrodylaw05.MonthsBack", spec := "monthsBack", unfollowed := true, recurses := true, apart := false }
def MonthsBackSaid : Prop := monthsBackRow.holds Try.pinned (OpenSpec.ofChange monthsBackSpec)

/-- ITS FALSE NEIGHBOUR: 'it returns false'. Refute it at one input. -/
def monthsBackWrong : ChangeSpec := { name := "monthsBack", fn := fun _ => fun
  | [d1, d2] => { results := [.lit (.bool false)], args := [d1, d2] }
  | _ => none }
def MonthsBackWrongFalsely : Prop := monthsBackRow.holds Try.pinned (OpenSpec.ofChange monthsBackWrong)

/- THE SECOND FORM. 'bulk': how many values and letters a reading holds, each counted each time it is reached (what is shared counts as often as it is met; a slice's spare places count too). A statement '..UptoSaid' is the law's where the arguments, and the package variables that the reading takes, are together of bulk at most 1048576: NARROWER than '..Said'. Prove '..Said' where nothing that the law and all that it calls make is longer than what came in: it says more and counts as full. Else prove '..UptoSaid'. A law counts once. -/
mutual
def uptoBulk {H : Type} : DataW H → Nat
  | .lit (.string bytes) => bytes.length + 1
  | .lit _ => 1
  | .nil => 1
  | .ptr d => uptoBulk d + 1
  | .slice elems spare => uptoBulkAll elems + uptoBulkAll spare + 1
  | .agg parts => uptoBulkAll parts + 1
  | .iface _ d => uptoBulk d + 1
  | .map entries => uptoBulkEntries entries + 1
  | .held _ => 1
def uptoBulkAll {H : Type} : List (DataW H) → Nat
  | [] => 0
  | d :: r => uptoBulk d + uptoBulkAll r
def uptoBulkEntries {H : Type} : List (Lit × DataW H) → Nat
  | [] => 0
  | x :: r => uptoBulkEntry x + uptoBulkEntries r
def uptoBulkEntry {H : Type} : Lit × DataW H → Nat
  | (.string bytes, d) => bytes.length + uptoBulk d + 1
  | (_, d) => uptoBulk d + 1
 end
def uptoSmall : (H : Type) → List (DataW H) → Bool := fun _ ds => decide (uptoBulkAll ds ≤ 1048576)
def OpenSpec.upto (s : _root_.Go.ChangeSpec) : _root_.Go.OpenSpec := { _root_.Go.OpenSpec.ofChange s with cond := some uptoSmall }

/-- 'corrodylaw04.CivilDays', WHERE WHAT IT READS IS OF BULK AT MOST 1048576: true; the input reads as it did. -/
def civilDaysUptoRow : OpenClaim := { program := "ytgolflindjanhaa", sum := "a86d7f225189822663d11527a61a7b710880d293930e7bb234332178579e9cc3", func := "corrody/corrodylaw04.CivilDays", spec := "civilDays", apart := false, narrowed := true }
def CivilDaysUptoSaid : Prop := civilDaysUptoRow.holds Try.pinned (OpenSpec.upto civilDaysSpec)

/-- 'corrodylaw04.CivilDates', WHERE WHAT IT READS IS OF BULK AT MOST 1048576: true; the input reads as it did. -/
def civilDatesUptoRow : OpenClaim := { program := "ytgolflindjanhaa", sum := "a86d7f225189822663d11527a61a7b710880d293930e7bb234332178579e9cc3", func := "corrody/corrodylaw04.CivilDates", spec := "civilDates", apart := false, narrowed := true }
def CivilDatesUptoSaid : Prop := civilDatesUptoRow.holds Try.pinned (OpenSpec.upto civilDatesSpec)

/-- 'corrodylaw04.CivilNext', WHERE WHAT IT READS IS OF BULK AT MOST 1048576: true; the input reads as it did. -/
def civilNextUptoRow : OpenClaim := { program := "ytgolflindjanhaa", sum := "a86d7f225189822663d11527a61a7b710880d293930e7bb234332178579e9cc3", func := "corrody/corrodylaw04.CivilNext", spec := "civilNext", apart := false, narrowed := true }
def CivilNextUptoSaid : Prop := civilNextUptoRow.holds Try.pinned (OpenSpec.upto civilNextSpec)

/-- 'corrodylaw05.MonthsBetween', WHERE WHAT IT READS IS OF BULK AT MOST 1048576: true; the input reads as it did. -/
def monthsBetweenUptoRow : OpenClaim := { program := "ytgolflindjanhaa", sum := "a86d7f225189822663d11527a61a7b710880d293930e7bb234332178579e9cc3", func := "corrody/corrodylaw05.MonthsBetween", spec := "monthsBetween", unfollowed := true, recurses := true, apart := false, narrowed := true }
def MonthsBetweenUptoSaid : Prop := monthsBetweenUptoRow.holds Try.pinned (OpenSpec.upto monthsBetweenSpec)

/-- 'corrodylaw05.MonthsAdd', WHERE WHAT IT READS IS OF BULK AT MOST 1048576: true; the input reads as it did. -/
def monthsAddUptoRow : OpenClaim := { program := "ytgolflindjanhaa", sum := "a86d7f225189822663d11527a61a7b710880d293930e7bb234332178579e9cc3", func := "corrody/corrodylaw05.MonthsAdd", spec := "monthsAdd", unfollowed := true, recurses := true, apart := false, narrowed := true }
def MonthsAddUptoSaid : Prop := monthsAddUptoRow.holds Try.pinned (OpenSpec.upto monthsAddSpec)

/-- 'corrodylaw05.MonthsBack', WHERE WHAT IT READS IS OF BULK AT MOST 1048576: true; the input reads as it did. -/
def monthsBackUptoRow : OpenClaim := { program := "ytgolflindjanhaa", sum := "a86d7f225189822663d11527a61a7b710880d293930e7bb234332178579e9cc3", func := "corrody/corrodylaw05.MonthsBack", spec := "monthsBack", unfollowed := true, recurses := true, apart := false, narrowed := true }
def MonthsBackUptoSaid : Prop := monthsBackUptoRow.holds Try.pinned (OpenSpec.upto monthsBackSpec)

end Rows
end Go.Proofs.Ytgolflindjanhaa
