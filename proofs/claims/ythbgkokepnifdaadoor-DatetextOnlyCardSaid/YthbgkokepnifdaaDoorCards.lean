/-
  DERIVED. GIVEN WITH THE SEED: THE CARDS: each row of YthbgkokepnifdaaDoorRows.lean that lists a variable, with what it lists TIED to the program's text (the seventh form; the later family's looks); each row that meets fmt, with fmt's text TOLD by the authors' own Lean function (tested against real Go, not proved from fmt's source: count such statements apart). THE CARD IS WHAT COUNTS. Prove the row's statement (the work); the ties are given (YthbgkokepnifdaaDoorTie.lean); close each card by the builder's one call (the guide's Derived/Test/ToyasCard.lean, 'card_holds'). Laid BY PROGRAM, IN A SANDBOX (cutbox-door.mjs). By AI agents, Wed Nov 11 2026. No macro, syntax, notation, axiom, sorry.
-/
import Derived.Test.YthbgkokepnifdaaDoorRows
import GoSem.ClaimSeven
namespace Go.Proofs.YthbgkokepnifdaaDoor
namespace Rows

/-- THE TIED CARD OF 'corrodylaw06.DatetextParses'. -/
def datetextParsesCard : Claim7 := { stood := { row := datetextParsesRow, standIns := [], harness := (true, "0f8e6f85f8aedf3e0de5b7fe44261d92229ce5275ac621c87d58414d8b92360b"), looks := false }, kinds := [], alts := [], laidByText := true, laidKinds := [.data, .data, .data], laidTests := true, laidLooks := .later }
def DatetextParsesCardSaid : Prop := Claim7.holds Tryd.pinned (.plain (OpenSpec.ofChange datetextParsesSpec)) datetextParsesCard

/-- THE TIED CARD OF 'corrodylaw06.DatetextTexts'. -/
def datetextTextsCard : Claim7 := { stood := { row := datetextTextsRow, standIns := [], harness := (true, "0f8e6f85f8aedf3e0de5b7fe44261d92229ce5275ac621c87d58414d8b92360b"), looks := false }, kinds := [], alts := [], laidByText := true, laidKinds := [.data, .data, .data], laidTests := true, laidLooks := .later }
def DatetextTextsCardSaid : Prop := Claim7.holds Tryd.pinned (.plain (OpenSpec.ofChange datetextTextsSpec)) datetextTextsCard

/-- THE TIED CARD OF 'corrodylaw06.DatetextOnly'. -/
def datetextOnlyCard : Claim7 := { stood := { row := datetextOnlyRow, standIns := [], harness := (true, "0f8e6f85f8aedf3e0de5b7fe44261d92229ce5275ac621c87d58414d8b92360b"), looks := false }, kinds := [], alts := [], laidByText := true, laidKinds := [.data, .data, .data], laidTests := true, laidLooks := .later }
def DatetextOnlyCardSaid : Prop := Claim7.holds Tryd.pinned (.plain (OpenSpec.ofChange datetextOnlySpec)) datetextOnlyCard

/-- THE SECOND FORM's CARD OF 'corrodylaw06.DatetextParses'. -/
def datetextParsesUptoCard : Claim7 := { stood := { row := datetextParsesUptoRow, standIns := [], harness := (true, "0f8e6f85f8aedf3e0de5b7fe44261d92229ce5275ac621c87d58414d8b92360b"), looks := false }, kinds := [], alts := [], laidByText := true, laidKinds := [.data, .data, .data], laidTests := true, laidLooks := .later }
def DatetextParsesUptoCardSaid : Prop := Claim7.holds Tryd.pinned (.plain (OpenSpec.upto datetextParsesSpec)) datetextParsesUptoCard

/-- THE SECOND FORM's CARD OF 'corrodylaw06.DatetextTexts'. -/
def datetextTextsUptoCard : Claim7 := { stood := { row := datetextTextsUptoRow, standIns := [], harness := (true, "0f8e6f85f8aedf3e0de5b7fe44261d92229ce5275ac621c87d58414d8b92360b"), looks := false }, kinds := [], alts := [], laidByText := true, laidKinds := [.data, .data, .data], laidTests := true, laidLooks := .later }
def DatetextTextsUptoCardSaid : Prop := Claim7.holds Tryd.pinned (.plain (OpenSpec.upto datetextTextsSpec)) datetextTextsUptoCard

/-- THE SECOND FORM's CARD OF 'corrodylaw06.DatetextOnly'. -/
def datetextOnlyUptoCard : Claim7 := { stood := { row := datetextOnlyUptoRow, standIns := [], harness := (true, "0f8e6f85f8aedf3e0de5b7fe44261d92229ce5275ac621c87d58414d8b92360b"), looks := false }, kinds := [], alts := [], laidByText := true, laidKinds := [.data, .data, .data], laidTests := true, laidLooks := .later }
def DatetextOnlyUptoCardSaid : Prop := Claim7.holds Tryd.pinned (.plain (OpenSpec.upto datetextOnlySpec)) datetextOnlyUptoCard
end Rows
end Go.Proofs.YthbgkokepnifdaaDoor
