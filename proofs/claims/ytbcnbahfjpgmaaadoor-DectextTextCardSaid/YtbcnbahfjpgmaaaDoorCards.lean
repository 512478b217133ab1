/-
  DERIVED. GIVEN WITH THE SEED: THE CARDS: each row of YtbcnbahfjpgmaaaDoorRows.lean that lists a variable, with what it lists TIED to the program's text (the seventh form; the later family's looks); each row that meets fmt, with fmt's text TOLD by the authors' own Lean function (tested against real Go, not proved from fmt's source: count such statements apart). THE CARD IS WHAT COUNTS. Prove the row's statement (the work); the ties are given (YtbcnbahfjpgmaaaDoorTie.lean); close each card by the builder's one call (the guide's Derived/Test/ToyasCard.lean, 'card_holds'). Laid BY PROGRAM, IN A SANDBOX (cutbox-door.mjs). By AI agents, Wed Nov 11 2026. No macro, syntax, notation, axiom, sorry.
-/
import Derived.Test.YtbcnbahfjpgmaaaDoorRows
import GoSem.ClaimSeven
namespace Go.Proofs.YtbcnbahfjpgmaaaDoor
namespace Rows

/-- THE TIED CARD OF 'corrodylaw03.DectextText'. -/
def dectextTextCard : Claim7 := { stood := { row := dectextTextRow, standIns := [], harness := (true, "f0a4135d0957c4623ea2eb898fe082777080fe67bcb9b63abf63f51100a72f91"), looks := true }, kinds := [], alts := [], laidByText := true, laidKinds := [.data, .data, .data, .sentinel, .sentinel], laidTests := true, laidLooks := .later }
def DectextTextCardSaid : Prop := Claim7.holds Tryd.pinned (.plain (OpenSpec.ofChange dectextTextSpec)) dectextTextCard

/-- THE TIED CARD OF 'corrodylaw03.DectextParse'. -/
def dectextParseCard : Claim7 := { stood := { row := dectextParseRow, standIns := [], harness := (true, "f0a4135d0957c4623ea2eb898fe082777080fe67bcb9b63abf63f51100a72f91"), looks := true }, kinds := [], alts := [], laidByText := true, laidKinds := [.data, .data, .data, .sentinel, .sentinel], laidTests := true, laidLooks := .later }
def DectextParseCardSaid : Prop := Claim7.holds Tryd.pinned (.plain (OpenSpec.ofChange dectextParseSpec)) dectextParseCard

/-- THE TIED CARD OF 'corrodylaw03.DectextOnly'. -/
def dectextOnlyCard : Claim7 := { stood := { row := dectextOnlyRow, standIns := [], harness := (true, "f0a4135d0957c4623ea2eb898fe082777080fe67bcb9b63abf63f51100a72f91"), looks := true }, kinds := [], alts := [], laidByText := true, laidKinds := [.data, .data, .data, .sentinel, .sentinel], laidTests := true, laidLooks := .later }
def DectextOnlyCardSaid : Prop := Claim7.holds Tryd.pinned (.plain (OpenSpec.ofChange dectextOnlySpec)) dectextOnlyCard

/-- THE SECOND FORM's CARD OF 'corrodylaw03.DectextText'. -/
def dectextTextUptoCard : Claim7 := { stood := { row := dectextTextUptoRow, standIns := [], harness := (true, "f0a4135d0957c4623ea2eb898fe082777080fe67bcb9b63abf63f51100a72f91"), looks := true }, kinds := [], alts := [], laidByText := true, laidKinds := [.data, .data, .data, .sentinel, .sentinel], laidTests := true, laidLooks := .later }
def DectextTextUptoCardSaid : Prop := Claim7.holds Tryd.pinned (.plain (OpenSpec.upto dectextTextSpec)) dectextTextUptoCard

/-- THE SECOND FORM's CARD OF 'corrodylaw03.DectextParse'. -/
def dectextParseUptoCard : Claim7 := { stood := { row := dectextParseUptoRow, standIns := [], harness := (true, "f0a4135d0957c4623ea2eb898fe082777080fe67bcb9b63abf63f51100a72f91"), looks := true }, kinds := [], alts := [], laidByText := true, laidKinds := [.data, .data, .data, .sentinel, .sentinel], laidTests := true, laidLooks := .later }
def DectextParseUptoCardSaid : Prop := Claim7.holds Tryd.pinned (.plain (OpenSpec.upto dectextParseSpec)) dectextParseUptoCard

/-- THE SECOND FORM's CARD OF 'corrodylaw03.DectextOnly'. -/
def dectextOnlyUptoCard : Claim7 := { stood := { row := dectextOnlyUptoRow, standIns := [], harness := (true, "f0a4135d0957c4623ea2eb898fe082777080fe67bcb9b63abf63f51100a72f91"), looks := true }, kinds := [], alts := [], laidByText := true, laidKinds := [.data, .data, .data, .sentinel, .sentinel], laidTests := true, laidLooks := .later }
def DectextOnlyUptoCardSaid : Prop := Claim7.holds Tryd.pinned (.plain (OpenSpec.upto dectextOnlySpec)) dectextOnlyUptoCard
end Rows
end Go.Proofs.YtbcnbahfjpgmaaaDoor
