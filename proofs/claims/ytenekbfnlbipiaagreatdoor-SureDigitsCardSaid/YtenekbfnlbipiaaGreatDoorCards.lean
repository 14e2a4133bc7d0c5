/-
  DERIVED. GIVEN WITH THE SEED: THE CARDS: each row of YtenekbfnlbipiaaGreatDoorRows.lean that lists a variable, with what it lists TIED to the program's text (the seventh form; the later family's looks); each row that meets fmt, with fmt's text TOLD by the authors' own Lean function (tested against real Go, not proved from fmt's source: count such statements apart). THE CARD IS WHAT COUNTS. Prove the row's statement (the work); the ties are given (YtenekbfnlbipiaaGreatDoorTie.lean); close each card by the builder's one call (the guide's Derived/Test/ToyasCard.lean, 'card_holds'). Laid BY PROGRAM, IN A SANDBOX (cutbox-door.mjs). By AI agents, Wed Nov 11 2026. No macro, syntax, notation, axiom, sorry.
-/
import Derived.Test.YtenekbfnlbipiaaGreatDoorRows
import GoSem.ClaimSeven
namespace Go.Proofs.YtenekbfnlbipiaaGreatDoor
namespace Rows

/-- THE TIED CARD OF 'numerallaw19.SureSome'. -/
def sureSomeCard : Claim7 := { stood := { row := sureSomeRow, standIns := [], harness := (true, "203ba243032bcecb45c92943091dc51d767e4b97d040073a4848f105861745fa"), looks := false }, kinds := [], alts := [], laidByText := true, laidKinds := [.data, .data, .data, .data, .data, .pinned], laidTests := true, laidLooks := .later }
def SureSomeCardSaid : Prop := Claim7.holds Tryz.pinned (.plain (OpenSpec.ofChange sureSomeSpec)) sureSomeCard

/-- THE TIED CARD OF 'numerallaw19.SureDigits'. -/
def sureDigitsCard : Claim7 := { stood := { row := sureDigitsRow, standIns := [], harness := (true, "203ba243032bcecb45c92943091dc51d767e4b97d040073a4848f105861745fa"), looks := false }, kinds := [], alts := [], laidByText := true, laidKinds := [.data, .data, .data, .data, .data, .pinned], laidTests := true, laidLooks := .later }
def SureDigitsCardSaid : Prop := Claim7.holds Tryz.pinned (.plain (OpenSpec.ofChange sureDigitsSpec)) sureDigitsCard

/-- THE SECOND FORM's CARD OF 'numerallaw19.SureSome'. -/
def sureSomeUptoCard : Claim7 := { stood := { row := sureSomeUptoRow, standIns := [], harness := (true, "203ba243032bcecb45c92943091dc51d767e4b97d040073a4848f105861745fa"), looks := false }, kinds := [], alts := [], laidByText := true, laidKinds := [.data, .data, .data, .data, .data, .pinned], laidTests := true, laidLooks := .later }
def SureSomeUptoCardSaid : Prop := Claim7.holds Tryz.pinned (.plain (OpenSpec.upto sureSomeSpec)) sureSomeUptoCard

/-- THE SECOND FORM's CARD OF 'numerallaw19.SureDigits'. -/
def sureDigitsUptoCard : Claim7 := { stood := { row := sureDigitsUptoRow, standIns := [], harness := (true, "203ba243032bcecb45c92943091dc51d767e4b97d040073a4848f105861745fa"), looks := false }, kinds := [], alts := [], laidByText := true, laidKinds := [.data, .data, .data, .data, .data, .pinned], laidTests := true, laidLooks := .later }
def SureDigitsUptoCardSaid : Prop := Claim7.holds Tryz.pinned (.plain (OpenSpec.upto sureDigitsSpec)) sureDigitsUptoCard
end Rows
end Go.Proofs.YtenekbfnlbipiaaGreatDoor
