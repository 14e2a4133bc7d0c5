/-
  DERIVED. GIVEN WITH THE SEED: THE CARDS: each row of YtenekbfnlbipiaaDoorRows.lean that lists a variable, with what it lists TIED to the program's text (the seventh form; the later family's looks); each row that meets fmt, with fmt's text TOLD by the authors' own Lean function (tested against real Go, not proved from fmt's source: count such statements apart). THE CARD IS WHAT COUNTS. Prove the row's statement (the work); the ties are given (YtenekbfnlbipiaaDoorTie.lean); close each card by the builder's one call (the guide's Derived/Test/ToyasCard.lean, 'card_holds'). Laid BY PROGRAM, IN A SANDBOX (cutbox-door.mjs). By AI agents, Wed Nov 11 2026. No macro, syntax, notation, axiom, sorry.
-/
import Derived.Test.YtenekbfnlbipiaaDoorRows
import GoSem.ClaimSeven
namespace Go.Proofs.YtenekbfnlbipiaaDoor
namespace Rows

/-- THE TIED CARD OF 'numerallaw13.PowerTens'. -/
def powerTensCard : Claim7 := { stood := { row := powerTensRow, standIns := [], harness := (true, "0f370332dfb5df62569bb334fcf70efd9875712501486a5d3c1bcd4dc68424b8"), looks := false }, kinds := [], alts := [], laidByText := true, laidKinds := [.data], laidTests := true, laidLooks := .later }
def PowerTensCardSaid : Prop := Claim7.holds Tryd.pinned (.plain (OpenSpec.ofChange powerTensSpec)) powerTensCard

/-- THE TIED CARD OF 'numerallaw19.SureNames'. -/
def sureNamesCard : Claim7 := { stood := { row := sureNamesRow, standIns := [], harness := (true, "0f370332dfb5df62569bb334fcf70efd9875712501486a5d3c1bcd4dc68424b8"), looks := false }, kinds := [], alts := [], laidByText := true, laidKinds := [.data, .data, .data, .data, .data, .pinned], laidTests := true, laidLooks := .later }
def SureNamesCardSaid : Prop := Claim7.holds Tryd.pinned (.plain (OpenSpec.ofChange sureNamesSpec)) sureNamesCard

/-- THE TIED CARD OF 'numerallaw19.SureWholes'. -/
def sureWholesCard : Claim7 := { stood := { row := sureWholesRow, standIns := [], harness := (true, "0f370332dfb5df62569bb334fcf70efd9875712501486a5d3c1bcd4dc68424b8"), looks := false }, kinds := [], alts := [], laidByText := true, laidKinds := [.data, .data, .data, .data, .data, .pinned], laidTests := true, laidLooks := .later }
def SureWholesCardSaid : Prop := Claim7.holds Tryd.pinned (.plain (OpenSpec.ofChange sureWholesSpec)) sureWholesCard

/-- THE SECOND FORM's CARD OF 'numerallaw13.PowerTens'. -/
def powerTensUptoCard : Claim7 := { stood := { row := powerTensUptoRow, standIns := [], harness := (true, "0f370332dfb5df62569bb334fcf70efd9875712501486a5d3c1bcd4dc68424b8"), looks := false }, kinds := [], alts := [], laidByText := true, laidKinds := [.data], laidTests := true, laidLooks := .later }
def PowerTensUptoCardSaid : Prop := Claim7.holds Tryd.pinned (.plain (OpenSpec.upto powerTensSpec)) powerTensUptoCard

/-- THE SECOND FORM's CARD OF 'numerallaw19.SureNames'. -/
def sureNamesUptoCard : Claim7 := { stood := { row := sureNamesUptoRow, standIns := [], harness := (true, "0f370332dfb5df62569bb334fcf70efd9875712501486a5d3c1bcd4dc68424b8"), looks := false }, kinds := [], alts := [], laidByText := true, laidKinds := [.data, .data, .data, .data, .data, .pinned], laidTests := true, laidLooks := .later }
def SureNamesUptoCardSaid : Prop := Claim7.holds Tryd.pinned (.plain (OpenSpec.upto sureNamesSpec)) sureNamesUptoCard

/-- THE SECOND FORM's CARD OF 'numerallaw19.SureWholes'. -/
def sureWholesUptoCard : Claim7 := { stood := { row := sureWholesUptoRow, standIns := [], harness := (true, "0f370332dfb5df62569bb334fcf70efd9875712501486a5d3c1bcd4dc68424b8"), looks := false }, kinds := [], alts := [], laidByText := true, laidKinds := [.data, .data, .data, .data, .data, .pinned], laidTests := true, laidLooks := .later }
def SureWholesUptoCardSaid : Prop := Claim7.holds Tryd.pinned (.plain (OpenSpec.upto sureWholesSpec)) sureWholesUptoCard
end Rows
end Go.Proofs.YtenekbfnlbipiaaDoor
