/-
  DERIVED. GIVEN WITH THE SEED: THE CARDS: each row of YtefhannaofknnaaDoorRows.lean that lists a variable, with what it lists TIED to the program's text (the seventh form; the later family's looks); each row that meets fmt, with fmt's text TOLD by the authors' own Lean function (tested against real Go, not proved from fmt's source: count such statements apart). THE CARD IS WHAT COUNTS. Prove the row's statement (the work); the ties are given (YtefhannaofknnaaDoorTie.lean); close each card by the builder's one call (the guide's Derived/Test/ToyasCard.lean, 'card_holds'). Laid BY PROGRAM, IN A SANDBOX (cutbox-door.mjs). By AI agents, Wed Nov 11 2026. No macro, syntax, notation, axiom, sorry.
-/
import Derived.Test.YtefhannaofknnaaDoorRows
import GoSem.ClaimSeven
namespace Go.Proofs.YtefhannaofknnaaDoor
namespace Rows

/-- THE TIED CARD OF 'numeraltop.TopPack'. -/
def topPackCard : Claim7 := { stood := { row := topPackRow, standIns := [], harness := (true, "5ca83c911220feab6a8400a5d73049f02ff188605a048ed35050831bd1b2a3a0"), looks := false }, kinds := [], alts := [], laidByText := true, laidKinds := [.data], laidTests := true, laidLooks := .later }
def TopPackCardSaid : Prop := Claim7.holds Tryd.pinned (.plain (OpenSpec.ofChange topPackSpec)) topPackCard

/-- THE TIED CARD OF 'numerallaw27.PackRows'. -/
def packRowsCard : Claim7 := { stood := { row := packRowsRow, standIns := [], harness := (true, "5ca83c911220feab6a8400a5d73049f02ff188605a048ed35050831bd1b2a3a0"), looks := false }, kinds := [], alts := [], laidByText := true, laidKinds := [.data], laidTests := true, laidLooks := .later }
def PackRowsCardSaid : Prop := Claim7.holds Tryd.pinned (.plain (OpenSpec.ofChange packRowsSpec)) packRowsCard

/-- THE TIED CARD OF 'numerallaw27.PackBytes'. -/
def packBytesCard : Claim7 := { stood := { row := packBytesRow, standIns := [], harness := (true, "5ca83c911220feab6a8400a5d73049f02ff188605a048ed35050831bd1b2a3a0"), looks := false }, kinds := [], alts := [], laidByText := true, laidKinds := [.data], laidTests := true, laidLooks := .later }
def PackBytesCardSaid : Prop := Claim7.holds Tryd.pinned (.plain (OpenSpec.ofChange packBytesSpec)) packBytesCard

/-- THE TIED CARD OF 'numerallaw27.PackBack'. -/
def packBackCard : Claim7 := { stood := { row := packBackRow, standIns := [], harness := (true, "5ca83c911220feab6a8400a5d73049f02ff188605a048ed35050831bd1b2a3a0"), looks := false }, kinds := [], alts := [], laidByText := true, laidKinds := [.data], laidTests := true, laidLooks := .later }
def PackBackCardSaid : Prop := Claim7.holds Tryd.pinned (.plain (OpenSpec.ofChange packBackSpec)) packBackCard

/-- THE TIED CARD OF 'numerallaw27.PackForth'. -/
def packForthCard : Claim7 := { stood := { row := packForthRow, standIns := [], harness := (true, "5ca83c911220feab6a8400a5d73049f02ff188605a048ed35050831bd1b2a3a0"), looks := false }, kinds := [], alts := [], laidByText := true, laidKinds := [.data], laidTests := true, laidLooks := .later }
def PackForthCardSaid : Prop := Claim7.holds Tryd.pinned (.plain (OpenSpec.ofChange packForthSpec)) packForthCard

/-- THE TIED CARD OF 'numerallaw27.PackWriters'. -/
def packWritersCard : Claim7 := { stood := { row := packWritersRow, standIns := [], harness := (true, "5ca83c911220feab6a8400a5d73049f02ff188605a048ed35050831bd1b2a3a0"), looks := false }, kinds := [], alts := [], laidByText := true, laidKinds := [.data], laidTests := true, laidLooks := .later }
def PackWritersCardSaid : Prop := Claim7.holds Tryd.pinned (.plain (OpenSpec.ofChange packWritersSpec)) packWritersCard

/-- THE TIED CARD OF 'numerallaw27.PackAgain'. -/
def packAgainCard : Claim7 := { stood := { row := packAgainRow, standIns := [], harness := (true, "5ca83c911220feab6a8400a5d73049f02ff188605a048ed35050831bd1b2a3a0"), looks := false }, kinds := [], alts := [], laidByText := true, laidKinds := [.data], laidTests := true, laidLooks := .later }
def PackAgainCardSaid : Prop := Claim7.holds Tryd.pinned (.plain (OpenSpec.ofChange packAgainSpec)) packAgainCard

/-- THE SECOND FORM's CARD OF 'numeraltop.TopPack'. -/
def topPackUptoCard : Claim7 := { stood := { row := topPackUptoRow, standIns := [], harness := (true, "5ca83c911220feab6a8400a5d73049f02ff188605a048ed35050831bd1b2a3a0"), looks := false }, kinds := [], alts := [], laidByText := true, laidKinds := [.data], laidTests := true, laidLooks := .later }
def TopPackUptoCardSaid : Prop := Claim7.holds Tryd.pinned (.plain (OpenSpec.upto topPackSpec)) topPackUptoCard

/-- THE SECOND FORM's CARD OF 'numerallaw27.PackRows'. -/
def packRowsUptoCard : Claim7 := { stood := { row := packRowsUptoRow, standIns := [], harness := (true, "5ca83c911220feab6a8400a5d73049f02ff188605a048ed35050831bd1b2a3a0"), looks := false }, kinds := [], alts := [], laidByText := true, laidKinds := [.data], laidTests := true, laidLooks := .later }
def PackRowsUptoCardSaid : Prop := Claim7.holds Tryd.pinned (.plain (OpenSpec.upto packRowsSpec)) packRowsUptoCard

/-- THE SECOND FORM's CARD OF 'numerallaw27.PackBytes'. -/
def packBytesUptoCard : Claim7 := { stood := { row := packBytesUptoRow, standIns := [], harness := (true, "5ca83c911220feab6a8400a5d73049f02ff188605a048ed35050831bd1b2a3a0"), looks := false }, kinds := [], alts := [], laidByText := true, laidKinds := [.data], laidTests := true, laidLooks := .later }
def PackBytesUptoCardSaid : Prop := Claim7.holds Tryd.pinned (.plain (OpenSpec.upto packBytesSpec)) packBytesUptoCard

/-- THE SECOND FORM's CARD OF 'numerallaw27.PackBack'. -/
def packBackUptoCard : Claim7 := { stood := { row := packBackUptoRow, standIns := [], harness := (true, "5ca83c911220feab6a8400a5d73049f02ff188605a048ed35050831bd1b2a3a0"), looks := false }, kinds := [], alts := [], laidByText := true, laidKinds := [.data], laidTests := true, laidLooks := .later }
def PackBackUptoCardSaid : Prop := Claim7.holds Tryd.pinned (.plain (OpenSpec.upto packBackSpec)) packBackUptoCard

/-- THE SECOND FORM's CARD OF 'numerallaw27.PackForth'. -/
def packForthUptoCard : Claim7 := { stood := { row := packForthUptoRow, standIns := [], harness := (true, "5ca83c911220feab6a8400a5d73049f02ff188605a048ed35050831bd1b2a3a0"), looks := false }, kinds := [], alts := [], laidByText := true, laidKinds := [.data], laidTests := true, laidLooks := .later }
def PackForthUptoCardSaid : Prop := Claim7.holds Tryd.pinned (.plain (OpenSpec.upto packForthSpec)) packForthUptoCard

/-- THE SECOND FORM's CARD OF 'numerallaw27.PackWriters'. -/
def packWritersUptoCard : Claim7 := { stood := { row := packWritersUptoRow, standIns := [], harness := (true, "5ca83c911220feab6a8400a5d73049f02ff188605a048ed35050831bd1b2a3a0"), looks := false }, kinds := [], alts := [], laidByText := true, laidKinds := [.data], laidTests := true, laidLooks := .later }
def PackWritersUptoCardSaid : Prop := Claim7.holds Tryd.pinned (.plain (OpenSpec.upto packWritersSpec)) packWritersUptoCard

/-- THE SECOND FORM's CARD OF 'numerallaw27.PackAgain'. -/
def packAgainUptoCard : Claim7 := { stood := { row := packAgainUptoRow, standIns := [], harness := (true, "5ca83c911220feab6a8400a5d73049f02ff188605a048ed35050831bd1b2a3a0"), looks := false }, kinds := [], alts := [], laidByText := true, laidKinds := [.data], laidTests := true, laidLooks := .later }
def PackAgainUptoCardSaid : Prop := Claim7.holds Tryd.pinned (.plain (OpenSpec.upto packAgainSpec)) packAgainUptoCard
end Rows
end Go.Proofs.YtefhannaofknnaaDoor
