/-
  DERIVED. GIVEN WITH THE SEED: THE CARDS: each row of YtlhcnophehfkoaaDoorRows.lean that lists a variable, with what it lists TIED to the program's text (the seventh form; the later family's looks); each row that meets fmt, with fmt's text TOLD by the authors' own Lean function (tested against real Go, not proved from fmt's source: count such statements apart). THE CARD IS WHAT COUNTS. Prove the row's statement (the work); the ties are given (YtlhcnophehfkoaaDoorTie.lean); close each card by the builder's one call (the guide's Derived/Test/ToyasCard.lean, 'card_holds'). Laid BY PROGRAM, IN A SANDBOX (cutbox-door.mjs). By AI agents, Wed Nov 11 2026. No macro, syntax, notation, axiom, sorry.
-/
import Derived.Test.YtlhcnophehfkoaaDoorRows
import GoSem.ClaimSeven
namespace Go.Proofs.YtlhcnophehfkoaaDoor
namespace Rows

/-- THE TIED CARD OF 'numerallaw13.PowerNone'. -/
def powerNoneCard : Claim7 := { stood := { row := powerNoneRow, standIns := [], harness := (true, "9e79923cab3e165619b4a448527939711b99edac7d9f17f93b2affc1bd80f75d"), looks := false }, kinds := [], alts := [], goes := true, laidByText := true, laidKinds := [.data], laidTests := true, laidLooks := .later }
def PowerNoneCardSaid : Prop := Claim7.holds Tryd.pinned (.plain (OpenSpec.ofChange powerNoneSpec)) powerNoneCard

/-- THE TIED CARD OF 'numerallaw13.PowerOnce'. -/
def powerOnceCard : Claim7 := { stood := { row := powerOnceRow, standIns := [], harness := (true, "9e79923cab3e165619b4a448527939711b99edac7d9f17f93b2affc1bd80f75d"), looks := false }, kinds := [], alts := [], goes := true, laidByText := true, laidKinds := [.data], laidTests := true, laidLooks := .later }
def PowerOnceCardSaid : Prop := Claim7.holds Tryd.pinned (.plain (OpenSpec.ofChange powerOnceSpec)) powerOnceCard

/-- THE TIED CARD OF 'numerallaw13.PowerNames'. -/
def powerNamesCard : Claim7 := { stood := { row := powerNamesRow, standIns := [], harness := (true, "9e79923cab3e165619b4a448527939711b99edac7d9f17f93b2affc1bd80f75d"), looks := false }, kinds := [], alts := [], goes := true, laidByText := true, laidKinds := [.data], laidTests := true, laidLooks := .later }
def PowerNamesCardSaid : Prop := Claim7.holds Tryd.pinned (.plain (OpenSpec.ofChange powerNamesSpec)) powerNamesCard

/-- THE TIED CARD OF 'numerallaw13.PowerTimes'. -/
def powerTimesCard : Claim7 := { stood := { row := powerTimesRow, standIns := [], harness := (true, "9e79923cab3e165619b4a448527939711b99edac7d9f17f93b2affc1bd80f75d"), looks := false }, kinds := [], alts := [], goes := true, laidByText := true, laidKinds := [.data], laidTests := true, laidLooks := .later }
def PowerTimesCardSaid : Prop := Claim7.holds Tryd.pinned (.plain (OpenSpec.ofChange powerTimesSpec)) powerTimesCard

/-- THE TIED CARD OF 'numerallaw13.PowerBounds'. -/
def powerBoundsCard : Claim7 := { stood := { row := powerBoundsRow, standIns := [], harness := (true, "9e79923cab3e165619b4a448527939711b99edac7d9f17f93b2affc1bd80f75d"), looks := false }, kinds := [], alts := [], goes := true, laidByText := true, laidKinds := [.data], laidTests := true, laidLooks := .later }
def PowerBoundsCardSaid : Prop := Claim7.holds Tryd.pinned (.plain (OpenSpec.ofChange powerBoundsSpec)) powerBoundsCard

/-- THE TIED CARD OF 'numerallaw13.PowerCounts'. -/
def powerCountsCard : Claim7 := { stood := { row := powerCountsRow, standIns := [], harness := (true, "9e79923cab3e165619b4a448527939711b99edac7d9f17f93b2affc1bd80f75d"), looks := false }, kinds := [], alts := [], goes := true, laidByText := true, laidKinds := [.data], laidTests := true, laidLooks := .later }
def PowerCountsCardSaid : Prop := Claim7.holds Tryd.pinned (.plain (OpenSpec.ofChange powerCountsSpec)) powerCountsCard
end Rows
end Go.Proofs.YtlhcnophehfkoaaDoor
