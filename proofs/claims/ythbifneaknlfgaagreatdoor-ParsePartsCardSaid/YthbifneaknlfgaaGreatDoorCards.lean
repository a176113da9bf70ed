/-
  DERIVED. GIVEN WITH THE SEED: THE CARDS: each row of YthbifneaknlfgaaGreatDoorRows.lean that lists a variable, with what it lists TIED to the program's text (the seventh form; the later family's looks); each row that meets fmt, with fmt's text TOLD by the authors' own Lean function (tested against real Go, not proved from fmt's source: count such statements apart). THE CARD IS WHAT COUNTS. Prove the row's statement (the work); the ties are given (YthbifneaknlfgaaGreatDoorTie.lean); close each card by the builder's one call (the guide's Derived/Test/ToyasCard.lean, 'card_holds'). Laid BY PROGRAM, IN A SANDBOX (cutbox-door.mjs). By AI agents, Wed Nov 11 2026. No macro, syntax, notation, axiom, sorry.
-/
import Derived.Test.YthbifneaknlfgaaGreatDoorRows
import GoSem.ClaimSeven
namespace Go.Proofs.YthbifneaknlfgaaGreatDoor
namespace Rows

/-- THE TIED CARD OF 'floodgatelaw02.ParsePrints'. -/
def parsePrintsCard : Claim7 := { stood := { row := parsePrintsRow, standIns := [], harness := (true, "1121fa2e5c5bae26fbda8b23bea0564a52eaf725a689e5bae7786e7c516c3312"), looks := true }, kinds := [], alts := [], laidByText := true, laidKinds := [.data, .data, .data, .sentinel, .sentinel], laidTests := true, laidLooks := .later }
def ParsePrintsCardSaid : Prop := Claim7.holds Tryz.pinned (.plain (OpenSpec.ofChange parsePrintsSpec)) parsePrintsCard

/-- THE TIED CARD OF 'floodgatelaw02.ParseFinds'. -/
def parseFindsCard : Claim7 := { stood := { row := parseFindsRow, standIns := [], harness := (true, "1121fa2e5c5bae26fbda8b23bea0564a52eaf725a689e5bae7786e7c516c3312"), looks := true }, kinds := [], alts := [], laidByText := true, laidKinds := [.data, .data, .data, .sentinel, .sentinel], laidTests := true, laidLooks := .later }
def ParseFindsCardSaid : Prop := Claim7.holds Tryz.pinned (.plain (OpenSpec.ofChange parseFindsSpec)) parseFindsCard

/-- THE TIED CARD OF 'floodgatelaw02.ParseCuts'. -/
def parseCutsCard : Claim7 := { stood := { row := parseCutsRow, standIns := [], harness := (true, "1121fa2e5c5bae26fbda8b23bea0564a52eaf725a689e5bae7786e7c516c3312"), looks := true }, kinds := [], alts := [], laidByText := true, laidKinds := [.data, .data, .data, .sentinel, .sentinel], laidTests := true, laidLooks := .later }
def ParseCutsCardSaid : Prop := Claim7.holds Tryz.pinned (.plain (OpenSpec.ofChange parseCutsSpec)) parseCutsCard

/-- THE TIED CARD OF 'floodgatelaw02.ParseParts'. -/
def parsePartsCard : Claim7 := { stood := { row := parsePartsRow, standIns := [], harness := (true, "1121fa2e5c5bae26fbda8b23bea0564a52eaf725a689e5bae7786e7c516c3312"), looks := true }, kinds := [], alts := [], laidByText := true, laidKinds := [.data, .data, .data, .sentinel, .sentinel], laidTests := true, laidLooks := .later }
def ParsePartsCardSaid : Prop := Claim7.holds Tryz.pinned (.plain (OpenSpec.ofChange parsePartsSpec)) parsePartsCard

/-- THE SECOND FORM's CARD OF 'floodgatelaw02.ParsePrints'. -/
def parsePrintsUptoCard : Claim7 := { stood := { row := parsePrintsUptoRow, standIns := [], harness := (true, "1121fa2e5c5bae26fbda8b23bea0564a52eaf725a689e5bae7786e7c516c3312"), looks := true }, kinds := [], alts := [], laidByText := true, laidKinds := [.data, .data, .data, .sentinel, .sentinel], laidTests := true, laidLooks := .later }
def ParsePrintsUptoCardSaid : Prop := Claim7.holds Tryz.pinned (.plain (OpenSpec.upto parsePrintsSpec)) parsePrintsUptoCard

/-- THE SECOND FORM's CARD OF 'floodgatelaw02.ParseFinds'. -/
def parseFindsUptoCard : Claim7 := { stood := { row := parseFindsUptoRow, standIns := [], harness := (true, "1121fa2e5c5bae26fbda8b23bea0564a52eaf725a689e5bae7786e7c516c3312"), looks := true }, kinds := [], alts := [], laidByText := true, laidKinds := [.data, .data, .data, .sentinel, .sentinel], laidTests := true, laidLooks := .later }
def ParseFindsUptoCardSaid : Prop := Claim7.holds Tryz.pinned (.plain (OpenSpec.upto parseFindsSpec)) parseFindsUptoCard

/-- THE SECOND FORM's CARD OF 'floodgatelaw02.ParseCuts'. -/
def parseCutsUptoCard : Claim7 := { stood := { row := parseCutsUptoRow, standIns := [], harness := (true, "1121fa2e5c5bae26fbda8b23bea0564a52eaf725a689e5bae7786e7c516c3312"), looks := true }, kinds := [], alts := [], laidByText := true, laidKinds := [.data, .data, .data, .sentinel, .sentinel], laidTests := true, laidLooks := .later }
def ParseCutsUptoCardSaid : Prop := Claim7.holds Tryz.pinned (.plain (OpenSpec.upto parseCutsSpec)) parseCutsUptoCard

/-- THE SECOND FORM's CARD OF 'floodgatelaw02.ParseParts'. -/
def parsePartsUptoCard : Claim7 := { stood := { row := parsePartsUptoRow, standIns := [], harness := (true, "1121fa2e5c5bae26fbda8b23bea0564a52eaf725a689e5bae7786e7c516c3312"), looks := true }, kinds := [], alts := [], laidByText := true, laidKinds := [.data, .data, .data, .sentinel, .sentinel], laidTests := true, laidLooks := .later }
def ParsePartsUptoCardSaid : Prop := Claim7.holds Tryz.pinned (.plain (OpenSpec.upto parsePartsSpec)) parsePartsUptoCard
end Rows
end Go.Proofs.YthbifneaknlfgaaGreatDoor
