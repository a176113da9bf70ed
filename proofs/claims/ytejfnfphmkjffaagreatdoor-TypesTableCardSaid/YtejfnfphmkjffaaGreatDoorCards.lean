/-
  DERIVED. GIVEN WITH THE SEED: THE CARDS: each row of YtejfnfphmkjffaaGreatDoorRows.lean that lists a variable, with what it lists TIED to the program's text (the seventh form; the later family's looks); each row that meets fmt, with fmt's text TOLD by the authors' own Lean function (tested against real Go, not proved from fmt's source: count such statements apart). THE CARD IS WHAT COUNTS. Prove the row's statement (the work); the ties are given (YtejfnfphmkjffaaGreatDoorTie.lean); close each card by the builder's one call (the guide's Derived/Test/ToyasCard.lean, 'card_holds'). Laid BY PROGRAM, IN A SANDBOX (cutbox-door.mjs). By AI agents, Wed Nov 11 2026. No macro, syntax, notation, axiom, sorry.
-/
import Derived.Test.YtejfnfphmkjffaaGreatDoorRows
import GoSem.ClaimSeven
namespace Go.Proofs.YtejfnfphmkjffaaGreatDoor
namespace Rows

/-- THE TIED CARD OF 'floodgatelaw04.TypesTable'. -/
def typesTableCard : Claim7 := { stood := { row := typesTableRow, standIns := [], harness := (true, "030848c4026c16e1bbc0a32784cb707c110387e84afcc27a1cb3a064fff3f6c0"), looks := true }, kinds := [], alts := [], laidByText := true, laidKinds := [.data, .data, .data, .sentinel, .sentinel], laidTests := true, laidLooks := .later }
def TypesTableCardSaid : Prop := Claim7.holds Tryz.pinned (.plain (OpenSpec.ofChange typesTableSpec)) typesTableCard

/-- THE TIED CARD OF 'floodgatelaw04.TypesShuffled'. -/
def typesShuffledCard : Claim7 := { stood := { row := typesShuffledRow, standIns := [], harness := (true, "030848c4026c16e1bbc0a32784cb707c110387e84afcc27a1cb3a064fff3f6c0"), looks := true }, kinds := [], alts := [], laidByText := true, laidKinds := [.data, .data, .data, .sentinel, .sentinel], laidTests := true, laidLooks := .later }
def TypesShuffledCardSaid : Prop := Claim7.holds Tryz.pinned (.plain (OpenSpec.ofChange typesShuffledSpec)) typesShuffledCard

/-- THE TIED CARD OF 'floodgatelaw04.TypesOne'. -/
def typesOneCard : Claim7 := { stood := { row := typesOneRow, standIns := [], harness := (true, "030848c4026c16e1bbc0a32784cb707c110387e84afcc27a1cb3a064fff3f6c0"), looks := true }, kinds := [], alts := [], laidByText := true, laidKinds := [.data, .data, .data, .sentinel, .sentinel], laidTests := true, laidLooks := .later }
def TypesOneCardSaid : Prop := Claim7.holds Tryz.pinned (.plain (OpenSpec.ofChange typesOneSpec)) typesOneCard

/-- THE SECOND FORM's CARD OF 'floodgatelaw04.TypesTable'. -/
def typesTableUptoCard : Claim7 := { stood := { row := typesTableUptoRow, standIns := [], harness := (true, "030848c4026c16e1bbc0a32784cb707c110387e84afcc27a1cb3a064fff3f6c0"), looks := true }, kinds := [], alts := [], laidByText := true, laidKinds := [.data, .data, .data, .sentinel, .sentinel], laidTests := true, laidLooks := .later }
def TypesTableUptoCardSaid : Prop := Claim7.holds Tryz.pinned (.plain (OpenSpec.upto typesTableSpec)) typesTableUptoCard

/-- THE SECOND FORM's CARD OF 'floodgatelaw04.TypesShuffled'. -/
def typesShuffledUptoCard : Claim7 := { stood := { row := typesShuffledUptoRow, standIns := [], harness := (true, "030848c4026c16e1bbc0a32784cb707c110387e84afcc27a1cb3a064fff3f6c0"), looks := true }, kinds := [], alts := [], laidByText := true, laidKinds := [.data, .data, .data, .sentinel, .sentinel], laidTests := true, laidLooks := .later }
def TypesShuffledUptoCardSaid : Prop := Claim7.holds Tryz.pinned (.plain (OpenSpec.upto typesShuffledSpec)) typesShuffledUptoCard

/-- THE SECOND FORM's CARD OF 'floodgatelaw04.TypesOne'. -/
def typesOneUptoCard : Claim7 := { stood := { row := typesOneUptoRow, standIns := [], harness := (true, "030848c4026c16e1bbc0a32784cb707c110387e84afcc27a1cb3a064fff3f6c0"), looks := true }, kinds := [], alts := [], laidByText := true, laidKinds := [.data, .data, .data, .sentinel, .sentinel], laidTests := true, laidLooks := .later }
def TypesOneUptoCardSaid : Prop := Claim7.holds Tryz.pinned (.plain (OpenSpec.upto typesOneSpec)) typesOneUptoCard
end Rows
end Go.Proofs.YtejfnfphmkjffaaGreatDoor
