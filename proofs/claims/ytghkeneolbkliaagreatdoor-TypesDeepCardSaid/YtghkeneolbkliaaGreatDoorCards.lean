/-
  DERIVED. GIVEN WITH THE SEED: THE CARDS: each row of YtghkeneolbkliaaGreatDoorRows.lean that lists a variable, with what it lists TIED to the program's text (the seventh form; the later family's looks); each row that meets fmt, with fmt's text TOLD by the authors' own Lean function (tested against real Go, not proved from fmt's source: count such statements apart). THE CARD IS WHAT COUNTS. Prove the row's statement (the work); the ties are given (YtghkeneolbkliaaGreatDoorTie.lean); close each card by the builder's one call (the guide's Derived/Test/ToyasCard.lean, 'card_holds'). Laid BY PROGRAM, IN A SANDBOX (cutbox-door.mjs). By AI agents, Wed Nov 11 2026. No macro, syntax, notation, axiom, sorry.
-/
import Derived.Test.YtghkeneolbkliaaGreatDoorRows
import GoSem.ClaimSeven
namespace Go.Proofs.YtghkeneolbkliaaGreatDoor
namespace Rows

/-- THE TIED CARD OF 'floodgatelaw04.TypesSplit'. -/
def typesSplitCard : Claim7 := { stood := { row := typesSplitRow, standIns := [], harness := (true, "73b566a252b18e0f6f882bfbabe73bc24c34be9a6b05bf459d81055784b714b2"), looks := true }, kinds := [], alts := [], laidByText := true, laidKinds := [.data, .data, .data, .sentinel, .sentinel], laidTests := true, laidLooks := .later }
def TypesSplitCardSaid : Prop := Claim7.holds Tryz.pinned (.plain (OpenSpec.ofChange typesSplitSpec)) typesSplitCard

/-- THE TIED CARD OF 'floodgatelaw04.TypesDeep'. -/
def typesDeepCard : Claim7 := { stood := { row := typesDeepRow, standIns := [], harness := (true, "73b566a252b18e0f6f882bfbabe73bc24c34be9a6b05bf459d81055784b714b2"), looks := true }, kinds := [], alts := [], laidByText := true, laidKinds := [.data, .data, .data, .sentinel, .sentinel], laidTests := true, laidLooks := .later }
def TypesDeepCardSaid : Prop := Claim7.holds Tryz.pinned (.plain (OpenSpec.ofChange typesDeepSpec)) typesDeepCard

/-- THE SECOND FORM's CARD OF 'floodgatelaw04.TypesSplit'. -/
def typesSplitUptoCard : Claim7 := { stood := { row := typesSplitUptoRow, standIns := [], harness := (true, "73b566a252b18e0f6f882bfbabe73bc24c34be9a6b05bf459d81055784b714b2"), looks := true }, kinds := [], alts := [], laidByText := true, laidKinds := [.data, .data, .data, .sentinel, .sentinel], laidTests := true, laidLooks := .later }
def TypesSplitUptoCardSaid : Prop := Claim7.holds Tryz.pinned (.plain (OpenSpec.upto typesSplitSpec)) typesSplitUptoCard

/-- THE SECOND FORM's CARD OF 'floodgatelaw04.TypesDeep'. -/
def typesDeepUptoCard : Claim7 := { stood := { row := typesDeepUptoRow, standIns := [], harness := (true, "73b566a252b18e0f6f882bfbabe73bc24c34be9a6b05bf459d81055784b714b2"), looks := true }, kinds := [], alts := [], laidByText := true, laidKinds := [.data, .data, .data, .sentinel, .sentinel], laidTests := true, laidLooks := .later }
def TypesDeepUptoCardSaid : Prop := Claim7.holds Tryz.pinned (.plain (OpenSpec.upto typesDeepSpec)) typesDeepUptoCard
end Rows
end Go.Proofs.YtghkeneolbkliaaGreatDoor
