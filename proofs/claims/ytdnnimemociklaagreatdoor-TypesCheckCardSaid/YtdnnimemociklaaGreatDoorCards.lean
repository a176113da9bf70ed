/-
  DERIVED. GIVEN WITH THE SEED: THE CARDS: each row of YtdnnimemociklaaGreatDoorRows.lean that lists a variable, with what it lists TIED to the program's text (the seventh form; the later family's looks); each row that meets fmt, with fmt's text TOLD by the authors' own Lean function (tested against real Go, not proved from fmt's source: count such statements apart). THE CARD IS WHAT COUNTS. Prove the row's statement (the work); the ties are given (YtdnnimemociklaaGreatDoorTie.lean); close each card by the builder's one call (the guide's Derived/Test/ToyasCard.lean, 'card_holds'). Laid BY PROGRAM, IN A SANDBOX (cutbox-door.mjs). By AI agents, Wed Nov 11 2026. No macro, syntax, notation, axiom, sorry.
-/
import Derived.Test.YtdnnimemociklaaGreatDoorRows
import GoSem.ClaimSeven
namespace Go.Proofs.YtdnnimemociklaaGreatDoor
namespace Rows

/-- THE TIED CARD OF 'floodgatelaw04.TypesInfer'. -/
def typesInferCard : Claim7 := { stood := { row := typesInferRow, standIns := [], harness := (true, "5dce32ebda9cb0135c609e7b11bb6757c7ea6413a688b7bb577f3dbb09bbe0b8"), looks := true }, kinds := [], alts := [], laidByText := true, laidKinds := [.data, .data, .data, .sentinel, .sentinel], laidTests := true, laidLooks := .later }
def TypesInferCardSaid : Prop := Claim7.holds Tryz.pinned (.plain (OpenSpec.ofChange typesInferSpec)) typesInferCard

/-- THE TIED CARD OF 'floodgatelaw04.TypesShuffled'. -/
def typesShuffledCard : Claim7 := { stood := { row := typesShuffledRow, standIns := [], harness := (true, "5dce32ebda9cb0135c609e7b11bb6757c7ea6413a688b7bb577f3dbb09bbe0b8"), looks := true }, kinds := [], alts := [], laidByText := true, laidKinds := [.data, .data, .data, .sentinel, .sentinel], laidTests := true, laidLooks := .later }
def TypesShuffledCardSaid : Prop := Claim7.holds Tryz.pinned (.plain (OpenSpec.ofChange typesShuffledSpec)) typesShuffledCard

/-- THE TIED CARD OF 'floodgatelaw04.TypesCheck'. -/
def typesCheckCard : Claim7 := { stood := { row := typesCheckRow, standIns := [], harness := (true, "5dce32ebda9cb0135c609e7b11bb6757c7ea6413a688b7bb577f3dbb09bbe0b8"), looks := true }, kinds := [], alts := [], laidByText := true, laidKinds := [.data, .data, .data, .sentinel, .sentinel], laidTests := true, laidLooks := .later }
def TypesCheckCardSaid : Prop := Claim7.holds Tryz.pinned (.plain (OpenSpec.ofChange typesCheckSpec)) typesCheckCard

/-- THE SECOND FORM's CARD OF 'floodgatelaw04.TypesInfer'. -/
def typesInferUptoCard : Claim7 := { stood := { row := typesInferUptoRow, standIns := [], harness := (true, "5dce32ebda9cb0135c609e7b11bb6757c7ea6413a688b7bb577f3dbb09bbe0b8"), looks := true }, kinds := [], alts := [], laidByText := true, laidKinds := [.data, .data, .data, .sentinel, .sentinel], laidTests := true, laidLooks := .later }
def TypesInferUptoCardSaid : Prop := Claim7.holds Tryz.pinned (.plain (OpenSpec.upto typesInferSpec)) typesInferUptoCard

/-- THE SECOND FORM's CARD OF 'floodgatelaw04.TypesShuffled'. -/
def typesShuffledUptoCard : Claim7 := { stood := { row := typesShuffledUptoRow, standIns := [], harness := (true, "5dce32ebda9cb0135c609e7b11bb6757c7ea6413a688b7bb577f3dbb09bbe0b8"), looks := true }, kinds := [], alts := [], laidByText := true, laidKinds := [.data, .data, .data, .sentinel, .sentinel], laidTests := true, laidLooks := .later }
def TypesShuffledUptoCardSaid : Prop := Claim7.holds Tryz.pinned (.plain (OpenSpec.upto typesShuffledSpec)) typesShuffledUptoCard

/-- THE SECOND FORM's CARD OF 'floodgatelaw04.TypesCheck'. -/
def typesCheckUptoCard : Claim7 := { stood := { row := typesCheckUptoRow, standIns := [], harness := (true, "5dce32ebda9cb0135c609e7b11bb6757c7ea6413a688b7bb577f3dbb09bbe0b8"), looks := true }, kinds := [], alts := [], laidByText := true, laidKinds := [.data, .data, .data, .sentinel, .sentinel], laidTests := true, laidLooks := .later }
def TypesCheckUptoCardSaid : Prop := Claim7.holds Tryz.pinned (.plain (OpenSpec.upto typesCheckSpec)) typesCheckUptoCard
end Rows
end Go.Proofs.YtdnnimemociklaaGreatDoor
