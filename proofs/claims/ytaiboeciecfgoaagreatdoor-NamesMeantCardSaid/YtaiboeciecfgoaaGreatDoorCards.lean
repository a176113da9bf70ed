/-
  DERIVED. GIVEN WITH THE SEED: THE CARDS: each row of YtaiboeciecfgoaaGreatDoorRows.lean that lists a variable, with what it lists TIED to the program's text (the seventh form; the later family's looks); each row that meets fmt, with fmt's text TOLD by the authors' own Lean function (tested against real Go, not proved from fmt's source: count such statements apart). THE CARD IS WHAT COUNTS. Prove the row's statement (the work); the ties are given (YtaiboeciecfgoaaGreatDoorTie.lean); close each card by the builder's one call (the guide's Derived/Test/ToyasCard.lean, 'card_holds'). Laid BY PROGRAM, IN A SANDBOX (cutbox-door.mjs). By AI agents, Wed Nov 11 2026. No macro, syntax, notation, axiom, sorry.
-/
import Derived.Test.YtaiboeciecfgoaaGreatDoorRows
import GoSem.ClaimSeven
namespace Go.Proofs.YtaiboeciecfgoaaGreatDoor
namespace Rows

/-- THE TIED CARD OF 'floodgatelaw03.NamesNeed'. -/
def namesNeedCard : Claim7 := { stood := { row := namesNeedRow, standIns := [], harness := (true, "f4293c3b3e776693740c37125fc95d01a66c84aa42f34e8ae48fc925fa17e630"), looks := true }, kinds := [], alts := [], laidByText := true, laidKinds := [.data, .data, .data, .sentinel, .sentinel], laidTests := true, laidLooks := .later }
def NamesNeedCardSaid : Prop := Claim7.holds Tryz.pinned (.plain (OpenSpec.ofChange namesNeedSpec)) namesNeedCard

/-- THE TIED CARD OF 'floodgatelaw03.NamesRename'. -/
def namesRenameCard : Claim7 := { stood := { row := namesRenameRow, standIns := [], harness := (true, "f4293c3b3e776693740c37125fc95d01a66c84aa42f34e8ae48fc925fa17e630"), looks := true }, kinds := [], alts := [], laidByText := true, laidKinds := [.data, .data, .data, .sentinel, .sentinel], laidTests := true, laidLooks := .later }
def NamesRenameCardSaid : Prop := Claim7.holds Tryz.pinned (.plain (OpenSpec.ofChange namesRenameSpec)) namesRenameCard

/-- THE TIED CARD OF 'floodgatelaw03.NamesOutside'. -/
def namesOutsideCard : Claim7 := { stood := { row := namesOutsideRow, standIns := [], harness := (true, "f4293c3b3e776693740c37125fc95d01a66c84aa42f34e8ae48fc925fa17e630"), looks := true }, kinds := [], alts := [], laidByText := true, laidKinds := [.data, .data, .data, .sentinel, .sentinel], laidTests := true, laidLooks := .later }
def NamesOutsideCardSaid : Prop := Claim7.holds Tryz.pinned (.plain (OpenSpec.ofChange namesOutsideSpec)) namesOutsideCard

/-- THE TIED CARD OF 'floodgatelaw03.NamesOrdered'. -/
def namesOrderedCard : Claim7 := { stood := { row := namesOrderedRow, standIns := [], harness := (true, "f4293c3b3e776693740c37125fc95d01a66c84aa42f34e8ae48fc925fa17e630"), looks := true }, kinds := [], alts := [], laidByText := true, laidKinds := [.data, .data, .data, .sentinel, .sentinel], laidTests := true, laidLooks := .later }
def NamesOrderedCardSaid : Prop := Claim7.holds Tryz.pinned (.plain (OpenSpec.ofChange namesOrderedSpec)) namesOrderedCard

/-- THE TIED CARD OF 'floodgatelaw03.NamesMeant'. -/
def namesMeantCard : Claim7 := { stood := { row := namesMeantRow, standIns := [], harness := (true, "f4293c3b3e776693740c37125fc95d01a66c84aa42f34e8ae48fc925fa17e630"), looks := true }, kinds := [], alts := [], laidByText := true, laidKinds := [.data, .data, .data, .sentinel, .sentinel], laidTests := true, laidLooks := .later }
def NamesMeantCardSaid : Prop := Claim7.holds Tryz.pinned (.plain (OpenSpec.ofChange namesMeantSpec)) namesMeantCard

/-- THE TIED CARD OF 'floodgatelaw03.NamesShuffled'. -/
def namesShuffledCard : Claim7 := { stood := { row := namesShuffledRow, standIns := [], harness := (true, "f4293c3b3e776693740c37125fc95d01a66c84aa42f34e8ae48fc925fa17e630"), looks := true }, kinds := [], alts := [], laidByText := true, laidKinds := [.data, .data, .data, .sentinel, .sentinel], laidTests := true, laidLooks := .later }
def NamesShuffledCardSaid : Prop := Claim7.holds Tryz.pinned (.plain (OpenSpec.ofChange namesShuffledSpec)) namesShuffledCard

/-- THE TIED CARD OF 'floodgatelaw03.NamesRenamed'. -/
def namesRenamedCard : Claim7 := { stood := { row := namesRenamedRow, standIns := [], harness := (true, "f4293c3b3e776693740c37125fc95d01a66c84aa42f34e8ae48fc925fa17e630"), looks := true }, kinds := [], alts := [], laidByText := true, laidKinds := [.data, .data, .data, .sentinel, .sentinel], laidTests := true, laidLooks := .later }
def NamesRenamedCardSaid : Prop := Claim7.holds Tryz.pinned (.plain (OpenSpec.ofChange namesRenamedSpec)) namesRenamedCard

/-- THE SECOND FORM's CARD OF 'floodgatelaw03.NamesNeed'. -/
def namesNeedUptoCard : Claim7 := { stood := { row := namesNeedUptoRow, standIns := [], harness := (true, "f4293c3b3e776693740c37125fc95d01a66c84aa42f34e8ae48fc925fa17e630"), looks := true }, kinds := [], alts := [], laidByText := true, laidKinds := [.data, .data, .data, .sentinel, .sentinel], laidTests := true, laidLooks := .later }
def NamesNeedUptoCardSaid : Prop := Claim7.holds Tryz.pinned (.plain (OpenSpec.upto namesNeedSpec)) namesNeedUptoCard

/-- THE SECOND FORM's CARD OF 'floodgatelaw03.NamesRename'. -/
def namesRenameUptoCard : Claim7 := { stood := { row := namesRenameUptoRow, standIns := [], harness := (true, "f4293c3b3e776693740c37125fc95d01a66c84aa42f34e8ae48fc925fa17e630"), looks := true }, kinds := [], alts := [], laidByText := true, laidKinds := [.data, .data, .data, .sentinel, .sentinel], laidTests := true, laidLooks := .later }
def NamesRenameUptoCardSaid : Prop := Claim7.holds Tryz.pinned (.plain (OpenSpec.upto namesRenameSpec)) namesRenameUptoCard

/-- THE SECOND FORM's CARD OF 'floodgatelaw03.NamesOutside'. -/
def namesOutsideUptoCard : Claim7 := { stood := { row := namesOutsideUptoRow, standIns := [], harness := (true, "f4293c3b3e776693740c37125fc95d01a66c84aa42f34e8ae48fc925fa17e630"), looks := true }, kinds := [], alts := [], laidByText := true, laidKinds := [.data, .data, .data, .sentinel, .sentinel], laidTests := true, laidLooks := .later }
def NamesOutsideUptoCardSaid : Prop := Claim7.holds Tryz.pinned (.plain (OpenSpec.upto namesOutsideSpec)) namesOutsideUptoCard

/-- THE SECOND FORM's CARD OF 'floodgatelaw03.NamesOrdered'. -/
def namesOrderedUptoCard : Claim7 := { stood := { row := namesOrderedUptoRow, standIns := [], harness := (true, "f4293c3b3e776693740c37125fc95d01a66c84aa42f34e8ae48fc925fa17e630"), looks := true }, kinds := [], alts := [], laidByText := true, laidKinds := [.data, .data, .data, .sentinel, .sentinel], laidTests := true, laidLooks := .later }
def NamesOrderedUptoCardSaid : Prop := Claim7.holds Tryz.pinned (.plain (OpenSpec.upto namesOrderedSpec)) namesOrderedUptoCard

/-- THE SECOND FORM's CARD OF 'floodgatelaw03.NamesMeant'. -/
def namesMeantUptoCard : Claim7 := { stood := { row := namesMeantUptoRow, standIns := [], harness := (true, "f4293c3b3e776693740c37125fc95d01a66c84aa42f34e8ae48fc925fa17e630"), looks := true }, kinds := [], alts := [], laidByText := true, laidKinds := [.data, .data, .data, .sentinel, .sentinel], laidTests := true, laidLooks := .later }
def NamesMeantUptoCardSaid : Prop := Claim7.holds Tryz.pinned (.plain (OpenSpec.upto namesMeantSpec)) namesMeantUptoCard

/-- THE SECOND FORM's CARD OF 'floodgatelaw03.NamesShuffled'. -/
def namesShuffledUptoCard : Claim7 := { stood := { row := namesShuffledUptoRow, standIns := [], harness := (true, "f4293c3b3e776693740c37125fc95d01a66c84aa42f34e8ae48fc925fa17e630"), looks := true }, kinds := [], alts := [], laidByText := true, laidKinds := [.data, .data, .data, .sentinel, .sentinel], laidTests := true, laidLooks := .later }
def NamesShuffledUptoCardSaid : Prop := Claim7.holds Tryz.pinned (.plain (OpenSpec.upto namesShuffledSpec)) namesShuffledUptoCard

/-- THE SECOND FORM's CARD OF 'floodgatelaw03.NamesRenamed'. -/
def namesRenamedUptoCard : Claim7 := { stood := { row := namesRenamedUptoRow, standIns := [], harness := (true, "f4293c3b3e776693740c37125fc95d01a66c84aa42f34e8ae48fc925fa17e630"), looks := true }, kinds := [], alts := [], laidByText := true, laidKinds := [.data, .data, .data, .sentinel, .sentinel], laidTests := true, laidLooks := .later }
def NamesRenamedUptoCardSaid : Prop := Claim7.holds Tryz.pinned (.plain (OpenSpec.upto namesRenamedSpec)) namesRenamedUptoCard
end Rows
end Go.Proofs.YtaiboeciecfgoaaGreatDoor
