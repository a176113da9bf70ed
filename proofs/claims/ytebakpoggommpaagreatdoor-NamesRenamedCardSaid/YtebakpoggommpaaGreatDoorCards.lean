/-
  DERIVED. GIVEN WITH THE SEED: THE CARDS: each row of YtebakpoggommpaaGreatDoorRows.lean that lists a variable, with what it lists TIED to the program's text (the seventh form; the later family's looks); each row that meets fmt, with fmt's text TOLD by the authors' own Lean function (tested against real Go, not proved from fmt's source: count such statements apart). THE CARD IS WHAT COUNTS. Prove the row's statement (the work); the ties are given (YtebakpoggommpaaGreatDoorTie.lean); close each card by the builder's one call (the guide's Derived/Test/ToyasCard.lean, 'card_holds'). Laid BY PROGRAM, IN A SANDBOX (cutbox-door.mjs). By AI agents, Wed Nov 11 2026. No macro, syntax, notation, axiom, sorry.
-/
import Derived.Test.YtebakpoggommpaaGreatDoorRows
import GoSem.ClaimSeven
namespace Go.Proofs.YtebakpoggommpaaGreatDoor
namespace Rows

/-- THE TIED CARD OF 'floodgatelaw03.NamesTied'. -/
def namesTiedCard : Claim7 := { stood := { row := namesTiedRow, standIns := [], harness := (true, "8818b4afd0feeeb0ce19043465a753e415b7b990def16a684de2022475253510"), looks := true }, kinds := [], alts := [], laidByText := true, laidKinds := [.data, .data, .data, .sentinel, .sentinel], laidTests := true, laidLooks := .later }
def NamesTiedCardSaid : Prop := Claim7.holds Tryz.pinned (.plain (OpenSpec.ofChange namesTiedSpec)) namesTiedCard

/-- THE TIED CARD OF 'floodgatelaw03.NamesShuffled'. -/
def namesShuffledCard : Claim7 := { stood := { row := namesShuffledRow, standIns := [], harness := (true, "8818b4afd0feeeb0ce19043465a753e415b7b990def16a684de2022475253510"), looks := true }, kinds := [], alts := [], laidByText := true, laidKinds := [.data, .data, .data, .sentinel, .sentinel], laidTests := true, laidLooks := .later }
def NamesShuffledCardSaid : Prop := Claim7.holds Tryz.pinned (.plain (OpenSpec.ofChange namesShuffledSpec)) namesShuffledCard

/-- THE TIED CARD OF 'floodgatelaw03.NamesOutside'. -/
def namesOutsideCard : Claim7 := { stood := { row := namesOutsideRow, standIns := [], harness := (true, "8818b4afd0feeeb0ce19043465a753e415b7b990def16a684de2022475253510"), looks := true }, kinds := [], alts := [], laidByText := true, laidKinds := [.data, .data, .data, .sentinel, .sentinel], laidTests := true, laidLooks := .later }
def NamesOutsideCardSaid : Prop := Claim7.holds Tryz.pinned (.plain (OpenSpec.ofChange namesOutsideSpec)) namesOutsideCard

/-- THE TIED CARD OF 'floodgatelaw03.NamesRenamed'. -/
def namesRenamedCard : Claim7 := { stood := { row := namesRenamedRow, standIns := [], harness := (true, "8818b4afd0feeeb0ce19043465a753e415b7b990def16a684de2022475253510"), looks := true }, kinds := [], alts := [], laidByText := true, laidKinds := [.data, .data, .data, .sentinel, .sentinel], laidTests := true, laidLooks := .later }
def NamesRenamedCardSaid : Prop := Claim7.holds Tryz.pinned (.plain (OpenSpec.ofChange namesRenamedSpec)) namesRenamedCard

/-- THE SECOND FORM's CARD OF 'floodgatelaw03.NamesTied'. -/
def namesTiedUptoCard : Claim7 := { stood := { row := namesTiedUptoRow, standIns := [], harness := (true, "8818b4afd0feeeb0ce19043465a753e415b7b990def16a684de2022475253510"), looks := true }, kinds := [], alts := [], laidByText := true, laidKinds := [.data, .data, .data, .sentinel, .sentinel], laidTests := true, laidLooks := .later }
def NamesTiedUptoCardSaid : Prop := Claim7.holds Tryz.pinned (.plain (OpenSpec.upto namesTiedSpec)) namesTiedUptoCard

/-- THE SECOND FORM's CARD OF 'floodgatelaw03.NamesShuffled'. -/
def namesShuffledUptoCard : Claim7 := { stood := { row := namesShuffledUptoRow, standIns := [], harness := (true, "8818b4afd0feeeb0ce19043465a753e415b7b990def16a684de2022475253510"), looks := true }, kinds := [], alts := [], laidByText := true, laidKinds := [.data, .data, .data, .sentinel, .sentinel], laidTests := true, laidLooks := .later }
def NamesShuffledUptoCardSaid : Prop := Claim7.holds Tryz.pinned (.plain (OpenSpec.upto namesShuffledSpec)) namesShuffledUptoCard

/-- THE SECOND FORM's CARD OF 'floodgatelaw03.NamesOutside'. -/
def namesOutsideUptoCard : Claim7 := { stood := { row := namesOutsideUptoRow, standIns := [], harness := (true, "8818b4afd0feeeb0ce19043465a753e415b7b990def16a684de2022475253510"), looks := true }, kinds := [], alts := [], laidByText := true, laidKinds := [.data, .data, .data, .sentinel, .sentinel], laidTests := true, laidLooks := .later }
def NamesOutsideUptoCardSaid : Prop := Claim7.holds Tryz.pinned (.plain (OpenSpec.upto namesOutsideSpec)) namesOutsideUptoCard

/-- THE SECOND FORM's CARD OF 'floodgatelaw03.NamesRenamed'. -/
def namesRenamedUptoCard : Claim7 := { stood := { row := namesRenamedUptoRow, standIns := [], harness := (true, "8818b4afd0feeeb0ce19043465a753e415b7b990def16a684de2022475253510"), looks := true }, kinds := [], alts := [], laidByText := true, laidKinds := [.data, .data, .data, .sentinel, .sentinel], laidTests := true, laidLooks := .later }
def NamesRenamedUptoCardSaid : Prop := Claim7.holds Tryz.pinned (.plain (OpenSpec.upto namesRenamedSpec)) namesRenamedUptoCard
end Rows
end Go.Proofs.YtebakpoggommpaaGreatDoor
