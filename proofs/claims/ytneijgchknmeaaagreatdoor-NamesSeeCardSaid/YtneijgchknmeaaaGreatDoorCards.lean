/-
  DERIVED. GIVEN WITH THE SEED: THE CARDS: each row of YtneijgchknmeaaaGreatDoorRows.lean that lists a variable, with what it lists TIED to the program's text (the seventh form; the later family's looks); each row that meets fmt, with fmt's text TOLD by the authors' own Lean function (tested against real Go, not proved from fmt's source: count such statements apart). THE CARD IS WHAT COUNTS. Prove the row's statement (the work); the ties are given (YtneijgchknmeaaaGreatDoorTie.lean); close each card by the builder's one call (the guide's Derived/Test/ToyasCard.lean, 'card_holds'). Laid BY PROGRAM, IN A SANDBOX (cutbox-door.mjs). By AI agents, Wed Nov 11 2026. No macro, syntax, notation, axiom, sorry.
-/
import Derived.Test.YtneijgchknmeaaaGreatDoorRows
import GoSem.ClaimSeven
namespace Go.Proofs.YtneijgchknmeaaaGreatDoor
namespace Rows

/-- THE TIED CARD OF 'floodgatelaw03.NamesResolve'. -/
def namesResolveCard : Claim7 := { stood := { row := namesResolveRow, standIns := [], harness := (true, "ff3766e60921459064d649e8052da384addf9703ea2ded3b51ecc548f13b4183"), looks := true }, kinds := [], alts := [], laidByText := true, laidKinds := [.data, .data, .data, .sentinel, .sentinel], laidTests := true, laidLooks := .later }
def NamesResolveCardSaid : Prop := Claim7.holds Tryz.pinned (.plain (OpenSpec.ofChange namesResolveSpec)) namesResolveCard

/-- THE TIED CARD OF 'floodgatelaw03.NamesNeed'. -/
def namesNeedCard : Claim7 := { stood := { row := namesNeedRow, standIns := [], harness := (true, "ff3766e60921459064d649e8052da384addf9703ea2ded3b51ecc548f13b4183"), looks := true }, kinds := [], alts := [], laidByText := true, laidKinds := [.data, .data, .data, .sentinel, .sentinel], laidTests := true, laidLooks := .later }
def NamesNeedCardSaid : Prop := Claim7.holds Tryz.pinned (.plain (OpenSpec.ofChange namesNeedSpec)) namesNeedCard

/-- THE TIED CARD OF 'floodgatelaw03.NamesSee'. -/
def namesSeeCard : Claim7 := { stood := { row := namesSeeRow, standIns := [], harness := (true, "ff3766e60921459064d649e8052da384addf9703ea2ded3b51ecc548f13b4183"), looks := true }, kinds := [], alts := [], laidByText := true, laidKinds := [.data, .data, .data, .sentinel, .sentinel], laidTests := true, laidLooks := .later }
def NamesSeeCardSaid : Prop := Claim7.holds Tryz.pinned (.plain (OpenSpec.ofChange namesSeeSpec)) namesSeeCard

/-- THE TIED CARD OF 'floodgatelaw03.NamesRename'. -/
def namesRenameCard : Claim7 := { stood := { row := namesRenameRow, standIns := [], harness := (true, "ff3766e60921459064d649e8052da384addf9703ea2ded3b51ecc548f13b4183"), looks := true }, kinds := [], alts := [], laidByText := true, laidKinds := [.data, .data, .data, .sentinel, .sentinel], laidTests := true, laidLooks := .later }
def NamesRenameCardSaid : Prop := Claim7.holds Tryz.pinned (.plain (OpenSpec.ofChange namesRenameSpec)) namesRenameCard

/-- THE TIED CARD OF 'floodgatelaw03.NamesOutside'. -/
def namesOutsideCard : Claim7 := { stood := { row := namesOutsideRow, standIns := [], harness := (true, "ff3766e60921459064d649e8052da384addf9703ea2ded3b51ecc548f13b4183"), looks := true }, kinds := [], alts := [], laidByText := true, laidKinds := [.data, .data, .data, .sentinel, .sentinel], laidTests := true, laidLooks := .later }
def NamesOutsideCardSaid : Prop := Claim7.holds Tryz.pinned (.plain (OpenSpec.ofChange namesOutsideSpec)) namesOutsideCard

/-- THE TIED CARD OF 'floodgatelaw03.NamesRenamed'. -/
def namesRenamedCard : Claim7 := { stood := { row := namesRenamedRow, standIns := [], harness := (true, "ff3766e60921459064d649e8052da384addf9703ea2ded3b51ecc548f13b4183"), looks := true }, kinds := [], alts := [], laidByText := true, laidKinds := [.data, .data, .data, .sentinel, .sentinel], laidTests := true, laidLooks := .later }
def NamesRenamedCardSaid : Prop := Claim7.holds Tryz.pinned (.plain (OpenSpec.ofChange namesRenamedSpec)) namesRenamedCard

/-- THE SECOND FORM's CARD OF 'floodgatelaw03.NamesResolve'. -/
def namesResolveUptoCard : Claim7 := { stood := { row := namesResolveUptoRow, standIns := [], harness := (true, "ff3766e60921459064d649e8052da384addf9703ea2ded3b51ecc548f13b4183"), looks := true }, kinds := [], alts := [], laidByText := true, laidKinds := [.data, .data, .data, .sentinel, .sentinel], laidTests := true, laidLooks := .later }
def NamesResolveUptoCardSaid : Prop := Claim7.holds Tryz.pinned (.plain (OpenSpec.upto namesResolveSpec)) namesResolveUptoCard

/-- THE SECOND FORM's CARD OF 'floodgatelaw03.NamesNeed'. -/
def namesNeedUptoCard : Claim7 := { stood := { row := namesNeedUptoRow, standIns := [], harness := (true, "ff3766e60921459064d649e8052da384addf9703ea2ded3b51ecc548f13b4183"), looks := true }, kinds := [], alts := [], laidByText := true, laidKinds := [.data, .data, .data, .sentinel, .sentinel], laidTests := true, laidLooks := .later }
def NamesNeedUptoCardSaid : Prop := Claim7.holds Tryz.pinned (.plain (OpenSpec.upto namesNeedSpec)) namesNeedUptoCard

/-- THE SECOND FORM's CARD OF 'floodgatelaw03.NamesSee'. -/
def namesSeeUptoCard : Claim7 := { stood := { row := namesSeeUptoRow, standIns := [], harness := (true, "ff3766e60921459064d649e8052da384addf9703ea2ded3b51ecc548f13b4183"), looks := true }, kinds := [], alts := [], laidByText := true, laidKinds := [.data, .data, .data, .sentinel, .sentinel], laidTests := true, laidLooks := .later }
def NamesSeeUptoCardSaid : Prop := Claim7.holds Tryz.pinned (.plain (OpenSpec.upto namesSeeSpec)) namesSeeUptoCard

/-- THE SECOND FORM's CARD OF 'floodgatelaw03.NamesRename'. -/
def namesRenameUptoCard : Claim7 := { stood := { row := namesRenameUptoRow, standIns := [], harness := (true, "ff3766e60921459064d649e8052da384addf9703ea2ded3b51ecc548f13b4183"), looks := true }, kinds := [], alts := [], laidByText := true, laidKinds := [.data, .data, .data, .sentinel, .sentinel], laidTests := true, laidLooks := .later }
def NamesRenameUptoCardSaid : Prop := Claim7.holds Tryz.pinned (.plain (OpenSpec.upto namesRenameSpec)) namesRenameUptoCard

/-- THE SECOND FORM's CARD OF 'floodgatelaw03.NamesOutside'. -/
def namesOutsideUptoCard : Claim7 := { stood := { row := namesOutsideUptoRow, standIns := [], harness := (true, "ff3766e60921459064d649e8052da384addf9703ea2ded3b51ecc548f13b4183"), looks := true }, kinds := [], alts := [], laidByText := true, laidKinds := [.data, .data, .data, .sentinel, .sentinel], laidTests := true, laidLooks := .later }
def NamesOutsideUptoCardSaid : Prop := Claim7.holds Tryz.pinned (.plain (OpenSpec.upto namesOutsideSpec)) namesOutsideUptoCard

/-- THE SECOND FORM's CARD OF 'floodgatelaw03.NamesRenamed'. -/
def namesRenamedUptoCard : Claim7 := { stood := { row := namesRenamedUptoRow, standIns := [], harness := (true, "ff3766e60921459064d649e8052da384addf9703ea2ded3b51ecc548f13b4183"), looks := true }, kinds := [], alts := [], laidByText := true, laidKinds := [.data, .data, .data, .sentinel, .sentinel], laidTests := true, laidLooks := .later }
def NamesRenamedUptoCardSaid : Prop := Claim7.holds Tryz.pinned (.plain (OpenSpec.upto namesRenamedSpec)) namesRenamedUptoCard
end Rows
end Go.Proofs.YtneijgchknmeaaaGreatDoor
