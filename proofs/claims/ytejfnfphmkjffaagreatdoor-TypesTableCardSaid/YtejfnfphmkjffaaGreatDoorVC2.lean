/-
  A part of the proof. Conditions: none.
-/
import Derived.Test.YtejfnfphmkjffaaGreatDoorCards
import Derived.Test.YtejfnfphmkjffaaGreatDoorTie
import Derived.Test.YtejfnfphmkjffaaGreatDoorVPkCA
set_option linter.unusedSimpArgs false
set_option linter.unusedVariables false
noncomputable section
section
open Go.Proofs
open Go.Cm Go.ChangeShapes Go.WideShapes Go.RowKit
namespace Go.Proofs.YtejfnfphmkjffaaGreatDoor
theorem Jgv:(Rows.typesTableRow.named == Tryz.pinned.checked.prog.varsNamed 3)=true:=by kernel_rfl
theorem Jgu:(Rows.typesTableRow.inPlace == Tryz.pinned.checked.prog.inPlace 3)=true:=by kernel_rfl
end Go.Proofs.YtejfnfphmkjffaaGreatDoor
end
end
