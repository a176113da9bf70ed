/-
  A part of the proof. Conditions: none.
-/
import Derived.Test.YtejfnfphmkjffaaGreatDoorCards
import Derived.Test.YtejfnfphmkjffaaGreatDoorTie
import Derived.Test.YtejfnfphmkjffaaGreatDoorVPkCA
set_option linter.unusedSimpArgs false
set_option linter.unusedVariables false
noncomputable section
section
open Go.Proofs
open Go.Cm Go.ChangeShapes Go.WideShapes Go.RowKit
namespace Go.Proofs.YtejfnfphmkjffaaGreatDoor
theorem Jgt:Tryz.pinned.checked.prog.mainIs=some (Rows.typesTableCard.stood.harness.1,Rows.typesTableCard.stood.harness.2.toList):=by kernel_rfl
theorem Jgs:Tryz.prog.funcNamed "floodgate/floodgatelaw04.TypesTable" = some 3:=by kernel_rfl
end Go.Proofs.YtejfnfphmkjffaaGreatDoor
end
end
