/-
  A part of the proof. Conditions: none.
-/
import Derived.Test.YtejfnfphmkjffaaGreatDoorCards
import Derived.Test.YtejfnfphmkjffaaGreatDoorTie
import Derived.Test.YtejfnfphmkjffaaGreatDoorUPkCA
set_option linter.unusedSimpArgs false
set_option linter.unusedVariables false
noncomputable section
section
open Go.Proofs
open Go.Cm Go.ChangeShapes Go.WideShapes Go.RowKit
namespace Go.Proofs.YtejfnfphmkjffaaGreatDoor
theorem typesOne_k1:Tryz.pinned.checked.prog.mainIs=some (Rows.typesOneCard.stood.harness.1,Rows.typesOneCard.stood.harness.2.toList):=by kernel_rfl
theorem typesOne_k2:Tryz.prog.funcNamed "floodgate/floodgatelaw04.TypesOne" = some 5:=by kernel_rfl
end Go.Proofs.YtejfnfphmkjffaaGreatDoor
end
end
