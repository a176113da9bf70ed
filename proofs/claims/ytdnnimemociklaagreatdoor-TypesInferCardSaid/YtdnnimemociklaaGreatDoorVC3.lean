/-
  A part of the proof. Conditions: none.
-/
import Derived.Test.YtdnnimemociklaaGreatDoorCards
import Derived.Test.YtdnnimemociklaaGreatDoorTie
import Derived.Test.YtdnnimemociklaaGreatDoorVPkCA
set_option linter.unusedSimpArgs false
set_option linter.unusedVariables false
noncomputable section
section
open Go.Proofs
open Go.Cm Go.ChangeShapes Go.WideShapes Go.RowKit
namespace Go.Proofs.YtdnnimemociklaaGreatDoor
theorem JgH:Tryz.pinned.checked.prog.mainIs=some (Rows.typesInferCard.stood.harness.1,Rows.typesInferCard.stood.harness.2.toList):=by kernel_rfl
theorem JgG:Tryz.prog.funcNamed "floodgate/floodgatelaw04.TypesInfer" = some 3:=by kernel_rfl
end Go.Proofs.YtdnnimemociklaaGreatDoor
end
end
