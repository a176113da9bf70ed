/-
  A part of the proof. Conditions: none.
-/
import Derived.Test.YtdnnimemociklaaGreatDoorCards
import Derived.Test.YtdnnimemociklaaGreatDoorTie
import Derived.Test.YtdnnimemociklaaGreatDoorYPkCA
set_option linter.unusedSimpArgs false
set_option linter.unusedVariables false
noncomputable section
section
open Go.Proofs
open Go.Cm Go.ChangeShapes Go.WideShapes Go.RowKit
namespace Go.Proofs.YtdnnimemociklaaGreatDoor
theorem JgW:Tryz.pinned.checked.prog.mainIs=some (Rows.typesCheckCard.stood.harness.1,Rows.typesCheckCard.stood.harness.2.toList):=by kernel_rfl
theorem JgV:Tryz.prog.funcNamed "floodgate/floodgatelaw04.TypesCheck" = some 5:=by kernel_rfl
end Go.Proofs.YtdnnimemociklaaGreatDoor
end
end
