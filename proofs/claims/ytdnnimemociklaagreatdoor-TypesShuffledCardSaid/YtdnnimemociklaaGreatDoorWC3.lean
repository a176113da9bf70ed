/-
  A part of the proof. Conditions: none.
-/
import Derived.Test.YtdnnimemociklaaGreatDoorCards
import Derived.Test.YtdnnimemociklaaGreatDoorTie
import Derived.Test.YtdnnimemociklaaGreatDoorWPkCA
set_option linter.unusedSimpArgs false
set_option linter.unusedVariables false
noncomputable section
section
open Go.Proofs
open Go.Cm Go.ChangeShapes Go.WideShapes Go.RowKit
namespace Go.Proofs.YtdnnimemociklaaGreatDoor
theorem Jeb:Tryz.pinned.checked.prog.mainIs=some (Rows.typesShuffledCard.stood.harness.1,Rows.typesShuffledCard.stood.harness.2.toList):=by kernel_rfl
theorem Jea:Tryz.prog.funcNamed "floodgate/floodgatelaw04.TypesShuffled" = some 4:=by kernel_rfl
end Go.Proofs.YtdnnimemociklaaGreatDoor
end
end
