/-
  A part of the proof. Conditions: none.
-/
import Derived.Test.YtdnnimemociklaaGreatDoorCards
import Derived.Test.YtdnnimemociklaaGreatDoorTie
import Derived.Test.YtdnnimemociklaaGreatDoorYPkCA
set_option linter.unusedSimpArgs false
set_option linter.unusedVariables false
noncomputable section
section
open Go.Proofs
open Go.Cm Go.ChangeShapes Go.WideShapes Go.RowKit
namespace Go.Proofs.YtdnnimemociklaaGreatDoor
theorem JgY:(Rows.typesCheckRow.named == Tryz.pinned.checked.prog.varsNamed 5)=true:=by kernel_rfl
theorem JgX:(Rows.typesCheckRow.inPlace == Tryz.pinned.checked.prog.inPlace 5)=true:=by kernel_rfl
end Go.Proofs.YtdnnimemociklaaGreatDoor
end
end
