/-
  A part of the proof. Conditions: none.
-/
import Derived.Test.YtdnnimemociklaaGreatDoorCards
import Derived.Test.YtdnnimemociklaaGreatDoorTie
import Derived.Test.YtdnnimemociklaaGreatDoorWPkCA
set_option linter.unusedSimpArgs false
set_option linter.unusedVariables false
noncomputable section
section
open Go.Proofs
open Go.Cm Go.ChangeShapes Go.WideShapes Go.RowKit
namespace Go.Proofs.YtdnnimemociklaaGreatDoor
theorem Jed:(Rows.typesShuffledRow.named == Tryz.pinned.checked.prog.varsNamed 4)=true:=by kernel_rfl
theorem Jec:(Rows.typesShuffledRow.inPlace == Tryz.pinned.checked.prog.inPlace 4)=true:=by kernel_rfl
end Go.Proofs.YtdnnimemociklaaGreatDoor
end
end
