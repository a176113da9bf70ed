/-
  A part of the proof. Conditions: none.
-/
import Derived.Test.YtdnnimemociklaaGreatDoorCards
import Derived.Test.YtdnnimemociklaaGreatDoorTie
import Derived.Test.YtdnnimemociklaaGreatDoorWPkCA
set_option linter.unusedSimpArgs false
set_option linter.unusedVariables false
noncomputable section
section
open Go.Proofs
open Go.Cm Go.ChangeShapes Go.WideShapes Go.RowKit
namespace Go.Proofs.YtdnnimemociklaaGreatDoor
theorem Jef:(Rows.typesShuffledRow.unfollowed == Tryz.pinned.checked.prog.unfollowed 4)=true:=by kernel_rfl
theorem Jee:(Rows.typesShuffledRow.recurses == Tryz.pinned.checked.prog.recurses 4)=true:=by kernel_rfl
end Go.Proofs.YtdnnimemociklaaGreatDoor
end
end
