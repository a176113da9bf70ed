/-
  A part of the proof. Conditions: none.
-/
import Derived.Test.YtejfnfphmkjffaaGreatDoorCards
import Derived.Test.YtejfnfphmkjffaaGreatDoorTie
import Derived.Test.YtejfnfphmkjffaaGreatDoorVPkCA
set_option linter.unusedSimpArgs false
set_option linter.unusedVariables false
noncomputable section
section
open Go.Proofs
open Go.Cm Go.ChangeShapes Go.WideShapes Go.RowKit
namespace Go.Proofs.YtejfnfphmkjffaaGreatDoor
theorem Jgx:(Rows.typesTableRow.unfollowed == Tryz.pinned.checked.prog.unfollowed 3)=true:=by kernel_rfl
theorem Jgw:(Rows.typesTableRow.recurses == Tryz.pinned.checked.prog.recurses 3)=true:=by kernel_rfl
end Go.Proofs.YtejfnfphmkjffaaGreatDoor
end
end
