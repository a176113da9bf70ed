/-
  A part of the proof. Conditions: none.
-/
import Derived.Test.YtejfnfphmkjffaaGreatDoorCards
import Derived.Test.YtejfnfphmkjffaaGreatDoorTie
import Derived.Test.YtejfnfphmkjffaaGreatDoorUPkCA
set_option linter.unusedSimpArgs false
set_option linter.unusedVariables false
noncomputable section
section
open Go.Proofs
open Go.Cm Go.ChangeShapes Go.WideShapes Go.RowKit
namespace Go.Proofs.YtejfnfphmkjffaaGreatDoor
theorem typesOne_j1:(Rows.typesOneRow.unfollowed == Tryz.pinned.checked.prog.unfollowed 5)=true:=by kernel_rfl
theorem typesOne_j2:(Rows.typesOneRow.recurses == Tryz.pinned.checked.prog.recurses 5)=true:=by kernel_rfl
end Go.Proofs.YtejfnfphmkjffaaGreatDoor
end
end
