/-
  A closed run of law04's known: tree 2 is given its types. (Printed by mkev.py.)
-/
import Derived.Test.YtghkeneolbkliaaGreatDoorKTyF
set_option linter.unusedSimpArgs false
set_option linter.unusedVariables false

section
open Go.Proofs Go.RowKit
set_option maxRecDepth 100000
namespace Go.Cm
theorem ki2 : isAns (yfn (tbG ne ce12 ne) 3000 12 [ktree2]) kinfer2 = true := by kernel_rfl
theorem fi2 : Fn Tryz.prog 12 [ktree2] kinfer2 := yfn_sound (tbG_ok (ne_ok f11) ce12_ok (ne_ok f13)) tMixed (isAns_ok ki2) rfl rfl
end Go.Cm
end
