/-
  A closed run of law04's known: tree 4 is given its types. (Printed by mkev.py.)
-/
import Derived.Test.YtghkeneolbkliaaGreatDoorKTyF
set_option linter.unusedSimpArgs false
set_option linter.unusedVariables false

section
open Go.Proofs Go.RowKit
set_option maxRecDepth 100000
namespace Go.Cm
theorem ki4 : isAns (yfn (tbG ne ce12 ne) 3000 12 [ktree4]) kinfer4 = true := by kernel_rfl
theorem fi4 : Fn Tryz.prog 12 [ktree4] kinfer4 := yfn_sound (tbG_ok (ne_ok f11) ce12_ok (ne_ok f13)) tMixed (isAns_ok ki4) rfl rfl
end Go.Cm
end
