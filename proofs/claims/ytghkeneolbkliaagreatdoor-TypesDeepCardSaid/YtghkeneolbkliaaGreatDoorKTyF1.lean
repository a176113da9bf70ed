/-
  A closed run of law04's known: text 1 is parsed. (Printed by mkev.py.)
-/
import Derived.Test.YtghkeneolbkliaaGreatDoorKTyF
set_option linter.unusedSimpArgs false
set_option linter.unusedVariables false

section
open Go.Proofs Go.RowKit
set_option maxRecDepth 100000
namespace Go.Cm
theorem kp1 : isAns (yfn (tbG ce11 ne ne) 3000 11 [ktext1]) ktree1 = true := by kernel_rfl
theorem fp1 : Fn Tryz.prog 11 [ktext1] ktree1 := yfn_sound (tbG_ok ce11_ok (ne_ok f12) (ne_ok f13)) tMixed (isAns_ok kp1) rfl rfl
end Go.Cm
end
