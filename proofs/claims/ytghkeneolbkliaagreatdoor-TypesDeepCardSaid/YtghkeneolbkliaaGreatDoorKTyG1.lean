/-
  A closed run of law04's known: tree 1 is given its types. (Printed by mkev.py.)
-/
import Derived.Test.YtghkeneolbkliaaGreatDoorKTyF
set_option linter.unusedSimpArgs false
set_option linter.unusedVariables false

section
open Go.Proofs Go.RowKit
set_option maxRecDepth 100000
namespace Go.Cm
theorem ki1 : isAns (yfn (tbG ne ce12 ne) 3000 12 [ktree1]) kinfer1 = true := by kernel_rfl
theorem fi1 : Fn Tryz.prog 12 [ktree1] kinfer1 := yfn_sound (tbG_ok (ne_ok f11) ce12_ok (ne_ok f13)) tMixed (isAns_ok ki1) rfl rfl
theorem ks1 : isAns (yfn (tbG ne (.nat (lookF [([ktree1], kinfer1)])) ce13) 3000 13 [ktree1, .int .i64 0]) ksign1 = true := by kernel_rfl
theorem fs1 : Fn Tryz.prog 13 [ktree1, .int .i64 0] ksign1 := yfn_sound (tbG_ok (ne_ok f11) (known_ok f12 _ (known_cons fi1 known_nil)) ce13_ok) tMixed (isAns_ok ks1) rfl rfl
end Go.Cm
end
