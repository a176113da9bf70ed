/-
  A closed run of law04's known: known answers true. (Printed by mkev.py.)
-/
import Derived.Test.YtghkeneolbkliaaGreatDoorKTyF1
import Derived.Test.YtghkeneolbkliaaGreatDoorKTyF5
import Derived.Test.YtghkeneolbkliaaGreatDoorKTyG5
import Derived.Test.YtghkeneolbkliaaGreatDoorKTyF4
import Derived.Test.YtghkeneolbkliaaGreatDoorKTyG4
import Derived.Test.YtghkeneolbkliaaGreatDoorKTyF3
import Derived.Test.YtghkeneolbkliaaGreatDoorKTyG3
import Derived.Test.YtghkeneolbkliaaGreatDoorKTyF2
import Derived.Test.YtghkeneolbkliaaGreatDoorKTyG2
import Derived.Test.YtghkeneolbkliaaGreatDoorKTyG1
set_option linter.unusedSimpArgs false
set_option linter.unusedVariables false

section
open Go.Proofs Go.RowKit
set_option maxRecDepth 100000
namespace Go.Cm
noncomputable def kt : BT YE := tbG (.nat (lookF [([ktext1], ktree1), ([ktext2], ktree2), ([ktext3], ktree3), ([ktext4], ktree4), ([ktext5], ktree5)])) (.nat (lookF [([ktree1], kinfer1), ([ktree2], kinfer2), ([ktree3], kinfer3), ([ktree4], kinfer4), ([ktree5], kinfer5)])) (.nat (lookF [([ktree1, .int .i64 0], ksign1)]))
theorem kt_ok : kt.All (YEOk Tryz.prog) := tbG_ok (known_ok f11 _ (known_cons fp1 (known_cons fp2 (known_cons fp3 (known_cons fp4 (known_cons fp5 (known_nil))))))) (known_ok f12 _ (known_cons fi1 (known_cons fi2 (known_cons fi3 (known_cons fi4 (known_cons fi5 (known_nil))))))) (known_ok f13 _ (known_cons fs1 known_nil))
theorem kknown : isAns (yfn kt 3000 5 []) (.bool true) = true := by kernel_rfl
/-- known answers true. -/
theorem fknown : Fn Tryz.prog 5 [] (.bool true) := yfn_sound kt_ok tMixed (isAns_ok kknown) rfl rfl
end Go.Cm
end
