/-
  A part of the proof. Conditions: none.
-/
import Derived.Test.YthbifneaknlfgaaGreatDoorJP14
set_option linter.unusedSimpArgs false
set_option linter.unusedVariables false
noncomputable section
section
set_option maxRecDepth 100000
open Go.Proofs Go.RowKit
namespace Go.Cm
def ktext2:CV:=.str ⟨⟨[100,101,102,32,102,40,41,32,45,62,32,105,110,116,32,123,32,103,105,118,101,32,49,59,32,125]⟩⟩
def kans2:CV:=.tup [.agg [.nils,.nils],.int .i64 23,.int .i64 4]
theorem kp2:isAns (yfn tbP 3000 33 [ktext2]) kans2=true:=by kernel_rfl
theorem fp2:Fn Tryz.prog 33 [ktext2] kans2:=QI tbP_ok JF (XL kp2) rfl rfl
def ktext3:CV:=.str ⟨⟨[100,101,102,32,102,40,32,45,62,32,105,110,116]⟩⟩
def kans3:CV:=.tup [.agg [.nils,.nils],.int .i64 7,.int .i64 4]
theorem kp3:isAns (yfn tbP 3000 33 [ktext3]) kans3=true:=by kernel_rfl
theorem fp3:Fn Tryz.prog 33 [ktext3] kans3:=QI tbP_ok JF (XL kp3) rfl rfl
end Go.Cm
end
end
