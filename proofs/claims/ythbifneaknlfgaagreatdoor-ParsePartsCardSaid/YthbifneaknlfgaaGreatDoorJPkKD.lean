/-
  A part of the proof. Conditions: none.
-/
import Derived.Test.YthbifneaknlfgaaGreatDoorJP14
import Derived.Test.YthbifneaknlfgaaGreatDoorJI1
set_option linter.unusedSimpArgs false
set_option linter.unusedVariables false
noncomputable section
section
set_option maxRecDepth 100000
open Go.Proofs Go.RowKit
namespace Go.Cm
def y8:ICode:=(low c8.body [true]).1
theorem y8_ok:Xl c8.body [true]=true:=by kernel_rfl
def tbQ (e33 e34 e10 e20 e19 e11 e14:YE):BT YE:=(.node 19 (e19) (.node 11 (e11) (.node 10 (e10) (.node 8 (.code y8 c8.ntmps c8.results) .nil .nil) .nil) (.node 14 (e14) .nil .nil)) (.node 33 (e33) (.node 20 (e20) .nil .nil) (.node 34 (e34) .nil .nil)))
theorem tbQ_ok {e33 e34 e10 e20 e19 e11 e14:YE}(h33:JaZ Tryz.prog 33 e33) (h34:JaZ Tryz.prog 34 e34) (h10:JaZ Tryz.prog 10 e10) (h20:JaZ Tryz.prog 20 e20) (h19:JaZ Tryz.prog 19 e19) (h11:JaZ Tryz.prog 11 e11) (h14:JaZ Tryz.prog 14 e14):(tbQ e33 e34 e10 e20 e19 e11 e14).All (JaZ Tryz.prog):=
 ⟨h19,⟨h11,⟨h10,⟨Y5 (Jg Jl c8_ok) c8_ok y8_ok,trivial,trivial⟩,trivial⟩,⟨h14,trivial,trivial⟩⟩,⟨h33,⟨h20,trivial,trivial⟩,⟨h34,trivial,trivial⟩⟩⟩
end Go.Cm
end
end
