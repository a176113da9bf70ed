/-
  A part of the proof. Conditions: none.
-/
import Derived.Test.YthbifneaknlfgaaGreatDoorJP14
set_option linter.unusedSimpArgs false
set_option linter.unusedVariables false
noncomputable section
section
set_option maxRecDepth 100000
open Go.Proofs Go.RowKit
namespace Go.Cm
def ktext4:CV:=.str ⟨⟨[100,101,102,32,102,40,41,32,45,62,32,105,110,116,32,123,32,103,105,118,101,32,125,10,100,101,102,32,103,40,41,32,45,62,32,105,110,116,32,123,32,103,105,118,101,32,50,32,125]⟩⟩
def kans4:CV:=.tup [.agg [.rslc 5 [[.int .u8 60,.str ⟨⟨[]⟩⟩,.int .i64 0,.nils,.int .i64 35],[.int .u8 1,.str ⟨⟨[]⟩⟩,.int .i64 2,.nils,.int .i64 46],[.int .u8 40,.str ⟨⟨[]⟩⟩,.int .i64 0,.rslc 1 [[.int .i64 1]] none,.int .i64 39],[.int .u8 65,.str ⟨⟨[103]⟩⟩,.int .i64 0,.rslc 1 [[.int .i64 0],[.int .i64 2]] none,.int .i64 24]] none,.rslc 1 [[.int .i64 3]] none],.rslc 2 [[.int .i64 22,.int .i64 4]] none,.int .i64 0,.int .i64 0]
theorem kp4:isAns (yfn tbP 3000 34 [ktext4]) kans4=true:=by kernel_rfl
theorem fp4:Fn Tryz.prog 34 [ktext4] kans4:=QI tbP_ok JF (XL kp4) rfl rfl
end Go.Cm
end
end
