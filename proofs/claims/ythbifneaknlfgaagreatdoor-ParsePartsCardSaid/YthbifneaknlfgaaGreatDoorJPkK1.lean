/-
  A part of the proof. Conditions: none.
-/
import Derived.Test.YthbifneaknlfgaaGreatDoorJP14
set_option linter.unusedSimpArgs false
set_option linter.unusedVariables false
noncomputable section
section
set_option maxRecDepth 100000
open Go.Proofs Go.RowKit
namespace Go.Cm
def ktext1:CV:=.str ⟨⟨[100,101,102,32,102,40,97,58,32,105,110,116,41,32,45,62,32,105,110,116,32,123,32,98,32,61,32,97,59,32,103,105,118,101,32,98,32,43,32,49,32,125]⟩⟩
def kans1:CV:=.tup [.agg [.rslc 5 [[.int .u8 60,.str ⟨⟨[]⟩⟩,.int .i64 0,.nils,.int .i64 9],[.int .u8 64,.str ⟨⟨[97]⟩⟩,.int .i64 0,.rslc 1 [[.int .i64 0]] none,.int .i64 6],[.int .u8 60,.str ⟨⟨[]⟩⟩,.int .i64 0,.nils,.int .i64 17],[.int .u8 42,.str ⟨⟨[98]⟩⟩,.int .i64 0,.nils,.int .i64 23],[.int .u8 3,.str ⟨⟨[97]⟩⟩,.int .i64 0,.nils,.int .i64 27],[.int .u8 41,.str ⟨⟨[]⟩⟩,.int .i64 1,.rslc 1 [[.int .i64 3],[.int .i64 4]] none,.int .i64 25],[.int .u8 3,.str ⟨⟨[98]⟩⟩,.int .i64 0,.nils,.int .i64 35],[.int .u8 1,.str ⟨⟨[]⟩⟩,.int .i64 1,.nils,.int .i64 39],[.int .u8 13,.str ⟨⟨[]⟩⟩,.int .i64 0,.rslc 1 [[.int .i64 6],[.int .i64 7]] none,.int .i64 37],[.int .u8 40,.str ⟨⟨[]⟩⟩,.int .i64 1,.rslc 1 [[.int .i64 5],[.int .i64 8]] none,.int .i64 21],[.int .u8 65,.str ⟨⟨[102]⟩⟩,.int .i64 1,.rslc 1 [[.int .i64 1],[.int .i64 2],[.int .i64 9]] none,.int .i64 0]] none,.rslc 1 [[.int .i64 10]] none],.int .i64 0,.int .i64 0]
theorem kp1:isAns (yfn tbP 3000 33 [ktext1]) kans1=true:=by kernel_rfl
theorem fp1:Fn Tryz.prog 33 [ktext1] kans1:=QI tbP_ok JF (XL kp1) rfl rfl
end Go.Cm
end
end
