/-
  A part of the proof. Conditions: none.
-/
import Derived.Test.YtaiboeciecfgoaaGreatDoorRP6
import Derived.Lib.Join
import Derived.Lib.ItoaLen
set_option linter.unusedSimpArgs false
set_option linter.unusedVariables false
noncomputable section
section
set_option maxRecDepth 100000
open Go.Proofs
namespace Go.Cm
def kid (x:Nd) (i:Nat):Int:=x.kids.getD i 0
end Go.Cm
end
end
