/-
  A part of the proof. Conditions: none.
-/
import Derived.Test.YtaiboeciecfgoaaGreatDoorMP30
set_option linter.unusedSimpArgs false
set_option linter.unusedVariables false
noncomputable section
section
set_option maxRecDepth 100000
set_option maxHeartbeats 4000000
open Go.Proofs
namespace Go.Cm
theorem GoodT.itr {t:Tr}{o:List Int}(g:GoodT t o) {i:Int}(hi:i∈t.items):0≤i∧i < t.nodes.length:=by
 have hol:o.length=t.nodes.length:=by rw[g.ord.len,Qp]
 obtain ⟨_,h2,h3,h4⟩:=KW g.ord.ok hol _ _ _ g.its _ hi
 exact ⟨h2,h4⟩
end Go.Cm
end
end
