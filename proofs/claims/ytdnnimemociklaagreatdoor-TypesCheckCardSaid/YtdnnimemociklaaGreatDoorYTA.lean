/-
  The law TypesCheck of package floodgatelaw04 holds, as the given statement TypesCheckCardSaid says it (shortened by a program). Conditions: those of the statement alone.
-/
import Derived.Test.YtdnnimemociklaaGreatDoorYT9
import Derived.Test.YtdnnimemociklaaGreatDoorYC3
import Derived.Test.YtdnnimemociklaaGreatDoorYC4
set_option linter.unusedSimpArgs false
set_option linter.unusedVariables false
noncomputable section
section
open Go.Proofs
open Go.Cm Go.ChangeShapes Go.WideShapes Go.RowKit
namespace Go.Proofs.YtdnnimemociklaaGreatDoor
theorem typesCheck_card_holds:Rows.TypesCheckCardSaid:=
 Claim7.holds_tied_plain_at .later [] [.data,.data,.data,.sentinel,.sentinel] true Rows.typesCheckCard.stood.harness true
  typesCheck_holds (λ_ h=>by cases h) (by kernel_rfl) (λ_ h=>by cases h) typesCheck_row_tie rfl ⟨rfl,rfl⟩ JgW rfl
  (λf fn hf Bq=>by
   obtain rfl:f=5:=Option.some.inj (JgV.symm.trans hf) |>.symm;obtain rfl:fn=Tryz.f5:=(Option.some.inj (Tryz.func5.symm.trans Bq)).symm;exact⟨JgU,λj t ht=>by
    rw[Tryz.params5]at ht;have hm:t∈[25,3,3]:=by simpa using Array.mem_of_getElem? ht
    have Aj:=JgT;exact(show Tryz.prog.wantsStandIn t=false by simpa using List.all_eq_true.1 Aj t hm)⟩)
  (by kernel_rfl)
#print axioms typesCheck_card_holds
end Go.Proofs.YtdnnimemociklaaGreatDoor
end
end
