/-
  The law TypesInfer of package floodgatelaw04 holds, as the given statement TypesInferCardSaid says it (shortened by a program). Conditions: those of the statement alone.
-/
import Derived.Test.YtdnnimemociklaaGreatDoorVT9
import Derived.Test.YtdnnimemociklaaGreatDoorVC3
import Derived.Test.YtdnnimemociklaaGreatDoorVC4
set_option linter.unusedSimpArgs false
set_option linter.unusedVariables false
noncomputable section
section
open Go.Proofs
open Go.Cm Go.ChangeShapes Go.WideShapes Go.RowKit
namespace Go.Proofs.YtdnnimemociklaaGreatDoor
theorem typesInfer_card_holds:Rows.TypesInferCardSaid:=
 Claim7.holds_tied_plain_at .later [] [.data,.data,.data,.sentinel,.sentinel] true Rows.typesInferCard.stood.harness true
  typesInfer_holds (λ_ h=>by cases h) (by kernel_rfl) (λ_ h=>by cases h) typesInfer_row_tie rfl ⟨rfl,rfl⟩ JgH rfl
  (λf fn hf Bl=>by
   obtain rfl:f=3:=Option.some.inj (JgG.symm.trans hf) |>.symm;obtain rfl:fn=Tryz.f3:=(Option.some.inj (Tryz.func3.symm.trans Bl)).symm;exact⟨JgF,λj t ht=>by
    rw[Tryz.params3]at ht;have hm:t∈[25]:=by simpa using Array.mem_of_getElem? ht
    have Aj:=JgE;exact(show Tryz.prog.wantsStandIn t=false by simpa using List.all_eq_true.1 Aj t hm)⟩)
  (by kernel_rfl)
#print axioms typesInfer_card_holds
end Go.Proofs.YtdnnimemociklaaGreatDoor
end
end
