/-
  The law TypesShuffled of package floodgatelaw04 holds, as the given statement TypesShuffledCardSaid says it (shortened by a program). Conditions: those of the statement alone.
-/
import Derived.Test.YtdnnimemociklaaGreatDoorWT9
import Derived.Test.YtdnnimemociklaaGreatDoorWC3
import Derived.Test.YtdnnimemociklaaGreatDoorWC4
set_option linter.unusedSimpArgs false
set_option linter.unusedVariables false
noncomputable section
section
open Go.Proofs
open Go.Cm Go.ChangeShapes Go.WideShapes Go.RowKit
namespace Go.Proofs.YtdnnimemociklaaGreatDoor
theorem typesShuffled_card_holds:Rows.TypesShuffledCardSaid:=
 Claim7.holds_tied_plain_at .later [] [.data,.data,.data,.sentinel,.sentinel] true Rows.typesShuffledCard.stood.harness true
  typesShuffled_holds (λ_ h=>by cases h) (by kernel_rfl) (λ_ h=>by cases h) typesShuffled_row_tie rfl ⟨rfl,rfl⟩ Jeb rfl
  (λf fn hf Br=>by
   obtain rfl:f=4:=Option.some.inj (Jea.symm.trans hf) |>.symm;obtain rfl:fn=Tryz.f4:=(Option.some.inj (Tryz.func4.symm.trans Br)).symm;exact⟨Jd9,λj t ht=>by
    rw[Tryz.params4]at ht;have hm:t∈[25,39]:=by simpa using Array.mem_of_getElem? ht
    have Ak:=Jd8;exact(show Tryz.prog.wantsStandIn t=false by simpa using List.all_eq_true.1 Ak t hm)⟩)
  (by kernel_rfl)
#print axioms typesShuffled_card_holds
end Go.Proofs.YtdnnimemociklaaGreatDoor
end
end
