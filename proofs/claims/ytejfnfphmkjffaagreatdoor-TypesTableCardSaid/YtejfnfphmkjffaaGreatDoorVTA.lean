/-
  The law TypesTable of package floodgatelaw04 holds, as the given statement TypesTableCardSaid says it (shortened by a program). Conditions: those of the statement alone.
-/
import Derived.Test.YtejfnfphmkjffaaGreatDoorVT9
import Derived.Test.YtejfnfphmkjffaaGreatDoorVC3
import Derived.Test.YtejfnfphmkjffaaGreatDoorVC4
set_option linter.unusedSimpArgs false
set_option linter.unusedVariables false
noncomputable section
section
open Go.Proofs
open Go.Cm Go.ChangeShapes Go.WideShapes Go.RowKit
namespace Go.Proofs.YtejfnfphmkjffaaGreatDoor
theorem typesTable_card_holds:Rows.TypesTableCardSaid:=
 Claim7.holds_tied_plain_at .later [] [.data,.data,.data,.sentinel,.sentinel] true Rows.typesTableCard.stood.harness true
  typesTable_holds (λ_ h=>by cases h) (by kernel_rfl) (λ_ h=>by cases h) typesTable_row_tie rfl ⟨rfl,rfl⟩ Jgt rfl
  (λf fn hf Bn=>by
   obtain rfl:f=3:=Option.some.inj (Jgs.symm.trans hf) |>.symm;obtain rfl:fn=Tryz.f3:=(Option.some.inj (Tryz.func3.symm.trans Bn)).symm;exact⟨Jgr,λj t ht=>by
    rw[Tryz.params3]at ht;have hm:t∈[25]:=by simpa using Array.mem_of_getElem? ht
    have Ak:=Jgq;exact(show Tryz.prog.wantsStandIn t=false by simpa using List.all_eq_true.1 Ak t hm)⟩)
  (by kernel_rfl)
#print axioms typesTable_card_holds
end Go.Proofs.YtejfnfphmkjffaaGreatDoor
end
end
