/-
  The law TypesOne of package floodgatelaw04 holds, as the given statement TypesOneCardSaid says it (shortened by a program). Conditions: those of the statement alone.
-/
import Derived.Test.YtejfnfphmkjffaaGreatDoorUT9
import Derived.Test.YtejfnfphmkjffaaGreatDoorUC3
import Derived.Test.YtejfnfphmkjffaaGreatDoorUC4
set_option linter.unusedSimpArgs false
set_option linter.unusedVariables false
noncomputable section
section
open Go.Proofs
open Go.Cm Go.ChangeShapes Go.WideShapes Go.RowKit
namespace Go.Proofs.YtejfnfphmkjffaaGreatDoor
theorem typesOne_card_holds:Rows.TypesOneCardSaid:=
 Claim7.holds_tied_plain_at .later [] [.data,.data,.data,.sentinel,.sentinel] true Rows.typesOneCard.stood.harness true
  typesOne_holds (λ_ h=>by cases h) (by kernel_rfl) (λ_ h=>by cases h) typesOne_row_tie rfl ⟨rfl,rfl⟩ typesOne_k1 rfl
  (λf fn hf Bg=>by
   obtain rfl:f=5:=Option.some.inj (typesOne_k2.symm.trans hf) |>.symm;obtain rfl:fn=Tryz.f5:=(Option.some.inj (Tryz.func5.symm.trans Bg)).symm;exact⟨typesOne_k3,λj t ht=>by
    rw[Tryz.params5]at ht;have hm:t∈[25,5]:=by simpa using Array.mem_of_getElem? ht
    have Aj:=typesOne_k4;exact(show Tryz.prog.wantsStandIn t=false by simpa using List.all_eq_true.1 Aj t hm)⟩)
  (by kernel_rfl)
#print axioms typesOne_card_holds
end Go.Proofs.YtejfnfphmkjffaaGreatDoor
end
end
