/-
  The law NamesOrdered of package floodgatelaw03 holds, as the given statement NamesOrderedCardSaid says it (shortened by a program). Conditions: those of the statement alone.
-/
import Derived.Test.YtaiboeciecfgoaaGreatDoorCards
import Derived.Test.YtaiboeciecfgoaaGreatDoorTie
import Derived.Test.YtaiboeciecfgoaaGreatDoorTN1
set_option linter.unusedSimpArgs false
set_option linter.unusedVariables false
open Go.Proofs.Tryz renaming prog→Ga
noncomputable section
section
open Go.Proofs
open Go.Cm Go.ChangeShapes Go.WideShapes Go.RowKit
namespace Go.Proofs.YtaiboeciecfgoaaGreatDoor
theorem Jae (os:Os) (args:Array Value):laidMetH Ga Rows.namesOrderedRow.laid ((World.doorLaid Ga 400 os).forCall (fun _ _=>0) ⟨#[],args,[]⟩).memory:=
 laidMetH_of_parts3 (fuel:=8) (laidMet_of_run' 8 (by kernel_rfl) (by kernel_rfl)) (by kernel_rfl) (by kernel_rfl)
theorem JdT {W:World}(hsh:W.ShapedOpen Ga) (hL:laidMetH Ga Rows.namesOrderedRow.laid W):GLw W:=
 gl_of (rt:=[]) (rs:=[]) hsh hL (by kernel_rfl) (.tail _ (.tail _ (.head _))) (.tail _ (.tail _ (.tail _ (.head _)))) (.tail _ (.tail _ (.tail _ (.tail _ (.head _)))))
set_option maxRecDepth 100000 in
theorem Ja2 (os:Os) (started:os.Started) (H:Type) (enc:TypeId×Value→H) :
  ReturnsInHanded {} Tryz.checked os 6 .any (fun w args=>(Rows.namesOrderedSpec.pre enc Ga Tryz.f6 [] false w args∧laidMetH Ga Rows.namesOrderedRow.laid w)∧sizedMet enc Ga Tryz.f6 (OpenSpec.ofChange Rows.namesOrderedSpec) false w args)
   (Rows.namesOrderedSpec.post enc Ga Tryz.f6 false true false false):=by
 refine Jf2 (C:=Tryz.checked) (X:=fun w=>laidMetH Ga Rows.namesOrderedRow.laid w) (fun _ _ hh h=>h.of_heap hh) ownK started (by kernel_rfl) Tryz.func6
  (ChangeSpec.witness_shaped (enc:=enc) (C:=Tryz.checked) (os:=os) (X:=fun w _=>laidMetH Ga Rows.namesOrderedRow.laid w) false (World.doorLaid Ga 400 os) #[.agg #[.slice none 0 0,.slice none 0 0]] 8 rfl (World.shaped_of_RefB (by kernel_rfl) (by kernel_rfl)) (by kernel_rfl) (by kernel_rfl) (by kernel_rfl) (Jae os _)) ?_
 intro W base args ds gs before hval hW hX hsh
 refine law_contract (bt:=4) (d:=6) ty_laid ty_maps ty_full Tryz.underlying4 (by kernel_rfl) rfl (fun ds hds=>?_) (by kernel_rfl) (fun l hl=>?_) W base args ds gs before hval hW (JdT hsh hX)
 ·rw[Tryz.params6]at hds
  match ds,hds with
  |[a],_=>exact ⟨rfl,rfl,rfl⟩
 ·rw[Tryz.params6]at hl
  obtain ⟨c0,l0,rfl,h0,rfl⟩:=hl
  obtain ⟨x0,rfl,y0⟩:=tree_of (d:=1) h0
  exact orderedAll x0 y0
theorem namesOrdered_holds:Rows.NamesOrderedSaid:=
 OpenClaim.holds_of_wide 6 Tryz.f6 rfl rfl rfl rfl rfl rfl rfl ⟨rfl,rfl,rfl,rfl,rfl⟩ rfl rfl rfl rfl rfl (by kernel_rfl) Tryz.func6 (by kernel_rfl)
  (of_decide_eq_true (by kernel_rfl)) (by unfold Func.isWrapper; first | (rw[if_pos (by decide +kernel)]; kernel_rfl) | (rw[if_neg (by decide +kernel)]; exact ⟨rfl,rfl⟩))
  (fun os started H enc _=>Ja2 os started H enc)
theorem namesOrdered_card_holds:Rows.NamesOrderedCardSaid:=
 Claim7.holds_tied_plain_at .later [] [.data,.data,.data,.sentinel,.sentinel] true Rows.namesOrderedCard.stood.harness true
  namesOrdered_holds (fun _ h=>by cases h) (by kernel_rfl) (fun _ h=>by cases h) namesOrdered_row_tie rfl ⟨rfl,rfl⟩ (by kernel_rfl) rfl
  (fun f fn hf hfn=>by
   obtain rfl:f=6:=Option.some.inj ((show Ga.funcNamed "floodgate/floodgatelaw03.NamesOrdered" = some 6 by kernel_rfl).symm.trans hf) |>.symm
   obtain rfl:fn=Tryz.f6:=(Option.some.inj (Tryz.func6.symm.trans hfn)).symm
   exact ⟨by kernel_rfl,fun j t ht=>by
    rw[Tryz.params6]at ht
    have hm:t∈[25]:=by simpa using Array.mem_of_getElem? ht
    have hall:([25].all fun u=>!Tryz.prog.wantsStandIn u)=true:=by kernel_rfl
    exact (show Ga.wantsStandIn t=false by simpa using List.all_eq_true.1 hall t hm)⟩)
  (by kernel_rfl)
#print axioms namesOrdered_card_holds
end Go.Proofs.YtaiboeciecfgoaaGreatDoor
end
end
