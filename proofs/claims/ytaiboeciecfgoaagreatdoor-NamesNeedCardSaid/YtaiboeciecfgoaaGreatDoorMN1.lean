/-
  The law NamesNeed of package floodgatelaw03 holds, as the given statement NamesNeedCardSaid says it (shortened by a program). Conditions: those of the statement alone.
-/
import Derived.Test.YtaiboeciecfgoaaGreatDoorRows
import Derived.Test.YtaiboeciecfgoaaGreatDoorCards
import Derived.Test.YtaiboeciecfgoaaGreatDoorTie
import Derived.Test.YtaiboeciecfgoaaGreatDoorMP52
import Derived.Test.YtaiboeciecfgoaaGreatDoorMP53
set_option linter.unusedSimpArgs false
set_option linter.unusedVariables false
noncomputable section
section
open Go.Proofs
open Go.Cm Go.ChangeShapes Go.WideShapes Go.RowKit
namespace Go.Proofs.YtaiboeciecfgoaaGreatDoor
theorem JbU (os:Os) (args:Array Value):laidMetH Tryz.prog Rows.namesNeedRow.laid ((World.doorLaid Tryz.prog 400 os).forCall (fun _ _=>0) ⟨#[],args,[]⟩).memory:=
 laidMetH_of_parts3 (fuel:=8) (laidMet_of_run' 8 (by kernel_rfl) (by kernel_rfl)) (by kernel_rfl) (by kernel_rfl)
theorem gl_namesNeed {W:World}(hsh:W.ShapedOpen Tryz.prog) (hL:laidMetH Tryz.prog Rows.namesNeedRow.laid W):GLw W:=
 gl_of (rt:=[]) (rs:=[]) hsh hL (by kernel_rfl) (.tail _ (.tail _ (.head _))) (.tail _ (.tail _ (.tail _ (.head _)))) (.tail _ (.tail _ (.tail _ (.tail _ (.head _)))))
set_option maxRecDepth 100000 in
theorem JcS (os:Os) (started:os.Started) (H:Type) (enc:TypeId×Value→H) :
  ReturnsInHanded {} Tryz.checked os 3 .any (fun w args=>(Rows.namesNeedSpec.pre enc Tryz.prog Tryz.f3 [] false w args∧laidMetH Tryz.prog Rows.namesNeedRow.laid w)∧sizedMet enc Tryz.prog Tryz.f3 (OpenSpec.ofChange Rows.namesNeedSpec) false w args)
   (Rows.namesNeedSpec.post enc Tryz.prog Tryz.f3 false true false false):=by
 refine Jgm (C:=Tryz.checked) (X:=fun w=>laidMetH Tryz.prog Rows.namesNeedRow.laid w) (fun _ _ hh h=>h.of_heap hh) ownK started (by kernel_rfl) Tryz.func3
  (ChangeSpec.witness_shaped (enc:=enc) (C:=Tryz.checked) (os:=os) (X:=fun w _=>laidMetH Tryz.prog Rows.namesNeedRow.laid w) false (World.doorLaid Tryz.prog 400 os) #[.agg #[.slice none 0 0,.slice none 0 0],.int .i64 0,.int .i64 0] 8 rfl (World.shaped_of_RefB (by kernel_rfl) (by kernel_rfl)) (by kernel_rfl) (by kernel_rfl) (by kernel_rfl) (JbU os _)) ?_
 intro W base args ds gs before hval hW hX hsh
 refine law_contract (bt:=4) (d:=6) ty_laid ty_maps ty_full Tryz.underlying4 (by kernel_rfl) rfl (fun ds hds=>?_) (by kernel_rfl) (fun l hl=>?_) W base args ds gs before hval hW (gl_namesNeed hsh hX)
 ·rw[Tryz.params3]at hds
  match ds,hds with
  |[a,b,c],_=>exact ⟨rfl,rfl,rfl⟩
 ·rw[Tryz.params3]at hl
  obtain ⟨c0,l0,rfl,h0,c1,l1,rfl,h1,c2,l2,rfl,h2,rfl⟩:=hl
  obtain ⟨x0,rfl,y0⟩:=tree_of (d:=1) h0
  obtain ⟨x1,rfl,y1⟩:=top_int Tryz.underlying3 h1
  obtain ⟨x2,rfl,y2⟩:=top_int Tryz.underlying3 h2
  exact needAll x0 y0 x1 y1 x2 y2
theorem namesNeed_holds:Rows.NamesNeedSaid:=
 OpenClaim.holds_of_wide 3 Tryz.f3 rfl rfl rfl rfl rfl rfl rfl ⟨rfl,rfl,rfl,rfl,rfl⟩ rfl rfl rfl rfl rfl (by kernel_rfl) Tryz.func3 (by kernel_rfl)
  (of_decide_eq_true (by kernel_rfl)) (by unfold Func.isWrapper; first | (rw[if_pos (by decide +kernel)]; kernel_rfl) | (rw[if_neg (by decide +kernel)]; exact ⟨rfl,rfl⟩))
  (fun os started H enc _=>JcS os started H enc)
theorem namesNeed_card_holds:Rows.NamesNeedCardSaid:=
 Claim7.holds_tied_plain_at .later [] [.data,.data,.data,.sentinel,.sentinel] true Rows.namesNeedCard.stood.harness true
  namesNeed_holds (fun _ h=>by cases h) (by kernel_rfl) (fun _ h=>by cases h) namesNeed_row_tie rfl ⟨rfl,rfl⟩ (by kernel_rfl) rfl
  (fun f fn hf hfn=>by
   obtain rfl:f=3:=Option.some.inj ((show Tryz.prog.funcNamed "floodgate/floodgatelaw03.NamesNeed" = some 3 by kernel_rfl).symm.trans hf) |>.symm
   obtain rfl:fn=Tryz.f3:=(Option.some.inj (Tryz.func3.symm.trans hfn)).symm
   exact ⟨by kernel_rfl,fun j t ht=>by
    rw[Tryz.params3]at ht
    have hm:t∈[25,3,3]:=by simpa using Array.mem_of_getElem? ht
    have hall:([25,3,3].all fun u=>!Tryz.prog.wantsStandIn u)=true:=by kernel_rfl
    exact (show Tryz.prog.wantsStandIn t=false by simpa using List.all_eq_true.1 hall t hm)⟩)
  (by kernel_rfl)
#print axioms namesNeed_card_holds
end Go.Proofs.YtaiboeciecfgoaaGreatDoor
end
end
