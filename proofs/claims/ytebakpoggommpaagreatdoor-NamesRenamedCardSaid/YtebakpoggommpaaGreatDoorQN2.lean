/-
  The law NamesRenamed of package floodgatelaw02 holds, as the given statement NamesRenamedCardSaid says it (shortened by a program). Conditions: those of the statement alone.
-/
import Derived.Test.YtebakpoggommpaaGreatDoorCards
import Derived.Test.YtebakpoggommpaaGreatDoorTie
import Derived.Test.YtebakpoggommpaaGreatDoorQPkCA
import Derived.Test.YtebakpoggommpaaGreatDoorQP56
set_option linter.unusedSimpArgs false
set_option linter.unusedVariables false
open Go.Proofs.Tryz renaming prog→Ga
noncomputable section
section
open Go.Proofs
open Go.Cm Go.ChangeShapes Go.WideShapes Go.RowKit
namespace Go.Proofs.YtebakpoggommpaaGreatDoor
theorem JaE (os:Os) (args:Array Value):laidMetH Ga Rows.namesRenamedRow.laid ((World.doorLaid Ga 400 os).forCall (fun _ _=>0) ⟨#[],args,[]⟩).memory:=
 laidMetH_of_parts3 (fuel:=8) (laidMet_of_run' 8 (by kernel_rfl) (by kernel_rfl)) (by kernel_rfl) (by kernel_rfl)
theorem JdV {W:World}(hsh:W.ShapedOpen Ga) (hL:laidMetH Ga Rows.namesRenamedRow.laid W):GLw W:=
 gl_of (rt:=[]) (rs:=[]) hsh hL (by kernel_rfl) (.tail _ (.tail _ (.head _))) (.tail _ (.tail _ (.tail _ (.head _)))) (.tail _ (.tail _ (.tail _ (.tail _ (.head _)))))
set_option maxRecDepth 100000 in
theorem Jbx (os:Os) (started:os.Started) (H:Type) (enc:TypeId×Value→H) :
  ReturnsInHanded {} Tryz.checked os 6 .any (fun w args=>(Rows.namesRenamedSpec.pre enc Ga Tryz.f6 [] false w args∧laidMetH Ga Rows.namesRenamedRow.laid w)∧sizedMet enc Ga Tryz.f6 (OpenSpec.ofChange Rows.namesRenamedSpec) false w args)
   (Rows.namesRenamedSpec.post enc Ga Tryz.f6 false true false false):=by
 refine Jgc (C:=Tryz.checked) (X:=fun w=>laidMetH Ga Rows.namesRenamedRow.laid w) (fun _ _ hh h=>h.of_heap hh) ownK started (by kernel_rfl) Tryz.func6
  (ChangeSpec.witness_shaped (enc:=enc) (C:=Tryz.checked) (os:=os) (X:=fun w _=>laidMetH Ga Rows.namesRenamedRow.laid w) false (World.doorLaid Ga 400 os) #[.agg #[.slice none 0 0,.slice none 0 0],.int .u8 0] 8 rfl (World.shaped_of_RefB (by kernel_rfl) (by kernel_rfl)) (by kernel_rfl) (by kernel_rfl) (by kernel_rfl) (JaE os _)) ?_
 intro W base args ds gs before hval hW hX hsh
 refine law_contract (bt:=4) (d:=6) ty_laid ty_maps ty_full Tryz.underlying4 (by kernel_rfl) rfl (fun ds hds=>?_) (by kernel_rfl) (fun l hl=>?_) W base args ds gs before hval hW (JdV hsh hX)
 ·rw[Tryz.params6]at hds
  match ds,hds with
  |[a,b],_=>exact ⟨rfl,rfl,rfl⟩
 ·rw[Tryz.params6]at hl
  obtain ⟨c0,l0,rfl,h0,c1,l1,rfl,h1,rfl⟩:=hl
  obtain ⟨x0,rfl,y0⟩:=tree_of (d:=1) h0
  obtain ⟨x1,rfl,y1⟩:=top_int Tryz.underlying5 h1
  exact renamedAll x0 y0 x1 y1
theorem namesRenamed_holds:Rows.NamesRenamedSaid:=
 OpenClaim.holds_of_wide 6 Tryz.f6 rfl rfl rfl rfl rfl rfl rfl ⟨rfl,rfl,rfl,rfl,rfl⟩ rfl rfl rfl rfl rfl (by kernel_rfl) Tryz.func6 (by kernel_rfl)
  (of_decide_eq_true (by kernel_rfl)) (by unfold Func.isWrapper; first | (rw[if_pos (by decide +kernel)]; kernel_rfl) | (rw[if_neg (by decide +kernel)]; exact ⟨rfl,rfl⟩))
  (fun os started H enc _=>Jbx os started H enc)
theorem namesRenamed_card_holds:Rows.NamesRenamedCardSaid:=
 Claim7.holds_tied_plain_at .later [] [.data,.data,.data,.sentinel,.sentinel] true Rows.namesRenamedCard.stood.harness true
  namesRenamed_holds (fun _ h=>by cases h) (by kernel_rfl) (fun _ h=>by cases h) namesRenamed_row_tie rfl ⟨rfl,rfl⟩ (by kernel_rfl) rfl
  (fun f fn hf hfn=>by
   obtain rfl:f=6:=Option.some.inj ((show Ga.funcNamed "floodgate/floodgatelaw03.NamesRenamed" = some 6 by kernel_rfl).symm.trans hf) |>.symm
   obtain rfl:fn=Tryz.f6:=(Option.some.inj (Tryz.func6.symm.trans hfn)).symm
   exact ⟨by kernel_rfl,fun j t ht=>by
    rw[Tryz.params6]at ht
    have hm:t∈[28,5]:=by simpa using Array.mem_of_getElem? ht
    have hall:([28,5].all fun u=>!Tryz.prog.wantsStandIn u)=true:=by kernel_rfl
    exact (show Ga.wantsStandIn t=false by simpa using List.all_eq_true.1 hall t hm)⟩)
  (by kernel_rfl)
#print axioms namesRenamed_card_holds
end Go.Proofs.YtebakpoggommpaaGreatDoor
end
end
