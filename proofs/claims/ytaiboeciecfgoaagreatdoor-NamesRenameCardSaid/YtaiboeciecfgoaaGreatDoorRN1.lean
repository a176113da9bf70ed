/-
  The law NamesRename of package floodgatelaw03 holds, as the given statement NamesRenameCardSaid says it (shortened by a program). Conditions: those of the statement alone.
-/
import Derived.Test.YtaiboeciecfgoaaGreatDoorCards
import Derived.Test.YtaiboeciecfgoaaGreatDoorTie
import Derived.Test.YtaiboeciecfgoaaGreatDoorRP52
import Derived.Test.YtaiboeciecfgoaaGreatDoorRP54
set_option linter.unusedSimpArgs false
set_option linter.unusedVariables false
open Go.Proofs.Tryz renaming prog→Ga
noncomputable section
section
open Go.Proofs
namespace Go.Cm
theorem top_str {P:Program}{d:Nat}{t:TypeId}{c:CV}(ht:P.underlying t=some .string) (h:XI P d t c):∃ b,c=.str b:=by
 simp only[XI,ht]at h
 obtain ⟨b,h1,_⟩:=fits_str ht h
 cases h1
 exact ⟨b,rfl⟩
end Go.Cm
namespace Go.Proofs.YtaiboeciecfgoaaGreatDoor
open Go.Cm Go.ChangeShapes Go.WideShapes Go.RowKit
theorem JaU (os:Os) (args:Array Value):laidMetH Ga Rows.namesRenameRow.laid ((World.doorLaid Ga 400 os).forCall (fun _ _=>0) ⟨#[],args,[]⟩).memory:=
 laidMetH_of_parts3 (fuel:=8) (laidMet_of_run' 8 (by kernel_rfl) (by kernel_rfl)) (by kernel_rfl) (by kernel_rfl)
theorem JeL {W:World}(hsh:W.ShapedOpen Ga) (hL:laidMetH Ga Rows.namesRenameRow.laid W):GLw W:=
 gl_of (rt:=[]) (rs:=[]) hsh hL (by kernel_rfl) (.tail _ (.tail _ (.head _))) (.tail _ (.tail _ (.tail _ (.head _)))) (.tail _ (.tail _ (.tail _ (.tail _ (.head _)))))
set_option maxRecDepth 100000 in
theorem JbR (os:Os) (started:os.Started) (H:Type) (enc:TypeId×Value→H) :
  ReturnsInHanded {} Tryz.checked os 4 .any (fun w args=>(Rows.namesRenameSpec.pre enc Ga Tryz.f4 [] false w args∧laidMetH Ga Rows.namesRenameRow.laid w)∧sizedMet enc Ga Tryz.f4 (OpenSpec.ofChange Rows.namesRenameSpec) false w args)
   (Rows.namesRenameSpec.post enc Ga Tryz.f4 false true false false):=by
 refine Jgr (C:=Tryz.checked) (X:=fun w=>laidMetH Ga Rows.namesRenameRow.laid w) (fun _ _ hh h=>h.of_heap hh) ownK started (by kernel_rfl) Tryz.func4
  (ChangeSpec.witness_shaped (enc:=enc) (C:=Tryz.checked) (os:=os) (X:=fun w _=>laidMetH Ga Rows.namesRenameRow.laid w) false (World.doorLaid Ga 400 os) #[.agg #[.slice none 0 0,.slice none 0 0],.int .i64 0,.string ⟨#[]⟩] 8 rfl (World.shaped_of_RefB (by kernel_rfl) (by kernel_rfl)) (by kernel_rfl) (by kernel_rfl) (by kernel_rfl) (JaU os _)) ?_
 intro W base args ds gs before hval hW hX hsh
 refine law_contract (bt:=4) (d:=6) ty_laid ty_maps ty_full Tryz.underlying4 (by kernel_rfl) rfl (fun ds hds=>?_) (by kernel_rfl) (fun l hl=>?_) W base args ds gs before hval hW (JeL hsh hX)
 ·rw[Tryz.params4]at hds
  match ds,hds with
  |[a,b,c],_=>exact ⟨rfl,rfl,rfl⟩
 ·rw[Tryz.params4]at hl
  obtain ⟨c0,l0,rfl,h0,c1,l1,rfl,h1,c2,l2,rfl,h2,rfl⟩:=hl
  obtain ⟨x0,rfl,y0⟩:=tree_of (d:=1) h0
  obtain ⟨x1,rfl,y1⟩:=top_int Tryz.underlying3 h1
  obtain ⟨x2,rfl⟩:=top_str Tryz.underlying9 h2
  exact renameAll x0 y0 x1 y1 x2
theorem namesRename_holds:Rows.NamesRenameSaid:=
 OpenClaim.holds_of_wide 4 Tryz.f4 rfl rfl rfl rfl rfl rfl rfl ⟨rfl,rfl,rfl,rfl,rfl⟩ rfl rfl rfl rfl rfl (by kernel_rfl) Tryz.func4 (by kernel_rfl)
  (of_decide_eq_true (by kernel_rfl)) (by unfold Func.isWrapper; first | (rw[if_pos (by decide +kernel)]; kernel_rfl) | (rw[if_neg (by decide +kernel)]; exact ⟨rfl,rfl⟩))
  (fun os started H enc _=>JbR os started H enc)
theorem namesRename_card_holds:Rows.NamesRenameCardSaid:=
 Claim7.holds_tied_plain_at .later [] [.data,.data,.data,.sentinel,.sentinel] true Rows.namesRenameCard.stood.harness true
  namesRename_holds (fun _ h=>by cases h) (by kernel_rfl) (fun _ h=>by cases h) namesRename_row_tie rfl ⟨rfl,rfl⟩ (by kernel_rfl) rfl
  (fun f fn hf hfn=>by
   obtain rfl:f=4:=Option.some.inj ((show Ga.funcNamed "floodgate/floodgatelaw03.NamesRename" = some 4 by kernel_rfl).symm.trans hf) |>.symm
   obtain rfl:fn=Tryz.f4:=(Option.some.inj (Tryz.func4.symm.trans hfn)).symm
   exact ⟨by kernel_rfl,fun j t ht=>by
    rw[Tryz.params4]at ht
    have hm:t∈[25,3,9]:=by simpa using Array.mem_of_getElem? ht
    have hall:([25,3,9].all fun u=>!Tryz.prog.wantsStandIn u)=true:=by kernel_rfl
    exact (show Ga.wantsStandIn t=false by simpa using List.all_eq_true.1 hall t hm)⟩)
  (by kernel_rfl)
#print axioms namesRename_card_holds
end Go.Proofs.YtaiboeciecfgoaaGreatDoor
end
end
