/-
  A part of the proof. Conditions: none.
-/
import Derived.Test.YtdnnimemociklaaGreatDoorCards
import Derived.Test.YtdnnimemociklaaGreatDoorTie
import Derived.Test.YtdnnimemociklaaGreatDoorVPkCA
import Derived.Test.YtdnnimemociklaaGreatDoorVT7
set_option linter.unusedSimpArgs false
set_option linter.unusedVariables false
open Go.Proofs.Tryz renaming prog->Ga
noncomputable section
section
open Go.Proofs
open Go.Cm Go.ChangeShapes Go.WideShapes Go.RowKit
namespace Go.Proofs.YtdnnimemociklaaGreatDoor
theorem Jb7 (os:Os)(args:Array Value):laidMetH Ga Rows.typesInferRow.laid ((World.doorLaid Ga 400 os).forCall (λ_ _=>0) ⟨#[],args,[]⟩).memory:=laidMetH_of_parts3 (fuel:=8) (laidMet_of_run' 8 (by kernel_rfl) (by kernel_rfl)) (by kernel_rfl) (by kernel_rfl)
theorem Jhs {W:World}(FK:W.ShapedOpen Ga)(hL:laidMetH Ga Rows.typesInferRow.laid W):GLw W:=gl_of (rt:=[]) (rs:=[]) FK hL (by kernel_rfl) (.tail _ (.tail _ (.head _))) (.tail _ (.tail _ (.tail _ (.head _)))) (.tail _ (.tail _ (.tail _ (.tail _ (.head _)))))
set_option maxRecDepth 100000 in
theorem Jdc (os:Os)(started:os.Started)(H:Type)(enc:TypeId×Value->H) :
  ReturnsInHanded {} Tryz.checked os 3 .any (λw args=>(Rows.typesInferSpec.pre enc Ga Tryz.f3 [] false w args/\laidMetH Ga Rows.typesInferRow.laid w)/\sizedMet enc Ga Tryz.f3 (OpenSpec.ofChange Rows.typesInferSpec) false w args)
   (Rows.typesInferSpec.post enc Ga Tryz.f3 false true false false):=by
 refine Jhr (C:=Tryz.checked) (X:=λw=>laidMetH Ga Rows.typesInferRow.laid w) (λ_ _ hh h=>h.of_heap hh) ownK started (by kernel_rfl) Tryz.func3
  (ChangeSpec.witness_shaped (enc:=enc) (C:=Tryz.checked) (os:=os) (X:=λw _=>laidMetH Ga Rows.typesInferRow.laid w) false (World.doorLaid Ga 400 os) #[.agg #[.slice none 0 0,.slice none 0 0]] 8 rfl (World.shaped_of_RefB (by kernel_rfl) (by kernel_rfl)) (by kernel_rfl) (by kernel_rfl) (by kernel_rfl) (Jb7 os _)) ?_
 intro W base args ds gs before FE hW hX FK;refine law_contract (bt:=4) (d:=6) ty_laid ty_maps ty_full Tryz.underlying4 (by kernel_rfl) rfl (λds IK=>?_) (by kernel_rfl) (λl hl=>?_) W base args ds gs before FE hW (Jhs FK hX)
 ·rw[Tryz.params3]at IK
  match ds,IK with
  |[a],_=>exact⟨rfl,rfl,rfl⟩
 ·rw[Tryz.params3]at hl;obtain⟨c0,l0,rfl,h0,rfl⟩:=hl;obtain⟨x0,rfl,y0⟩:=tree_of (d:=1) h0;exact inferAll x0 y0
end Go.Proofs.YtdnnimemociklaaGreatDoor
end
end
