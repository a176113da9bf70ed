/-
  A part of the proof. Conditions: none.
-/
import Derived.Test.YtdnnimemociklaaGreatDoorCards
import Derived.Test.YtdnnimemociklaaGreatDoorTie
import Derived.Test.YtdnnimemociklaaGreatDoorYPkCA
import Derived.Test.YtdnnimemociklaaGreatDoorYT6
set_option linter.unusedSimpArgs false
set_option linter.unusedVariables false
open Go.Proofs.Tryz renaming prog->Ga
noncomputable section
section
open Go.Proofs
open Go.Cm Go.ChangeShapes Go.WideShapes Go.RowKit
namespace Go.Proofs.YtdnnimemociklaaGreatDoor
theorem Jce (os:Os)(args:Array Value):laidMetH Ga Rows.typesCheckRow.laid ((World.doorLaid Ga 400 os).forCall (λ_ _=>0) ⟨#[],args,[]⟩).memory:=laidMetH_of_parts3 (fuel:=8) (laidMet_of_run' 8 (by kernel_rfl) (by kernel_rfl)) (by kernel_rfl) (by kernel_rfl)
theorem JhI {W:World}(FZ:W.ShapedOpen Ga)(hL:laidMetH Ga Rows.typesCheckRow.laid W):GLw W:=gl_of (rt:=[]) (rs:=[]) FZ hL (by kernel_rfl) (.tail _ (.tail _ (.head _))) (.tail _ (.tail _ (.tail _ (.head _)))) (.tail _ (.tail _ (.tail _ (.tail _ (.head _)))))
set_option maxRecDepth 100000 in
theorem Jdo (os:Os)(started:os.Started)(H:Type)(enc:TypeId×Value->H) :
  ReturnsInHanded {} Tryz.checked os 5 .any (λw args=>(Rows.typesCheckSpec.pre enc Ga Tryz.f5 [] false w args/\laidMetH Ga Rows.typesCheckRow.laid w)/\sizedMet enc Ga Tryz.f5 (OpenSpec.ofChange Rows.typesCheckSpec) false w args)
   (Rows.typesCheckSpec.post enc Ga Tryz.f5 false true false false):=by
 refine JhH (C:=Tryz.checked) (X:=λw=>laidMetH Ga Rows.typesCheckRow.laid w) (λ_ _ hh h=>h.of_heap hh) ownK started (by kernel_rfl) Tryz.func5
  (ChangeSpec.witness_shaped (enc:=enc) (C:=Tryz.checked) (os:=os) (X:=λw _=>laidMetH Ga Rows.typesCheckRow.laid w) false (World.doorLaid Ga 400 os) #[.agg #[.slice none 0 0,.slice none 0 0],.int .i64 0,.int .i64 0] 8 rfl (World.shaped_of_RefB (by kernel_rfl) (by kernel_rfl)) (by kernel_rfl) (by kernel_rfl) (by kernel_rfl) (Jce os _)) ?_
 intro W base args ds gs before FX hW hX FZ;refine law_contract (bt:=4) (d:=6) ty_laid ty_maps ty_full Tryz.underlying4 (by kernel_rfl) rfl (λds IZ=>?_) (by kernel_rfl) (λl hl=>?_) W base args ds gs before FX hW (JhI FZ hX)
 ·rw[Tryz.params5]at IZ
  match ds,IZ with
  |[a,b,c],_=>exact⟨rfl,rfl,rfl⟩
 ·rw[Tryz.params5]at hl;obtain⟨c0,l0,rfl,h0,c1,l1,rfl,h1,c2,l2,rfl,h2,rfl⟩:=hl;obtain⟨x0,rfl,y0⟩:=tree_of (d:=1) h0;obtain⟨x1,rfl,y1⟩:=top_int Tryz.underlying3 h1;obtain⟨x2,rfl,y2⟩:=top_int Tryz.underlying3 h2;exact checkAll x0 y0 x1 y1 x2 y2
end Go.Proofs.YtdnnimemociklaaGreatDoor
end
end
