/-
  A part of the proof. Conditions: none.
-/
import Derived.Test.YtejfnfphmkjffaaGreatDoorCards
import Derived.Test.YtejfnfphmkjffaaGreatDoorTie
import Derived.Test.YtejfnfphmkjffaaGreatDoorUPkCA
import Derived.Test.YtejfnfphmkjffaaGreatDoorUT5
set_option linter.unusedSimpArgs false
set_option linter.unusedVariables false
open Go.Proofs.Tryz renaming prog->Ga
noncomputable section
section
open Go.Proofs
open Go.Cm Go.ChangeShapes Go.WideShapes Go.RowKit
namespace Go.Proofs.YtejfnfphmkjffaaGreatDoor
theorem JcZ (os:Os)(args:Array Value):laidMetH Ga Rows.typesOneRow.laid ((World.doorLaid Ga 400 os).forCall (λ_ _=>0) ⟨#[],args,[]⟩).memory:=
 laidMetH_of_parts3 (fuel:=8) (laidMet_of_run' 8 (by kernel_rfl) (by kernel_rfl)) (by kernel_rfl) (by kernel_rfl)
theorem gl_typesOne {W:World}(FB:W.ShapedOpen Ga)(hL:laidMetH Ga Rows.typesOneRow.laid W):GLw W:=
 gl_of (rt:=[]) (rs:=[]) FB hL (by kernel_rfl) (.tail _ (.tail _ (.head _))) (.tail _ (.tail _ (.tail _ (.head _)))) (.tail _ (.tail _ (.tail _ (.tail _ (.head _)))))
set_option maxRecDepth 100000 in
theorem Jeq (os:Os)(started:os.Started)(H:Type)(enc:TypeId×Value->H) :
  ReturnsInHanded {} Tryz.checked os 5 .any (λw args=>(Rows.typesOneSpec.pre enc Ga Tryz.f5 [] false w args/\laidMetH Ga Rows.typesOneRow.laid w)/\sizedMet enc Ga Tryz.f5 (OpenSpec.ofChange Rows.typesOneSpec) false w args)
   (Rows.typesOneSpec.post enc Ga Tryz.f5 false true false false):=by
 refine JgL (C:=Tryz.checked) (X:=λw=>laidMetH Ga Rows.typesOneRow.laid w) (λ_ _ hh h=>h.of_heap hh) ownK started (by kernel_rfl) Tryz.func5
  (ChangeSpec.witness_shaped (enc:=enc) (C:=Tryz.checked) (os:=os) (X:=λw _=>laidMetH Ga Rows.typesOneRow.laid w) false (World.doorLaid Ga 400 os) #[.agg #[.slice none 0 0,.slice none 0 0],.int .u8 0] 8 rfl (World.shaped_of_RefB (by kernel_rfl) (by kernel_rfl)) (by kernel_rfl) (by kernel_rfl) (by kernel_rfl) (JcZ os _)) ?_
 intro W base args ds gs before Fx hW hX FB;refine law_contract (bt:=4) (d:=6) ty_laid ty_maps ty_full Tryz.underlying4 (by kernel_rfl) rfl (λds Mx=>?_) (by kernel_rfl) (λl hl=>?_) W base args ds gs before Fx hW (gl_typesOne FB hX)
 ·rw[Tryz.params5]at Mx
  match ds,Mx with
  |[a,b],_=>exact⟨rfl,rfl,rfl⟩
 ·rw[Tryz.params5]at hl;obtain⟨c0,l0,rfl,h0,c1,l1,rfl,h1,rfl⟩:=hl;obtain⟨x0,rfl,y0⟩:=tree_of (d:=1) h0;obtain⟨x1,rfl,y1⟩:=top_int Tryz.underlying5 h1;exact oneAll x0 y0 x1 y1
end Go.Proofs.YtejfnfphmkjffaaGreatDoor
end
end
