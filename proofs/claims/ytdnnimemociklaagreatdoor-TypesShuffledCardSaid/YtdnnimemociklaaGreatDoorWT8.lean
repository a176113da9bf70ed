/-
  A part of the proof. Conditions: none.
-/
import Derived.Test.YtdnnimemociklaaGreatDoorCards
import Derived.Test.YtdnnimemociklaaGreatDoorTie
import Derived.Test.YtdnnimemociklaaGreatDoorWPkCA
import Derived.Test.YtdnnimemociklaaGreatDoorWT5
set_option linter.unusedSimpArgs false
set_option linter.unusedVariables false
open Go.Proofs.Tryz renaming prog->Ga
noncomputable section
section
open Go.Proofs
namespace Go.Cm
theorem bytes_of {d:Nat}{els:LM}(hm:els.length<=maxLen)(h:∀x∈els,fits Ga d 5 x):∃b:Lx,els=by8 b/\((∀x∈b,x<256)/\b.length<=9223372036854775807):=by
 have key:∀els:LM,(∀x∈els,fits Ga d 5 x)->∃b:Lx,els=by8 b/\∀x∈b,x<256:=by
  intro els
  induction els with
  |nil=>intro _;exact⟨[],rfl,λx hx=>by cases hx⟩
  |cons e els ih=>
   intro h;obtain⟨b,rfl,hb⟩:=ih λx hx=>h x (by simp[hx])
   obtain⟨x,rfl,hx⟩:=fits_int Tryz.underlying5 (h e sM);have h0:0<=x/\x<=255:=⟨hx.lo,hx.hi⟩;refine⟨x.toNat::b,?_,λy hy=>?_⟩
   ·simp only[by8,List.map_cons];rw[show ((x.toNat:Nat):Int)=x by omega]
   ·rcases List.mem_cons.1 hy with rfl|hy
    ·omega
    ·exact hb y hy
 obtain⟨b,rfl,hb⟩:=key els h;refine⟨b,rfl,hb,?_⟩;rw[by8_len]at hm;exact Nat.le_trans hm vk
end Go.Cm
namespace Go.Proofs.YtdnnimemociklaaGreatDoor
open Go.Cm Go.ChangeShapes Go.WideShapes Go.RowKit
theorem Jba (os:Os)(args:Array Value):laidMetH Ga Rows.typesShuffledRow.laid ((World.doorLaid Ga 400 os).forCall (λ_ _=>0) ⟨#[],args,[]⟩).memory:=laidMetH_of_parts3 (fuel:=8) (laidMet_of_run' 8 (by kernel_rfl) (by kernel_rfl)) (by kernel_rfl) (by kernel_rfl)
theorem Jem {W:World}(EZ:W.ShapedOpen Ga)(hL:laidMetH Ga Rows.typesShuffledRow.laid W):GLw W:=gl_of (rt:=[]) (rs:=[]) EZ hL (by kernel_rfl) (.tail _ (.tail _ (.head _))) (.tail _ (.tail _ (.tail _ (.head _)))) (.tail _ (.tail _ (.tail _ (.tail _ (.head _)))))
set_option maxRecDepth 100000 in
theorem Jcg (os:Os)(started:os.Started)(H:Type)(enc:TypeId×Value->H) :
  ReturnsInHanded {} Tryz.checked os 4 .any (λw args=>(Rows.typesShuffledSpec.pre enc Ga Tryz.f4 [] false w args/\laidMetH Ga Rows.typesShuffledRow.laid w)/\sizedMet enc Ga Tryz.f4 (OpenSpec.ofChange Rows.typesShuffledSpec) false w args)
   (Rows.typesShuffledSpec.post enc Ga Tryz.f4 false true false false):=by
 refine Jif (C:=Tryz.checked) (X:=λw=>laidMetH Ga Rows.typesShuffledRow.laid w) (λ_ _ hh h=>h.of_heap hh) ownK started (by kernel_rfl) Tryz.func4
  (ChangeSpec.witness_shaped (enc:=enc) (C:=Tryz.checked) (os:=os) (X:=λw _=>laidMetH Ga Rows.typesShuffledRow.laid w) false (World.doorLaid Ga 400 os) #[.agg #[.slice none 0 0,.slice none 0 0],.slice none 0 0] 8 rfl (World.shaped_of_RefB (by kernel_rfl) (by kernel_rfl)) (by kernel_rfl) (by kernel_rfl) (by kernel_rfl) (Jba os _)) ?_
 intro W base args ds gs before F6 hW hX EZ;refine law_contract (bt:=4) (d:=6) ty_laid ty_maps ty_full Tryz.underlying4 (by kernel_rfl) rfl (λds Px=>?_) (by kernel_rfl) (λl hl=>?_) W base args ds gs before F6 hW (Jem EZ hX)
 ·rw[Tryz.params4]at Px
  match ds,Px with
  |[a,b],_=>exact⟨rfl,rfl,rfl⟩
 ·rw[Tryz.params4]at hl;obtain⟨c0,l0,rfl,h0,c1,l1,rfl,h1,rfl⟩:=hl;obtain⟨x0,rfl,y0⟩:=tree_of (d:=1) h0;obtain⟨e1,rfl,m1,g1⟩:=top_slice Tryz.underlying39 h1;obtain⟨x1,rfl,y1⟩:=bytes_of (d:=5) m1 g1;rw[show Ga.cellsOf 5=1 by kernel_rfl];exact shfAll x0 y0 x1 y1
end Go.Proofs.YtdnnimemociklaaGreatDoor
end
end
