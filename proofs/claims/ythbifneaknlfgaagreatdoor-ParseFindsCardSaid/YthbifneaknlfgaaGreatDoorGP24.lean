/-
  The law ParseFinds of package floodgatelaw02 holds, as the given statement ParseFindsCardSaid says it (shortened by a program). Conditions: those of the statement alone.
-/
import Derived.Test.YthbifneaknlfgaaGreatDoorGPkLFa
import Derived.Test.YthbifneaknlfgaaGreatDoorRows
import Derived.Test.YthbifneaknlfgaaGreatDoorCards
import Derived.Test.YthbifneaknlfgaaGreatDoorTie
import Derived.Test.YthbifneaknlfgaaGreatDoorGPkCA
set_option linter.unusedSimpArgs false
set_option linter.unusedVariables false
section
open Go.Proofs
set_option maxRecDepth 100000
set_option maxHeartbeats 4000000
namespace Go.Cm
theorem findsAll (t:Tr) (ht:t.Ty) (a b c:Int) (hA:InR .i64 a) (hB:InR .i64 b) (hC:InR .i64 c):Fn Tryz.prog 4 [t.cv,.agg [.int .i64 a,.int .i64 b,.int .i64 c]] (.bool true):=by
 cases hv:Jcs t with
 |true=>
  have hV:=lawVast t
  rw[hv]at hV
  refine Ji c4_ok rfl rfl (by simp only[List.length_cons,List.length_nil]; decide) fun N=>?_
  simp -implicitDefEqProofs only[c4,go_sem,Tr.cv,Tr.row]
  refine vr_f hV ?_
  simp -implicitDefEqProofs only[go_sem,Tr.row]
  refine vr_f KT ?_
  simp -implicitDefEqProofs only[go_sem]
 |false=>
  by_cases h:chk t=0
  ·exact findsGood t (ht.fit hv) a b c hA hB hC h hv
  ·exact findsBad t (ht.fit hv) a b c hA hB hC h hv
end Go.Cm
end
section
open Go.Proofs
namespace Go.Proofs.YthbifneaknlfgaaGreatDoor
open Go.Cm Go.ChangeShapes Go.WideShapes Go.RowKit
theorem Jcx (os:Os) (args:Array Value):laidMetH Tryz.prog Rows.parseFindsRow.laid ((World.doorLaid Tryz.prog 400 os).forCall (fun _ _=>0) ⟨#[],args,[]⟩).memory:=
 laidMetH_of_parts3 (fuel:=8) (laidMet_of_run' 8 (by kernel_rfl) (by kernel_rfl)) (by kernel_rfl) (by kernel_rfl)
theorem gl_finds {W:World}(hsh:W.ShapedOpen Tryz.prog) (hL:laidMetH Tryz.prog Rows.parseFindsRow.laid W):GLw W:=
 gl_of (rt:=[]) (rs:=[]) hsh hL (by kernel_rfl) (.tail _ (.tail _ (.head _))) (.tail _ (.tail _ (.tail _ (.head _)))) (.tail _ (.tail _ (.tail _ (.tail _ (.head _)))))
set_option maxRecDepth 100000 in
theorem lifted_finds (os:Os) (started:os.Started) (H:Type) (enc:TypeId×Value→H) :
  ReturnsInHanded {} Tryz.checked os 4 .any (fun w args=>(Rows.parseFindsSpec.pre enc Tryz.prog Tryz.f4 [] false w args∧laidMetH Tryz.prog Rows.parseFindsRow.laid w)∧sizedMet enc Tryz.prog Tryz.f4 (OpenSpec.ofChange Rows.parseFindsSpec) false w args)
   (Rows.parseFindsSpec.post enc Tryz.prog Tryz.f4 false true false false):=by
 refine JdJ (C:=Tryz.checked) (X:=fun w=>laidMetH Tryz.prog Rows.parseFindsRow.laid w) (fun _ _ hh h=>h.of_heap hh) ownK started (by kernel_rfl) Tryz.func4
  (ChangeSpec.witness_shaped (enc:=enc) (C:=Tryz.checked) (os:=os) (X:=fun w _=>laidMetH Tryz.prog Rows.parseFindsRow.laid w) false (World.doorLaid Tryz.prog 400 os) #[.agg #[.slice none 0 0,.slice none 0 0],.agg #[.int .i64 0,.int .i64 0,.int .i64 0]] 8 rfl (World.shaped_of_RefB (by kernel_rfl) (by kernel_rfl)) (by kernel_rfl) (by kernel_rfl) (by kernel_rfl) (Jcx os _)) ?_
 intro W base args ds gs before hval hW hX hsh
 refine law_contract (bt:=4) (d:=6) ty_laid ty_maps ty_full Tryz.underlying4 (by kernel_rfl) rfl (fun ds hds=>?_) (by kernel_rfl) (fun l hl=>?_) W base args ds gs before hval hW (gl_finds hsh hX)
 ·rw[Tryz.params4]at hds
  match ds,hds with
  |[a,b],_=>exact ⟨rfl,rfl,rfl⟩
 ·rw[Tryz.params4]at hl
  obtain ⟨c0,l0,rfl,h0,c1,l1,rfl,h1,rfl⟩:=hl
  obtain ⟨t,rfl,ht⟩:=tree_of (d:=1) h0
  simp only[XQ,Tryz.underlying39]at h1
  obtain ⟨l,rfl,h1⟩:=h1
  obtain ⟨a,b,c,rfl,e1,e2,e3⟩:=fits_struct3 Tryz.underlying39 h1
  obtain ⟨x,rfl,hx⟩:=fits_int Tryz.underlying3 e1
  obtain ⟨y,rfl,hy⟩:=fits_int Tryz.underlying3 e2
  obtain ⟨z,rfl,hz⟩:=fits_int Tryz.underlying3 e3
  exact findsAll t ht x y z hx hy hz
theorem parseFinds_holds:Rows.ParseFindsSaid:=
 OpenClaim.holds_of_wide 4 Tryz.f4 rfl rfl rfl rfl rfl rfl rfl ⟨rfl,rfl,rfl,rfl,rfl⟩ rfl rfl rfl rfl rfl (by kernel_rfl) Tryz.func4 (by kernel_rfl)
  (of_decide_eq_true (by kernel_rfl)) (by unfold Func.isWrapper; first | (rw[if_pos (by decide +kernel)]; kernel_rfl) | (rw[if_neg (by decide +kernel)]; exact ⟨rfl,rfl⟩))
  (fun os started H enc _=>lifted_finds os started H enc)
theorem parseFinds_card_holds:Rows.ParseFindsCardSaid:=
 Claim7.holds_tied_plain_at .later [] [.data,.data,.data,.sentinel,.sentinel] true Rows.parseFindsCard.stood.harness true
  parseFinds_holds (fun _ h=>by cases h) (by kernel_rfl) (fun _ h=>by cases h) parseFinds_row_tie rfl ⟨rfl,rfl⟩ (by kernel_rfl) rfl
  (fun f fn hf hfn=>by
   obtain rfl:f=4:=Option.some.inj ((show Tryz.prog.funcNamed "floodgate/floodgatelaw02.ParseFinds" = some 4 by kernel_rfl).symm.trans hf) |>.symm
   obtain rfl:fn=Tryz.f4:=(Option.some.inj (Tryz.func4.symm.trans hfn)).symm
   exact ⟨by kernel_rfl,fun j t ht=>by
    rw[Tryz.params4]at ht
    have hm:t∈[25,39]:=by simpa using Array.mem_of_getElem? ht
    have hall:([25,39].all fun u=>!Tryz.prog.wantsStandIn u)=true:=by kernel_rfl
    exact (show Tryz.prog.wantsStandIn t=false by simpa using List.all_eq_true.1 hall t hm)⟩)
  (by kernel_rfl)
#print axioms parseFinds_card_holds
end Go.Proofs.YthbifneaknlfgaaGreatDoor
end
