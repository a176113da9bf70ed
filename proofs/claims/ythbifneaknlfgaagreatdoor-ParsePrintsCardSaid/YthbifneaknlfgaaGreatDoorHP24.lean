/-
  The law ParsePrints of package floodgatelaw02 holds, as the given statement ParsePrintsCardSaid says it (shortened by a program). Conditions: those of the statement alone.
-/
import Derived.Test.YthbifneaknlfgaaGreatDoorHPkKE
import Derived.Test.YthbifneaknlfgaaGreatDoorHP12
import Derived.Test.YthbifneaknlfgaaGreatDoorHP21
import Derived.Test.YthbifneaknlfgaaGreatDoorHP27
import Derived.Test.YthbifneaknlfgaaGreatDoorRows
import Derived.Test.YthbifneaknlfgaaGreatDoorCards
import Derived.Test.YthbifneaknlfgaaGreatDoorTie
import Derived.Test.YthbifneaknlfgaaGreatDoorHPkCA
set_option linter.unusedSimpArgs false
set_option linter.unusedVariables false
open List renaming length_cons→Gc,length_nil→Gd
open Bool renaming not_false→Ga,not_true→Gb,not_eq_true→Gf
noncomputable section
section
set_option maxRecDepth 100000
set_option maxHeartbeats 4000000
open Go.Proofs
namespace Go.Cm
section
theorem GoodT.items_len {t:Tr}{o:List Int}(g:GoodT t o) (ht:t.Fit):(JL [10] (t.items.map (Ja t.nodes))).length≤40*300001:=by
 have hitem:∀ k∈t.items,0≤k∧k < t.nodes.length:=fun k hk=>by
  have:=Xi g.ord.ok g.olen _ _ _ g.its k hk
  exact ⟨this.2.1,this.2.2.2⟩
 have hits:=ht.items
 have hbig:∀ l:List Int,(∀ k∈l,k∈t.items)→(JL [10] (l.map (Ja t.nodes))).length≤l.length*300001:=by
  intro l
  induction l with
  |nil=>intro _; simp[JL]
  |cons k l ih=>
   intro hl
   have h1:=hitem k (hl k (by simp))
   have h2:=g.txt_le ht h1.1 h1.2
   have h3:=ih fun j hj=>hl j (by simp[hj])
   simp only[JL,List.map_cons,List.flatten_cons,List.length_append,Gc,Gd,Nat.add_mul]at h3 ⊢
   omega
 have hb:=hbig t.items fun k hk=>hk
 exact Nat.le_trans hb (Nat.mul_le_mul_right _ hits)
section
variable (t:Tr) (ht:t.Fit) (n:Int) (hn:InR .i64 n)
include ht hn
theorem printsBad (h:chk t≠0) (hv:Jct t=false):Fn Tryz.prog 3 [t.cv,.int .i64 n] (.bool true):=by
 have hV:=lawVast t
 rw[hv]at hV
 have h1:=JaC t ht
 have h2:=JbR t ht n hn
 rw[if_pos h]at h1 h2
 have hC:=KX t ht
 have mC:=refCopy t ht
 have mA:=refAlike t ht
 have mK:=fknown
 have hR:=refCheck t ht
 have e:(chk t != 0)=true:=by simpa using h
 have e2:(chk t != chk t)=false:=by simp
 have en:(([]:List UInt8) == [])=true:=rfl
 generalize chk t=x at h1 h2 hC hR e e2
 refine Jg c3_ok rfl rfl (by simp only[Gc,Gd]; decide) fun N=>?_
 repeat first | refine vr_f (by assumption) ?_ | refine JR (gok rfl) (by assumption) ?_ | simp -implicitDefEqProofs only[c3,go_sem,Tr.cv,Tr.row,Gb,Ga,e,e2,en,beq_self_eq_true]
theorem printsGood (h:chk t=0) (hv:Jct t=false):Fn Tryz.prog 3 [t.cv,.int .i64 n] (.bool true):=by
 have hV:=lawVast t
 rw[hv]at hV
 obtain ⟨o,g⟩:=(Jbr t).1 h
 have h1:=JaC t ht
 have h2:=JbR t ht n hn
 have hP:=refPrint t ht g
 rw[if_neg (by simp[h])]at h1 h2
 have hC:=KX t ht
 have mC:=refCopy t ht
 have mA:=refAlike t ht
 have mK:=fknown
 have hR:=refCheck t ht
 rw[h]at hC hR
 have e2:((0:Int) != 0)=false:=rfl
 have en:(([]:List UInt8) == [])=true:=rfl
 have enn:(([]:List UInt8) != [])=false:=rfl
 have e55:((5:Int) != 5)=false:=rfl
 have hT:∀ k:Int,0≤k→k < t.nodes.length→J3 t k:=fun k h0 h1=>g.textOk' ht h0 h1
 have hlt:(JL [10] (t.items.map (Ja t.nodes))).length < 9000000000000000000:=by
  have:=g.items_len ht
  omega
 unfold limV at h1
 generalize JL [10] (t.items.map (Ja t.nodes))=D at *
 have hDD:(D != D)=false:=by simp
 unfold J3 at hT
 refine Jg c3_ok rfl rfl (by simp only[Gc,Gd]; decide) fun N=>?_
 rcases Nat.lt_or_ge 2500 D.length with hD | hD
 ·rw[if_pos hD]at h1
  have f1:((D.length:Int) > 2500)=True:=eq_true (by omega)
  have f2:((D.length:Int)≤2500)=False:=eq_false (by omega)
  rcases (show n < 0∨(t.nodes.length:Int)≤n∨(0≤n∧n < t.nodes.length) by omega) with cn | cn | cn
  ·have iN:inT t n=false:=by rw[← Gf,Xu]; omega
   rw[iN,if_neg (by simp)]at h2
   have d1:(n < 0)=True:=eq_true cn
   repeat first | refine vr_f (by assumption) ?_ | refine JR (gok rfl) (by assumption) ?_ | simp -implicitDefEqProofs only[c3,go_sem,Tr.cv,Tr.row,Gb,Ga,e2,en,enn,e55,hDD,f1,f2,d1,Je,beq_self_eq_true]
  ·have iN:inT t n=false:=by rw[← Gf,Xu]; omega
   rw[iN,if_neg (by simp)]at h2
   have d1:(n < 0)=False:=eq_false (by omega)
   have d2:(n≥(t.nodes.length:Int))=True:=eq_true cn
   repeat first | refine vr_f (by assumption) ?_ | refine JR (gok rfl) (by assumption) ?_ | simp -implicitDefEqProofs only[c3,go_sem,Tr.cv,Tr.row,Gb,Ga,e2,en,enn,e55,hDD,f1,f2,d1,d2,Je,beq_self_eq_true]
  ·have iN:inT t n=true:=Xu.2 (by omega)
   rw[iN,if_pos rfl]at h2
   have d1:(n < 0)=False:=eq_false (by omega)
   have d2:(n≥(t.nodes.length:Int))=False:=eq_false (by omega)
   have hTn:=hT n cn.1 cn.2
   have hl:=g.txt_le ht cn.1 cn.2
   unfold limV at h2
   generalize Ja t.nodes n=U at *
   have hUU:(U == U)=true:=by simp
   rcases Nat.lt_or_ge 2500 U.length with hU | hU
   ·rw[if_pos hU]at h2
    have f3:((U.length:Int) > 2500)=True:=eq_true (by omega)
    repeat first | refine vr_f (by assumption) ?_ | refine JR (gok rfl) (by assumption) ?_ | simp -implicitDefEqProofs only[c3,go_sem,Tr.cv,Tr.row,Gb,Ga,e2,en,enn,e55,hDD,f1,f2,d1,d2,Je,hUU,f3,beq_self_eq_true]
   ·rw[if_neg (by omega)]at h2
    have f3:((U.length:Int) > 2500)=False:=eq_false (by omega)
    repeat first | refine vr_f (by assumption) ?_ | refine JR (gok rfl) (by assumption) ?_ | simp -implicitDefEqProofs only[c3,go_sem,Tr.cv,Tr.row,Gb,Ga,e2,en,enn,e55,hDD,f1,f2,d1,d2,Je,hUU,f3,beq_self_eq_true]
 ·rw[if_neg (by omega)]at h1
  have f1:((D.length:Int) > 2500)=False:=eq_false (by omega)
  have f2:((D.length:Int)≤2500)=True:=eq_true (by omega)
  rcases (show n < 0∨(t.nodes.length:Int)≤n∨(0≤n∧n < t.nodes.length) by omega) with cn | cn | cn
  ·have iN:inT t n=false:=by rw[← Gf,Xu]; omega
   rw[iN,if_neg (by simp)]at h2
   have d1:(n < 0)=True:=eq_true cn
   repeat first | refine vr_f (by assumption) ?_ | refine JR (gok rfl) (by assumption) ?_ | simp -implicitDefEqProofs only[c3,go_sem,Tr.cv,Tr.row,Gb,Ga,e2,en,enn,e55,hDD,f1,f2,d1,Je,beq_self_eq_true]
  ·have iN:inT t n=false:=by rw[← Gf,Xu]; omega
   rw[iN,if_neg (by simp)]at h2
   have d1:(n < 0)=False:=eq_false (by omega)
   have d2:(n≥(t.nodes.length:Int))=True:=eq_true cn
   repeat first | refine vr_f (by assumption) ?_ | refine JR (gok rfl) (by assumption) ?_ | simp -implicitDefEqProofs only[c3,go_sem,Tr.cv,Tr.row,Gb,Ga,e2,en,enn,e55,hDD,f1,f2,d1,d2,Je,beq_self_eq_true]
  ·have iN:inT t n=true:=Xu.2 (by omega)
   rw[iN,if_pos rfl]at h2
   have d1:(n < 0)=False:=eq_false (by omega)
   have d2:(n≥(t.nodes.length:Int))=False:=eq_false (by omega)
   have hTn:=hT n cn.1 cn.2
   have hl:=g.txt_le ht cn.1 cn.2
   unfold limV at h2
   generalize Ja t.nodes n=U at *
   have hUU:(U == U)=true:=by simp
   rcases Nat.lt_or_ge 2500 U.length with hU | hU
   ·rw[if_pos hU]at h2
    have f3:((U.length:Int) > 2500)=True:=eq_true (by omega)
    repeat first | refine vr_f (by assumption) ?_ | refine JR (gok rfl) (by assumption) ?_ | simp -implicitDefEqProofs only[c3,go_sem,Tr.cv,Tr.row,Gb,Ga,e2,en,enn,e55,hDD,f1,f2,d1,d2,Je,hUU,f3,beq_self_eq_true]
   ·rw[if_neg (by omega)]at h2
    have f3:((U.length:Int) > 2500)=False:=eq_false (by omega)
    repeat first | refine vr_f (by assumption) ?_ | refine JR (gok rfl) (by assumption) ?_ | simp -implicitDefEqProofs only[c3,go_sem,Tr.cv,Tr.row,Gb,Ga,e2,en,enn,e55,hDD,f1,f2,d1,d2,Je,hUU,f3,beq_self_eq_true]
end
theorem printsAll (t:Tr) (ht:t.Ty) (n:Int) (hn:InR .i64 n):Fn Tryz.prog 3 [t.cv,.int .i64 n] (.bool true):=
 match hv:Jct t with
 |true=>by
  have hV:=lawVast t
  rw[hv]at hV
  refine Jg c3_ok rfl rfl (by simp only[Gc,Gd]; decide) fun N=>?_
  simp -implicitDefEqProofs only[c3,go_sem,Tr.cv,Tr.row]
  refine vr_f hV ?_
  simp -implicitDefEqProofs only[go_sem,Tr.row]
  refine vr_f fknown ?_
  simp -implicitDefEqProofs only[go_sem]
 |false=>
  if h:chk t=0 then printsGood t (ht.fit hv) n hn h hv else printsBad t (ht.fit hv) n hn h hv
end
end Go.Cm
end
section
open Go.Proofs
open Go.Cm Go.ChangeShapes Go.WideShapes Go.RowKit
namespace Go.Proofs.YthbifneaknlfgaaGreatDoor
theorem Jch (os:Os) (args:Array Value):laidMetH Tryz.prog Rows.parsePrintsRow.laid ((World.doorLaid Tryz.prog 400 os).forCall (fun _ _=>0) ⟨#[],args,[]⟩).memory:=
 laidMetH_of_parts3 (fuel:=8) (laidMet_of_run' 8 (by kernel_rfl) (by kernel_rfl)) (by kernel_rfl) (by kernel_rfl)
theorem gl_prints {W:World}(hsh:W.ShapedOpen Tryz.prog) (hL:laidMetH Tryz.prog Rows.parsePrintsRow.laid W):GLw W:=
 gl_of (rt:=[]) (rs:=[]) hsh hL (by kernel_rfl) (.tail _ (.tail _ (.head _))) (.tail _ (.tail _ (.tail _ (.head _)))) (.tail _ (.tail _ (.tail _ (.tail _ (.head _)))))
set_option maxRecDepth 100000 in
theorem JdG (os:Os) (started:os.Started) (H:Type) (enc:TypeId×Value→H) :
  ReturnsInHanded {} Tryz.checked os 3 .any (fun w args=>(Rows.parsePrintsSpec.pre enc Tryz.prog Tryz.f3 [] false w args∧laidMetH Tryz.prog Rows.parsePrintsRow.laid w)∧sizedMet enc Tryz.prog Tryz.f3 (OpenSpec.ofChange Rows.parsePrintsSpec) false w args)
   (Rows.parsePrintsSpec.post enc Tryz.prog Tryz.f3 false true false false):=by
 refine JdJ (C:=Tryz.checked) (X:=fun w=>laidMetH Tryz.prog Rows.parsePrintsRow.laid w) (fun _ _ hh h=>h.of_heap hh) ownK started (by kernel_rfl) Tryz.func3
  (ChangeSpec.witness_shaped (enc:=enc) (C:=Tryz.checked) (os:=os) (X:=fun w _=>laidMetH Tryz.prog Rows.parsePrintsRow.laid w) false (World.doorLaid Tryz.prog 400 os) #[.agg #[.slice none 0 0,.slice none 0 0],.int .i64 0] 8 rfl (World.shaped_of_RefB (by kernel_rfl) (by kernel_rfl)) (by kernel_rfl) (by kernel_rfl) (by kernel_rfl) (Jch os _)) ?_
 intro W base args ds gs before hval hW hX hsh
 refine law_contract (bt:=4) (d:=6) ty_laid ty_maps ty_full Tryz.underlying4 (by kernel_rfl) rfl (fun ds hds=>?_) (by kernel_rfl) (fun l hl=>?_) W base args ds gs before hval hW (gl_prints hsh hX)
 ·rw[Tryz.params3]at hds
  match ds,hds with
  |[a,b],_=>exact ⟨rfl,rfl,rfl⟩
 ·rw[Tryz.params3]at hl
  obtain ⟨c0,l0,rfl,h0,c1,l1,rfl,h1,rfl⟩:=hl
  obtain ⟨t,rfl,ht⟩:=tree_of (d:=1) h0
  obtain ⟨x,rfl,hx⟩:=top_int Tryz.underlying3 h1
  exact printsAll t ht x hx
theorem parsePrints_holds:Rows.ParsePrintsSaid:=
 OpenClaim.holds_of_wide 3 Tryz.f3 rfl rfl rfl rfl rfl rfl rfl ⟨rfl,rfl,rfl,rfl,rfl⟩ rfl rfl rfl rfl rfl (by kernel_rfl) Tryz.func3 (by kernel_rfl)
  (of_decide_eq_true (by kernel_rfl)) (by unfold Func.isWrapper; first | (rw[if_pos (by decide +kernel)]; kernel_rfl) | (rw[if_neg (by decide +kernel)]; exact ⟨rfl,rfl⟩))
  (fun os started H enc _=>JdG os started H enc)
theorem parsePrints_card_holds:Rows.ParsePrintsCardSaid:=
 Claim7.holds_tied_plain_at .later [] [.data,.data,.data,.sentinel,.sentinel] true Rows.parsePrintsCard.stood.harness true
  parsePrints_holds (fun _ h=>by cases h) (by kernel_rfl) (fun _ h=>by cases h) parsePrints_row_tie rfl ⟨rfl,rfl⟩ (by kernel_rfl) rfl
  (fun f fn hf hfn=>by
   obtain rfl:f=3:=Option.some.inj ((show Tryz.prog.funcNamed "floodgate/floodgatelaw02.ParsePrints" = some 3 by kernel_rfl).symm.trans hf) |>.symm
   obtain rfl:fn=Tryz.f3:=(Option.some.inj (Tryz.func3.symm.trans hfn)).symm
   exact ⟨by kernel_rfl,fun j t ht=>by
    rw[Tryz.params3]at ht
    have hm:t∈[25,3]:=by simpa using Array.mem_of_getElem? ht
    have hall:([25,3].all fun u=>!Tryz.prog.wantsStandIn u)=true:=by kernel_rfl
    exact (show Tryz.prog.wantsStandIn t=false by simpa using List.all_eq_true.1 hall t hm)⟩)
  (by kernel_rfl)
#print axioms parsePrints_card_holds
end Go.Proofs.YthbifneaknlfgaaGreatDoor
end
end
