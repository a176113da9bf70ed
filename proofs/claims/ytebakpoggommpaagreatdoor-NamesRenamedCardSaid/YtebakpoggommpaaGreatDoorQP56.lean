/-
  A part of the proof. Conditions: none.
-/
import Derived.Test.YtebakpoggommpaaGreatDoorQP51
set_option linter.unusedSimpArgs false
set_option linter.unusedVariables false
open List renaming length_cons→Gb,length_nil→Ga,map_cons→Gd,map_nil→Gc,mem_of_getElem?→Gi,length→Gj
open Go.Proofs.Tryz renaming prog→Gf
open Bool renaming not_true→Gg,not_false→Gh
noncomputable section
section
set_option maxRecDepth 100000
set_option maxHeartbeats 4000000
open Go.Proofs
namespace Go.Cm
section
def qqT:List UInt8:=[113,113,48,113,113]
theorem qq_name:Jac qqT=true:=by decide +kernel
section
variable {t:Tr}{o:List Int}(g:GoodT t o)
include g
theorem decl_name {i:Nat}(hi:i < t.nodes.length) (hdc:Kh (nd t i).k=true):Jac (nd t i).text=true:=by
 have hn:=g.nds (nd t i) (by unfold nd; rw[List.getD_eq_getElem?_getD,List.getElem?_eq_getElem hi]; exact List.getElem_mem hi)
 rw[ndI_R]at hn
 simp only[Bool.and_eq_true]at hn
 have hk:(nd t i).k=42∨(nd t i).k=43∨(nd t i).k=47∨(nd t i).k=64∨(nd t i).k=65:=by
  unfold Kh at hdc
  simp only[Bool.or_eq_true,beq_iff_eq]at hdc
  omega
 have h:=hn.1.2
 unfold Qx at h
 rw[if_neg (by omega)]at h
 cases hnm:Jac (nd t i).text with
 |true=>rfl
 |false=>
  rw[hnm]at h
  simp only[show decide ((nd t i).k=3∨(nd t i).k=26∨(nd t i).k=42∨(nd t i).k=43∨(nd t i).k=44∨(nd t i).k=64∨(nd t i).k=65∨(nd t i).k=47)=true from decide_eq_true (by omega)]at h
  simp at h
theorem last_def (h0:t.nodes.length≠0):(nd t (t.nodes.length-1)).k=65:=by
 obtain ⟨k,L,h1,h2,h3,h4,h5,h6⟩:=YV g (i:=t.nodes.length-1) (by omega)
 have:=g.itr (Gi h2)
 obtain rfl:L=t.nodes.length-1:=by omega
 exact g.defs _ (Gi h2)
theorem nRenameOk (ht:t.Fit) (hE:(Xa t o).2=0) {d:Nat}(hd:d < t.nodes.length) (hdc:Kh (nd t d).k=true) (nm:List UInt8) (hnl:nm.length≤60) (hnm:Jac nm=true) (g':GoodT (XC t (YO (ofL t o) d) nm) o) (he:(Xa (XC t (YO (ofL t o) d) nm) o).2=0) (hof:ofL (XC t (YO (ofL t o) d) nm) o=ofL t o):Fn Gf 30 [t.cv,.int .i64 (d:Int),S nm] (.tup [(XC t (YO (ofL t o) d) nm).cv,.int .i64 0]):=by
 have hmany:=g.many
 have hkn:knd nm=some 2:=by have:=knd_name nm; rw[hnm]at this; simpa using this
 have htf:=renT_fit (q:=YO (ofL t o) d) ht hnl
 have hN':=JdE g' htf
 rw[resV_eq,rE_ok he,rRw]at hN'
 have h1:=nRenameC g ht hE hd hdc nm hnl hkn _ _ _ _ (ofL (XC t (YO (ofL t o) d) nm) o) (fun _=>by rw[Ql,XU]; omega) (.inr ⟨⟨_,rfl⟩,rfl⟩) hN'
 rw[if_pos ⟨he,hof⟩]at h1
 exact h1
variable (dead:Nat→Bool)
theorem Jf8 (ht:t.Fit):∀ k,k≤t.items.length→(Qr t o dead k).Fit
 |0,_=>⟨by simp[Qr,noT],by simp[Qr,noT],fun x hx=>by simp[Qr,noT]at hx,fun x hx=>by simp[Qr,noT]at hx⟩
 |k+1,hk=>by
  obtain ⟨p,gp⟩:=(lv_inv g dead k (by omega)).good
  obtain ⟨q,gq⟩:=Jgv g (i:=k) (by omega)
  rw[Qr]
  split
  ·exact Jf8 ht k (by omega)
  ·exact joinT_fit (Jf8 ht k (by omega)) (cutT_fit ht g (by omega)) gp gq
end
def xV (z:Nat) (els:List (List CV)):CV:=match els with
 |[]=>.nils
 |e::l=>.rslc z (e::l) none
theorem wk_xV {z:Nat}{els:List (List CV)}:wk (xV z els) (.rslc z els none):=by
 cases els with
 |nil=>exact wk.nils
 |cons e l=>exact wk.refl _
theorem xV_ne {z:Nat}{els:List (List CV)}(h:els≠[]):xV z els=.rslc z els none:=by
 cases els with
 |nil=>exact absurd rfl h
 |cons e l=>rfl
theorem ren_xV {ρ:List Nat}{z:Nat}{els:List (List CV)}:ren ρ (xV z els)=xV z els:=by cases els <;> rfl
theorem Jcm (t:Tr) (p:Int) (hVd:Fn Gf 28 [t.cv] (.bool false)):Fn Gf 6 [t.cv,.int .u8 p] (.bool true):=by
 refine KV c6_ok rfl rfl (by simp only[Gb,Ga]; decide) fun N0=>?_
 simp -implicitDefEqProofs only[c6,go_sem,Tr.cv,Tr.row]
 refine JR hVd ?_
 simp -implicitDefEqProofs only[go_sem,Gh,Tr.row,splice,Gb,Ga]
 refine JR Jgj ?_
 simp -implicitDefEqProofs only[go_sem,splice]
section
variable {t:Tr}{o:List Int}(g:GoodT t o) (ht:t.Fit)
include g ht
theorem renamedGood (hE:(Xa t o).2=0) (hVd:Fn Gf 28 [t.cv] (.bool true)) (p:Int) (hp:InR .u8 p):Fn Gf 6 [t.cv,.int .u8 p] (.bool true):=by
 have hmany:=g.many
 have hits:=g.items
 have e01:((0:Int) != 0)=false:=rfl
 have e00:((0:Int) == 0)=true:=rfl
 have hCp:=refCopy t ht
 have hRs:=Jc5 g ht
 rw[if_pos hE]at hRs
 have hp2:0≤p∧p≤255:=⟨hp.lo,hp.hi⟩
 have hol:(iz (ofL t o)).length=t.nodes.length:=by rw[Jf,Ql]
 have hil:(iz t.items).length=t.items.length:=Jf
 refine KV c6_ok rfl rfl (by simp only[Gb,Ga]; decide) fun N0=>?_
 simp -implicitDefEqProofs only[c6,go_sem,Tr.cv,Tr.row]
 refine JR hVd ?_
 by_cases h0:t.nodes.length=0
 ·have d0:((t.nodes.length:Int) == 0)=true:=by simp[h0]
  simp -implicitDefEqProofs only[go_sem,Gg,Jc,d0,Tr.row,splice,Gb,Ga]
  refine JR Jgj ?_
  simp -implicitDefEqProofs only[go_sem,splice]
 have d0:((t.nodes.length:Int) == 0)=false:=by simpa using h0
 simp -implicitDefEqProofs only[go_sem,Gg,Jc,d0,Tr.row,splice,Gb,Ga]
 refine Je (id:=0) (z:=2) (els:=[t.row]) rfl rfl ?_
 simp only[go_sem,Ja3,Gd,Gc,Ki,frz,KP,JS,Tr.row]
 refine JbI (I:=fun i:Nat=>i≤t.nodes.length∧∀ j,j < i→(nd t j).text≠qqT) (inv:=fun i=>mkT 205 [(1,.int .u8 p),(2,.rptr t.row),(5,.int .i64 (i:Int))]) (hp:=fun _=>[.dead]) (μ:=fun i=>t.nodes.length-i) 0 ⟨by omega,fun j h=>by omega⟩ (fun Q=>?_) ?_
 ·refine Jk (Xv ?_)
  simp[Jay,Q9,Tr.row]
 rintro i ⟨hi,hfr⟩
 by_cases hlt:i < t.nodes.length
 ·have d1:((i:Int) < (t.nodes.length:Int))=True:=Jo
  have hgi:=Kt hlt
  cases hb:((nd t i).text == [113,113,48,113,113]) with
  |true=>
   simp -implicitDefEqProofs only[go_sem,d1,Jc,hgi,Nd.cv,S_beq,hb,Tr.row,splice,Gb,Ga]
   refine ⟨by omega,?_⟩
   refine JR Jgj ?_
   simp -implicitDefEqProofs only[go_sem,splice]
  |false=>
   simp -implicitDefEqProofs only[go_sem,d1,Jc,hgi,Nd.cv,S_beq,hb,Tr.row,splice,Gb,Ga]
   refine ⟨by omega,Jj,i+1,⟨by omega,fun j hj=>?_⟩,by omega,fun Q=>QW [0] rfl ?_ rfl⟩
   ·rcases Nat.lt_or_ge j i with h | h
    ·exact hfr j h
    ·obtain rfl:j=i:=by omega
     intro h; rw[h]at hb; revert hb; decide
   ·simp only[JaW,Gd,Gc,ren,Jl]
    refine Xv ?_
    simp[Jay,Q9,Tr.row,ren,Jl]
 have d1:((i:Int) < (t.nodes.length:Int))=False:=Jn
 obtain rfl:i=t.nodes.length:=by omega
 have htm:∀ x:Int,0≤x→∃ d:Nat,x.tmod (t.nodes.length:Int)=d∧d < t.nodes.length:=fun x hx=>by
  have h1:0≤x.tmod (t.nodes.length:Int):=Int.tmod_nonneg _ hx
  have h2:x.tmod (t.nodes.length:Int) < t.nodes.length:=Int.tmod_lt_of_pos _ (by omega)
  exact ⟨(x.tmod (t.nodes.length:Int)).toNat,by omega,by omega⟩
 obtain ⟨d,hd,hdl⟩:=htm (p*3) (by omega)
 simp -implicitDefEqProofs only[go_sem,d1,Jc,Tr.row,splice,Gb,Ga,hd]
 repeat refine And.intro (by first | omega | exact ⟨by omega,by omega⟩ | exact Jj) ?_
 refine JbI (I:=fun d:Nat=>d < t.nodes.length) (inv:=fun d=>mkT 205 [(2,.rptr t.row),(6,.int .i64 (d:Int))]) (hp:=fun _=>[.dead]) (μ:=fun d=>t.nodes.length-d) d hdl (fun Q=>?_) ?_
 ·refine Jk (Xv ?_)
  simp[Jay,Q9,Tr.row]
 clear hd hdl d
 intro d hdl
 have hgd:=Kt hdl
 have hDc:=YA (nd t d).k
 cases hdc:Kh (nd t d).k with
 |false=>
  rw[hdc]at hDc
  have hd1:d+1 < t.nodes.length:=by
   refine Classical.byContradiction fun h=>?_
   obtain rfl:d=t.nodes.length-1:=by omega
   rw[last_def g h0]at hdc
   exact absurd hdc (by decide)
  have he:((d:Int)+1).tmod (t.nodes.length:Int)=((d+1:Nat):Int):=by
   rw[Int.tmod_eq_of_lt (by omega) (by omega)]; rfl
  simp -implicitDefEqProofs only[go_sem,Jc,hgd,Nd.cv,Tr.row,splice,Gb,Ga]
  refine ⟨by omega,?_⟩
  refine JR hDc ?_
  simp -implicitDefEqProofs only[go_sem,Gh,Jc,he,Tr.row,splice,Gb,Ga]
  refine ⟨Jj,by omega,d+1,by omega,by omega,fun Q=>QW [0] rfl ?_ rfl⟩
  simp only[JaW,Gd,Gc,ren,Jl]
  refine Xv ?_
  simp[Jay,Q9,Tr.row,ren,Jl]
 |true=>
  rw[hdc]at hDc
  simp -implicitDefEqProofs only[go_sem,Jc,hgd,Nd.cv,Tr.row,splice,Gb,Ga]
  refine ⟨by omega,?_⟩
  refine JR hDc ?_
  obtain ⟨gu,hEu,hofu⟩:=ren_res g hE hdl hdc qq_name fun i hi=>hfr i hi
  have hRen:=nRenameOk g ht hE hdl hdc qqT (by decide) qq_name gu hEu hofu
  have hul:=XU (t:=t) (q:=YO (ofL t o) d) (s:=qqT)
  have htu:=renT_fit (q:=YO (ofL t o) d) (s:=qqT) ht (by decide)
  have hbk:XC (XC t (YO (ofL t o) d) qqT) (YO (ofL (XC t (YO (ofL t o) d) qqT) o) d) (nd t d).text=t:=by rw[hofu]; exact ren_back g hE
  have hB:=nRenameOk gu htu hEu (by rw[hul]; exact hdl) (by rw[(JbP hdl).1]; exact hdc) (nd t d).text (fitN ht hdl).text (decl_name g hdl hdc) (by rw[hbk]; exact g) (by rw[hbk]; exact hE) (by rw[hbk]; exact hofu.symm)
  rw[hbk]at hB
  generalize XC t (YO (ofL t o) d) qqT=u at *
  have hCu:=refCopy u htu
  have hKu:=JfV u htu
  rw[(Jb8 u).2 ⟨_,gu⟩]at hKu
  have hRu:=Jc5 gu htu
  rw[if_pos hEu,hofu]at hRu
  have dne:((t.nodes.length:Int) != (t.nodes.length:Int))=false:=by simp
  have hSm:=lawSame (ofL t o) (ofL t o) (by rw[Ql]; omega)
  rw[show (ofL t o == ofL t o)=true by simp]at hSm
  have hAl:=refAlike t ht
  have hDd:=nDead g ht hE
  have hdl2:(XL t (ofL t o)).length≤100000:=by
   have h1:(XL t (ofL t o)).length≤(upto t.items.length).length:=List.length_filter_le _ _
   rw[upto_len]at h1; omega
  have hW:=lawWithin (XL t (ofL t o)) t.items.length hdl2 fun x hx=>XE.1 (List.mem_filter.1 hx).1
  simp -implicitDefEqProofs only[go_sem,Gg,Tr.row,splice,Gb,Ga]
  refine JR hCp ?_
  simp -implicitDefEqProofs only[go_sem,Tr.cv,Tr.row,splice,Gb,Ga]
  refine JR hRen ?_
  simp -implicitDefEqProofs only[go_sem,Tr.cv,Tr.row,splice,Gb,Ga]
  refine Je (id:=1) (z:=2) (els:=[u.row]) rfl rfl ?_
  simp only[go_sem,Ja3,Gd,Gc,Ki,frz,KP,JS,Tr.row]
  try simp -implicitDefEqProofs only[go_sem,e01,Tr.row,splice,Gb,Ga]
  refine JV (gok rfl) hKu ?_
  simp -implicitDefEqProofs only[go_sem,e01,Jc,hul,dne,Tr.row,splice,Gb,Ga]
  refine JR hCp ?_
  simp -implicitDefEqProofs only[go_sem,Tr.cv,Tr.row,splice,Gb,Ga]
  refine JR hRs ?_
  simp -implicitDefEqProofs only[go_sem,Tr.row,splice,Gb,Ga]
  refine Je (id:=2) (z:=1) (els:=[[.rslc 1 (iz (ofL t o)) none]]) rfl rfl ?_
  simp only[go_sem,Ja3,Gd,Gc,Ki,frz,KP,JS,Tr.row]
  try simp -implicitDefEqProofs only[go_sem,Tr.row,splice,Gb,Ga]
  refine JR hCu ?_
  simp -implicitDefEqProofs only[go_sem,Tr.cv,Tr.row,splice,Gb,Ga]
  refine JR hRu ?_
  simp -implicitDefEqProofs only[go_sem,Tr.row,splice,Gb,Ga]
  refine Je (id:=3) (z:=1) (els:=[[.rslc 1 (iz (ofL t o)) none]]) rfl rfl ?_
  simp only[go_sem,Ja3,Gd,Gc,Ki,frz,KP,JS,Tr.row]
  try simp -implicitDefEqProofs only[go_sem,Tr.row,splice,Gb,Ga]
  refine Qt [false,false,false,false,false,false,false,false,false,false,false,false,false,true,true,false] Jz (by decide +kernel) ?_
  simp -implicitDefEqProofs only[go_sem,Tr.row,splice,Gb,Ga]
  refine vh_f hCu ?_
  simp -implicitDefEqProofs only[go_sem,Jc,hgd,Nd.cv,Tr.cv,Tr.row,splice,Gb,Ga]
  refine ⟨by omega,?_⟩
  refine vh_f hB ?_
  simp -implicitDefEqProofs only[go_sem,Tr.cv,Tr.row,splice,Gb,Ga]
  refine Je (id:=4) (z:=2) (els:=[t.row]) rfl rfl ?_
  simp only[go_sem,Ja3,Gd,Gc,Ki,frz,KP,JS,Tr.row]
  try simp -implicitDefEqProofs only[go_sem,e01,Tr.row,splice,Gb,Ga]
  refine JV (gok rfl) hSm ?_
  simp -implicitDefEqProofs only[go_sem,Gg,Tr.row,splice,Gb,Ga]
  refine JV (gok rfl) hAl ?_
  simp -implicitDefEqProofs only[go_sem,Gg,Tr.row,splice,Gb,Ga]
  refine JR hCp ?_
  simp -implicitDefEqProofs only[go_sem,Tr.cv,Tr.row,splice,Gb,Ga]
  refine JR hDd ?_
  simp -implicitDefEqProofs only[go_sem,e01,Tr.row,hil,splice,Gb,Ga]
  refine JV (gok rfl) hW ?_
  simp -implicitDefEqProofs only[go_sem,Gg,Tr.row,splice,Gb,Ga]
  obtain ⟨q,gq,hEq,hdq⟩:=lv_res g hE
  have hlv:=fun k hk=>(lv_inv g (fun i:Nat=>(XL t (ofL t o)).contains (i:Int)) k hk).good
  have hlf:=fun k hk=>Jf8 g (fun i:Nat=>(XL t (ofL t o)).contains (i:Int)) ht k hk
  have hls:∀ k,Qr t o (fun i:Nat=>(XL t (ofL t o)).contains (i:Int)) (k+1)=if (XL t (ofL t o)).contains (k:Int)=true then Qr t o (fun i:Nat=>(XL t (ofL t o)).contains (i:Int)) k else Qa (Qr t o (fun i:Nat=>(XL t (ofL t o)).contains (i:Int)) k) (JcD o t k):=fun k=>rfl
  have hl0:Qr t o (fun i:Nat=>(XL t (ofL t o)).contains (i:Int)) 0=noT:=rfl
  generalize Qr t o (fun i:Nat=>(XL t (ofL t o)).contains (i:Int))=lv at *
  have hHas:=fun x=>refHas3 (XL t (ofL t o)) x hdl2
  generalize XL t (ofL t o)=dl at *
  have hdil:(iz dl).length=dl.length:=Jf
  refine JbI (I:=fun i:Nat=>i≤t.items.length) (inv:=fun i=>mkT 205 [(2,.rptr t.row),(17,.rslc 1 (iz dl) none),(19,.ptr 5 0 0),(20,.int .i64 (i:Int))]) (hp:=fun i=>[.dead,.dead,.dead,.dead,.dead,.arr 2 [[xV 5 (ndz (lv i).nodes),xV 1 (iz (lv i).items)]]]) (μ:=fun i=>t.items.length-i) 0 (by omega) (fun Q=>?_) ?_
  ·refine QW [0,1,2,3,4,5] rfl ?_ ?_
   ·simp only[JaW,Gd,Gc,ren,Jl]
    refine Xv ?_
    simp[Jay,Q9,Tr.row,ren,Jl]
   ·rw[hl0]; rfl
  intro i hi
  have hwk:wk (.agg [xV 5 (ndz (lv i).nodes),xV 1 (iz (lv i).items)]) (lv i).cv:=JbH ⟨wk_xV,wk_xV,trivial⟩
  by_cases hlt:i < t.items.length
  ·have d2:((i:Int) < (t.items.length:Int))=True:=Jo
   have hHi:=hHas (i:Int)
   have hli:=hls i
   cases hdk:dl.contains (i:Int) with
   |true=>
    rw[hdk]at hHi
    rw[hdk,if_pos rfl]at hli
    simp -implicitDefEqProofs only[go_sem,d2,hil,Tr.row,splice,Gb,Ga]
    refine JR hHi ?_
    simp -implicitDefEqProofs only[go_sem,Gg,Tr.row,splice,Gb,Ga]
    refine ⟨Jj,i+1,by omega,by omega,fun Q=>QW [0,1,2,3,4,5] rfl ?_ ?_⟩
    ·simp only[JaW,Gd,Gc,ren,Jl]
     refine Xv ?_
     simp[Jay,Q9,Tr.row,ren,Jl]
    ·rw[hli]
     simp only[Ke,Gd,Gc,go_sem,Ji,Jh,JA,ren_xV]
   |false=>
    rw[hdk]at hHi
    rw[hdk,if_neg (by simp)]at hli
    obtain ⟨pi,gi⟩:=hlv i hi
    obtain ⟨pc,gc⟩:=Jgv g hlt
    have hCt:=refCut t ht g i hlt
    have hfc:=cutT_fit ht g hlt
    have hGl:Fn Gf 32 [.agg [xV 5 (ndz (lv i).nodes),xV 1 (iz (lv i).items)],(JcD o t i).cv] (Qa (lv i) (JcD o t i)).cv:=(refGlue (lv i) (JcD o t i) (hlf i hi) hfc gi gc).args ⟨hwk,wk.refl _,trivial⟩
    have hcl:0 < (JcD o t i).nodes.length:=by
     have hm:∃ x,x∈(JcD o t i).items:=⟨_,by unfold JcD; exact List.mem_cons_self ..⟩
     obtain ⟨x,hx⟩:=hm
     have:=gc.itr hx
     omega
    have hci:0 < (JcD o t i).items.length:=by unfold JcD; simp
    rw[← hli]at hGl
    have hn1:ndz (lv (i+1)).nodes≠[]:=by
     intro h
     have:=congrArg Gj h
     rw[Jc,hli,X7,Ga]at this
     omega
    have hn2:iz (lv (i+1)).items≠[]:=by
     intro h
     have:=congrArg Gj h
     rw[Jf,hli,Ga]at this
     simp only[Qa,List.length_append,List.length_map]at this
     omega
    generalize JcD o t i=C at *
    simp -implicitDefEqProofs only[go_sem,d2,hil,Tr.row,splice,Gb,Ga]
    refine JR hHi ?_
    simp -implicitDefEqProofs only[go_sem,Gh,Tr.row,splice,Gb,Ga]
    refine vr_dregX [1,0,0,0,0,2] Jz (by decide +kernel) ?_
    simp -implicitDefEqProofs only[go_sem,Tr.row,splice,Gb,Ga]
    repeat refine And.intro (by first | omega | exact ⟨by omega,by omega⟩ | exact Jj) ?_
    refine vx_f hCt ?_
    simp -implicitDefEqProofs only[go_sem,Tr.cv,Tr.row,splice,Gb,Ga]
    refine vx_f hGl ?_
    simp -implicitDefEqProofs only[go_sem,Tr.cv,Tr.row,splice,Gb,Ga]
    repeat refine And.intro (by first | omega | exact ⟨by omega,by omega⟩ | exact Jj) ?_
    refine ⟨i+1,by omega,by omega,fun Q=>QW [0,1,2,3,4,5] rfl ?_ ?_⟩
    ·simp only[JaW,Gd,Gc,ren,Jl]
     refine Xv ?_
     simp[Jay,Q9,Tr.row,ren,Jl]
    ·rw[xV_ne hn1,xV_ne hn2]
     simp only[Ke,Gd,Gc,go_sem,Ji,Jh,JA,ren]
  have d2:((i:Int) < (t.items.length:Int))=False:=Jn
  obtain rfl:i=t.items.length:=by omega
  have hfl:=hlf _ (Nat.le_refl t.items.length)
  have hRl:=Jc5 gq hfl
  rw[if_pos hEq]at hRl
  have hRl2:Fn Gf 9 [.agg [xV 5 (ndz (lv t.items.length).nodes),xV 1 (iz (lv t.items.length).items)]] _:=hRl.args ⟨hwk,trivial⟩
  have hCl:Fn Gf 13 [.agg [xV 5 (ndz (lv t.items.length).nodes),xV 1 (iz (lv t.items.length).items)]] _:=(refCopy (lv t.items.length) hfl).args ⟨hwk,trivial⟩
  have hDl:=nDead gq hfl hEq
  rw[hdq]at hDl
  simp -implicitDefEqProofs only[go_sem,d2,hil,Tr.row,splice,Gb,Ga]
  refine JR hRl2 ?_
  simp -implicitDefEqProofs only[go_sem,Tr.row,splice,Gb,Ga]
  refine JR hCl ?_
  simp -implicitDefEqProofs only[go_sem,Tr.cv,Tr.row,splice,Gb,Ga]
  refine JR hDl ?_
  simp -implicitDefEqProofs only[go_sem,e00,iz,Gc,show (((0:Nat):Int) == 0)=true from rfl,splice,Gb,Ga]
  refine JV (gok rfl) Jgj ?_
  simp -implicitDefEqProofs only[go_sem,splice]
end
theorem renamedAll (t:Tr) (ty:t.Ty) (p:Int) (hp:InR .u8 p):Fn Gf 6 [t.cv,.int .u8 p] (.bool true):=by
 cases hv:Y5 t with
 |true=>exact Jcm t p (lawValidV t hv)
 |false=>
  have ht:=ty.fit3 hv
  by_cases h:chk t=0
  ·obtain ⟨o,g⟩:=(Jb8 t).1 h
   have hV:=lawValidG g ht hv
   by_cases hE:(Xa t o).2=0
   ·rw[show ((Xa t o).2 == 0)=true by simp[hE]]at hV
    exact renamedGood g ht hE hV p hp
   ·rw[show ((Xa t o).2 == 0)=false by simpa using hE]at hV
    exact Jcm t p hV
  ·exact Jcm t p (lawValidE t ht hv h)
end
end Go.Cm
end
end
