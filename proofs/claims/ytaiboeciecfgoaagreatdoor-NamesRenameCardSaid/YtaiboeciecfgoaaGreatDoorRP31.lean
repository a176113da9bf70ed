/-
  A part of the proof. Conditions: none.
-/
import Derived.Test.YtaiboeciecfgoaaGreatDoorRP30
set_option linter.unusedSimpArgs false
set_option linter.unusedVariables false
open List renaming length_cons→Gc,map_cons→Ga,length_nil→Gd,map_nil→Gb,take_length→Gf,length_take→Gg,getElem_mem→Gh,cons_append→Gi,nil_append→Gj
noncomputable section
section
set_option maxRecDepth 100000
set_option maxHeartbeats 4000000
open Go.Proofs
namespace Go.Cm
theorem mvN0 (x:Nd):mvN 0 x=x:=by
 obtain ⟨k,te,n,ks,p⟩:=x
 simp[mvN]
theorem copyO (t:Tr) (ht:t.Fit) (E:Env) (H:List CObj):CallsC Tryz.prog E 12 [t.cv] H fun v H'=>v=.agg [QC H.length (ndz t.nodes),.slc (H.length+1) 0 (iz t.items).length (Jcb (iz t.items))]∧H'=H++[Xu 5 (ndz t.nodes),.arr 1 (iz t.items)]:=by
 have hmany:=ht.many
 have hitems:=ht.items
 have hil:(iz t.items).length=t.items.length:=Jf
 have hrc:=Jd t.items
 refine CallsC.frameG (mk:=fun n=>.agg [QC n (ndz t.nodes),.slc (n+1) 0 (iz t.items).length (Jcb (iz t.items))]) (G:=[Xu 5 (ndz t.nodes),.arr 1 (iz t.items)]) ?_ rfl ?_ ?_
 rotate_left
 ·intro o ho
  rcases List.mem_cons.1 ho with rfl | ho
  ·exact rowO_flat (JZ _)
  ·rw[List.mem_singleton]at ho
   exact .inr ⟨_,_,ho,hrc⟩
 ·rintro n own own' imm r ho ⟨vs,rfl,r1,rs1,e1,h1,r2,rs2,e2,⟨x,a,c,hx,gg⟩,h3⟩
  exact ⟨vs,rfl,r1,rs1,e1,Je9 0 n ho h1,r2,rs2,e2,⟨x,a,c,ho _ _ hx,gg⟩,h3⟩
 refine CallsC.ren (R:=fun v H'=>∃ ρ,JeG ρ 0 H'.length=true∧ren ρ v=.agg [QC 0 (ndz t.nodes),.slc 1 0 (iz t.items).length (Jcb (iz t.items))]∧Kw ρ H'=[Xu 5 (ndz t.nodes),.arr 1 (iz t.items)]) ?_ fun v H' h=>h
 refine KI c12_ok fun N=>?_
 obtain ⟨R,hR⟩:∃ R,R=iz t.items:=⟨_,rfl⟩
 simp only[Tr.cv,Tr.row]
 rw[← hR]at hrc hil ⊢
 cases R with
 |nil=>
  simp -implicitDefEqProofs only[c12,go_sem]
  refine Jg (id:=0) (z:=2) (els:=[[.rslc 5 (ndz t.nodes) none,.rslc 1 [] none]]) rfl rfl ?_
  simp only[go_sem,J2,Ko,frz,KG]
  refine XU ?_
  simp only[go_sem,Gi,Gj]
  refine JG (I:=fun i:Nat=>i≤t.nodes.length) (inv:=fun i=>gp [(1,.rptr [.rslc 5 (ndz t.nodes) none,.rslc 1 [] none]),(0,.ptr 1 0 0),(0,.ptr 2 0 0),(0,.int .i64 (i:Int))] 24) (hp:=fun i=>[.dead,.arr 2 [[.nils,.nils]],.arr 2 [[QC 4 (ndz (t.nodes.take i)),.slc 3 0 0 (some 0)]],.arr 1 [],Xu 5 (ndz (t.nodes.take i))]) (μ:=fun i=>t.nodes.length-i) 0 [0,1,3,2,4] (by omega) rfl ?_ ?_ ?_
  ·simp[forget,JF,ren,Jo,gp]
  ·rfl
  ·intro i hi
   by_cases hlt:i < t.nodes.length
   ·have d1:((i:Int) < (t.nodes.length:Int))=True:=Jn
    have hg:=Kz hlt
    have hx:=ht.nodes _ (Gh hlt)
    rw[← rowg hlt]at hx
    have hts:ndz (t.nodes.take (i+1))=ndz (t.nodes.take i)++[(t.nodes.getD i default).cv]:=by
     rw[Xi (d:=default) hlt]; simp[ndz]
    have hcl:=JZ (t.nodes.take (i+1))
    have hpl:(ndz (t.nodes.take i)).length=i:=by rw[Jc,Gg]; omega
    generalize t.nodes.getD i default=x at hg hx hts
    generalize ndz (t.nodes.take i)=Z at hts hpl ⊢
    have hM:=Jc8 x (by have:=hx.kidn; omega) 0 (fun k hk=>by rw[Int.add_zero]; exact hx.kids k hk)
    rw[mvN0]at hM
    simp -implicitDefEqProofs only[go_sem,Jc,d1]
    refine XA [false,true,false,false,false,false,false,false,false,true,false,true] JA (by decide +kernel) ?_
    simp -implicitDefEqProofs only[go_sem,Jc,hg]
    refine ⟨by omega,by simp[Nd.cv],?_⟩
    refine vh_f hM ?_
    simp -implicitDefEqProofs only[go_sem]
    refine vh_row [x.cv] rfl rfl rfl rfl ?_
    simp -implicitDefEqProofs only[go_sem,JJ,splice,Gc,Gd]
    refine ⟨by omega,Ji,i+1,[0,1,2,3,5],by omega,by omega,rfl,?_,?_⟩
    ·rw[hts]at hcl
     have hc:=Jb (ρ:=[0,1,2,3,5]) hcl
     have hc2:=Jb (ρ:=[0,1,2,3,5]) hrc
     rw[hts,Kl,Km]
     simp only[Kw,Ga,Gb,go_sem,Jp,hc]
     rfl
    ·simp[forget,JF,ren,Jo]
   ·have hie:i=t.nodes.length:=by omega
    subst hie
    have d1:((t.nodes.length:Int) < (t.nodes.length:Int))=False:=Jj
    rw[Gf]
    have hc2:=Jb (ρ:=[4,3]) hrc
    cases hN:ndz t.nodes with
    |nil=>
     have hnl:(([]:List (List CV)).length:Int)=t.nodes.length:=by rw[← hN,Jc]
     simp only[Gd]at hnl
     simp -implicitDefEqProofs only[go_sem,Qn,QX,Gd,hnl,d1,splice]
     refine ⟨[4,3],rfl,by simp[ren,JF,Jo,Jcb],?_⟩
     simp only[Kw,Ga,Gb,go_sem,Jp,Jr,hc2]
    |cons f fs=>
     have hnl:((fs.length+1:Nat):Int)=t.nodes.length:=by rw[← Gc,← hN,Jc]
     have hc:=Jb (ρ:=[4,3]) (hN▸JZ t.nodes)
     have hne:f::fs≠[]:=by simp
     generalize hFF:f::fs=FF at *
     simp only[Qz hne,Qd hne]
     have hfl:FF.length=fs.length+1:=by rw[← hFF]; rfl
     simp -implicitDefEqProofs only[go_sem,hfl,hnl,d1,splice]
     refine ⟨[4,3],rfl,?_,?_⟩
     ·simp[ren,JF,Jo,Jcb,hfl]
     ·simp only[Kw,Ga,Gb,go_sem,Jp,hc,hc2]
 |cons e es=>
  have hel:es.length+1≤40:=by have:=hil; simp only[Gc]at this; omega
  simp -implicitDefEqProofs only[c12,go_sem,JJ,Gc]
  refine ⟨by omega,?_⟩
  have hl:es.length+1=(e::es).length:=rfl
  have hcap:Jcb (e::es)=none:=rfl
  rw[hl,hcap]
  clear hel hl hcap
  generalize e::es=R' at *
  have hz:=KD (id:=0) (z:=2) (e:=[[.rslc 5 (ndz t.nodes) none,.rslc 1 R' none]]) hrc
  refine Jg (id:=0) (z:=2) (els:=[[.rslc 5 (ndz t.nodes) none,.rslc 1 R' none]]) rfl rfl ?_
  simp only[go_sem,J2,Ko,frz,KG,hz]
  refine XU ?_
  simp only[go_sem,Gi,Gj]
  refine JG (I:=fun i:Nat=>i≤t.nodes.length) (inv:=fun i=>gp [(1,.rptr [.rslc 5 (ndz t.nodes) none,.rslc 1 R' none]),(0,.ptr 1 0 0),(0,.ptr 2 0 0),(0,.int .i64 (i:Int))] 24) (hp:=fun i=>[.dead,.arr 2 [[.nils,.nils]],.arr 2 [[QC 4 (ndz (t.nodes.take i)),.slc 3 0 R'.length none]],.arr 1 R',Xu 5 (ndz (t.nodes.take i))]) (μ:=fun i=>t.nodes.length-i) 0 [0,1,4,3,5] (by omega) rfl ?_ ?_ ?_
  ·simp[forget,JF,ren,Jo,gp]
  ·have hc2:=Jb (ρ:=[0,1,4,3,5]) hrc
   simp only[Kw,Ga,Gb,go_sem,Jp]
   rw[hc2]
   rfl
  ·intro i hi
   by_cases hlt:i < t.nodes.length
   ·have d1:((i:Int) < (t.nodes.length:Int))=True:=Jn
    have hg:=Kz hlt
    have hx:=ht.nodes _ (Gh hlt)
    rw[← rowg hlt]at hx
    have hts:ndz (t.nodes.take (i+1))=ndz (t.nodes.take i)++[(t.nodes.getD i default).cv]:=by
     rw[Xi (d:=default) hlt]; simp[ndz]
    have hcl:=JZ (t.nodes.take (i+1))
    have hpl:(ndz (t.nodes.take i)).length=i:=by rw[Jc,Gg]; omega
    generalize t.nodes.getD i default=x at hg hx hts
    generalize ndz (t.nodes.take i)=Z at hts hpl ⊢
    have hM:=Jc8 x (by have:=hx.kidn; omega) 0 (fun k hk=>by rw[Int.add_zero]; exact hx.kids k hk)
    rw[mvN0]at hM
    simp -implicitDefEqProofs only[go_sem,Jc,d1]
    refine XA [false,true,false,false,false,false,false,false,false,true,false,true] JA (by decide +kernel) ?_
    simp -implicitDefEqProofs only[go_sem,Jc,hg]
    refine ⟨by omega,by simp[Nd.cv],?_⟩
    refine vh_f hM ?_
    simp -implicitDefEqProofs only[go_sem]
    refine vh_row [x.cv] rfl rfl rfl rfl ?_
    simp -implicitDefEqProofs only[go_sem,JJ,splice,Gc,Gd]
    refine ⟨by omega,Ji,i+1,[0,1,2,3,5],by omega,by omega,rfl,?_,?_⟩
    ·rw[hts]at hcl
     have hc:=Jb (ρ:=[0,1,2,3,5]) hcl
     have hc2:=Jb (ρ:=[0,1,2,3,5]) hrc
     rw[hts,Kl,Km]
     simp only[Kw,Ga,Gb,go_sem,Jp,hc]
     rw[hc2]
     rfl
    ·simp[forget,JF,ren,Jo]
   ·have hie:i=t.nodes.length:=by omega
    subst hie
    have d1:((t.nodes.length:Int) < (t.nodes.length:Int))=False:=Jj
    rw[Gf]
    have hc2:=Jb (ρ:=[4,3]) hrc
    cases hN:ndz t.nodes with
    |nil=>
     have hnl:(([]:List (List CV)).length:Int)=t.nodes.length:=by rw[← hN,Jc]
     simp only[Gd]at hnl
     simp -implicitDefEqProofs only[go_sem,Qn,QX,Gd,hnl,d1,splice]
     refine ⟨[4,3],rfl,by simp[ren,JF,Jo,Jcb],?_⟩
     simp only[Kw,Ga,Gb,go_sem,Jp,Jr,hc2]
    |cons f fs=>
     have hnl:((fs.length+1:Nat):Int)=t.nodes.length:=by rw[← Gc,← hN,Jc]
     have hc:=Jb (ρ:=[4,3]) (hN▸JZ t.nodes)
     have hne:f::fs≠[]:=by simp
     generalize hFF:f::fs=FF at *
     simp only[Qz hne,Qd hne]
     have hfl:FF.length=fs.length+1:=by rw[← hFF]; rfl
     simp -implicitDefEqProofs only[go_sem,hfl,hnl,d1,splice]
     refine ⟨[4,3],rfl,?_,?_⟩
     ·simp[ren,JF,Jo,Jcb,hfl]
     ·simp only[Kw,Ga,Gb,go_sem,Jp,hc,hc2]
theorem GoodT.itr {t:Tr}{o:List Int}(g:GoodT t o) {i:Int}(hi:i∈t.items):0≤i∧i < t.nodes.length:=by
 have hol:o.length=t.nodes.length:=by rw[g.ord.len,Qs]
 obtain ⟨_,h2,h3,h4⟩:=KW g.ord.ok hol _ _ _ g.its _ hi
 exact ⟨h2,h4⟩
end Go.Cm
end
end
