/-
  A part of the proof. Conditions: none.
-/
import Derived.Test.YthbifneaknlfgaaGreatDoorJP30
set_option linter.unusedSimpArgs false
set_option linter.unusedVariables false
open List renaming length_cons→Ga,length_nil→Gb,map_cons→Gc,map_nil→Gd,getElem_mem→Gf,cons_append→Gg,nil_append→Gh,take_length→Gi,length_take→Gj
noncomputable section
section
set_option maxRecDepth 100000
set_option maxHeartbeats 4000000
open Go.Proofs
namespace Go.Cm
theorem mvN0 (x:Nd):mvN 0 x=x:=by
 obtain ⟨k,te,n,ks,p⟩:=x
 simp[mvN]
theorem copyO (t:Tr) (ht:t.Fit) (E:Env) (H:List CObj):CallsC Tryz.prog E 9 [t.cv] H fun v H'=>v=.agg [KP H.length (ndz t.nodes),.slc (H.length+1) 0 (iz t.items).length (Jdx (iz t.items))]∧H'=H++[Xb 5 (ndz t.nodes),.arr 1 (iz t.items)]:=by
 have hmany:=ht.many
 have hitems:=ht.items
 have hil:(iz t.items).length=t.items.length:=Jn
 have hrc:=JX t.items
 refine CallsC.frameG (mk:=fun n=>.agg [KP n (ndz t.nodes),.slc (n+1) 0 (iz t.items).length (Jdx (iz t.items))]) (G:=[Xb 5 (ndz t.nodes),.arr 1 (iz t.items)]) ?_ rfl ?_ ?_
 rotate_left
 ·intro o ho
  rcases List.mem_cons.1 ho with rfl | ho
  ·exact rowO_flat (JK _)
  ·rw[List.mem_singleton]at ho
   exact .inr ⟨_,_,ho,hrc⟩
 ·rintro n own own' imm r ho ⟨vs,rfl,r1,rs1,e1,h1,r2,rs2,e2,⟨x,a,c,hx,gg⟩,h3⟩
  exact ⟨vs,rfl,r1,rs1,e1,JdW 0 n ho h1,r2,rs2,e2,⟨x,a,c,ho _ _ hx,gg⟩,h3⟩
 refine CallsC.ren (R:=fun v H'=>∃ ρ,JdG ρ 0 H'.length=true∧ren ρ v=.agg [KP 0 (ndz t.nodes),.slc 1 0 (iz t.items).length (Jdx (iz t.items))]∧QH ρ H'=[Xb 5 (ndz t.nodes),.arr 1 (iz t.items)]) ?_ fun v H' h=>h
 refine QW c9_ok fun N=>?_
 obtain ⟨R,hR⟩:∃ R,R=iz t.items:=⟨_,rfl⟩
 simp only[Tr.cv,Tr.row]
 rw[← hR]at hrc hil ⊢
 cases R with
 |nil=>
  simp -implicitDefEqProofs only[c9,go_sem]
  refine Jk (id:=0) (z:=2) (els:=[[.rslc 5 (ndz t.nodes) none,.rslc 1 [] none]]) rfl rfl ?_
  simp only[go_sem,Kt,KR,frz,Qo]
  refine Ja9 ?_
  simp only[go_sem,Gg,Gh]
  refine KG (I:=fun i:Nat=>i≤t.nodes.length) (inv:=fun i=>gp [(1,.rptr [.rslc 5 (ndz t.nodes) none,.rslc 1 [] none]),(0,.ptr 1 0 0),(0,.ptr 2 0 0),(0,.int .i64 (i:Int))] 24) (hp:=fun i=>[.dead,.arr 2 [[.nils,.nils]],.arr 2 [[KP 4 (ndz (t.nodes.take i)),.slc 3 0 0 (some 0)]],.arr 1 [],Xb 5 (ndz (t.nodes.take i))]) (μ:=fun i=>t.nodes.length-i) 0 [0,1,3,2,4] (by omega) rfl ?_ ?_ ?_
  ·simp[forget,J8,ren,JH,gp]
  ·rfl
  ·intro i hi
   by_cases hlt:i < t.nodes.length
   ·have d1:((i:Int) < (t.nodes.length:Int))=True:=eq_true (by omega)
    have hg:=Ka hlt
    have hx:=ht.nodes _ (Gf hlt)
    rw[← rowg hlt]at hx
    have hts:ndz (t.nodes.take (i+1))=ndz (t.nodes.take i)++[(t.nodes.getD i default).cv]:=by
     rw[Kw (d:=default) hlt]; simp[ndz]
    have hcl:=JK (t.nodes.take (i+1))
    have hpl:(ndz (t.nodes.take i)).length=i:=by rw[Ja,Gj]; omega
    generalize t.nodes.getD i default=x at hg hx hts
    generalize ndz (t.nodes.take i)=Z at hts hpl ⊢
    have hM:=Jaj x (by have:=hx.kidn; omega) 0 (fun k hk=>by rw[Int.add_zero]; exact hx.kids k hk)
    rw[mvN0]at hM
    simp -implicitDefEqProofs only[go_sem,Ja,d1]
    refine Xh [false,true,false,false,false,false,false,false,false,true,false,true] JF (by decide +kernel) ?_
    simp -implicitDefEqProofs only[go_sem,Ja,hg]
    refine ⟨by omega,by simp[Nd.cv],?_⟩
    refine vh_f hM ?_
    simp -implicitDefEqProofs only[go_sem]
    refine JbZ [x.cv] rfl rfl rfl rfl ?_
    simp -implicitDefEqProofs only[go_sem,Jo,splice,Ga,Gb]
    refine ⟨by omega,Jm (by omega) (by omega),i+1,[0,1,2,3,5],by omega,by omega,rfl,?_,?_⟩
    ·rw[hts]at hcl
     have hc:=Je (ρ:=[0,1,2,3,5]) hcl
     have hc2:=Je (ρ:=[0,1,2,3,5]) hrc
     rw[hts,Kn,Kh]
     simp only[QH,Gc,Gd,go_sem,JB,hc]
     rfl
    ·simp[forget,J8,ren,JH]
   ·have hie:i=t.nodes.length:=by omega
    subst hie
    have d1:((t.nodes.length:Int) < (t.nodes.length:Int))=False:=eq_false (by omega)
    rw[Gi]
    have hc2:=Je (ρ:=[4,3]) hrc
    cases hN:ndz t.nodes with
    |nil=>
     have hnl:(([]:List (List CV)).length:Int)=t.nodes.length:=by rw[← hN,Ja]
     simp only[Gb]at hnl
     simp -implicitDefEqProofs only[go_sem,Q3,Xj,Gb,hnl,d1,splice]
     refine ⟨[4,3],rfl,by simp[ren,J8,JH,Jdx],?_⟩
     simp only[QH,Gc,Gd,go_sem,JB,JN,hc2]
    |cons f fs=>
     have hnl:((fs.length+1:Nat):Int)=t.nodes.length:=by rw[← Ga,← hN,Ja]
     have hc:=Je (ρ:=[4,3]) (hN▸JK t.nodes)
     have hne:f::fs≠[]:=by simp
     generalize hFF:f::fs=FF at *
     simp only[QL hne,Ko hne]
     have hfl:FF.length=fs.length+1:=by rw[← hFF]; rfl
     simp -implicitDefEqProofs only[go_sem,hfl,hnl,d1,splice]
     refine ⟨[4,3],rfl,?_,?_⟩
     ·simp[ren,J8,JH,Jdx,hfl]
     ·simp only[QH,Gc,Gd,go_sem,JB,hc,hc2]
 |cons e es=>
  have hel:es.length+1≤40:=by have:=hil; simp only[Ga]at this; omega
  simp -implicitDefEqProofs only[c9,go_sem,Jo,Ga]
  refine ⟨by omega,?_⟩
  have hl:es.length+1=(e::es).length:=rfl
  have hcap:Jdx (e::es)=none:=rfl
  rw[hl,hcap]
  clear hel hl hcap
  generalize e::es=R' at *
  have hz:=QO (id:=0) (z:=2) (e:=[[.rslc 5 (ndz t.nodes) none,.rslc 1 R' none]]) hrc
  refine Jk (id:=0) (z:=2) (els:=[[.rslc 5 (ndz t.nodes) none,.rslc 1 R' none]]) rfl rfl ?_
  simp only[go_sem,Kt,KR,frz,Qo,hz]
  refine Ja9 ?_
  simp only[go_sem,Gg,Gh]
  refine KG (I:=fun i:Nat=>i≤t.nodes.length) (inv:=fun i=>gp [(1,.rptr [.rslc 5 (ndz t.nodes) none,.rslc 1 R' none]),(0,.ptr 1 0 0),(0,.ptr 2 0 0),(0,.int .i64 (i:Int))] 24) (hp:=fun i=>[.dead,.arr 2 [[.nils,.nils]],.arr 2 [[KP 4 (ndz (t.nodes.take i)),.slc 3 0 R'.length none]],.arr 1 R',Xb 5 (ndz (t.nodes.take i))]) (μ:=fun i=>t.nodes.length-i) 0 [0,1,4,3,5] (by omega) rfl ?_ ?_ ?_
  ·simp[forget,J8,ren,JH,gp]
  ·have hc2:=Je (ρ:=[0,1,4,3,5]) hrc
   simp only[QH,Gc,Gd,go_sem,JB]
   rw[hc2]
   rfl
  ·intro i hi
   by_cases hlt:i < t.nodes.length
   ·have d1:((i:Int) < (t.nodes.length:Int))=True:=eq_true (by omega)
    have hg:=Ka hlt
    have hx:=ht.nodes _ (Gf hlt)
    rw[← rowg hlt]at hx
    have hts:ndz (t.nodes.take (i+1))=ndz (t.nodes.take i)++[(t.nodes.getD i default).cv]:=by
     rw[Kw (d:=default) hlt]; simp[ndz]
    have hcl:=JK (t.nodes.take (i+1))
    have hpl:(ndz (t.nodes.take i)).length=i:=by rw[Ja,Gj]; omega
    generalize t.nodes.getD i default=x at hg hx hts
    generalize ndz (t.nodes.take i)=Z at hts hpl ⊢
    have hM:=Jaj x (by have:=hx.kidn; omega) 0 (fun k hk=>by rw[Int.add_zero]; exact hx.kids k hk)
    rw[mvN0]at hM
    simp -implicitDefEqProofs only[go_sem,Ja,d1]
    refine Xh [false,true,false,false,false,false,false,false,false,true,false,true] JF (by decide +kernel) ?_
    simp -implicitDefEqProofs only[go_sem,Ja,hg]
    refine ⟨by omega,by simp[Nd.cv],?_⟩
    refine vh_f hM ?_
    simp -implicitDefEqProofs only[go_sem]
    refine JbZ [x.cv] rfl rfl rfl rfl ?_
    simp -implicitDefEqProofs only[go_sem,Jo,splice,Ga,Gb]
    refine ⟨by omega,Jm (by omega) (by omega),i+1,[0,1,2,3,5],by omega,by omega,rfl,?_,?_⟩
    ·rw[hts]at hcl
     have hc:=Je (ρ:=[0,1,2,3,5]) hcl
     have hc2:=Je (ρ:=[0,1,2,3,5]) hrc
     rw[hts,Kn,Kh]
     simp only[QH,Gc,Gd,go_sem,JB,hc]
     rw[hc2]
     rfl
    ·simp[forget,J8,ren,JH]
   ·have hie:i=t.nodes.length:=by omega
    subst hie
    have d1:((t.nodes.length:Int) < (t.nodes.length:Int))=False:=eq_false (by omega)
    rw[Gi]
    have hc2:=Je (ρ:=[4,3]) hrc
    cases hN:ndz t.nodes with
    |nil=>
     have hnl:(([]:List (List CV)).length:Int)=t.nodes.length:=by rw[← hN,Ja]
     simp only[Gb]at hnl
     simp -implicitDefEqProofs only[go_sem,Q3,Xj,Gb,hnl,d1,splice]
     refine ⟨[4,3],rfl,by simp[ren,J8,JH,Jdx],?_⟩
     simp only[QH,Gc,Gd,go_sem,JB,JN,hc2]
    |cons f fs=>
     have hnl:((fs.length+1:Nat):Int)=t.nodes.length:=by rw[← Ga,← hN,Ja]
     have hc:=Je (ρ:=[4,3]) (hN▸JK t.nodes)
     have hne:f::fs≠[]:=by simp
     generalize hFF:f::fs=FF at *
     simp only[QL hne,Ko hne]
     have hfl:FF.length=fs.length+1:=by rw[← hFF]; rfl
     simp -implicitDefEqProofs only[go_sem,hfl,hnl,d1,splice]
     refine ⟨[4,3],rfl,?_,?_⟩
     ·simp[ren,J8,JH,Jdx,hfl]
     ·simp only[QH,Gc,Gd,go_sem,JB,hc,hc2]
def Qu (a b:Tr):Tr:=⟨a.nodes++b.nodes.map (mvN a.nodes.length),a.items++b.items.map (· + (a.nodes.length:Int))⟩
theorem GoodT.itr {t:Tr}{o:List Int}(g:GoodT t o) {i:Int}(hi:i∈t.items):0≤i∧i < t.nodes.length:=by
 have hol:o.length=t.nodes.length:=by rw[g.ord.len,KA]
 obtain ⟨_,h2,h3,h4⟩:=QR g.ord.ok hol _ _ _ g.its _ hi
 exact ⟨h2,h4⟩
theorem refGlue (a b:Tr) (ha:a.Fit) (hb:b.Fit) {oa ob:List Int}(ga:GoodT a oa) (gb:GoodT b ob):Fn Tryz.prog 30 [a.cv,b.cv] (Qu a b).cv:=by
 have ham:=ga.many
 have hbm:=gb.many
 have hai:=ga.items
 have hbi:=gb.items
 obtain ⟨n,hn⟩:∃ n,n=a.nodes.length:=⟨_,rfl⟩
 obtain ⟨O,hO⟩:∃ O:Nat→List Nd,O=fun j=>a.nodes++(b.nodes.take j).map (mvN n):=⟨_,rfl⟩
 obtain ⟨I,hI⟩:∃ I:Nat→List Int,I=fun j=>a.items++(b.items.take j).map (· + (n:Int)):=⟨_,rfl⟩
 have hT:Qu a b=⟨O b.nodes.length,I b.items.length⟩:=by rw[hO,hI,hn]; simp[Qu]
 have hO0:O 0=a.nodes:=by rw[hO]; simp
 have hI0:I 0=a.items:=by rw[hI]; simp
 have hOl:∀ j,j≤b.nodes.length→(O j).length=n+j:=fun j hj=>by rw[hO,hn]; simp; omega
 have hIl:∀ j,j≤b.items.length→(I j).length=a.items.length+j:=fun j hj=>by rw[hI]; simp; omega
 have hOs:∀ j,j < b.nodes.length→O (j+1)=O j++[mvN n (b.nodes.getD j default)]:=fun j hj=>by
  rw[hO]; simp only; rw[Kw (d:=default) hj]; simp
 have hIs:∀ j,j < b.items.length→I (j+1)=I j++[b.items.getD j 0+(n:Int)]:=fun j hj=>by
  rw[hI]; simp only; rw[Kw (d:=0) hj]; simp
 have hnl:(ndz a.nodes).length=n:=by rw[Ja,hn]
 have hbl:(iz b.items).length=b.items.length:=Jn
 rw[hT]
 clear hT
 refine fn_of_two (i:=4) (j:=5) (z:=5) (y:=1) (Z:=ndz (O b.nodes.length)) (R:=iz (I b.items.length)) (QW c30_ok fun N=>?_) (by decide) rfl (JK _) (JX _)
 simp -implicitDefEqProofs only[c30,go_sem,Tr.cv,Tr.row]
 refine Jk (id:=0) (z:=2) (els:=[a.row]) rfl rfl ?_
 simp only[go_sem,Kt,KR,frz,Qo,Tr.row]
 refine Jk (id:=1) (z:=2) (els:=[b.row]) rfl rfl ?_
 simp only[go_sem,Kt,KR,frz,Qo,Tr.row]
 have hC:=copyO a ha Env.none
 refine JeD 1 5 [false,true,false,false,false,true,true,false] [false,true,false,false,false,true,true,false] (gp [(3,.rptr b.row),(0,.ptr 2 0 0),(0,.ptr 3 0 0),(0,.int .i64 (n:Int))] 46) [.dead,.dead,.arr 2 [[.nils,.nils]],.arr 2 [[KP 4 (ndz a.nodes),.slc 5 0 (iz a.items).length (Jdx (iz a.items))]],Xb 5 (ndz a.nodes),.arr 1 (iz a.items)] JF (by decide +kernel) ?_ ?_ ?_
 ·simp -implicitDefEqProofs only[go_sem,Tr.row]
  refine ⟨_,_,Ke (.inl rfl) (hC _),?_⟩
  simp -implicitDefEqProofs only[go_sem,hnl,splice,Ga,Gb,Gg,Gh]
  have hr:ren [0,1,2,5,3,4] (KP 3 (ndz a.nodes))=KP 4 (ndz a.nodes):=Qy rfl
  have hri:=Je (ρ:=[0,1,2,5,3,4]) (JX a.items)
  refine JI [0,1,2,5,3,4] rfl (by simp[forget,J8,ren,JH,Tr.row]) ?_
  simp only[QH,Gc,Gd,go_sem,JB,JN,J8,hr,K8 (Je (JK _)),hri]
  rfl
 ·simp -implicitDefEqProofs only[swl,swi,Ki,List.range,List.range.loop,Ga,Gb,Gc,Gd,List.getD_cons_zero,List.getD_cons_succ,go_sem,Tr.row,hnl]
  refine ⟨_,_,Ke (.inl rfl) (hC _),?_⟩
  simp -implicitDefEqProofs only[go_sem,hnl,splice,Ga,Gb,Gg,Gh]
  exact Kr (by simp[forget,Tr.row])
 ·simp only[gp,List.replicate]
  simp -implicitDefEqProofs only[go_sem]
  refine Xg (I:=fun j:Nat=>j≤b.nodes.length) (inv:=fun j=>gp [(3,.rptr b.row),(0,.ptr 2 0 0),(0,.ptr 3 0 0),(0,.int .i64 (n:Int)),(0,.int .i64 (j:Int))] 45) (hp:=fun j=>[.dead,.dead,.arr 2 [[.nils,.nils]],.arr 2 [[KP 4 (ndz (O j)),.slc 5 0 (iz a.items).length (Jdx (iz a.items))]],Xb 5 (ndz (O j)),.arr 1 (iz a.items)]) (μ:=fun j=>b.nodes.length-j) 0 (by omega) (fun Q=>?_) ?_
  ·rw[hO0]
   exact Kr (by simp[forget,gp,Tr.row])
  ·intro j hj
   by_cases hlt:j < b.nodes.length
   ·have d1:((j:Int) < (b.nodes.length:Int))=True:=eq_true (by omega)
    have hg:=Ka hlt
    have hxm:b.nodes.getD j default∈b.nodes:=by rw[rowN hlt]; exact Gf hlt
    have hx:=hb.nodes _ hxm
    have hxk:∀ k∈(b.nodes.getD j default).kids,InR .i64 (k+(n:Int)):=fun k hk=>by
     have:=gb.kidr hxm hk
     exact Jm (by omega) (by omega)
    have hOj:=hOs j hlt
    have hcl:=JK (O (j+1))
    have hpl:(ndz (O j)).length=n+j:=by rw[Ja,hOl j hj]
    generalize b.nodes.getD j default=x at hg hx hxk hOj
    have hts:ndz (O (j+1))=ndz (O j)++[(mvN n x).cv]:=by rw[hOj]; simp[ndz]
    have hM:=Jaj x (by have:=hx.kidn; omega) (n:Int) hxk
    generalize ndz (O j)=Z at hts hpl ⊢
    simp -implicitDefEqProofs only[go_sem,d1,Tr.row,Ja]
    refine Xh [false,true,false,false,false,false,false,false,false,false,true,false,true] JF (by decide +kernel) ?_
    simp -implicitDefEqProofs only[go_sem,Ja,hg]
    repeat (refine And.intro (by first | omega | exact Jm (by omega) (by omega) | simp[Nd.cv]) ?_)
    refine vh_f hM ?_
    simp -implicitDefEqProofs only[go_sem]
    refine JbZ [(mvN n x).cv] rfl rfl rfl rfl ?_
    simp -implicitDefEqProofs only[go_sem,Jo,splice,Ga,Gb]
    refine ⟨by omega,Jm (by omega) (by omega),j+1,by omega,by omega,fun Q=>JI [0,1,2,3,6,5] rfl ?_ ?_⟩
    ·simp[forget,J8,ren,JH,Tr.row]
    ·rw[hts]at hcl
     have hc:=Je (ρ:=[0,1,2,3,6,5]) hcl
     have hri:=Je (ρ:=[0,1,2,3,6,5]) (JX a.items)
     rw[hts,Kn,Kh]
     simp only[QH,Gc,Gd,go_sem,JB,hc,hri]
     rfl
   ·have hje:j=b.nodes.length:=by omega
    subst hje
    have d1:((b.nodes.length:Int) < (b.nodes.length:Int))=False:=eq_false (by omega)
    have hnc:=JK (O b.nodes.length)
    generalize ndz (O b.nodes.length)=Z at hnc ⊢
    simp -implicitDefEqProofs only[go_sem,d1,Tr.row,Ja]
    refine Xg (I:=fun j:Nat=>j≤b.items.length) (inv:=fun j=>gp [(3,.rptr b.row),(0,.ptr 2 0 0),(0,.ptr 3 0 0),(0,.int .i64 (n:Int)),(1,.int .i64 (j:Int))] 44) (hp:=fun j=>[.dead,.dead,.arr 2 [[.nils,.nils]],.arr 2 [[KP 4 Z,.slc 5 0 (iz (I j)).length (Jdx (iz (I j)))]],Xb 5 Z,.arr 1 (iz (I j))]) (μ:=fun j=>b.items.length-j) 0 (by omega) (fun Q=>?_) ?_
    ·rw[hI0]
     exact Kr (by simp[forget,gp,Tr.row])
    ·intro j hj
     by_cases hlt:j < b.items.length
     ·have d1:((j:Int) < (b.items.length:Int))=True:=eq_true (by omega)
      have hg:=Kb hlt
      have hxr:=gb.itr (i:=b.items.getD j 0) (by rw[List.getD_eq_getElem?_getD,List.getElem?_eq_getElem hlt]; exact Gf hlt)
      have hIj:=hIs j hlt
      have hpl:(iz (I j)).length=a.items.length+j:=by rw[Jn,hIl j hj]
      generalize b.items.getD j 0=x at hg hxr hIj
      have hts:iz (I (j+1))=iz (I j)++[[.int .i64 (x+(n:Int))]]:=by rw[hIj]; exact YS
      have hcl:=JX (I (j+1))
      generalize iz (I j)=R at hts hpl ⊢
      simp -implicitDefEqProofs only[go_sem,d1,Tr.row,hbl]
      refine Xh [false,true,false,false,false,false,false,false,false,false,true,false,true] JF (by decide +kernel) ?_
      simp -implicitDefEqProofs only[go_sem,hbl,hg]
      repeat (refine And.intro (by first | omega | exact Jm (by omega) (by omega)) ?_)
      refine JbZ [[.int .i64 (x+(n:Int))]] rfl rfl rfl rfl ?_
      simp -implicitDefEqProofs only[go_sem,Jo,splice,Ga,Gb]
      refine ⟨by omega,Jm (by omega) (by omega),j+1,by omega,by omega,fun Q=>JI [0,1,2,3,4,6] rfl ?_ ?_⟩
      ·simp[forget,J8,ren,JH,Tr.row]
      ·rw[hts]at hcl
       have hc:=Je (ρ:=[0,1,2,3,4,6]) hcl
       have hr:ren [0,1,2,3,4,6] (KP 4 Z)=KP 4 Z:=Qy rfl
       rw[hts,JcE]
       simp only[QH,Gc,Gd,go_sem,JB,J8,hr,K8 (Je hnc),hc,List.length_append,Ga,Gb]
       rfl
     ·have hje:j=b.items.length:=by omega
      subst hje
      have d1:((b.items.length:Int) < (b.items.length:Int))=False:=eq_false (by omega)
      simp -implicitDefEqProofs only[go_sem,d1,Tr.row,hbl,splice]
      exact ⟨_,rfl⟩
end Go.Cm
end
end
