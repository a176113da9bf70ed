/-
  A part of the proof. Conditions: none.
-/
import Derived.Test.YthbifneaknlfgaaGreatDoorJP31
set_option linter.unusedSimpArgs false
set_option linter.unusedVariables false
open List renaming length_cons→Ga,cons_append→Gc,length_nil→Gb,nil_append→Gd,map_cons→Gf,map_nil→Gg,getD_cons_zero→Gh,getD_cons_succ→Gi,append_nil→Gj,drop_zero→Gl,take_length→Gp
open Nat renaming reduceEqDiff→Gq,zero_add→Gm,le_refl→Gn
noncomputable section
section
set_option maxRecDepth 100000
set_option maxHeartbeats 40000000
open Go.Proofs
namespace Go.Cm
theorem Jb {z b id:Nat}{H:List CObj}{els:List (List CV)}:JU z b H (KP id els) []=some (.tt,KP id els,H):=by cases els <;> rfl
theorem draw_fin {P:Program}{E:Env}{n0:Nat}{N:Fr}{Q:Exit→List CV→List CObj→Prop}{H:List CObj}{T:List CV}{k:List KItem}{l:List IOper}{es:List (List Nat)}(T':List CV) (H':List CObj) (hfin:Ok P E n0 N Q k T' H') (h:Ok P E n0 N Q k T' H'→Jbw P E n0 N Q k l es T H):Jbw P E n0 N Q k l es T H:=h hfin
def itV (id:Nat) (els:List (List CV)):CV:=match els with
 |[]=>.rslc 1 [] (some 0)
 |_::_=>.slc id 0 els.length none
def condI (els:List (List CV)) (n:Nat) (c:Cond):Cond:=match els with
 |[]=>.and (.le 1 (0+n)) c
 |_::_=>c
theorem condI_holds {els:List (List CV)}{n:Nat}{c:Cond}:(condI els (n+1) c).holds=c.holds:=by
 cases els with
 |nil=>simp[condI,Cond.holds]
 |cons e l=>rfl
theorem exAppend_it {bytes id:Nat}{H:List CObj}{els:List (List CV)}{x:List CV}{xs:List (List CV)}(hH:H[id]? = some (Xb 1 els)) :
  JU 1 bytes H (itV id els) (x::xs)=some (condI els (xs.length+1) (Jo (els.length+(xs.length+1)) bytes),.slc H.length 0 (els.length+(xs.length+1)) none,H.set id .dead++[.arr 1 (els++x::xs)]):=by
 cases els with
 |nil=>
  have:H.set id .dead=H:=by
   refine List.ext_getElem? fun i=>?_
   rw[List.getElem?_set]
   split
   ·rename_i h; subst h; rw[hH]; simp[(List.getElem?_eq_some_iff.1 hH).1,Xb]
   ·rfl
  simp[JU,itV,condI,this]
 |cons e l=>
  simp only[Xb]at hH
  simp[JU,itV,condI,hH]
theorem itV_app {id:Nat}{e:List CV}{l els:List (List CV)}:itV id (els++e::l)=.slc id 0 (els.length+(l.length+1)) none:=by
 cases els with
 |nil=>simp[itV]
 |cons y ys=>simp[itV]; omega
theorem JaB {id:Nat}{els:List (List CV)}(h:els≠[]):itV id els=.slc id 0 els.length none:=by
 cases els with
 |nil=>exact absurd rfl h
 |cons x xs=>rfl
theorem itV_one {id:Nat}{els:List (List CV)}:(itV id els).oneCell=true:=by cases els <;> rfl
attribute [go_sem ↓] itV_one
attribute [go_sem] exAppend_it condI_holds
theorem joinJ (hC0:Fn Tryz.prog 67 [.rslc 1 [] none] (.rslc 1 [] (some 0))) (a b:Tr) (ha:a.Fit) (hb:b.Fit) {oa ob:List Int}(ga:GoodT a oa) (gb:GoodT b ob) (J:Tr) (hJ:J=Qu a b) (v0:CV) (hv0:v0=if (700 < J.nodes.length∨20 < J.items.length) then .tup [noT.cv,.int .i64 5] else .tup [J.cv,.int .i64 0]):Fn Tryz.prog 26 [a.cv,b.cv] v0:=by
 have ham:=ga.many
 have hbm:=gb.many
 have hai:=ga.items
 have hbi:=gb.items
 obtain ⟨n,hn⟩:∃ n,n=a.nodes.length:=⟨_,rfl⟩
 have hca:chk a=0:=(Kq a).2 ⟨_,ga⟩
 have hcb:chk b=0:=(Kq b).2 ⟨_,gb⟩
 obtain ⟨I,hI⟩:∃ I:Nat→List Int,I=fun j=>a.items++(b.items.take j).map (· + (n:Int)):=⟨_,rfl⟩
 have hI0:I 0=a.items:=by rw[hI]; simp
 have hIl:∀ j,j≤b.items.length→(I j).length=a.items.length+j:=fun j hj=>by rw[hI]; simp; omega
 have hIs:∀ j,j < b.items.length→I (j+1)=I j++[b.items.getD j 0+(n:Int)]:=fun j hj=>by
  rw[hI]; simp only; rw[Kw (d:=0) hj]; simp
 have hJi:J.items=I b.items.length:=by rw[hJ,hI,hn]; simp[Qu]
 have hJn:ndz J.nodes=ndz a.nodes++ndz (b.nodes.map (mvN n)):=by rw[hJ,hn]; simp[Qu,ndz]
 have hJl:J.nodes.length=n+b.nodes.length:=by rw[hJ,hn]; simp[Qu]
 have hZc:=JK J.nodes
 have hRc:=JX a.items
 have hA:=moved a.nodes (by omega) ha.nodes 0 (fun x hx k hk=>by rw[Int.add_zero]; exact (ha.nodes x hx).kids k hk)
 have hm0:a.nodes.map (mvN 0)=a.nodes:=by
  refine (List.map_congr_left fun x _=>mvN0 x).trans (List.map_id _)
 rw[hm0]at hA
 have hB:=(moved b.nodes (by omega) hb.nodes (n:Int) (fun x hx k hk=>by
  have:=gb.kidr hx hk
  exact Jm (by omega) (by omega))).fn rfl (JK _)
 have hil:(iz b.items).length=b.items.length:=Jn
 have hanl:(ndz a.nodes).length=n:=by rw[Ja,hn]
 have hcl0:v0.closed=true:=by rw[hv0]; split <;> rfl
 refine Jee (QW c26_ok fun N=>?_) rfl hcl0
 simp -implicitDefEqProofs only[c26,go_sem,Tr.cv,Tr.row]
 refine Jk (id:=0) (z:=2) (els:=[a.row]) rfl rfl ?_
 simp only[go_sem,Kt,KR,frz,Qo,Tr.row]
 refine Jk (id:=1) (z:=2) (els:=[b.row]) rfl rfl ?_
 simp only[go_sem,Kt,KR,frz,Qo,Tr.row]
 refine Jk (id:=3) (z:=2) (els:=[a.row,b.row]) rfl rfl ?_
 simp only[go_sem,Kt,KR,frz,Qo,Tr.row,Ga,Gb,Gm,Gn,if_true,Gl,List.take_succ_cons,List.take_zero]
 refine KG (I:=fun i:Nat=>i≤2) (inv:=fun i=>gp [(2,.rptr a.row),(0,.rptr b.row),(0,.ptr 2 0 0),(10,.rslc 2 [a.row,b.row] none),(0,.int .i64 2),(0,.int .i64 (i:Int))] 45) (hp:=fun _=>[.dead,.dead,.arr 2 [[.nils,.nils]],.dead]) (μ:=fun i=>2-i) 0 [0,1,2,3] (by omega) rfl ?_ rfl ?_
 ·simp[forget,gp,J8,ren,JH,Tr.row]
 intro i hi
 by_cases hlt:i < 2
 ·have d1:((i:Int) < 2)=True:=eq_true (by omega)
  obtain ⟨t,ht,hgi,hc⟩:∃ t:Tr,t.Fit∧([a.row,b.row]:List (List CV)).getD i []=t.row∧chk t=0:=by
   rcases (show i=0∨i=1 by omega) with rfl | rfl
   ·exact ⟨a,ha,rfl,hca⟩
   ·exact ⟨b,hb,rfl,hcb⟩
  simp only[Tr.row]at hgi
  simp -implicitDefEqProofs only[go_sem,Tr.row,d1,hgi,splice,Ga,Gb]
  refine ⟨by omega,?_⟩
  refine JZ (Qg t ht) ?_
  have e:(chk t != 0)=false:=by simpa using hc
  simp -implicitDefEqProofs only[go_sem,e]
  refine ⟨Jm (by omega) (by omega),i+1,[0,1,2,3],by omega,by omega,rfl,rfl,?_⟩
  simp[forget,J8,ren,JH,Tr.row]
 ·have d1:((i:Int) < 2)=False:=eq_false (by omega)
  simp -implicitDefEqProofs only[go_sem,Tr.row,d1,hanl]
  refine vr_draw JF (draw_fin (gp [(3,.rptr b.row),(0,.ptr 2 0 0),(4,.int .i64 (n:Int)),(0,.ptr 3 0 0)] 52) [.dead,.dead,.arr 2 [[.nils,.nils]],.arr 2 [[KP 4 (ndz J.nodes),itV 5 (iz a.items)]],Xb 5 (ndz J.nodes),Xb 1 (iz a.items)] ?_ fun hfin=>?_)
  ·have hZo:=hZc
   have hbody:∀ x y:CV,wk x (.rslc 5 (ndz J.nodes) none)→wk y (.rslc 1 (iz J.items) none)→Fn Tryz.prog 48 [.agg [x,y]] (.bool (decide (700 < J.nodes.length∨20 < J.items.length))):=fun x y hx hy=>(isGreat J).args ⟨XE ⟨hx,hy,trivial⟩,trivial⟩
   rw[hJi]at hbody
   have hend1:(700 < J.nodes.length∨20 < (I b.items.length).length)→wk (.tup [.agg [.nils,.nils],.int .i64 5]) v0:=fun h=>by
    rw[hv0,hJi,if_pos h]
    exact JdO ⟨XE ⟨wk.nils,wk.nils,trivial⟩,wk.refl _,trivial⟩
   have hend2:∀ x y:CV,¬ (700 < J.nodes.length∨20 < (I b.items.length).length)→wk x (.rslc 5 (ndz J.nodes) none)→wk y (.rslc 1 (iz (I b.items.length)) none)→wk (.tup [.agg [x,y],.int .i64 0]) v0:=fun x y h hx hy=>by
    rw[hv0,hJi,if_neg h]
    rw[← hJi]at hy
    exact JdO ⟨XE ⟨hx,hy,trivial⟩,wk.refl _,trivial⟩
   clear hv0 hJ hJn hJi hA hB hcl0 hC0
   generalize hDg:decide (700 < J.nodes.length∨20 < (I b.items.length).length)=G at hbody
   generalize ndz J.nodes=Z at *
   refine JJ _ _ _ ?_
   simp only[gp,List.replicate]
   simp -implicitDefEqProofs only[go_sem,Tr.row,hil]
   refine Xg (I:=fun j:Nat=>j≤b.items.length) (inv:=fun j=>gp [(4,.ptr 2 0 0),(4,.int .i64 (n:Int)),(0,.ptr 3 0 0),(33,.rslc 1 (iz b.items) none),(0,.int .i64 (b.items.length:Int)),(0,.int .i64 (j:Int))] 16) (hp:=fun j=>[.dead,.dead,.arr 2 [[.nils,.nils]],.arr 2 [[KP 4 Z,itV 5 (iz (I j))]],Xb 5 Z,Xb 1 (iz (I j))]) (μ:=fun j=>b.items.length-j) 0 (by omega) (fun Q=>?_) ?_
   ·rw[hI0]
    exact Kr (by simp[forget,gp,Tr.row])
   intro j hj
   by_cases hlt:j < b.items.length
   ·have d1:((j:Int) < (b.items.length:Int))=True:=eq_true (by omega)
    have hg:=Kb hlt
    have hxr:=gb.itr (i:=b.items.getD j 0) (by rw[List.getD_eq_getElem?_getD,List.getElem?_eq_getElem hlt]; exact List.getElem_mem hlt)
    have hIj:=hIs j hlt
    have hpl:(iz (I j)).length=a.items.length+j:=by rw[Jn,hIl j hj]
    generalize b.items.getD j 0=x at hg hxr hIj
    have hts:iz (I (j+1))=iz (I j)++[[.int .i64 (x+(n:Int))]]:=by rw[hIj]; exact YS
    have hcl:=JX (I (j+1))
    generalize iz (I j)=R at hts hpl ⊢
    simp -implicitDefEqProofs only[go_sem,d1,hil,hg,splice,Jo,Ga,Gb]
    repeat (refine And.intro (by first | omega | exact Jm (by omega) (by omega)) ?_)
    refine ⟨j+1,by omega,by omega,fun Q=>JI [0,1,2,3,4,7] rfl ?_ ?_⟩
    ·simp[forget,gp,J8,ren,JH]
    ·rw[hts]at hcl
     have hc:=Je (ρ:=[0,1,2,3,4,7]) hcl
     have hr:ren [0,1,2,3,4,7] (KP 4 Z)=KP 4 Z:=Qy rfl
     rw[hts,itV_app,Kh]
     simp only[QH,Gf,Gg,go_sem,JB,J8,hr,K8 (Je hZo),hc,Ga,Gb]
     rfl
   ·have hje:j=b.items.length:=by omega
    subst hje
    have d1:((b.items.length:Int) < (b.items.length:Int))=False:=eq_false (by omega)
    have hRo:=JX (I b.items.length)
    have hDt:G=true→(700 < J.nodes.length∨20 < (I b.items.length).length):=fun h=>by rw[h]at hDg; exact of_decide_eq_true hDg
    have hDf:G=false→¬ (700 < J.nodes.length∨20 < (I b.items.length).length):=fun h=>by rw[h]at hDg; exact of_decide_eq_false hDg
    generalize iz (I b.items.length)=R at *
    by_cases hZ:Z=[] <;> by_cases hR:R=[]
    ·subst hZ hR
     simp -implicitDefEqProofs only[go_sem,d1,hil,Q3,Xj,itV,splice]
     refine JZ (hbody _ _ wk.nils wk.rslc) ?_
     cases G with
     |true=>
      simp -implicitDefEqProofs only[go_sem,splice]
      exact .done (hend1 (hDt rfl))
     |false=>
      simp -implicitDefEqProofs only[go_sem,splice]
      exact .done (hend2 _ _ (hDf rfl) wk.nils wk.rslc)
    ·subst hZ
     simp only[Q3,Xj,JaB hR,Ko hR]
     simp -implicitDefEqProofs only[go_sem,d1,hil,splice]
     refine Jk (id:=5) (z:=1) (els:=R) rfl hRo ?_
     simp only[go_sem,Kt,KR,frz,Qo,Gm,Gn,if_true,Gl,Gp,Gq,if_false]
     refine JZ (hbody _ _ wk.nils wk.rslc) ?_
     cases G with
     |true=>
      simp -implicitDefEqProofs only[go_sem,splice]
      exact .done (hend1 (hDt rfl))
     |false=>
      simp -implicitDefEqProofs only[go_sem,splice]
      exact .done (hend2 _ _ (hDf rfl) wk.nils wk.rslc)
    ·subst hR
     simp only[Xj,itV,QL hZ,Ko hZ]
     simp -implicitDefEqProofs only[go_sem,d1,hil,splice]
     refine Jk (id:=4) (z:=5) (els:=Z) rfl hZo ?_
     simp only[go_sem,Kt,KR,frz,Qo,Gm,Gn,if_true,Gl,Gp,Gq,if_false]
     refine JZ (hbody _ _ (wk.refl _) wk.rslc) ?_
     cases G with
     |true=>
      simp -implicitDefEqProofs only[go_sem,splice]
      exact .done (hend1 (hDt rfl))
     |false=>
      simp -implicitDefEqProofs only[go_sem,splice]
      exact .done (hend2 _ _ (hDf rfl) (wk.refl _) wk.rslc)
    ·simp only[JaB hR,Ko hR,QL hZ,Ko hZ]
     simp -implicitDefEqProofs only[go_sem,d1,hil,splice]
     refine Jk (id:=4) (z:=5) (els:=Z) rfl hZo ?_
     simp only[go_sem,Kt,KR,frz,Qo,Gm,Gn,if_true,Gl,Gp,Gq,if_false]
     rw[QO hRo]
     refine Jk (id:=5) (z:=1) (els:=R) rfl hRo ?_
     simp only[go_sem,Kt,KR,frz,Qo,Gm,Gn,if_true,Gl,Gp,Gq,if_false]
     refine JZ (hbody _ _ (wk.refl _) (wk.refl _)) ?_
     cases G with
     |true=>
      simp -implicitDefEqProofs only[go_sem,splice]
      exact .done (hend1 (hDt rfl))
     |false=>
      simp -implicitDefEqProofs only[go_sem,splice]
      exact .done (hend2 _ _ (hDf rfl) (wk.refl _) (wk.refl _))
  ·have hCl:iz a.items≠[]→∀ E H,CallsC Tryz.prog E 67 [.rslc 1 (iz a.items) none] H fun v H'=>v=.slc H.length 0 (iz a.items).length none∧H'=H++[.arr 1 (iz a.items)]:=fun hne E H=>by
    have:=cloneR (l:=a.items) (by omega) (by rintro e; rw[e]at hne; exact hne rfl) E H
    simpa only[QL hne,Ko hne]using this
   have hAc:=JK a.nodes
   rw[hJn]at hfin hZc
   clear hJn hJ hJi hJl hv0 hcl0
   have hAl:(ndz a.nodes).length≤700:=by omega
   have hWl:(ndz (b.nodes.map (mvN n))).length≤700:=by rw[Ja,List.length_map]; omega
   generalize ndz (b.nodes.map (mvN n))=W at *
   unfold Tr.row at *
   generalize ndz a.nodes=A at *
   generalize iz a.items=R at *
   rcases W with _ | ⟨w,ws⟩
   ·have hcl:=fun i=>rowV_cells (id:=i) (els:=A)
    simp only[CV.cells]at hcl
    by_cases hRn:R=[]
    ·subst hRn
     refine KW 2 12 (by decide) ?_ ?_
     ·refine KW 7 12 (by decide) ?_ ?_
      ·refine KW 10 12 (by decide) ?_ ?_
       ·refine Km [false,false,true,false,false,false,false,true,false,false,false,false,true,true] _ _ (by decide +kernel) hfin ?_
        simp -implicitDefEqProofs only[go_sem,Tr.row,splice,Jo,Ga,Gb,Gc,Gd,Jb,Ja,hil]
        refine ⟨_,_,Ke (.inl rfl) (hA _ _),?_⟩
        simp -implicitDefEqProofs only[go_sem,Tr.row,splice,Jo,Ga,Gb,Gc,Gd,Jb,Ja,hil]
        refine ⟨_,_,Jam (.inl rfl) hB,?_⟩
        simp -implicitDefEqProofs only[go_sem,Tr.row,splice,Jo,Ga,Gb,Gc,Gd,Jb,Ja,hil]
        refine ⟨_,_,Jam (.inl rfl) hC0,?_⟩
        simp -implicitDefEqProofs only[go_sem,Tr.row,splice,Jo,Ga,Gb,Gc,Gd,Jb,Ja,hil,hcl]
        have hr:ren [0,1,2,5,4,3] (KP 4 A)=KP 4 A:=Qy rfl
        refine JI [0,1,2,5,4,3] rfl (by simp[forget,gp,J8,ren,JH,Tr.row]) ?_
        simp only[QH,Gf,Gg,go_sem,JB,JN,J8,Gj,hr,K8 (Je hAc)]
        rfl
       ·refine KV [0,1,2,3,4,5,6,7,8,9,12,10,11,13] [0,1,2,3,4,5,6,7,8,9,11,12,10,13] (by decide +kernel) ?_
        refine Km [false,false,true,false,false,false,false,true,false,false,true,false,false,true] _ _ (by decide +kernel) hfin ?_
        simp -implicitDefEqProofs only[prl,Ki,Gf,Gg,Gh,Gi,go_sem,Tr.row,splice,Jo,Ga,Gb,Gc,Gd,Jb,Ja,hil]
        refine ⟨_,_,Ke (.inl rfl) (hA _ _),?_⟩
        simp -implicitDefEqProofs only[go_sem,Tr.row,splice,Jo,Ga,Gb,Gc,Gd,Jb,Ja,hil]
        refine ⟨_,_,Jam (.inl rfl) hB,?_⟩
        simp -implicitDefEqProofs only[go_sem,Tr.row,splice,Jo,Ga,Gb,Gc,Gd,Jb,Ja,hil]
        refine ⟨_,_,Jam (.inl rfl) hC0,?_⟩
        simp -implicitDefEqProofs only[go_sem,Tr.row,splice,Jo,Ga,Gb,Gc,Gd,Jb,Ja,hil,hcl]
        have hr:ren [0,1,2,5,4,3] (KP 4 A)=KP 4 A:=Qy rfl
        refine JI [0,1,2,5,4,3] rfl (by simp[forget,gp,J8,ren,JH,Tr.row]) ?_
        simp only[QH,Gf,Gg,go_sem,JB,JN,J8,Gj,hr,K8 (Je hAc)]
        rfl
      ·refine KV [0,1,2,3,4,5,6,12,7,8,9,10,11,13] [0,1,2,3,4,5,6,8,9,10,11,12,7,13] (by decide +kernel) ?_
       refine Km [false,false,true,false,false,false,false,true,true,false,false,false,false,true] _ _ (by decide +kernel) hfin ?_
       simp -implicitDefEqProofs only[prl,Ki,Gf,Gg,Gh,Gi,go_sem,Tr.row,splice,Jo,Ga,Gb,Gc,Gd,Jb,Ja,hil]
       refine ⟨_,_,Ke (.inl rfl) (hA _ _),?_⟩
       simp -implicitDefEqProofs only[go_sem,Tr.row,splice,Jo,Ga,Gb,Gc,Gd,Jb,Ja,hil]
       refine ⟨_,_,Jam (.inl rfl) hB,?_⟩
       simp -implicitDefEqProofs only[go_sem,Tr.row,splice,Jo,Ga,Gb,Gc,Gd,Jb,Ja,hil]
       refine ⟨_,_,Jam (.inl rfl) hC0,?_⟩
       simp -implicitDefEqProofs only[go_sem,Tr.row,splice,Jo,Ga,Gb,Gc,Gd,Jb,Ja,hil,hcl]
       have hr:ren [0,1,2,5,4,3] (KP 4 A)=KP 4 A:=Qy rfl
       refine JI [0,1,2,5,4,3] rfl (by simp[forget,gp,J8,ren,JH,Tr.row]) ?_
       simp only[QH,Gf,Gg,go_sem,JB,JN,J8,Gj,hr,K8 (Je hAc)]
       rfl
     ·refine KV [0,1,12,2,3,4,5,6,7,8,9,10,11,13] [0,1,3,4,5,6,7,8,9,10,11,12,2,13] (by decide +kernel) ?_
      refine Km [false,false,true,true,false,false,false,false,true,false,false,false,false,true] _ _ (by decide +kernel) hfin ?_
      simp -implicitDefEqProofs only[prl,Ki,Gf,Gg,Gh,Gi,go_sem,Tr.row,splice,Jo,Ga,Gb,Gc,Gd,Jb,Ja,hil]
      refine ⟨_,_,Ke (.inl rfl) (hA _ _),?_⟩
      simp -implicitDefEqProofs only[go_sem,Tr.row,splice,Jo,Ga,Gb,Gc,Gd,Jb,Ja,hil]
      refine ⟨_,_,Jam (.inl rfl) hB,?_⟩
      simp -implicitDefEqProofs only[go_sem,Tr.row,splice,Jo,Ga,Gb,Gc,Gd,Jb,Ja,hil]
      refine ⟨_,_,Jam (.inl rfl) hC0,?_⟩
      simp -implicitDefEqProofs only[go_sem,Tr.row,splice,Jo,Ga,Gb,Gc,Gd,Jb,Ja,hil,hcl]
      have hr:ren [0,1,2,4,5,3] (KP 5 A)=KP 4 A:=Qy rfl
      refine JI [0,1,2,4,5,3] rfl (by simp[forget,gp,J8,ren,JH,Tr.row]) ?_
      simp only[QH,Gf,Gg,go_sem,JB,JN,J8,Gj,hr,K8 (Je hAc)]
      rfl
    ·replace hCl:=hCl hRn
     refine KW 2 12 (by decide) ?_ ?_
     ·refine KW 7 12 (by decide) ?_ ?_
      ·refine KW 10 12 (by decide) ?_ ?_
       ·refine Km [false,false,true,false,false,false,false,true,false,false,true,false,true,true] _ _ (by decide +kernel) hfin ?_
        simp -implicitDefEqProofs only[go_sem,Tr.row,splice,Jo,Ga,Gb,Gc,Gd,Jb,Ja,hil]
        refine ⟨_,_,Ke (.inl rfl) (hA _ _),?_⟩
        simp -implicitDefEqProofs only[go_sem,Tr.row,splice,Jo,Ga,Gb,Gc,Gd,Jb,Ja,hil]
        refine ⟨_,_,Jam (.inl rfl) hB,?_⟩
        simp -implicitDefEqProofs only[go_sem,Tr.row,splice,Jo,Ga,Gb,Gc,Gd,Jb,Ja,hil]
        refine ⟨_,_,Ke (.inl rfl) (hCl _ _),?_⟩
        simp -implicitDefEqProofs only[go_sem,Tr.row,splice,Jo,Ga,Gb,Gc,Gd,Jb,Ja,hil,hcl]
        have hr:ren [0,1,2,6,4,5] (KP 4 A)=KP 4 A:=Qy rfl
        refine JI [0,1,2,6,4,5] rfl (by simp[forget,gp,J8,ren,JH,Tr.row]) ?_
        have hz2:=Je (ρ:=[0,1,2,6,4,5]) hRc
        simp only[QH,Gf,Gg,go_sem,JB,JN,J8,Gj,hr,K8 (Je hAc),JaB hRn,Ko hRn,hz2]
        rfl
       ·refine KV [0,1,2,3,4,5,6,7,8,9,12,10,11,13] [0,1,2,3,4,5,6,7,8,9,11,12,10,13] (by decide +kernel) ?_
        refine Km [false,false,true,false,false,false,false,true,false,false,true,true,false,true] _ _ (by decide +kernel) hfin ?_
        simp -implicitDefEqProofs only[prl,Ki,Gf,Gg,Gh,Gi,go_sem,Tr.row,splice,Jo,Ga,Gb,Gc,Gd,Jb,Ja,hil]
        refine ⟨_,_,Ke (.inl rfl) (hA _ _),?_⟩
        simp -implicitDefEqProofs only[go_sem,Tr.row,splice,Jo,Ga,Gb,Gc,Gd,Jb,Ja,hil]
        refine ⟨_,_,Jam (.inl rfl) hB,?_⟩
        simp -implicitDefEqProofs only[go_sem,Tr.row,splice,Jo,Ga,Gb,Gc,Gd,Jb,Ja,hil]
        refine ⟨_,_,Ke (.inl rfl) (hCl _ _),?_⟩
        simp -implicitDefEqProofs only[go_sem,Tr.row,splice,Jo,Ga,Gb,Gc,Gd,Jb,Ja,hil,hcl]
        have hr:ren [0,1,2,5,4,6] (KP 4 A)=KP 4 A:=Qy rfl
        refine JI [0,1,2,5,4,6] rfl (by simp[forget,gp,J8,ren,JH,Tr.row]) ?_
        have hz2:=Je (ρ:=[0,1,2,5,4,6]) hRc
        simp only[QH,Gf,Gg,go_sem,JB,JN,J8,Gj,hr,K8 (Je hAc),JaB hRn,Ko hRn,hz2]
        rfl
      ·refine KV [0,1,2,3,4,5,6,12,7,8,9,10,11,13] [0,1,2,3,4,5,6,8,9,10,11,12,7,13] (by decide +kernel) ?_
       refine Km [false,false,true,false,false,false,false,true,true,false,false,true,false,true] _ _ (by decide +kernel) hfin ?_
       simp -implicitDefEqProofs only[prl,Ki,Gf,Gg,Gh,Gi,go_sem,Tr.row,splice,Jo,Ga,Gb,Gc,Gd,Jb,Ja,hil]
       refine ⟨_,_,Ke (.inl rfl) (hA _ _),?_⟩
       simp -implicitDefEqProofs only[go_sem,Tr.row,splice,Jo,Ga,Gb,Gc,Gd,Jb,Ja,hil]
       refine ⟨_,_,Jam (.inl rfl) hB,?_⟩
       simp -implicitDefEqProofs only[go_sem,Tr.row,splice,Jo,Ga,Gb,Gc,Gd,Jb,Ja,hil]
       refine ⟨_,_,Ke (.inl rfl) (hCl _ _),?_⟩
       simp -implicitDefEqProofs only[go_sem,Tr.row,splice,Jo,Ga,Gb,Gc,Gd,Jb,Ja,hil,hcl]
       have hr:ren [0,1,2,5,4,6] (KP 4 A)=KP 4 A:=Qy rfl
       refine JI [0,1,2,5,4,6] rfl (by simp[forget,gp,J8,ren,JH,Tr.row]) ?_
       have hz2:=Je (ρ:=[0,1,2,5,4,6]) hRc
       simp only[QH,Gf,Gg,go_sem,JB,JN,J8,Gj,hr,K8 (Je hAc),JaB hRn,Ko hRn,hz2]
       rfl
     ·refine KV [0,1,12,2,3,4,5,6,7,8,9,10,11,13] [0,1,3,4,5,6,7,8,9,10,11,12,2,13] (by decide +kernel) ?_
      refine Km [false,false,true,true,false,false,false,false,true,false,false,true,false,true] _ _ (by decide +kernel) hfin ?_
      simp -implicitDefEqProofs only[prl,Ki,Gf,Gg,Gh,Gi,go_sem,Tr.row,splice,Jo,Ga,Gb,Gc,Gd,Jb,Ja,hil]
      refine ⟨_,_,Ke (.inl rfl) (hA _ _),?_⟩
      simp -implicitDefEqProofs only[go_sem,Tr.row,splice,Jo,Ga,Gb,Gc,Gd,Jb,Ja,hil]
      refine ⟨_,_,Jam (.inl rfl) hB,?_⟩
      simp -implicitDefEqProofs only[go_sem,Tr.row,splice,Jo,Ga,Gb,Gc,Gd,Jb,Ja,hil]
      refine ⟨_,_,Ke (.inl rfl) (hCl _ _),?_⟩
      simp -implicitDefEqProofs only[go_sem,Tr.row,splice,Jo,Ga,Gb,Gc,Gd,Jb,Ja,hil,hcl]
      have hr:ren [0,1,2,4,5,6] (KP 5 A)=KP 4 A:=Qy rfl
      refine JI [0,1,2,4,5,6] rfl (by simp[forget,gp,J8,ren,JH,Tr.row]) ?_
      have hz2:=Je (ρ:=[0,1,2,4,5,6]) hRc
      simp only[QH,Gf,Gg,go_sem,JB,JN,J8,Gj,hr,K8 (Je hAc),JaB hRn,Ko hRn,hz2]
      rfl
   ·simp only[Ga]at hWl
    by_cases hRn:R=[]
    ·subst hRn
     refine KW 2 12 (by decide) ?_ ?_
     ·refine KW 7 12 (by decide) ?_ ?_
      ·refine KW 10 12 (by decide) ?_ ?_
       ·refine Km [false,false,true,false,false,false,false,true,false,false,false,false,true,true] _ _ (by decide +kernel) hfin ?_
        simp -implicitDefEqProofs only[go_sem,Tr.row,splice,Jo,Ga,Gb,Gc,Gd,Jb,Ja,hil]
        refine ⟨_,_,Ke (.inl rfl) (hA _ _),?_⟩
        simp -implicitDefEqProofs only[go_sem,Tr.row,splice,Jo,Ga,Gb,Gc,Gd,Jb,Ja,hil]
        refine ⟨_,_,Jam (.inl rfl) hB,?_⟩
        simp -implicitDefEqProofs only[go_sem,Tr.row,splice,Jo,Ga,Gb,Gc,Gd,Jb,Ja,hil]
        refine ⟨by omega,?_⟩
        refine ⟨_,_,Jam (.inl rfl) hC0,?_⟩
        simp -implicitDefEqProofs only[go_sem,Tr.row,splice,Jo,Ga,Gb,Gc,Gd,Jb,Ja,hil]
        refine JI [0,1,2,6,5,3] rfl (by simp[forget,gp,J8,ren,JH,Tr.row]) ?_
        have hz:=Je (ρ:=[0,1,2,6,5,3]) hZc
        simp only[QH,Gf,Gg,go_sem,JB,JN,J8,Kn,Kh,hz]
        rfl
       ·refine KV [0,1,2,3,4,5,6,7,8,9,12,10,11,13] [0,1,2,3,4,5,6,7,8,9,11,12,10,13] (by decide +kernel) ?_
        refine Km [false,false,true,false,false,false,false,true,false,false,true,false,false,true] _ _ (by decide +kernel) hfin ?_
        simp -implicitDefEqProofs only[prl,Ki,Gf,Gg,Gh,Gi,go_sem,Tr.row,splice,Jo,Ga,Gb,Gc,Gd,Jb,Ja,hil]
        refine ⟨_,_,Ke (.inl rfl) (hA _ _),?_⟩
        simp -implicitDefEqProofs only[go_sem,Tr.row,splice,Jo,Ga,Gb,Gc,Gd,Jb,Ja,hil]
        refine ⟨_,_,Jam (.inl rfl) hB,?_⟩
        simp -implicitDefEqProofs only[go_sem,Tr.row,splice,Jo,Ga,Gb,Gc,Gd,Jb,Ja,hil]
        refine ⟨by omega,?_⟩
        refine ⟨_,_,Jam (.inl rfl) hC0,?_⟩
        simp -implicitDefEqProofs only[go_sem,Tr.row,splice,Jo,Ga,Gb,Gc,Gd,Jb,Ja,hil]
        refine JI [0,1,2,6,5,3] rfl (by simp[forget,gp,J8,ren,JH,Tr.row]) ?_
        have hz:=Je (ρ:=[0,1,2,6,5,3]) hZc
        simp only[QH,Gf,Gg,go_sem,JB,JN,J8,Kn,Kh,hz]
        rfl
      ·refine KV [0,1,2,3,4,5,6,12,7,8,9,10,11,13] [0,1,2,3,4,5,6,8,9,10,11,12,7,13] (by decide +kernel) ?_
       refine Km [false,false,true,false,false,false,false,true,true,false,false,false,false,true] _ _ (by decide +kernel) hfin ?_
       simp -implicitDefEqProofs only[prl,Ki,Gf,Gg,Gh,Gi,go_sem,Tr.row,splice,Jo,Ga,Gb,Gc,Gd,Jb,Ja,hil]
       refine ⟨_,_,Ke (.inl rfl) (hA _ _),?_⟩
       simp -implicitDefEqProofs only[go_sem,Tr.row,splice,Jo,Ga,Gb,Gc,Gd,Jb,Ja,hil]
       refine ⟨_,_,Jam (.inl rfl) hB,?_⟩
       simp -implicitDefEqProofs only[go_sem,Tr.row,splice,Jo,Ga,Gb,Gc,Gd,Jb,Ja,hil]
       refine ⟨by omega,?_⟩
       refine ⟨_,_,Jam (.inl rfl) hC0,?_⟩
       simp -implicitDefEqProofs only[go_sem,Tr.row,splice,Jo,Ga,Gb,Gc,Gd,Jb,Ja,hil]
       refine JI [0,1,2,5,6,3] rfl (by simp[forget,gp,J8,ren,JH,Tr.row]) ?_
       have hz:=Je (ρ:=[0,1,2,5,6,3]) hZc
       simp only[QH,Gf,Gg,go_sem,JB,JN,J8,Kn,Kh,hz]
       rfl
     ·refine KV [0,1,12,2,3,4,5,6,7,8,9,10,11,13] [0,1,3,4,5,6,7,8,9,10,11,12,2,13] (by decide +kernel) ?_
      refine Km [false,false,true,true,false,false,false,false,true,false,false,false,false,true] _ _ (by decide +kernel) hfin ?_
      simp -implicitDefEqProofs only[prl,Ki,Gf,Gg,Gh,Gi,go_sem,Tr.row,splice,Jo,Ga,Gb,Gc,Gd,Jb,Ja,hil]
      refine ⟨_,_,Ke (.inl rfl) (hA _ _),?_⟩
      simp -implicitDefEqProofs only[go_sem,Tr.row,splice,Jo,Ga,Gb,Gc,Gd,Jb,Ja,hil]
      refine ⟨_,_,Jam (.inl rfl) hB,?_⟩
      simp -implicitDefEqProofs only[go_sem,Tr.row,splice,Jo,Ga,Gb,Gc,Gd,Jb,Ja,hil]
      refine ⟨by omega,?_⟩
      refine ⟨_,_,Jam (.inl rfl) hC0,?_⟩
      simp -implicitDefEqProofs only[go_sem,Tr.row,splice,Jo,Ga,Gb,Gc,Gd,Jb,Ja,hil]
      refine JI [0,1,2,4,6,3] rfl (by simp[forget,gp,J8,ren,JH,Tr.row]) ?_
      have hz:=Je (ρ:=[0,1,2,4,6,3]) hZc
      simp only[QH,Gf,Gg,go_sem,JB,JN,J8,Kn,Kh,hz]
      rfl
    ·replace hCl:=hCl hRn
     refine KW 2 12 (by decide) ?_ ?_
     ·refine KW 7 12 (by decide) ?_ ?_
      ·refine KW 10 12 (by decide) ?_ ?_
       ·refine Km [false,false,true,false,false,false,false,true,false,false,true,false,true,true] _ _ (by decide +kernel) hfin ?_
        simp -implicitDefEqProofs only[go_sem,Tr.row,splice,Jo,Ga,Gb,Gc,Gd,Jb,Ja,hil]
        refine ⟨_,_,Ke (.inl rfl) (hA _ _),?_⟩
        simp -implicitDefEqProofs only[go_sem,Tr.row,splice,Jo,Ga,Gb,Gc,Gd,Jb,Ja,hil]
        refine ⟨_,_,Jam (.inl rfl) hB,?_⟩
        simp -implicitDefEqProofs only[go_sem,Tr.row,splice,Jo,Ga,Gb,Gc,Gd,Jb,Ja,hil]
        refine ⟨by omega,?_⟩
        refine ⟨_,_,Ke (.inl rfl) (hCl _ _),?_⟩
        simp -implicitDefEqProofs only[go_sem,Tr.row,splice,Jo,Ga,Gb,Gc,Gd,Jb,Ja,hil]
        refine JI [0,1,2,7,5,6] rfl (by simp[forget,gp,J8,ren,JH,Tr.row]) ?_
        have hz:=Je (ρ:=[0,1,2,7,5,6]) hZc
        have hz2:=Je (ρ:=[0,1,2,7,5,6]) hRc
        simp only[QH,Gf,Gg,go_sem,JB,JN,J8,Kn,Kh,hz,JaB hRn,Ko hRn,hz2]
        rfl
       ·refine KV [0,1,2,3,4,5,6,7,8,9,12,10,11,13] [0,1,2,3,4,5,6,7,8,9,11,12,10,13] (by decide +kernel) ?_
        refine Km [false,false,true,false,false,false,false,true,false,false,true,true,false,true] _ _ (by decide +kernel) hfin ?_
        simp -implicitDefEqProofs only[prl,Ki,Gf,Gg,Gh,Gi,go_sem,Tr.row,splice,Jo,Ga,Gb,Gc,Gd,Jb,Ja,hil]
        refine ⟨_,_,Ke (.inl rfl) (hA _ _),?_⟩
        simp -implicitDefEqProofs only[go_sem,Tr.row,splice,Jo,Ga,Gb,Gc,Gd,Jb,Ja,hil]
        refine ⟨_,_,Jam (.inl rfl) hB,?_⟩
        simp -implicitDefEqProofs only[go_sem,Tr.row,splice,Jo,Ga,Gb,Gc,Gd,Jb,Ja,hil]
        refine ⟨by omega,?_⟩
        refine ⟨_,_,Ke (.inl rfl) (hCl _ _),?_⟩
        simp -implicitDefEqProofs only[go_sem,Tr.row,splice,Jo,Ga,Gb,Gc,Gd,Jb,Ja,hil]
        refine JI [0,1,2,6,5,7] rfl (by simp[forget,gp,J8,ren,JH,Tr.row]) ?_
        have hz:=Je (ρ:=[0,1,2,6,5,7]) hZc
        have hz2:=Je (ρ:=[0,1,2,6,5,7]) hRc
        simp only[QH,Gf,Gg,go_sem,JB,JN,J8,Kn,Kh,hz,JaB hRn,Ko hRn,hz2]
        rfl
      ·refine KV [0,1,2,3,4,5,6,12,7,8,9,10,11,13] [0,1,2,3,4,5,6,8,9,10,11,12,7,13] (by decide +kernel) ?_
       refine Km [false,false,true,false,false,false,false,true,true,false,false,true,false,true] _ _ (by decide +kernel) hfin ?_
       simp -implicitDefEqProofs only[prl,Ki,Gf,Gg,Gh,Gi,go_sem,Tr.row,splice,Jo,Ga,Gb,Gc,Gd,Jb,Ja,hil]
       refine ⟨_,_,Ke (.inl rfl) (hA _ _),?_⟩
       simp -implicitDefEqProofs only[go_sem,Tr.row,splice,Jo,Ga,Gb,Gc,Gd,Jb,Ja,hil]
       refine ⟨_,_,Jam (.inl rfl) hB,?_⟩
       simp -implicitDefEqProofs only[go_sem,Tr.row,splice,Jo,Ga,Gb,Gc,Gd,Jb,Ja,hil]
       refine ⟨by omega,?_⟩
       refine ⟨_,_,Ke (.inl rfl) (hCl _ _),?_⟩
       simp -implicitDefEqProofs only[go_sem,Tr.row,splice,Jo,Ga,Gb,Gc,Gd,Jb,Ja,hil]
       refine JI [0,1,2,5,6,7] rfl (by simp[forget,gp,J8,ren,JH,Tr.row]) ?_
       have hz:=Je (ρ:=[0,1,2,5,6,7]) hZc
       have hz2:=Je (ρ:=[0,1,2,5,6,7]) hRc
       simp only[QH,Gf,Gg,go_sem,JB,JN,J8,Kn,Kh,hz,JaB hRn,Ko hRn,hz2]
       rfl
     ·refine KV [0,1,12,2,3,4,5,6,7,8,9,10,11,13] [0,1,3,4,5,6,7,8,9,10,11,12,2,13] (by decide +kernel) ?_
      refine Km [false,false,true,true,false,false,false,false,true,false,false,true,false,true] _ _ (by decide +kernel) hfin ?_
      simp -implicitDefEqProofs only[prl,Ki,Gf,Gg,Gh,Gi,go_sem,Tr.row,splice,Jo,Ga,Gb,Gc,Gd,Jb,Ja,hil]
      refine ⟨_,_,Ke (.inl rfl) (hA _ _),?_⟩
      simp -implicitDefEqProofs only[go_sem,Tr.row,splice,Jo,Ga,Gb,Gc,Gd,Jb,Ja,hil]
      refine ⟨_,_,Jam (.inl rfl) hB,?_⟩
      simp -implicitDefEqProofs only[go_sem,Tr.row,splice,Jo,Ga,Gb,Gc,Gd,Jb,Ja,hil]
      refine ⟨by omega,?_⟩
      refine ⟨_,_,Ke (.inl rfl) (hCl _ _),?_⟩
      simp -implicitDefEqProofs only[go_sem,Tr.row,splice,Jo,Ga,Gb,Gc,Gd,Jb,Ja,hil]
      refine JI [0,1,2,4,6,7] rfl (by simp[forget,gp,J8,ren,JH,Tr.row]) ?_
      have hz:=Je (ρ:=[0,1,2,4,6,7]) hZc
      have hz2:=Je (ρ:=[0,1,2,4,6,7]) hRc
      simp only[QH,Gf,Gg,go_sem,JB,JN,J8,Kn,Kh,hz,JaB hRn,Ko hRn,hz2]
      rfl
end Go.Cm
end
end
