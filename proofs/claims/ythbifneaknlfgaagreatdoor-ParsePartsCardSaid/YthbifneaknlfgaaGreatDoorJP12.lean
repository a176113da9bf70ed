/-
  A part of the proof. Conditions: none.
-/
import Derived.Test.YthbifneaknlfgaaGreatDoorJP7
import Derived.Test.YthbifneaknlfgaaGreatDoorJP6
import Derived.Test.YthbifneaknlfgaaGreatDoorJP11
import Derived.Test.YthbifneaknlfgaaGreatDoorJPkRF
set_option linter.unusedSimpArgs false
set_option linter.unusedVariables false
open List renaming getD_eq_getElem?_getD→Ga,getElem?_eq_getElem→Gc,length_cons→Gb,getElem_mem→Gd,length_nil→Gf,take_length→Gg,drop_eq_nil_of_le→Gm,take_succ_eq_append_getElem→Gr,map_cons→Gh,take_of_length_le→Gp,map_nil→Gi,drop_eq_getElem_cons→Gs,drop_zero→Gn,take_succ_cons→Gy,mem_singleton→Gz,all_cons→Gt,all_nil→Gu,length_take→GA,mem_append→GD,take_zero→GG,any_eq_false→GL,all_eq_false→GM,cons_append→GN,all_eq_true→GQ,nil_append→GR,foldl_cons→GU
open Bool renaming and_eq_false_iff→Gq,true_and→Gj,or_eq_false_iff→GH,not_false→Gv,false_and→Gw,and_true→Gx,and_eq_true→GI,not_true→GJ,true_or→GV
open Nat renaming le_refl→Gl,zero_add→GK
noncomputable section
section
set_option maxRecDepth 100000
set_option maxHeartbeats 4000000
open Go.Proofs
namespace Go.Cm
def mD (d:List Int) (ks:List Int):Int:=ks.foldl (fun a k=>mx a (d.getD k.toNat 0)) 0
theorem mx_succ (a b:Int):mx (a+1) (b+1)=mx a b+1:=by unfold mx; split <;> split <;> omega
theorem ownD_mD (d ks:List Int):ownD d ks=mD d ks+1:=by
 have key:∀ (l:List Int) (a:Int),l.foldl (fun a k=>mx a (d.getD k.toNat 0+1)) (a+1)=l.foldl (fun a k=>mx a (d.getD k.toNat 0)) a+1:=by
  intro l
  induction l with
  |nil=>intro a; rfl
  |cons k l ih=>intro a; rw[GU,GU,mx_succ]; exact ih _
 exact key ks 0
theorem mD_rng {d:List Int}{m:Int}(h:∀ v∈d,1≤v∧v≤m) (hm:0≤m) (ks:List Int):0≤mD d ks∧mD d ks≤m:=by
 have:=JeS (m:=m) h hm ks 1 (by omega) (by omega)
 have e:=ownD_mD d ks
 unfold ownD at e
 omega
theorem refTooDeep (t:Tr) (ht:t.Fit) {o:List Int}(ho:Ju (JE t.nodes) []=some o):Fn Tryz.prog 47 [t.cv] (.bool (JaU t)):=by
 have hmany:=ht.many
 refine Jc c47_ok rfl rfl fun N=>?_
 simp -implicitDefEqProofs only[c47,go_sem,Tr.cv,Tr.row]
 refine Jk (id:=0) (z:=2) (els:=[t.row]) rfl rfl ?_
 simp only[go_sem,Kt,KR,frz,Qo]
 refine KG (I:=fun i:Nat=>i≤t.nodes.length∧∀ v∈KC ((JE t.nodes).take i) [],v≤30) (inv:=fun i=>gp [(1,.rptr t.row),(1,.slc 1 0 (iz (KC ((JE t.nodes).take i) [])).length (Jdx (iz (KC ((JE t.nodes).take i) [])))),(0,.int .i64 (i:Int))] 43)
  (hp:=fun i=>[.dead,.arr 1 (iz (KC ((JE t.nodes).take i) []))]) (μ:=fun i=>t.nodes.length-i) 0 [0,1] ⟨by omega,by simp[KC]⟩ rfl ?_ rfl ?_
 ·simp[forget,J8,ren,JH,gp,KC,iz,Jdx]
 ·rintro i ⟨hi,hall⟩
  have hdl:(KC ((JE t.nodes).take i) []).length=i:=by
   rw[Y2,GA]
   simp[JE]
   omega
  have hdk:=Jfi ((JE t.nodes).take i) [] (by intro v hv; simp at hv)
  by_cases hlt:i < t.nodes.length
  ·have hstep:=Jao (J5 hlt)
   have hbel:=Qj ho (J5 hlt)
   have hx:=ht.nodes _ (Gd hlt)
   rw[← rowg hlt]at hx
   have hln:=hdl
   clear hdl
   have hbig:∀ v∈KC ((JE t.nodes).take (i+1)) [],v∈KC (JE t.nodes) []:=by
    intro v hv
    rw[JbV (by rw[KA]; omega)]at hv
    exact List.mem_of_mem_take hv
   generalize hD:KC ((JE t.nodes).take i) []=d at hstep hln hdk hall ⊢
   have d1:((i:Int) < (t.nodes.length:Int))=True:=eq_true (by omega)
   simp -implicitDefEqProofs only[go_sem,Tr.row,Ja,d1]
   have hg:=Ka hlt
   generalize t.nodes.getD i default=x at hstep hbel hx hg ⊢
   have hkn:=hx.kidn
   have hdr:∀ v∈d,1≤v∧v≤i:=fun v hv=>by have:=hdk v hv; omega
   refine JQ (I:=fun j:Nat=>j≤x.kids.length) (inv:=fun j=>gp [(1,.rptr t.row),(1,.slc 1 0 (iz d).length (Jdx (iz d))),(0,.int .i64 (i:Int)),(0,.int .i64 (mD d (x.kids.take j))),(0,.int .i64 (j:Int))] 41)
    (hp:=fun _=>[.dead,.arr 1 (iz d)]) (μ:=fun j=>x.kids.length-j) 0 (by omega) ?_ rfl ?_
   ·simp[forget,gp,mD,Tr.row]
   ·intro j hj
    have hxl:(iz x.kids).length=x.kids.length:=Jn
    by_cases hjl:j < x.kids.length
    ·have d2:((j:Int) < (x.kids.length:Int))=True:=eq_true (by omega)
     have hmem:x.kids.getD j 0∈x.kids:=by
      rw[Ga,Gc hjl]; exact Gd hjl
     have hb:=hbel _ hmem
     have hst:mD d (x.kids.take (j+1))=mx (mD d (x.kids.take j)) (d.getD (x.kids.getD j 0).toNat 0):=by
      have hgk:x.kids.getD j 0=x.kids[j]:=by rw[Ga,Gc hjl]; rfl
      unfold mD
      rw[Gr hjl,List.foldl_append,hgk]; rfl
     have hgi:=Kb hjl
     generalize x.kids.getD j 0=k at hb hst hgi
     have hgk:=Kb (l:=d) (i:=k.toNat) (by omega)
     have hgr:=Je5 (m:=i) (fun v hv=>by have:=hdr v hv; omega) (by omega) k.toNat
     have hdz:(iz d).length=d.length:=Jn
     simp -implicitDefEqProofs only[go_sem,Tr.row,Ja,hg,Nd.cv,hxl,d2,hgi,hgk]
     refine ⟨by omega,by omega,by omega,by omega,by omega,Jm (by omega) (by omega),j+1,by omega,by omega,?_⟩
     rw[hst]
     simp[forget,mx]
    ·have hje:j=x.kids.length:=by omega
     subst hje
     have d2:((x.kids.length:Int) < (x.kids.length:Int))=False:=eq_false (by omega)
     rw[Gg]
     have hmr:=mD_rng hdr (by omega) x.kids
     have hdz:(iz d).length=d.length:=Jn
     rw[ownD_mD]at hstep
     have hz:iz (d++[mD d x.kids+1])=iz d++[[.int .i64 (mD d x.kids+1)]]:=YS
     have hcl:=JX (d++[mD d x.kids+1])
     generalize mD d x.kids=v at hstep hmr hz hcl ⊢
     by_cases hv:30 < v+1
     ·have d3:((30:Int) < v+1)=True:=eq_true hv
      have hB:JaU t=true:=by
       rw[JaU,List.any_eq_true]
       exact ⟨v+1,hbig _ (by rw[hstep]; simp),by simpa using hv⟩
      simp -implicitDefEqProofs only[go_sem,Tr.row,Ja,hg,Nd.cv,hxl,d2,d3,Jo,hB]
      repeat' apply And.intro
      all_goals first | omega | exact Jm (by omega) (by omega)
     ·have d3:((30:Int) < v+1)=False:=eq_false hv
      simp -implicitDefEqProofs only[go_sem,Tr.row,Ja,hg,Nd.cv,hxl,d2,d3,Jo]
      refine ⟨by omega,Jm (by omega) (by omega),by omega,Jm (by omega) (by omega),Jm (by omega) (by omega),i+1,[0,3],⟨by omega,?_⟩,by omega,rfl,?_,?_⟩
      ·rw[hstep]
       intro u hu
       rcases GD.1 hu with hu | hu
       ·exact hall u hu
       ·rw[Gz.1 hu]; omega
      ·rw[hstep]
       have hc:=Je (ρ:=[0,3]) hcl
       simp only[QH,Gh,Gi,go_sem,JB]
       rw[hz]at hc ⊢
       rw[hc]
       rfl
      ·rw[hstep,hz,JcE]
       simp[forget,J8,ren,JH,Jn,Tr.row]
  ·have hie:i=t.nodes.length:=by omega
   subst hie
   have d1:((t.nodes.length:Int) < (t.nodes.length:Int))=False:=eq_false (by omega)
   have hB:JaU t=false:=by
    rw[JaU,← Gp (l:=JE t.nodes) (i:=t.nodes.length) (by simp[JE]),GL]
    intro v hv
    have:=hall v hv
    simp; omega
   rw[hB]
   simp -implicitDefEqProofs only[go_sem,Tr.row,Ja,d1]
theorem Y9 {t:Tr}(h1:¬ (700 < t.nodes.length∨20 < t.items.length)) (h2:frm t=false):chk t=4:=by
 unfold chk; rw[if_neg h1,if_neg (by rw[h2]; simp)]
theorem frm_none {t:Tr}(h:Ju (JE t.nodes) []=none):frm t=false:=by unfold frm; rw[h]
theorem frm_kid {t:Tr}{i:Nat}(hi:i < t.nodes.length) {k:Int}(hk:k∈(t.nodes.getD i default).kids) (hb:¬ (0≤k∧k < i)):frm t=false:=by
 cases h:Ju (JE t.nodes) []with
 |none=>exact frm_none h
 |some o=>exact absurd (Qj h (J5 hi) k hk) hb
theorem frm_nd {t:Tr}{i:Nat}(hi:i < t.nodes.length) (hb:ndI t.nodes (t.nodes.getD i default)=false):frm t=false:=by
 unfold frm
 cases h:Ju (JE t.nodes) []with
 |none=>rfl
 |some o=>
  simp only[Gq]
  right
  rw[GM]
  refine ⟨t.nodes.getD i default,?_,by rw[hb]; simp⟩
  rw[Ga,Gc hi]; exact Gd hi
theorem step_ord {K:List (List Int)}{i:Nat}{o ks:List Int}(ho:Ju (K.take i) []=some o) (hk:K[i]? = some ks) :
  (Ju (K.take (i+1)) []=none∧(JdI (fs o) ks.reverse i).2=false)∨(∃ f,Ju (K.take (i+1)) []=some (o++[f])∧(JdI (fs o) ks.reverse i).2=true):=by
 obtain ⟨h1,h2⟩:=YY ho hk
 have hok:=KI _ _ _ Ql.nil ho
 have h3:=Jd1 (fst:=fs o) hok (fun k _ _=>rfl) ks.reverse ((o.length:Int)-1) (by omega)
 rw[h1]
 unfold JbC
 have e:((o.length:Int)-1+1)=(i:Int):=by omega
 rw[e]at h3
 cases h4:K5 o ks.reverse ((o.length:Int)-1) with
 |none=>rw[h4]at h3; exact .inl ⟨rfl,h3⟩
 |some b=>rw[h4]at h3; simp only at h3; exact .inr ⟨b+1,rfl,by rw[h3]⟩
theorem ndI_R (l:List Nd) (x:Nd):ndI l x=(Ky x.k x.n (lets l x) && KZ (Jci x.text) x.k x.text x.n x.pl && Kz x.k x.n (lets l x)):=by
 unfold ndI; rw[node_eq]; rfl
theorem JeO (t:Tr) (ht:t.Fit):Fn Tryz.prog 12 [t.cv] (.int .i64 (chk t)):=by
 have hmany:=ht.many
 have hitems:=ht.items
 refine Jc c12_ok rfl rfl fun N=>?_
 simp -implicitDefEqProofs only[c12,go_sem,Tr.cv,Tr.row]
 refine Jk (id:=0) (z:=2) (els:=[t.row]) rfl rfl ?_
 simp only[go_sem,Kt,KR,frz,Qo,Tr.row]
 refine JZ (Jbg t) ?_
 by_cases h1:700 < t.nodes.length∨20 < t.items.length
 ·have hc:chk t=5:=by unfold chk; rw[if_pos h1]
  rw[decide_eq_false (not_not_intro h1),hc]
  simp -implicitDefEqProofs only[go_sem]
 ·rw[decide_eq_true h1]
  simp -implicitDefEqProofs only[go_sem]
  refine JQ (I:=fun i:Nat=>i≤t.nodes.length∧∀ j,j < i→∀ k∈(t.nodes.getD j default).kids,0≤k∧k < j) (inv:=fun i=>gp [(1,.rptr t.row),(1,.int .i64 (i:Int))] 123) (hp:=fun _=>[.dead]) (μ:=fun i=>t.nodes.length-i) 0 ⟨by omega,by omega⟩ ?_ rfl ?_
  ·simp[forget,gp,Tr.row]
  ·rintro i ⟨hi,hkids⟩
   by_cases hlt:i < t.nodes.length
   ·have d1:((i:Int) < (t.nodes.length:Int))=True:=eq_true (by omega)
    have hx:=ht.nodes _ (Gd hlt)
    rw[← rowg hlt]at hx
    have hg:=Ka hlt
    have hfk:=fun {k:Int} (hk:k∈(t.nodes.getD i default).kids) (hb:¬ (0≤k∧k < i))=>frm_kid hlt hk hb
    have hsucc:(∀ k∈(t.nodes.getD i default).kids,0≤k∧k < i)→∀ j,j < i+1→∀ k∈(t.nodes.getD j default).kids,0≤k∧k < j:=by
     intro h j hj
     by_cases e:j=i
     ·subst e; exact h
     ·exact hkids j (by omega)
    generalize t.nodes.getD i default=x at hx hg hfk hsucc
    have hkn:=hx.kidn
    have hxl:(iz x.kids).length=x.kids.length:=Jn
    simp -implicitDefEqProofs only[go_sem,Tr.row,Ja,d1]
    refine JQ (I:=fun j:Nat=>j≤x.kids.length∧∀ k∈x.kids.take j,0≤k∧k < i) (inv:=fun j=>gp [(1,.rptr t.row),(1,.int .i64 (i:Int)),(0,.int .i64 (j:Int))] 122) (hp:=fun _=>[.dead]) (μ:=fun j=>x.kids.length-j) 0 ⟨by omega,by simp⟩ ?_ rfl ?_
    ·simp[forget,gp,Tr.row]
    ·rintro j ⟨hj,hkj⟩
     by_cases hjl:j < x.kids.length
     ·have d2:((j:Int) < (x.kids.length:Int))=True:=eq_true (by omega)
      have hgi:=Kb hjl
      have hmem:x.kids.getD j 0∈x.kids:=by
       rw[Ga,Gc hjl]; exact Gd hjl
      have hts:x.kids.take (j+1)=x.kids.take j++[x.kids.getD j 0]:=by
       rw[Gr hjl,Ga,Gc hjl]; rfl
      generalize x.kids.getD j 0=k at hgi hmem hts
      simp -implicitDefEqProofs only[go_sem,Tr.row,Ja,hg,Nd.cv,hxl,d2,hgi]
      refine ⟨by omega,by omega,by omega,Jm (by omega) (by omega),?_⟩
      refine JZ (Jaw k 0 ((i:Int)-1)) ?_
      cases hin:inI 0 ((i:Int)-1) k with
      |true=>
       simp only[inI,GI,decide_eq_true_eq]at hin
       simp -implicitDefEqProofs only[go_sem]
       refine ⟨Jm (by omega) (by omega),j+1,⟨by omega,?_⟩,by omega,?_⟩
       ·rw[hts]
        intro u hu
        rcases GD.1 hu with hu | hu
        ·exact hkj u hu
        ·rw[Gz.1 hu]; omega
       ·simp[forget]
      |false=>
       have hb:¬ (0≤k∧k < i):=by
        simp only[inI,Gq,decide_eq_false_iff_not]at hin
        omega
       rw[Y9 h1 (hfk hmem hb)]
       simp -implicitDefEqProofs only[go_sem]
     ·have hje:j=x.kids.length:=by omega
      subst hje
      rw[Gg]at hkj
      have d2:((x.kids.length:Int) < (x.kids.length:Int))=False:=eq_false (by omega)
      simp -implicitDefEqProofs only[go_sem,Tr.row,Ja,hg,Nd.cv,hxl,d2]
      refine ⟨by omega,Jm (by omega) (by omega),i+1,⟨by omega,hsucc hkj⟩,by omega,?_⟩
      simp[forget]
   ·have hie:i=t.nodes.length:=by omega
    subst hie
    have d1:((t.nodes.length:Int) < (t.nodes.length:Int))=False:=eq_false (by omega)
    simp -implicitDefEqProofs only[go_sem,Tr.row,Ja,d1]
    refine JQ (I:=fun i:Nat=>i≤t.nodes.length∧(∃ o,Ju ((JE t.nodes).take i) []=some o)∧∀ j,j < i→ndI t.nodes (t.nodes.getD j default)=true) (inv:=fun i=>gp [(1,.rptr t.row),(3,.int .i64 (i:Int))] 121) (hp:=fun _=>[.dead]) (μ:=fun i=>t.nodes.length-i) 0 ⟨by omega,⟨[],by simp[Ju]⟩,by omega⟩ ?_ rfl ?_
    ·simp[forget,gp,Tr.row]
    ·rintro i ⟨hi,⟨o,ho⟩,hnd⟩
     by_cases hlt:i < t.nodes.length
     ·have d1:((i:Int) < (t.nodes.length:Int))=True:=eq_true (by omega)
      have hx:=ht.nodes _ (Gd hlt)
      rw[← rowg hlt]at hx
      have hg:=Ka hlt
      have hki:=J5 hlt
      have hkk:=hkids i hlt
      have hnf:=fun hb=>frm_nd hlt hb
      have hnR:=ndI_R t.nodes (t.nodes.getD i default)
      have hS:=refSized t i hlt hmany hx (fun y hy=>(ht.nodes y hy).k) (fun k hk=>by have:=hkk k hk; omega)
      have hstep:=step_ord ho hki
      have hsn:ndI t.nodes (t.nodes.getD i default)=true→∀ j,j < i+1→ndI t.nodes (t.nodes.getD j default)=true:=by
       intro h j hj
       by_cases e:j=i
       ·subst e; exact h
       ·exact hnd j (by omega)
      generalize t.nodes.getD i default=x at hx hg hki hkk hnf hnR hS hstep hsn
      have hO:=JdZ t ho hi hmany x.kids (by have:=hx.kidn; omega) i (Gl _)
      have hKi:=refKin t x hx hmany (fun y hy=>(ht.nodes y hy).k) (fun k hk=>by have:=hkk k hk; omega)
      have hF:=refFields x (kindR x.text) (Jci x.text) (kindR_name x.text) (refKind x.text (by have:=hx.text; omega))
      simp -implicitDefEqProofs only[go_sem,Tr.row,Ja,d1]
      refine JS JF (by decide) ?_
      simp -implicitDefEqProofs only[go_sem,Tr.row,Ja,hg]
      refine ⟨by omega,?_⟩
      simp -implicitDefEqProofs only[go_sem,Nd.cv]
      refine YA (.inl rfl) hO ?_
      simp -implicitDefEqProofs only[go_sem]
      refine JS JF (by decide) ?_
      rcases hstep with ⟨s1,s2⟩ | ⟨f,s1,s2⟩
      ·simp -implicitDefEqProofs only[go_sem,s2]
       rw[Y9 h1 (frm_none (Jb9 s1))]
      ·simp -implicitDefEqProofs only[go_sem,Tr.row,Ja,s2,hg]
       refine ⟨by omega,?_⟩
       refine ⟨by simp[Nd.cv],?_⟩
       refine YA (gok rfl) hKi ?_
       cases b1:Ky x.k x.n (lets t.nodes x) with
       |false=>
        rw[b1,Gw,Gw]at hnR
        simp -implicitDefEqProofs only[go_sem]
        rw[Y9 h1 (hnf hnR)]
       |true=>
        simp -implicitDefEqProofs only[go_sem,Tr.row,Ja,hg]
        refine ⟨by omega,by simp[Nd.cv],?_⟩
        refine YA (gok rfl) hF ?_
        cases b2:KZ (Jci x.text) x.k x.text x.n x.pl with
        |false=>
         rw[b1,b2,Gj,Gw]at hnR
         simp -implicitDefEqProofs only[go_sem]
         rw[Y9 h1 (hnf hnR)]
        |true=>
         simp -implicitDefEqProofs only[go_sem,Tr.row,Ja,hg]
         refine YA (gok rfl) hS ?_
         cases b3:Kz x.k x.n (lets t.nodes x) with
         |false=>
          rw[b1,b2,b3,Gj,Gj]at hnR
          simp -implicitDefEqProofs only[go_sem]
          rw[Y9 h1 (hnf hnR)]
         |true=>
          rw[b1,b2,b3,Gj,Gj]at hnR
          simp -implicitDefEqProofs only[go_sem]
          refine ⟨Jm (by omega) (by omega),i+1,⟨by omega,⟨_,s1⟩,hsn hnR⟩,by omega,?_⟩
          simp[forget,Tr.row]
     ·have hie:i=t.nodes.length:=by omega
      subst hie
      have d1:((t.nodes.length:Int) < (t.nodes.length:Int))=False:=eq_false (by omega)
      have ho2:Ju (JE t.nodes) []=some o:=by
       rw[← Gp (l:=JE t.nodes) (i:=t.nodes.length) (by simp[JE])]; exact ho
      have hok:=KI _ _ _ Ql.nil ho2
      have hol:=KS _ _ _ ho2
      simp only[Gf,GK,KA]at hol
      have hO:=JdZ t ho (Gl _) hmany t.items (by omega) t.nodes.length (Gl _)
      have hie2:=items_eq (fst:=fs o) (isD:=fun i=>Jj t.nodes i == 65) hok hol (fun k _ _=>rfl) t.items
      have hall:t.nodes.all (ndI t.nodes)=true:=by
       rw[GQ]
       intro y hy
       obtain ⟨j,hj⟩:=List.getElem?_of_mem hy
       have hjl:=(List.getElem?_eq_some_iff.1 hj).1
       have:=hnd j hjl
       rw[Ga,hj]at this
       exact this
      have hfrm:frm t=XK o (fun i=>Jj t.nodes i == 65) t.nodes.length t.items 0:=by
       unfold frm; rw[ho2]; simp only[hall,Gx]
      simp -implicitDefEqProofs only[go_sem,Tr.row,Ja,d1]
      refine JZ hO ?_
      simp -implicitDefEqProofs only[go_sem]
      cases b1:(JdI (fs o) t.items.reverse t.nodes.length).2 with
      |false=>
       rw[Y9 h1 (by rw[hfrm,hie2,decide_eq_false (fun h=>by rw[h]at b1; cases b1)]; rfl)]
       simp -implicitDefEqProofs only[go_sem]
      |true=>
       by_cases b2:(JdI (fs o) t.items.reverse t.nodes.length).1=0
       ·have e2:((JdI (fs o) t.items.reverse t.nodes.length).1 != 0)=false:=by simp[b2]
        have hor:JdI (fs o) t.items.reverse t.nodes.length=(0,true):=Prod.ext b2 b1
        rw[hor,decide_eq_true rfl,Gj]at hie2
        simp -implicitDefEqProofs only[go_sem,e2]
        have hch:=(JbK hok hol (fst:=fs o) (fun k _ _=>rfl) t.items.reverse t.nodes.length (by omega) (by omega)).1 hor
        rw[List.reverse_reverse]at hch
        have hmem:=fun i hi=>QR hok rfl t.items 0 t.nodes.length (by rw[hol]; exact hch) i hi
        refine JQ (I:=fun i:Nat=>i≤t.items.length∧∀ k∈t.items.take i,(Jj t.nodes k == 65)=true) (inv:=fun i=>gp [(1,.rptr t.row),(8,.int .i64 (i:Int))] 116) (hp:=fun _=>[.dead]) (μ:=fun i=>t.items.length-i) 0 ⟨by omega,by simp⟩ ?_ rfl ?_
        ·simp[forget,gp,Tr.row]
        ·rintro i ⟨hi,hdk⟩
         have hil:(iz t.items).length=t.items.length:=Jn
         by_cases hlt:i < t.items.length
         ·have d2:((i:Int) < (t.items.length:Int))=True:=eq_true (by omega)
          have hgi:=Kb hlt
          have hm2:t.items.getD i 0∈t.items:=by
           rw[Ga,Gc hlt]; exact Gd hlt
          have hts:t.items.take (i+1)=t.items.take i++[t.items.getD i 0]:=by
           rw[Gr hlt,Ga,Gc hlt]; rfl
          generalize t.items.getD i 0=k at hgi hm2 hts
          have hkr:=hmem k hm2
          have hgk:=Ka (l:=t.nodes) (i:=k.toNat) (by omega)
          have hkk:Jj t.nodes k=(t.nodes.getD k.toNat default).k:=rfl
          generalize t.nodes.getD k.toNat default=x at hgk hkk
          simp -implicitDefEqProofs only[go_sem,Tr.row,Ja,hil,d2]
          refine JS JF (by decide) ?_
          simp -implicitDefEqProofs only[go_sem,Tr.row,Ja,hil,hgi]
          refine ⟨by omega,?_⟩
          simp -implicitDefEqProofs only[go_sem,Tr.row,Ja,hil,hgk,Nd.cv]
          refine ⟨by omega,?_⟩
          have q65:=nateq 65 x.k
          simp only[Int.cast_ofNat_Int]at q65
          cases b3:(x.k == 65) with
          |true=>
           have e3:((x.k:Int) != 65)=false:=by rw[bne,q65,b3]; rfl
           simp -implicitDefEqProofs only[go_sem,e3]
           refine ⟨Jm (by omega) (by omega),i+1,⟨by omega,?_⟩,by omega,?_⟩
           ·rw[hts]
            intro u hu
            rcases GD.1 hu with hu | hu
            ·exact hdk u hu
            ·rw[Gz.1 hu,hkk]; exact b3
           ·simp[forget]
          |false=>
           have e3:((x.k:Int) != 65)=true:=by rw[bne,q65,b3]; rfl
           have hf:frm t=false:=by
            rw[hfrm,hie2,GM]
            exact ⟨k,hm2,by rw[hkk,b3]; simp⟩
           rw[Y9 h1 hf]
           simp -implicitDefEqProofs only[go_sem,e3]
         ·have hie:i=t.items.length:=by omega
          subst hie
          rw[Gg]at hdk
          have d2:((t.items.length:Int) < (t.items.length:Int))=False:=eq_false (by omega)
          have hf:frm t=true:=by
           rw[hfrm,hie2,GQ]; exact hdk
          have hc:chk t=if JaU t=true then 5 else 0:=by unfold chk; rw[if_neg h1,if_pos hf]
          rw[hc]
          simp -implicitDefEqProofs only[go_sem,Tr.row,Ja,hil,d2]
          refine JZ (refTooDeep t ht ho2) ?_
          cases b4:JaU t with
          |true=>simp -implicitDefEqProofs only[go_sem]
          |false=>simp -implicitDefEqProofs only[go_sem]
       ·have e2:((JdI (fs o) t.items.reverse t.nodes.length).1 != 0)=true:=by simp[b2]
        rw[Y9 h1 (by rw[hfrm,hie2,decide_eq_false (fun h=>by rw[h]at b2; exact b2 rfl)]; rfl)]
        simp -implicitDefEqProofs only[go_sem,e2]
theorem Kw {α:Type}{l:List α}{i:Nat}{d:α}(h:i < l.length):l.take (i+1)=l.take i++[l.getD i d]:=by
 rw[Gr h,Ga,Gc h]; rfl
theorem Jc1 (a b:List Int) (ha:a.length≤100000):Fn Tryz.prog 71 [.rslc 1 (iz a) none,.rslc 1 (iz b) none] (.bool (a == b)):=by
 have hal:(iz a).length=a.length:=Jn
 have hbl:(iz b).length=b.length:=Jn
 refine Jc c71_ok rfl rfl fun N=>?_
 by_cases hl:a.length=b.length
 ·have e1:((a.length:Int) != (b.length:Int))=false:=by simp[hl]
  simp -implicitDefEqProofs only[c71,go_sem,hal,hbl,e1]
  refine JQ (I:=fun i:Nat=>i≤a.length∧a.take i=b.take i) (inv:=fun i=>gp [(0,.rslc 1 (iz a) none),(0,.rslc 1 (iz b) none),(3,.int .i64 (i:Int))] 20) (hp:=fun _=>[]) (μ:=fun i=>a.length-i) 0 ⟨by omega,by simp⟩ ?_ rfl ?_
  ·simp[forget,gp]
  ·rintro i ⟨hi,hinv⟩
   by_cases hlt:i < a.length
   ·have d1:((i:Int) < (a.length:Int))=True:=eq_true (by omega)
    have hga:=Kb hlt
    have hgb:=Kb (l:=b) (i:=i) (by omega)
    have hta:=Kw (d:=0) hlt
    have htb:=Kw (l:=b) (i:=i) (d:=0) (by omega)
    simp -implicitDefEqProofs only[go_sem,hal,hbl,d1]
    refine JS JF (by decide) ?_
    simp -implicitDefEqProofs only[go_sem,hal,hbl,hga,hgb]
    refine ⟨by omega,by omega,?_⟩
    by_cases he:a.getD i 0=b.getD i 0
    ·have e2:(a.getD i 0 != b.getD i 0)=false:=by rw[he]; simp
     simp -implicitDefEqProofs only[go_sem,e2]
     refine ⟨Jm (by omega) (by omega),i+1,⟨by omega,by rw[hta,htb,hinv,he]⟩,by omega,?_⟩
     simp[forget]
    ·have e2:(a.getD i 0 != b.getD i 0)=true:=by simpa using he
     have hne:(a == b)=false:=by
      rw[beq_eq_false_iff_ne]; rintro rfl; exact he rfl
     simp -implicitDefEqProofs only[go_sem,e2,hne]
   ·have d1:((i:Int) < (a.length:Int))=False:=eq_false (by omega)
    have he:(a == b)=true:=by
     rw[beq_iff_eq]
     have h1:i=a.length:=by omega
     rw[h1,Gg,Gp (by omega)]at hinv
     exact hinv
    simp -implicitDefEqProofs only[go_sem,hal,hbl,d1,he]
 ·have e1:((a.length:Int) != (b.length:Int))=true:=by simp; omega
  have hne:(a == b)=false:=by
   rw[beq_eq_false_iff_ne]; rintro rfl; exact hl rfl
  simp -implicitDefEqProofs only[c71,go_sem,hal,hbl,e1,hne]
def Jce (x y:Nd):Bool:=x.k == y.k && x.text == y.text && x.n == y.n && x.kids == y.kids
theorem sameN_self (x:Nd):Jce x x=true:=by simp[Jce]
def QT:List Nd→List Nd→Bool
 |[],[]=>true
 |x::l,y::m=>Jce x y && QT l m
 |_,_=>false
theorem JbE:∀ l:List Nd,QT l l=true
 |[]=>rfl
 |x::l=>by simp[QT,sameN_self,JbE l]
theorem JcT:∀ {l m:List Nd},QT l m=true→l.length=m.length
 |[],[],_=>rfl
 |x::l,y::m,h=>by simp[QT]at h; simp[JcT h.2]
 |[],_::_,h=>by simp[QT]at h
 |_::_,[],h=>by simp[QT]at h
theorem JdV {l m:List Nd}{i:Nat}(hi:i < l.length) (hm:i < m.length):QT (l.drop i) (m.drop i)=(Jce (l.getD i default) (m.getD i default) && QT (l.drop (i+1)) (m.drop (i+1))):=by
 rw[Gs hi,Gs hm,QT]
 simp[Ga,hi,hm]
def Xi (a b:Tr):Bool:=a.items == b.items && QT a.nodes b.nodes
theorem JeN (a b:Tr) (ha:a.Fit) (hb:b.Fit):Fn Tryz.prog 29 [a.cv,b.cv] (.bool (Xi a b)):=by
 have hal:=ha.many
 have hail:=ha.items
 refine Jc c29_ok rfl rfl fun N=>?_
 by_cases hl:a.nodes.length=b.nodes.length
 ·have e1:((a.nodes.length:Int) != (b.nodes.length:Int))=false:=by simp[hl]
  simp -implicitDefEqProofs only[c29,go_sem,Tr.cv,Tr.row,Ja,e1]
  refine Jk (id:=0) (z:=2) (els:=[a.row]) rfl rfl ?_
  simp only[go_sem,Kt,KR,frz,Qo]
  refine Jk (id:=1) (z:=2) (els:=[b.row]) rfl rfl ?_
  simp only[go_sem,Kt,KR,frz,Qo,Tr.row,Ja]
  refine JO (gok rfl) (Jc1 a.items b.items (by omega)) ?_
  cases h2:(a.items == b.items) with
  |false=>
   have hs:Xi a b=false:=by unfold Xi; rw[h2]; rfl
   simp -implicitDefEqProofs only[go_sem,hs]
  |true=>
   have hs:Xi a b=QT a.nodes b.nodes:=by unfold Xi; rw[h2]; rfl
   rw[hs]
   simp -implicitDefEqProofs only[go_sem]
   refine KG (I:=fun i:Nat=>i≤a.nodes.length∧QT a.nodes b.nodes=QT (a.nodes.drop i) (b.nodes.drop i)) (inv:=fun i=>gp [(2,.rptr a.row),(0,.rptr b.row),(1,.int .i64 (i:Int))] 61) (hp:=fun _=>[.dead,.dead]) (μ:=fun i=>a.nodes.length-i) 0 [0,1] ⟨by omega,rfl⟩ rfl ?_ rfl ?_
   ·simp[forget,gp,J8,ren,JH,Tr.row]
   ·rintro i ⟨hi,hinv⟩
    by_cases hlt:i < a.nodes.length
    ·have d1:((i:Int) < (a.nodes.length:Int))=True:=eq_true (by omega)
     have hga:=Ka hlt
     have hgb:=Ka (l:=b.nodes) (i:=i) (by omega)
     have hx:=ha.nodes _ (Gd hlt)
     rw[← rowg hlt]at hx
     rw[JdV hlt (by omega)]at hinv
     generalize a.nodes.getD i default=x at hga hx hinv
     generalize b.nodes.getD i default=y at hgb hinv
     simp -implicitDefEqProofs only[go_sem,Tr.row,Ja,d1]
     refine JeD 10 11 [false,false,false,false,false,false,false,false,false,false,true,true,true,true] [false,false,false,false,false,false,false,false,false,false,true,true,true,true] (gp [(2,.rptr a.row),(0,.rptr b.row),(1,.int .i64 (i:Int)),(0,.ptr 2 0 0),(0,.ptr 3 0 0)] 59) [.dead,.dead,.arr 5 [x.cv],.arr 5 [y.cv]] JF (by decide +kernel) ?_ ?_ ?_
     ·simp -implicitDefEqProofs only[go_sem,Tr.row,Ja,hga,hgb,Nd.cv,splice]
      exact ⟨by omega,by omega,JI [0,1,2,3] rfl (by simp[forget,J8,ren,JH]) (by simp only[QH,Gh,Gi,go_sem,JB,JN]; rfl)⟩
     ·simp -implicitDefEqProofs only[swl,swi,Ki,List.range,List.range.loop,Gb,Gf,Gh,Gi,List.getD_cons_zero,List.getD_cons_succ,go_sem,Tr.row,Ja,hga,hgb,Nd.cv,splice]
      exact ⟨by omega,by omega,JI [0,1,3,2] rfl (by simp[forget,J8,ren,JH]) (by simp only[QH,Gh,Gi,go_sem,JB,JN]; rfl)⟩
     ·have hkx:=hx.kidn
      have hK:=Jc1 x.kids y.kids (by omega)
      obtain ⟨k1,t1,n1,ks1,p1⟩:=x
      obtain ⟨k2,t2,n2,ks2,p2⟩:=y
      simp only[gp,List.replicate]
      dsimp only at hK hinv
      have c1:((k1:Int) != (k2:Int)) = !(k1 == k2):=by
       rw[bne]; congr 1; rw[Bool.eq_iff_iff,beq_iff_eq,beq_iff_eq]; omega
      cases b1:(k1 == k2) with
      |false=>
       rw[b1]at c1
       have hR:QT a.nodes b.nodes=false:=by rw[hinv]; simp[Jce,b1]
       simp -implicitDefEqProofs only[go_sem,Nd.cv,c1,hR,Gv]
      |true=>
       rw[b1]at c1
       cases b2:(t1 == t2) with
       |false=>
        have hR:QT a.nodes b.nodes=false:=by rw[hinv]; simp[Jce,b2]
        simp -implicitDefEqProofs only[go_sem,Nd.cv,c1,b2,hR,GJ,Gv]
       |true=>
        cases b3:(n1 == n2) with
        |false=>
         have e3:(n1 != n2)=true:=by rw[bne,b3]; rfl
         have hR:QT a.nodes b.nodes=false:=by rw[hinv]; simp[Jce,b3]
         simp -implicitDefEqProofs only[go_sem,Nd.cv,c1,b2,e3,hR,GJ,Gv]
        |true=>
         have e3:(n1 != n2)=false:=by rw[bne,b3]; rfl
         simp -implicitDefEqProofs only[go_sem,Nd.cv,c1,b2,e3,GJ,Gv]
         refine JO (gok rfl) hK ?_
         cases b4:(ks1 == ks2) with
         |false=>
          have hR:QT a.nodes b.nodes=false:=by rw[hinv]; simp[Jce,b4]
          simp -implicitDefEqProofs only[go_sem,hR]
         |true=>
          have hR:QT a.nodes b.nodes=QT (a.nodes.drop (i+1)) (b.nodes.drop (i+1)):=by rw[hinv]; simp only[Jce,b1,b2,b3,b4,Gj]
          simp -implicitDefEqProofs only[go_sem]
          refine ⟨Jm (by omega) (by omega),i+1,[0,1],⟨by omega,hR⟩,by omega,rfl,?_,?_⟩
          ·simp only[QH,Gh,Gi,go_sem,JN]
          ·simp[forget,J8,ren,JH,Tr.row]
    ·have hie:i=a.nodes.length:=by omega
     have d1:((i:Int) < (a.nodes.length:Int))=False:=eq_false (by omega)
     have hR:QT a.nodes b.nodes=true:=by
      rw[hinv,Gm (by omega),Gm (by omega)]; rfl
     simp -implicitDefEqProofs only[go_sem,Tr.row,Ja,d1,hR]
 ·have e1:((a.nodes.length:Int) != (b.nodes.length:Int))=true:=by simp; omega
  have hs:Xi a b=false:=by
   unfold Xi
   cases h:QT a.nodes b.nodes with
   |false=>simp
   |true=>exact absurd (JcT h) hl
  simp -implicitDefEqProofs only[c29,go_sem,Tr.cv,Tr.row,Ja,e1,hs]
theorem XG (a:Tr) (ha:a.Fit):Fn Tryz.prog 13 [a.cv,a.cv] (.bool true):=by
 have hal:=ha.many
 have hS:=JeN a a ha ha
 rw[show Xi a a=true by simp[Xi,JbE]]at hS
 refine Jc c13_ok rfl rfl fun N=>?_
 simp -implicitDefEqProofs only[c13,go_sem,Tr.cv,Tr.row]
 refine Jk (id:=0) (z:=2) (els:=[a.row]) rfl rfl ?_
 simp only[go_sem,Kt,KR,frz,Qo]
 refine Jk (id:=1) (z:=2) (els:=[a.row]) rfl rfl ?_
 simp only[go_sem,Kt,KR,frz,Qo,Tr.row]
 refine JZ hS ?_
 simp -implicitDefEqProofs only[go_sem]
 refine JQ (I:=fun i:Nat=>i≤a.nodes.length) (inv:=fun i=>gp [(2,.rptr a.row),(0,.rptr a.row),(1,.int .i64 (i:Int))] 24) (hp:=fun _=>[.dead,.dead]) (μ:=fun i=>a.nodes.length-i) 0 (by omega) ?_ rfl ?_
 ·simp[forget,gp,Tr.row]
 ·intro i hi
  by_cases hlt:i < a.nodes.length
  ·have d1:((i:Int) < (a.nodes.length:Int))=True:=eq_true (by omega)
   have hga:=Ka hlt
   generalize a.nodes.getD i default=x at hga
   have e:(x.pl != x.pl)=false:=by simp
   simp -implicitDefEqProofs only[go_sem,Tr.row,Ja,d1]
   refine JS JF (by decide) ?_
   simp -implicitDefEqProofs only[go_sem,Tr.row,Ja,hga,Nd.cv,e]
   refine ⟨by omega,by omega,Jm (by omega) (by omega),i+1,by omega,by omega,?_⟩
   simp[forget,Tr.row]
  ·have d1:((i:Int) < (a.nodes.length:Int))=False:=eq_false (by omega)
   simp -implicitDefEqProofs only[go_sem,Tr.row,Ja,d1]
def JcN (x:Nd):Bool:=decide (30 < x.kids.length) || decide (60 < x.text.length)
def vastH (t:Tr):Bool:=(decide (250 < t.nodes.length) && decide (t.nodes.length≤700)) || decide (1400 < t.nodes.length) || decide (40 < t.items.length)
def Jav (t:Tr):Bool:=vastH t || t.nodes.any JcN
theorem JbR (t:Tr):Fn Tryz.prog 7 [t.cv] (.bool (Jav t)):=by
 refine Jc c7_ok rfl rfl fun N=>?_
 have hil:(iz t.items).length=t.items.length:=Jn
 cases hH:vastH t with
 |true=>
  have hv:Jav t=true:=by unfold Jav; rw[hH]; rfl
  rw[hv]
  unfold vastH at hH
  have e1:((250:Int) < (t.nodes.length:Int))=(250 < t.nodes.length):=propext (by omega)
  have e2:((t.nodes.length:Int)≤700)=(t.nodes.length≤700):=propext (by omega)
  have e3:((1400:Int) < (t.nodes.length:Int))=(1400 < t.nodes.length):=propext (by omega)
  have e4:((40:Int) < (t.items.length:Int))=(40 < t.items.length):=propext (by omega)
  by_cases g1:250 < t.nodes.length <;> by_cases g2:t.nodes.length≤700 <;> by_cases g3:1400 < t.nodes.length <;> by_cases g4:40 < t.items.length <;> first | (exfalso; omega) | (exfalso; simp[g1,g2,g3,g4]at hH; done) | (simp -implicitDefEqProofs only[c7,go_sem,Tr.cv,Tr.row,Ja,hil,e1,e2,e3,e4,g1,g2,g3,g4])
 |false=>
  unfold vastH at hH
  simp only[GH,Gq,decide_eq_false_iff_not]at hH
  obtain ⟨⟨h1,h2⟩,h3⟩:=hH
  have e3:((1400:Int) < (t.nodes.length:Int))=False:=eq_false (by omega)
  have e4:((40:Int) < (t.items.length:Int))=False:=eq_false (by omega)
  have hv:Jav t=t.nodes.any JcN:=by
   unfold Jav vastH
   have:(decide (250 < t.nodes.length) && decide (t.nodes.length≤700))=false:=by
    simp only[Gq,decide_eq_false_iff_not]; exact h1
   rw[this,decide_eq_false h2,decide_eq_false h3]; rfl
  rw[hv]
  by_cases g1:250 < t.nodes.length
  case' pos=>
   have e1:((250:Int) < (t.nodes.length:Int))=True:=eq_true (by omega)
   have e2:((t.nodes.length:Int)≤700)=False:=eq_false (by omega)
   simp -implicitDefEqProofs only[c7,go_sem,Tr.cv,Tr.row,Ja,hil,e1,e2,e3,e4]
  case' neg=>
   have e1:((250:Int) < (t.nodes.length:Int))=False:=eq_false (by omega)
   simp -implicitDefEqProofs only[c7,go_sem,Tr.cv,Tr.row,Ja,hil,e1,e3,e4]
  all_goals (
   refine Jk (id:=0) (z:=2) (els:=[t.row]) rfl rfl ?_
   simp only[go_sem,Kt,KR,frz,Qo,Tr.row]
   refine JQ (I:=fun i:Nat=>i≤t.nodes.length∧t.nodes.any JcN=(t.nodes.drop i).any JcN) (inv:=fun i=>gp [(1,.rptr t.row),(1,.int .i64 (i:Int))] 47) (hp:=fun _=>[.dead]) (μ:=fun i=>t.nodes.length-i) 0 ⟨by omega,rfl⟩ ?_ rfl ?_
   ·simp[forget,gp,Tr.row]
   ·rintro i ⟨hi,hinv⟩
    by_cases hlt:i < t.nodes.length
    ·have d1:((i:Int) < (t.nodes.length:Int))=True:=eq_true (by omega)
     have hg:=Ka hlt
     rw[Gs hlt,List.any_cons,← rowg hlt]at hinv
     generalize t.nodes.getD i default=x at hg hinv
     have hxl:(iz x.kids).length=x.kids.length:=Jn
     by_cases g5:30 < x.kids.length
     ·have e5:((30:Int) < (x.kids.length:Int))=True:=eq_true (by omega)
      rw[show JcN x=true by simp[JcN,g5],GV]at hinv
      simp -implicitDefEqProofs only[go_sem,Tr.row,Ja,d1,hg,Nd.cv,hxl,e5,hinv]
      omega
     ·have e5:((30:Int) < (x.kids.length:Int))=False:=eq_false (by omega)
      by_cases g6:60 < x.text.length
      ·have e6:((60:Int) < (x.text.length:Int))=True:=eq_true (by omega)
       rw[show JcN x=true by simp[JcN,g6],GV]at hinv
       simp -implicitDefEqProofs only[go_sem,Tr.row,Ja,d1,hg,Nd.cv,hxl,e5,e6,hinv]
       omega
      ·have e6:((60:Int) < (x.text.length:Int))=False:=eq_false (by omega)
       rw[show JcN x=false by simp[JcN,g5,g6],Bool.false_or]at hinv
       simp -implicitDefEqProofs only[go_sem,Tr.row,Ja,d1,hg,Nd.cv,hxl,e5,e6]
       refine ⟨by omega,by omega,Jm (by omega) (by omega),i+1,⟨by omega,hinv⟩,by omega,?_⟩
       simp[forget,Tr.row]
    ·have d1:((i:Int) < (t.nodes.length:Int))=False:=eq_false (by omega)
     rw[Gm (by omega)]at hinv
     simp -implicitDefEqProofs only[go_sem,Tr.row,Ja,d1,hinv]
     simp
   )
theorem row_agg5 {x:Nd}{id n:Nat}{cap:Option Nat}(hn:n=x.kids.length):wk (frz id 1 (iz x.kids) (.agg [.int .u8 x.k,S x.text,.int .i64 x.n,.slc id 0 n cap,.int .i64 x.pl])) (.agg x.cv):=by
 subst hn
 have hl:(iz x.kids).length=x.kids.length:=Jn
 simp only[frz,Kt,if_true,GK,hl,Gl,Gn]
 rw[← hl,Gg]
 exact XE ⟨wk.refl _,wk.refl _,wk.refl _,wk.rslc,wk.refl _,trivial⟩
theorem Jaj (x:Nd) (hx:x.kids.length≤1000) (d:Int) (hk:∀ k∈x.kids,InR .i64 (k+d)):Fn Tryz.prog 35 [.agg x.cv,.int .i64 d] (.agg (mvN d x).cv):=by
 have hxl:(iz x.kids).length=x.kids.length:=Jn
 refine Qv ?_ rfl rfl
 refine QW c35_ok fun N=>?_
 simp -implicitDefEqProofs only[c35,go_sem,Nd.cv]
 refine KG (I:=fun i:Nat=>i≤x.kids.length) (inv:=fun i=>gp [(1,.int .i64 d),(0,.ptr 0 0 0),(1,.ptr 1 0 0),(0,.slc 2 0 (iz ((x.kids.take i).map (· + d))).length (Jdx (iz ((x.kids.take i).map (· + d))))),(0,.int .i64 (i:Int))] 21)
  (hp:=fun i=>[.arr 5 [x.cv],.arr 5 [[.int .u8 0,S [],.int .i64 0,.nils,.int .i64 0]],.arr 1 (iz ((x.kids.take i).map (· + d)))]) (μ:=fun i=>x.kids.length-i) 0 [0,1,2] (by omega) rfl ?_ rfl ?_
 ·simp[forget,J8,ren,JH,gp,iz,Jdx]
 ·intro i hi
  by_cases hlt:i < x.kids.length
  ·have d1:((i:Int) < (x.kids.length:Int))=True:=eq_true (by omega)
   have hgi:=Kb hlt
   have hts:(x.kids.take (i+1)).map (· + d)=(x.kids.take i).map (· + d)++[x.kids.getD i 0+d]:=by
    rw[Kw (d:=0) hlt,List.map_append]; rfl
   have hol:((x.kids.take i).map (· + d)).length=i:=by simp; omega
   have hmem:x.kids.getD i 0∈x.kids:=by
    rw[Ga,Gc hlt]; exact Gd hlt
   have hin:=hk _ hmem
   generalize x.kids.getD i 0=k at hgi hts hin
   generalize (x.kids.take i).map (· + d)=L at hts hol ⊢
   have hLl:(iz L).length=L.length:=Jn
   have hz:iz (L++[k+d])=iz L++[[.int .i64 (k+d)]]:=YS
   simp -implicitDefEqProofs only[go_sem,Nd.cv,hxl,d1,hgi,Jo]
   refine ⟨by omega,hin,by omega,Jm (by omega) (by omega),i+1,[0,1,4],by omega,by omega,rfl,?_,?_⟩
   ·have hc:=Je (ρ:=[0,1,4]) (JX (L++[k+d]))
    rw[hz]at hc
    rw[hts,hz]
    simp only[QH,Gh,Gi,go_sem,JB,hc]
    rfl
   ·rw[hts,hz,JcE]
    simp[forget,J8,ren,JH]
  ·have hie:i=x.kids.length:=by omega
   subst hie
   have d1:((x.kids.length:Int) < (x.kids.length:Int))=False:=eq_false (by omega)
   rw[Gg]
   simp -implicitDefEqProofs only[go_sem,Nd.cv,hxl,d1,splice]
   exact .inr ⟨2,1,iz (x.kids.map (· + d)),rfl,JX _,row_agg5 (x:=mvN d x) (by simp[Jn,mvN])⟩
theorem JeL {z:Nat}{els:List (List CV)}{id n:Nat}{cap:Option Nat}{y:CV}(hy:y.closed=true) (hn:n=els.length):wk (frz id z els (.agg [.slc id 0 n cap,y])) (.agg [.rslc z els none,y]):=by
 subst hn
 simp only[frz,Kt,if_true,GK,Gl,Gn,Gg,Xo y hy]
 exact XE ⟨wk.rslc,wk.refl _,trivial⟩
theorem refCopy (t:Tr) (ht:t.Fit):Fn Tryz.prog 9 [t.cv] t.cv:=by
 have hmany:=ht.many
 have hitems:=ht.items
 have hil:(iz t.items).length=t.items.length:=Jn
 have hrc:=JX t.items
 refine Qv ?_ rfl rfl
 refine QW c9_ok fun N=>?_
 obtain ⟨R,hR⟩:∃ R,R=iz t.items:=⟨_,rfl⟩
 simp only[Tr.cv,Tr.row]
 rw[← hR]at hrc hil ⊢
 cases R with
 |nil=>
  simp -implicitDefEqProofs only[c9,go_sem]
  refine Jk (id:=0) (z:=2) (els:=[[.rslc 5 (ndz t.nodes) none,.rslc 1 [] none]]) rfl rfl ?_
  simp only[go_sem,Kt,KR,frz,Qo]
  refine Jk (id:=2) (z:=1) (els:=[]) rfl rfl ?_
  simp only[go_sem,Kt,KR,frz,Qo]
  refine Ja9 ?_
  simp only[go_sem,GN,GR]
  refine KG (I:=fun i:Nat=>i≤t.nodes.length) (inv:=fun i=>gp [(1,.rptr [.rslc 5 (ndz t.nodes) none,.rslc 1 [] none]),(0,.ptr 1 0 0),(0,.ptr 2 0 0),(0,.int .i64 (i:Int))] 24) (hp:=fun i=>[.dead,.arr 2 [[.nils,.nils]],.arr 2 [[KP 3 (ndz (t.nodes.take i)),.rslc 1 [] none]],Xb 5 (ndz (t.nodes.take i))]) (μ:=fun i=>t.nodes.length-i) 0 [0,1,3,4] (by omega) rfl ?_ ?_ ?_
  ·simp[forget,J8,ren,JH,gp]
  ·rfl
  ·intro i hi
   by_cases hlt:i < t.nodes.length
   ·have d1:((i:Int) < (t.nodes.length:Int))=True:=eq_true (by omega)
    have hg:=Ka hlt
    have hx:=ht.nodes _ (Gd hlt)
    rw[← rowg hlt]at hx
    have hts:ndz (t.nodes.take (i+1))=ndz (t.nodes.take i)++[(t.nodes.getD i default).cv]:=by
     rw[Kw (d:=default) hlt]; simp[ndz]
    have hcl:=JK (t.nodes.take (i+1))
    have hpl:(ndz (t.nodes.take i)).length=i:=by rw[Ja,GA]; omega
    generalize t.nodes.getD i default=x at hg hx hts
    generalize ndz (t.nodes.take i)=Z at hts hpl ⊢
    have hM:=Jaj x (by have:=hx.kidn; omega) 0 (fun k hk=>by rw[Int.add_zero]; exact hx.kids k hk)
    have hmv:mvN 0 x=x:=by
     obtain ⟨k,te,n,ks,p⟩:=x
     simp[mvN]
    rw[hmv]at hM
    simp -implicitDefEqProofs only[go_sem,Ja,d1]
    refine Xh [false,true,false,false,false,false,false,false,false,true,false,true] JF (by decide +kernel) ?_
    simp -implicitDefEqProofs only[go_sem,Ja,hg]
    refine ⟨by omega,by simp[Nd.cv],?_⟩
    refine vh_f hM ?_
    simp -implicitDefEqProofs only[go_sem]
    refine JbZ [x.cv] rfl rfl rfl rfl ?_
    simp -implicitDefEqProofs only[go_sem,Jo,splice,Gb,Gf]
    refine ⟨by omega,Jm (by omega) (by omega),i+1,[0,1,2,4],by omega,by omega,rfl,?_,?_⟩
    ·rw[hts]at hcl
     have hc:=Je (ρ:=[0,1,2,4]) hcl
     rw[hts,Kn,Kh]
     simp only[QH,Gh,Gi,go_sem,JB,hc]
     rfl
    ·simp[forget,J8,ren,JH]
   ·have hie:i=t.nodes.length:=by omega
    subst hie
    have d1:((t.nodes.length:Int) < (t.nodes.length:Int))=False:=eq_false (by omega)
    rw[Gg]
    have hnc:=JK t.nodes
    cases hN:ndz t.nodes with
    |nil=>
     have hnl:(([]:List (List CV)).length:Int)=t.nodes.length:=by rw[← hN,Ja]
     simp only[Gf]at hnl
     simp -implicitDefEqProofs only[go_sem,Q3,Xj,Gf,hnl,d1,splice]
     exact .inl (XE ⟨wk.nils,wk.refl _,trivial⟩)
    |cons f fs=>
     have hnl:((fs.length+1:Nat):Int)=t.nodes.length:=by rw[← Gb,← hN,Ja]
     rw[QL (by simp),Ko (by simp)]
     simp -implicitDefEqProofs only[go_sem,Gb,hnl,d1,splice]
     rw[hN]at hnc
     exact .inr ⟨3,5,f::fs,rfl,hnc,JeL rfl rfl⟩
 |cons e es=>
  have hel:es.length+1≤40:=by have:=hil; simp only[Gb]at this; omega
  simp -implicitDefEqProofs only[c9,go_sem,Jo,Gb]
  refine ⟨by omega,?_⟩
  refine Jk (id:=3) (z:=1) (els:=e::es) rfl hrc ?_
  simp only[go_sem,Kt,KR,frz,Qo,Gb,Gn,Gp (l:=e::es) (i:=es.length+1) (Gl _)]
  refine Jk (id:=0) (z:=2) (els:=[[.rslc 5 (ndz t.nodes) none,.rslc 1 (e::es) none]]) rfl rfl ?_
  simp only[go_sem,Kt,KR,frz,Qo]
  refine Ja9 ?_
  simp only[go_sem,GN,GR]
  refine KG (I:=fun i:Nat=>i≤t.nodes.length) (inv:=fun i=>gp [(1,.rptr [.rslc 5 (ndz t.nodes) none,.rslc 1 (e::es) none]),(0,.ptr 1 0 0),(0,.ptr 2 0 0),(0,.int .i64 (i:Int))] 24) (hp:=fun i=>[.dead,.arr 2 [[.nils,.nils]],.arr 2 [[KP 3 (ndz (t.nodes.take i)),.rslc 1 (e::es) none]],Xb 5 (ndz (t.nodes.take i))]) (μ:=fun i=>t.nodes.length-i) 0 [0,1,4,5] (by omega) rfl ?_ ?_ ?_
  ·simp[forget,J8,ren,JH,gp]
  ·rfl
  ·intro i hi
   by_cases hlt:i < t.nodes.length
   ·have d1:((i:Int) < (t.nodes.length:Int))=True:=eq_true (by omega)
    have hg:=Ka hlt
    have hx:=ht.nodes _ (Gd hlt)
    rw[← rowg hlt]at hx
    have hts:ndz (t.nodes.take (i+1))=ndz (t.nodes.take i)++[(t.nodes.getD i default).cv]:=by
     rw[Kw (d:=default) hlt]; simp[ndz]
    have hcl:=JK (t.nodes.take (i+1))
    have hpl:(ndz (t.nodes.take i)).length=i:=by rw[Ja,GA]; omega
    generalize t.nodes.getD i default=x at hg hx hts
    generalize ndz (t.nodes.take i)=Z at hts hpl ⊢
    have hM:=Jaj x (by have:=hx.kidn; omega) 0 (fun k hk=>by rw[Int.add_zero]; exact hx.kids k hk)
    have hmv:mvN 0 x=x:=by
     obtain ⟨k,te,n,ks,p⟩:=x
     simp[mvN]
    rw[hmv]at hM
    simp -implicitDefEqProofs only[go_sem,Ja,d1]
    refine Xh [false,true,false,false,false,false,false,false,false,true,false,true] JF (by decide +kernel) ?_
    simp -implicitDefEqProofs only[go_sem,Ja,hg]
    refine ⟨by omega,by simp[Nd.cv],?_⟩
    refine vh_f hM ?_
    simp -implicitDefEqProofs only[go_sem]
    refine JbZ [x.cv] rfl rfl rfl rfl ?_
    simp -implicitDefEqProofs only[go_sem,Jo,splice,Gb,Gf]
    refine ⟨by omega,Jm (by omega) (by omega),i+1,[0,1,2,4],by omega,by omega,rfl,?_,?_⟩
    ·rw[hts]at hcl
     have hc:=Je (ρ:=[0,1,2,4]) hcl
     rw[hts,Kn,Kh]
     simp only[QH,Gh,Gi,go_sem,JB,hc]
     rfl
    ·simp[forget,J8,ren,JH]
   ·have hie:i=t.nodes.length:=by omega
    subst hie
    have d1:((t.nodes.length:Int) < (t.nodes.length:Int))=False:=eq_false (by omega)
    rw[Gg]
    have hnc:=JK t.nodes
    cases hN:ndz t.nodes with
    |nil=>
     have hnl:(([]:List (List CV)).length:Int)=t.nodes.length:=by rw[← hN,Ja]
     simp only[Gf]at hnl
     simp -implicitDefEqProofs only[go_sem,Q3,Xj,Gf,hnl,d1,splice]
     exact .inl (XE ⟨wk.nils,wk.refl _,trivial⟩)
    |cons f fs=>
     have hnl:((fs.length+1:Nat):Int)=t.nodes.length:=by rw[← Gb,← hN,Ja]
     rw[QL (by simp),Ko (by simp)]
     simp -implicitDefEqProofs only[go_sem,Gb,hnl,d1,splice]
     rw[hN]at hnc
     exact .inr ⟨3,5,f::fs,rfl,hnc,JeL rfl rfl⟩
end Go.Cm
end
section
namespace Go.Cm
structure Nd.Ty (x:Nd):Prop where
 k:x.k < 256
 n:InR .i64 x.n
 kids:∀ i∈x.kids,InR .i64 i
 pl:InR .i64 x.pl
structure Tr.Ty (t:Tr):Prop where
 nodes:∀ x∈t.nodes,x.Ty
 items:∀ i∈t.items,InR .i64 i
theorem Tr.Ty.fit {t:Tr}(h:t.Ty) (hv:Jav t=false):t.Fit:=by
 unfold Jav vastH at hv
 simp only[GH,Gq,decide_eq_false_iff_not,GL]at hv
 obtain ⟨⟨⟨_,h2⟩,h3⟩,h4⟩:=hv
 refine ⟨by omega,by omega,fun x hx=>?_,h.items⟩
 have hn:=h4 x hx
 unfold JcN at hn
 simp only[Bool.not_eq_true,GH,decide_eq_false_iff_not]at hn
 have ty:=h.nodes x hx
 exact ⟨ty.k,by omega,ty.n,by omega,ty.kids,ty.pl⟩
end Go.Cm
end
section
set_option maxRecDepth 100000
set_option maxHeartbeats 4000000
open Go.Proofs
namespace Go.Cm
theorem indexI (l:List Int) (x:Int) (hl:l.length≤100000):Fn Tryz.prog 99 [.rslc 1 (iz l) none,.int .i64 x] (.int .i64 (YW (fun y=>x == y) l 0)):=by
 have hil:(iz l).length=l.length:=Jn
 refine Jc c99_ok rfl rfl fun N=>?_
 simp -implicitDefEqProofs only[c99,go_sem,hil]
 refine JQ (I:=fun i:Nat=>i≤l.length∧YW (fun y=>x == y) l 0=YW (fun y=>x == y) (l.drop i) i) (inv:=fun i=>gp [(0,.rslc 1 (iz l) none),(0,.int .i64 x),(5,.int .i64 (l.length:Int)),(0,.int .i64 (i:Int))] 10) (hp:=fun _=>[]) (μ:=fun i=>l.length-i) 0 ⟨by omega,rfl⟩ ?_ rfl ?_
 ·simp[forget,gp]
 ·rintro i ⟨hi,hinv⟩
  by_cases hlt:i < l.length
  ·have d1:((i:Int) < (l.length:Int))=True:=eq_true (by omega)
   have hgi:=Kb hlt
   have hge:l[i]? = some (l.getD i 0):=by rw[Ga,Gc hlt]; rfl
   rw[YV hge]at hinv
   simp -implicitDefEqProofs only[go_sem,hil,d1,hgi]
   generalize l.getD i 0=y at hinv ⊢
   refine ⟨by omega,?_⟩
   cases he:(x == y) with
   |true=>
    rw[he,if_pos rfl]at hinv
    simp -implicitDefEqProofs only[go_sem,hinv]
   |false=>
    rw[he]at hinv
    simp -implicitDefEqProofs only[go_sem]
    refine ⟨Jm (by omega) (by omega),i+1,⟨by omega,by simpa using hinv⟩,by omega,?_⟩
    simp[forget]
  ·have d1:((i:Int) < (l.length:Int))=False:=eq_false (by omega)
   rw[Gm (by omega)]at hinv
   simp -implicitDefEqProofs only[go_sem,d1,hinv,YW]
theorem containsI (l:List Int) (x:Int) (hl:l.length≤100000):Fn Tryz.prog 61 [.rslc 1 (iz l) none,.int .i64 x] (.bool (l.contains x)):=by
 refine Jc c61_ok rfl rfl fun N=>?_
 simp -implicitDefEqProofs only[c61,go_sem]
 refine JZ (indexI l x hl) ?_
 have e:decide (0≤YW (fun y=>x == y) l 0)=l.contains x:=by rw[Jfb,List.contains_eq_any_beq]
 simp -implicitDefEqProofs only[go_sem,e]
theorem parent1 (x:Nd) (hx:x.kids.length≤100000) (n:Int):Fn Tryz.prog 60 [.agg x.cv,.rptr [.int .i64 n]] (.bool (x.kids.contains n)):=by
 refine Jc c60_ok rfl rfl fun N=>?_
 simp -implicitDefEqProofs only[c60,go_sem,Nd.cv]
 refine JZ (containsI x.kids n hx) ?_
 simp -implicitDefEqProofs only[go_sem]
theorem find1 (x:Nd) (n:Int):Fn Tryz.prog 63 [.agg x.cv,.rptr [.int .i64 n]] (.bool (x.pl == n)):=by
 refine Jc c63_ok rfl rfl fun N=>?_
 simp -implicitDefEqProofs only[c63,go_sem,Nd.cv]
def inT (t:Tr) (n:Int):Bool:=inI 0 ((t.nodes.length:Int)-1) n
theorem Jdh {t:Tr}{n:Int}:inT t n=true↔0≤n∧n < t.nodes.length:=by
 simp only[inT,inI,GI,decide_eq_true_eq]; omega
theorem findE (t:Tr) (ht:t.Fit) (ns:List Int) (h:chk t≠0):Fn Tryz.prog 41 [t.cv,.rslc 1 (iz ns) none] (.tup [.nils,.int .i64 (chk t)]):=by
 have e:(chk t != 0)=true:=by simpa using h
 refine Jc c41_ok rfl rfl fun N=>?_
 simp -implicitDefEqProofs only[c41,go_sem,Tr.cv,Tr.row]
 refine JZ (Qg t ht) ?_
 simp -implicitDefEqProofs only[go_sem,e]
theorem findS (t:Tr) (ht:t.Fit) (ns:List Int) (hns:ns.length≤100) (h:chk t=0) {o:List Int}(ho:Ju (JE t.nodes) []=some o):Fn Tryz.prog 41 [t.cv,.rslc 1 (iz ns) none] (if ns.all (inT t)=true then .tup [.rslc 1 (iz o) none,.int .i64 0] else .tup [.nils,.int .i64 7]):=by
 have hmany:=ht.many
 have e:(chk t != 0)=false:=by simpa using h
 have hil:(iz ns).length=ns.length:=Jn
 refine Jc c41_ok rfl (by split <;> rfl) fun N=>?_
 simp -implicitDefEqProofs only[c41,go_sem,Tr.cv,Tr.row]
 refine Jk (id:=0) (z:=2) (els:=[t.row]) rfl rfl ?_
 simp only[go_sem,Kt,KR,frz,Qo,Tr.row]
 refine JZ (Qg t ht) ?_
 simp -implicitDefEqProofs only[go_sem,e,hil]
 refine JQ (I:=fun i:Nat=>i≤ns.length∧ns.all (inT t)=(ns.drop i).all (inT t)) (inv:=fun i=>gp [(2,.rptr t.row),(13,.rslc 1 (iz ns) none),(0,.int .i64 (ns.length:Int)),(0,.int .i64 (i:Int))] 17) (hp:=fun _=>[.dead]) (μ:=fun i=>ns.length-i) 0 ⟨by omega,rfl⟩ ?_ rfl ?_
 ·simp[forget,gp,Tr.row]
 ·rintro i ⟨hi,hinv⟩
  by_cases hlt:i < ns.length
  ·have d1:((i:Int) < (ns.length:Int))=True:=eq_true (by omega)
   have hgi:=Kb hlt
   rw[Gs hlt,Gt,show ns[i]=ns.getD i 0 by rw[Ga,Gc hlt]; rfl]at hinv
   simp -implicitDefEqProofs only[go_sem,Tr.row,hil,Ja,d1,hgi]
   generalize ns.getD i 0=y at hinv ⊢
   refine ⟨by omega,Jm (by omega) (by omega),?_⟩
   refine JZ (within 0 ((t.nodes.length:Int)-1) y) ?_
   rw[show inI 0 ((t.nodes.length:Int)-1) y=inT t y from rfl]
   cases he:inT t y with
   |true=>
    rw[he,Gj]at hinv
    simp -implicitDefEqProofs only[go_sem]
    refine ⟨Jm (by omega) (by omega),i+1,⟨by omega,hinv⟩,by omega,?_⟩
    simp[forget,Tr.row]
   |false=>
    rw[he,Gw]at hinv
    rw[hinv]
    simp -implicitDefEqProofs only[go_sem]
  ·have d1:((i:Int) < (ns.length:Int))=False:=eq_false (by omega)
   rw[Gm (by omega),Gu]at hinv
   rw[hinv,if_pos rfl]
   simp -implicitDefEqProofs only[go_sem,Tr.row,d1]
   refine JZ (firstsS t ht ho) ?_
   simp -implicitDefEqProofs only[go_sem]
theorem parseParent (t:Tr) (ht:t.Fit) (n:Int) (hn:InR .i64 n):Fn Tryz.prog 17 [t.cv,.int .i64 n] (if chk t≠0 then .tup [.int .i64 0,.int .i64 (chk t)] else if inT t n=true then .tup [.int .i64 (YW (fun x:Nd=>x.kids.contains n) t.nodes 0),.int .i64 0] else .tup [.int .i64 0,.int .i64 7]):=by
 have hmany:=ht.many
 refine Jc c17_ok rfl (by split; rfl; split <;> rfl) fun N=>?_
 simp -implicitDefEqProofs only[c17,go_sem,Tr.cv,Tr.row]
 refine Jk (id:=2) (z:=1) (els:=[[.int .i64 n]]) rfl rfl ?_
 simp only[go_sem,Kt,KR,frz,Qo,Gb,Gf,Gn,Gy,GG]
 by_cases h:chk t=0
 ·obtain ⟨o,g⟩:=(Kq t).1 h
  have hF:=findS t ht [n] (by simp) h g.ord.h
  simp only[Gt,Gu,Gx]at hF
  rw[if_neg (by simp[h])]
  refine JZ hF ?_
  cases hb:inT t n with
  |false=>
   simp -implicitDefEqProofs only[go_sem]
  |true=>
   simp -implicitDefEqProofs only[go_sem,if_true]
   refine Jk (id:=1) (z:=1) (els:=[[.int .i64 n]]) rfl rfl ?_
   simp only[go_sem,Kt,KR,frz,Qo]
   refine JZ (indexN t.nodes (fun x=>x.kids.contains n) none c60_ok rfl rfl (fun x hx=>parent1 x (by have:=(ht.nodes x hx).kidn; omega) n) (by omega)) ?_
   simp -implicitDefEqProofs only[go_sem]
 ·have e:(chk t != 0)=true:=by simpa using h
  rw[if_pos h]
  refine JZ (findE t ht [n] h) ?_
  simp -implicitDefEqProofs only[go_sem,e]
theorem parseFirst (t:Tr) (ht:t.Fit) (n:Int) (hn:InR .i64 n):Fn Tryz.prog 18 [t.cv,.int .i64 n] (if chk t≠0 then .tup [.int .i64 0,.int .i64 (chk t)] else if inT t n=true then .tup [.int .i64 (match Ju (JE t.nodes) []with | some o=>fs o n | none=>0),.int .i64 0] else .tup [.int .i64 0,.int .i64 7]):=by
 have hmany:=ht.many
 refine Jc c18_ok rfl (by split; rfl; split <;> rfl) fun N=>?_
 simp -implicitDefEqProofs only[c18,go_sem,Tr.cv,Tr.row]
 refine Jk (id:=1) (z:=1) (els:=[[.int .i64 n]]) rfl rfl ?_
 simp only[go_sem,Kt,KR,frz,Qo,Gb,Gf,Gn,Gy,GG]
 by_cases h:chk t=0
 ·obtain ⟨o,g⟩:=(Kq t).1 h
  have hol:=g.olen
  have hF:=findS t ht [n] (by simp) h g.ord.h
  simp only[Gt,Gu,Gx]at hF
  rw[if_neg (by simp[h])]
  refine JZ hF ?_
  cases hb:inT t n with
  |false=>
   simp -implicitDefEqProofs only[go_sem]
  |true=>
   have hr:=Jdh.1 hb
   have hgo:=Kb (l:=o) (i:=n.toNat) (by omega)
   have hzl:(iz o).length=t.nodes.length:=by rw[Jn,hol]
   simp -implicitDefEqProofs only[go_sem,if_true,hgo,hzl,g.ord.h,fs]
   omega
 ·have e:(chk t != 0)=true:=by simpa using h
  rw[if_pos h]
  refine JZ (findE t ht [n] h) ?_
  simp -implicitDefEqProofs only[go_sem,e]
def mn (a b:Int):Int:=if b < a then b else a
def kinF (o:List Int) (a b:Int):Int:=YW (fun v=>decide (v≤mn a b)) (o.drop (mx a b).toNat) (mx a b).toNat
theorem parseKin (t:Tr) (ht:t.Fit) (a b:Int) (ha:InR .i64 a) (hb:InR .i64 b):Fn Tryz.prog 19 [t.cv,.int .i64 a,.int .i64 b] (if chk t≠0 then .tup [.int .i64 0,.int .i64 (chk t)] else if (inT t a && inT t b)=true then .tup [.int .i64 (match Ju (JE t.nodes) []with | some o=>kinF o a b | none=>0),.int .i64 0] else .tup [.int .i64 0,.int .i64 7]):=by
 have hmany:=ht.many
 refine Jc c19_ok rfl (by split; rfl; split <;> rfl) fun N=>?_
 simp -implicitDefEqProofs only[c19,go_sem,Tr.cv,Tr.row]
 refine Jk (id:=1) (z:=1) (els:=iz [a,b]) rfl rfl ?_
 simp only[go_sem,Kt,KR,frz,Qo,iz,Gh,Gi,Gb,Gf,Gn,Gy,GG]
 by_cases h:chk t=0
 ·obtain ⟨o,g⟩:=(Kq t).1 h
  have hol:=g.olen
  have hF:=findS t ht [a,b] (by simp) h g.ord.h
  simp only[Gt,Gu,Gx]at hF
  rw[if_neg (by simp[h])]
  refine JZ hF ?_
  cases hb:(inT t a && inT t b) with
  |false=>
   simp -implicitDefEqProofs only[go_sem]
  |true=>
   rw[GI]at hb
   have hra:=Jdh.1 hb.1
   have hrb:=Jdh.1 hb.2
   simp -implicitDefEqProofs only[go_sem,if_true,g.ord.h]
   refine Jk (id:=0) (z:=2) (els:=[t.row]) rfl rfl ?_
   simp only[go_sem,Kt,KR,frz,Qo]
   have hmx:0≤mx a b∧mx a b < t.nodes.length:=by unfold mx; split <;> omega
   obtain ⟨m0,hm0⟩:∃ m0:Nat,(m0:Int)=mx a b:=⟨(mx a b).toNat,by omega⟩
   have hK:kinF o a b=YW (fun v=>decide (v≤mn a b)) (o.drop m0) m0:=by unfold kinF; rw[← hm0,Int.toNat_natCast]
   have hmxe:(if b > a then b else a)=(m0:Int):=by rw[hm0]; rfl
   have hzl:(iz o).length=o.length:=Jn
   refine JQ (I:=fun i:Nat=>i≤o.length∧kinF o a b=YW (fun v=>decide (v≤mn a b)) (o.drop i) i) (inv:=fun i=>gp [(1,.int .i64 a),(0,.int .i64 b),(5,.rslc 1 (iz o) none),(1,.int .i64 (i:Int))] 29) (hp:=fun _=>[.dead,.dead]) (μ:=fun i=>o.length-i) m0 ⟨by omega,hK⟩ ?_ rfl ?_
   ·simp[forget,gp,hmxe]
   ·rintro i ⟨hi,hinv⟩
    by_cases hlt:i < o.length
    ·have d1:((i:Int) < (o.length:Int))=True:=eq_true (by omega)
     have hgi:=Kb hlt
     have hge:o[i]? = some (o.getD i 0):=by rw[Ga,Gc hlt]; rfl
     rw[YV hge]at hinv
     generalize o.getD i 0=v at hgi hinv
     by_cases hv:v≤mn a b
     ·have d2:(v≤if b < a then b else a)=True:=eq_true hv
      rw[decide_eq_true hv,if_pos rfl]at hinv
      simp -implicitDefEqProofs only[go_sem,hzl,d1,hgi,d2,hinv]
      omega
     ·have d2:(v≤if b < a then b else a)=False:=eq_false hv
      rw[decide_eq_false hv]at hinv
      simp -implicitDefEqProofs only[go_sem,hzl,d1,hgi,d2]
      refine ⟨by omega,Jm (by omega) (by omega),i+1,⟨by omega,by simpa using hinv⟩,by omega,?_⟩
      simp[forget]
    ·have d1:((i:Int) < (o.length:Int))=False:=eq_false (by omega)
     rw[Gm (by omega)]at hinv
     simp -implicitDefEqProofs only[go_sem,hzl,d1,hinv,YW]
 ·have e:(chk t != 0)=true:=by simpa using h
  rw[if_pos h]
  refine JZ (findE t ht [a,b] h) ?_
  simp -implicitDefEqProofs only[go_sem,e]
theorem parseFind (t:Tr) (ht:t.Fit) (n:Int) (hn:InR .i64 n):Fn Tryz.prog 20 [t.cv,.int .i64 n] (if chk t≠0 then .tup [.int .i64 0,.int .i64 (chk t)] else if YW (fun x:Nd=>x.pl == n) t.nodes 0 < 0 then .tup [.int .i64 0,.int .i64 7] else .tup [.int .i64 (YW (fun x:Nd=>x.pl == n) t.nodes 0),.int .i64 0]):=by
 have hmany:=ht.many
 refine Jc c20_ok rfl (by split; rfl; split <;> rfl) fun N=>?_
 simp -implicitDefEqProofs only[c20,go_sem,Tr.cv,Tr.row]
 refine JZ (Qg t ht) ?_
 by_cases h:chk t=0
 ·have e:(chk t != 0)=false:=by simpa using h
  rw[if_neg (by simp[h])]
  simp -implicitDefEqProofs only[go_sem,e]
  refine Jk (id:=1) (z:=1) (els:=[[.int .i64 n]]) rfl rfl ?_
  simp only[go_sem,Kt,KR,frz,Qo]
  refine JZ (indexN t.nodes (fun x=>x.pl == n) none c63_ok rfl rfl (fun x hx=>find1 x n) (by omega)) ?_
  by_cases hneg:YW (fun x:Nd=>x.pl == n) t.nodes 0 < 0
  ·have d1:(YW (fun x:Nd=>x.pl == n) t.nodes 0 < 0)=True:=eq_true hneg
   simp -implicitDefEqProofs only[go_sem,d1,if_true]
  ·have d1:(YW (fun x:Nd=>x.pl == n) t.nodes 0 < 0)=False:=eq_false hneg
   simp -implicitDefEqProofs only[go_sem,d1,if_false]
 ·have e:(chk t != 0)=true:=by simpa using h
  rw[if_pos h]
  simp -implicitDefEqProofs only[go_sem,e]
theorem ord_take {t:Tr}{o:List Int}(g:GoodT t o):Ju ((JE t.nodes).take t.nodes.length) []=some o:=by
 rw[Gp (by rw[KA]; exact Gl _)]; exact g.ord.h
end Go.Cm
end
end
