/-
  A part of the proof. Conditions: none.
-/
import Derived.Test.YtaiboeciecfgoaaGreatDoorRP7
import Derived.Test.YtaiboeciecfgoaaGreatDoorRP6
import Derived.Test.YtaiboeciecfgoaaGreatDoorRP11
import Derived.Test.YtaiboeciecfgoaaGreatDoorRPkRF
set_option linter.unusedSimpArgs false
set_option linter.unusedVariables false
open List renaming getD_eq_getElem?_getD→Ga,getElem?_eq_getElem→Gb,getElem_mem→Gc,length_cons→Gf,take_length→Gg,take_succ_eq_append_getElem→Gq,length_nil→Gh,take_of_length_le→Gn,drop_eq_nil_of_le→Gp,map_cons→Gi,map_nil→Gj,drop_eq_getElem_cons→Gs,mem_singleton→Gt,length_take→Gu,mem_append→Gv,drop_zero→Gw,any_eq_false→GD,all_eq_false→GG,cons_append→GH,all_eq_true→GI,nil_append→GJ,foldl_cons→GK
open Go.Proofs.Tryz renaming prog→Gd
open Bool renaming true_and→Gm,and_eq_false_iff→Gx,not_false→Gr,false_and→Gy,not_true→Gz,or_eq_false_iff→GL,not_eq_true→GM,and_eq_true→GN,eq_iff_iff→GQ
open Nat renaming le_refl→Gl,zero_add→GA
noncomputable section
section
set_option maxRecDepth 100000
set_option maxHeartbeats 4000000
open Go.Proofs
namespace Go.Cm
def mD (d:List Int) (ks:List Int):Int:=ks.foldl (fun a k=>mx a (d.getD k.toNat 0)) 0
theorem mx_succ (a b:Int):mx (a+1) (b+1)=mx a b+1:=by unfold mx; split <;> split <;> omega
theorem ownD_mD (d ks:List Int):ownD d ks=mD d ks+1:=by
 have key:∀ (l:List Int) (a:Int),l.foldl (fun a k=>mx a (d.getD k.toNat 0+1)) (a+1)=l.foldl (fun a k=>mx a (d.getD k.toNat 0)) a+1:=by
  intro l
  induction l with
  |nil=>intro a; rfl
  |cons k l ih=>intro a; rw[GK,GK,mx_succ]; exact ih _
 exact key ks 0
theorem mD_rng {d:List Int}{m:Int}(h:∀ v∈d,1≤v∧v≤m) (hm:0≤m) (ks:List Int):0≤mD d ks∧mD d ks≤m:=by
 have:=Jgg (m:=m) h hm ks 1 (by omega) (by omega)
 have e:=ownD_mD d ks
 unfold ownD at e
 omega
theorem refTooDeep (t:Tr) (ht:t.Fit) {o:List Int}(ho:JB (JH t.nodes) []=some o):Fn Gd 96 [t.cv] (.bool (Jbj t)):=by
 have hmany:=ht.many
 refine Ja c96_ok rfl rfl fun N=>?_
 simp -implicitDefEqProofs only[c96,go_sem,Tr.cv,Tr.row]
 refine Jg (id:=0) (z:=2) (els:=[t.row]) rfl rfl ?_
 simp only[go_sem,J2,Ko,frz,KG]
 refine JG (I:=fun i:Nat=>i≤t.nodes.length∧∀ v∈KV ((JH t.nodes).take i) [],v≤30) (inv:=fun i=>gp [(1,.rptr t.row),(1,.slc 1 0 (iz (KV ((JH t.nodes).take i) [])).length (Jcb (iz (KV ((JH t.nodes).take i) [])))),(0,.int .i64 (i:Int))] 43)
  (hp:=fun i=>[.dead,.arr 1 (iz (KV ((JH t.nodes).take i) []))]) (μ:=fun i=>t.nodes.length-i) 0 [0,1] ⟨by omega,by simp[KV]⟩ rfl ?_ rfl ?_
 ·simp[forget,JF,ren,Jo,gp,KV,iz,Jcb]
 ·rintro i ⟨hi,hall⟩
  have hdl:(KV ((JH t.nodes).take i) []).length=i:=by
   rw[JbZ,Gu]
   simp[JH]
   omega
  have hdk:=JgF ((JH t.nodes).take i) [] (by intro v hv; simp at hv)
  by_cases hlt:i < t.nodes.length
  ·have hstep:=JfD (JW hlt)
   have hbel:=Q5 ho (JW hlt)
   have hx:=ht.nodes _ (Gc hlt)
   rw[← rowg hlt]at hx
   have hln:=hdl
   clear hdl
   have hbig:∀ v∈KV ((JH t.nodes).take (i+1)) [],v∈KV (JH t.nodes) []:=by
    intro v hv
    rw[deepF_take (by rw[Qs]; omega)]at hv
    exact List.mem_of_mem_take hv
   generalize hD:KV ((JH t.nodes).take i) []=d at hstep hln hdk hall ⊢
   have d1:((i:Int) < (t.nodes.length:Int))=True:=Jn
   simp -implicitDefEqProofs only[go_sem,Tr.row,Jc,d1]
   have hg:=Kz hlt
   generalize t.nodes.getD i default=x at hstep hbel hx hg ⊢
   have hkn:=hx.kidn
   have hdr:∀ v∈d,1≤v∧v≤i:=fun v hv=>by have:=hdk v hv; omega
   refine Jz (I:=fun j:Nat=>j≤x.kids.length) (inv:=fun j=>gp [(1,.rptr t.row),(1,.slc 1 0 (iz d).length (Jcb (iz d))),(0,.int .i64 (i:Int)),(0,.int .i64 (mD d (x.kids.take j))),(0,.int .i64 (j:Int))] 41)
    (hp:=fun _=>[.dead,.arr 1 (iz d)]) (μ:=fun j=>x.kids.length-j) 0 (by omega) ?_ rfl ?_
   ·simp[forget,gp,mD,Tr.row]
   ·intro j hj
    have hxl:(iz x.kids).length=x.kids.length:=Jf
    by_cases hjl:j < x.kids.length
    ·have d2:((j:Int) < (x.kids.length:Int))=True:=Jn
     have hmem:x.kids.getD j 0∈x.kids:=by
      rw[Ga,Gb hjl]; exact Gc hjl
     have hb:=hbel _ hmem
     have hst:mD d (x.kids.take (j+1))=mx (mD d (x.kids.take j)) (d.getD (x.kids.getD j 0).toNat 0):=by
      have hgk:x.kids.getD j 0=x.kids[j]:=by rw[Ga,Gb hjl]; rfl
      unfold mD
      rw[Gq hjl,List.foldl_append,hgk]; rfl
     have hgi:=JR hjl
     generalize x.kids.getD j 0=k at hb hst hgi
     have hgk:=JR (l:=d) (i:=k.toNat) (by omega)
     have hgr:=Jgs (m:=i) (fun v hv=>by have:=hdr v hv; omega) (by omega) k.toNat
     have hdz:(iz d).length=d.length:=Jf
     simp -implicitDefEqProofs only[go_sem,Tr.row,Jc,hg,Nd.cv,hxl,d2,hgi,hgk]
     refine ⟨by omega,by omega,by omega,by omega,by omega,Ji,j+1,by omega,by omega,?_⟩
     rw[hst]
     simp[forget,mx]
    ·have hje:j=x.kids.length:=by omega
     subst hje
     have d2:((x.kids.length:Int) < (x.kids.length:Int))=False:=Jj
     rw[Gg]
     have hmr:=mD_rng hdr (by omega) x.kids
     have hdz:(iz d).length=d.length:=Jf
     rw[ownD_mD]at hstep
     have hz:iz (d++[mD d x.kids+1])=iz d++[[.int .i64 (mD d x.kids+1)]]:=J8
     have hcl:=Jd (d++[mD d x.kids+1])
     generalize mD d x.kids=v at hstep hmr hz hcl ⊢
     by_cases hv:30 < v+1
     ·have d3:((30:Int) < v+1)=True:=eq_true hv
      have hB:Jbj t=true:=by
       rw[Jbj,List.any_eq_true]
       exact ⟨v+1,hbig _ (by rw[hstep]; simp),by simpa using hv⟩
      simp -implicitDefEqProofs only[go_sem,Tr.row,Jc,hg,Nd.cv,hxl,d2,d3,JJ,hB]
      repeat' apply And.intro
      all_goals first | omega | exact Ji
     ·have d3:((30:Int) < v+1)=False:=eq_false hv
      simp -implicitDefEqProofs only[go_sem,Tr.row,Jc,hg,Nd.cv,hxl,d2,d3,JJ]
      refine ⟨by omega,Ji,by omega,Ji,Ji,i+1,[0,3],⟨by omega,?_⟩,by omega,rfl,?_,?_⟩
      ·rw[hstep]
       intro u hu
       rcases Gv.1 hu with hu | hu
       ·exact hall u hu
       ·rw[Gt.1 hu]; omega
      ·rw[hstep]
       have hc:=Jb (ρ:=[0,3]) hcl
       simp only[Kw,Gi,Gj,go_sem,Jp]
       rw[hz]at hc ⊢
       rw[hc]
       rfl
      ·rw[hstep,hz,JaL]
       simp[forget,JF,ren,Jo,Jf,Tr.row]
  ·have hie:i=t.nodes.length:=by omega
   subst hie
   have d1:((t.nodes.length:Int) < (t.nodes.length:Int))=False:=Jj
   have hB:Jbj t=false:=by
    rw[Jbj,← Gn (l:=JH t.nodes) (i:=t.nodes.length) (by simp[JH]),GD]
    intro v hv
    have:=hall v hv
    simp; omega
   rw[hB]
   simp -implicitDefEqProofs only[go_sem,Tr.row,Jc,d1]
theorem Jar {t:Tr}(h1:¬ (700 < t.nodes.length∨20 < t.items.length)) (h2:frm t=false):chk t=4:=by
 unfold chk; rw[if_neg h1,if_neg (by rw[h2]; simp)]
theorem frm_none {t:Tr}(h:JB (JH t.nodes) []=none):frm t=false:=by unfold frm; rw[h]
theorem frm_kid {t:Tr}{i:Nat}(hi:i < t.nodes.length) {k:Int}(hk:k∈(t.nodes.getD i default).kids) (hb:¬ (0≤k∧k < i)):frm t=false:=by
 cases h:JB (JH t.nodes) []with
 |none=>exact frm_none h
 |some o=>exact absurd (Q5 h (JW hi) k hk) hb
theorem frm_nd {t:Tr}{i:Nat}(hi:i < t.nodes.length) (hb:ndI t.nodes (t.nodes.getD i default)=false):frm t=false:=by
 unfold frm
 cases h:JB (JH t.nodes) []with
 |none=>rfl
 |some o=>
  simp only[Gx]
  right
  rw[GG]
  refine ⟨t.nodes.getD i default,?_,by rw[hb]; simp⟩
  rw[Ga,Gb hi]; exact Gc hi
theorem step_ord {K:List (List Int)}{i:Nat}{o ks:List Int}(ho:JB (K.take i) []=some o) (hk:K[i]? = some ks) :
  (JB (K.take (i+1)) []=none∧(JeI (fs o) ks.reverse i).2=false)∨(∃ f,JB (K.take (i+1)) []=some (o++[f])∧(JeI (fs o) ks.reverse i).2=true):=by
 obtain ⟨h1,h2⟩:=JcL ho hk
 have hok:=KY _ _ _ Qu.nil ho
 have h3:=Jfg (fst:=fs o) hok (fun k _ _=>rfl) ks.reverse ((o.length:Int)-1) (by omega)
 rw[h1]
 unfold Jdy
 have e:((o.length:Int)-1+1)=(i:Int):=by omega
 rw[e]at h3
 cases h4:QL o ks.reverse ((o.length:Int)-1) with
 |none=>rw[h4]at h3; exact .inl ⟨rfl,h3⟩
 |some b=>rw[h4]at h3; simp only at h3; exact .inr ⟨b+1,rfl,by rw[h3]⟩
theorem ndI_R (l:List Nd) (x:Nd):ndI l x=(KA x.k x.n (lets l x) && Qa (Y3 x.text) x.k x.text x.n x.pl && KH x.k x.n (lets l x)):=by
 unfold ndI; rw[node_eq]; rfl
theorem refCheck (t:Tr) (ht:t.Fit):Fn Gd 41 [t.cv] (.int .i64 (chk t)):=by
 have hmany:=ht.many
 have hitems:=ht.items
 refine Ja c41_ok rfl rfl fun N=>?_
 simp -implicitDefEqProofs only[c41,go_sem,Tr.cv,Tr.row]
 refine Jg (id:=0) (z:=2) (els:=[t.row]) rfl rfl ?_
 simp only[go_sem,J2,Ko,frz,KG,Tr.row]
 refine JV (refLimits t) ?_
 by_cases h1:700 < t.nodes.length∨20 < t.items.length
 ·have hc:chk t=5:=by unfold chk; rw[if_pos h1]
  rw[decide_eq_false (not_not_intro h1),hc]
  simp -implicitDefEqProofs only[go_sem]
 ·rw[decide_eq_true h1]
  simp -implicitDefEqProofs only[go_sem]
  refine Jz (I:=fun i:Nat=>i≤t.nodes.length∧∀ j,j < i→∀ k∈(t.nodes.getD j default).kids,0≤k∧k < j) (inv:=fun i=>gp [(1,.rptr t.row),(1,.int .i64 (i:Int))] 123) (hp:=fun _=>[.dead]) (μ:=fun i=>t.nodes.length-i) 0 ⟨by omega,by omega⟩ ?_ rfl ?_
  ·simp[forget,gp,Tr.row]
  ·rintro i ⟨hi,hkids⟩
   by_cases hlt:i < t.nodes.length
   ·have d1:((i:Int) < (t.nodes.length:Int))=True:=Jn
    have hx:=ht.nodes _ (Gc hlt)
    rw[← rowg hlt]at hx
    have hg:=Kz hlt
    have hfk:=fun {k:Int} (hk:k∈(t.nodes.getD i default).kids) (hb:¬ (0≤k∧k < i))=>frm_kid hlt hk hb
    have hsucc:(∀ k∈(t.nodes.getD i default).kids,0≤k∧k < i)→∀ j,j < i+1→∀ k∈(t.nodes.getD j default).kids,0≤k∧k < j:=by
     intro h j hj
     by_cases e:j=i
     ·subst e; exact h
     ·exact hkids j (by omega)
    generalize t.nodes.getD i default=x at hx hg hfk hsucc
    have hkn:=hx.kidn
    have hxl:(iz x.kids).length=x.kids.length:=Jf
    simp -implicitDefEqProofs only[go_sem,Tr.row,Jc,d1]
    refine Jz (I:=fun j:Nat=>j≤x.kids.length∧∀ k∈x.kids.take j,0≤k∧k < i) (inv:=fun j=>gp [(1,.rptr t.row),(1,.int .i64 (i:Int)),(0,.int .i64 (j:Int))] 122) (hp:=fun _=>[.dead]) (μ:=fun j=>x.kids.length-j) 0 ⟨by omega,by simp⟩ ?_ rfl ?_
    ·simp[forget,gp,Tr.row]
    ·rintro j ⟨hj,hkj⟩
     by_cases hjl:j < x.kids.length
     ·have d2:((j:Int) < (x.kids.length:Int))=True:=Jn
      have hgi:=JR hjl
      have hmem:x.kids.getD j 0∈x.kids:=by
       rw[Ga,Gb hjl]; exact Gc hjl
      have hts:x.kids.take (j+1)=x.kids.take j++[x.kids.getD j 0]:=by
       rw[Gq hjl,Ga,Gb hjl]; rfl
      generalize x.kids.getD j 0=k at hgi hmem hts
      simp -implicitDefEqProofs only[go_sem,Tr.row,Jc,hg,Nd.cv,hxl,d2,hgi]
      refine ⟨by omega,by omega,by omega,Ji,?_⟩
      refine JV (JaQ k 0 ((i:Int)-1)) ?_
      cases hin:inI 0 ((i:Int)-1) k with
      |true=>
       simp only[inI,GN,decide_eq_true_eq]at hin
       simp -implicitDefEqProofs only[go_sem]
       refine ⟨Ji,j+1,⟨by omega,?_⟩,by omega,?_⟩
       ·rw[hts]
        intro u hu
        rcases Gv.1 hu with hu | hu
        ·exact hkj u hu
        ·rw[Gt.1 hu]; omega
       ·simp[forget]
      |false=>
       have hb:¬ (0≤k∧k < i):=by
        simp only[inI,Gx,decide_eq_false_iff_not]at hin
        omega
       rw[Jar h1 (hfk hmem hb)]
       simp -implicitDefEqProofs only[go_sem]
     ·have hje:j=x.kids.length:=by omega
      subst hje
      rw[Gg]at hkj
      have d2:((x.kids.length:Int) < (x.kids.length:Int))=False:=Jj
      simp -implicitDefEqProofs only[go_sem,Tr.row,Jc,hg,Nd.cv,hxl,d2]
      refine ⟨by omega,Ji,i+1,⟨by omega,hsucc hkj⟩,by omega,?_⟩
      simp[forget]
   ·have hie:i=t.nodes.length:=by omega
    subst hie
    have d1:((t.nodes.length:Int) < (t.nodes.length:Int))=False:=Jj
    simp -implicitDefEqProofs only[go_sem,Tr.row,Jc,d1]
    refine Jz (I:=fun i:Nat=>i≤t.nodes.length∧(∃ o,JB ((JH t.nodes).take i) []=some o)∧∀ j,j < i→ndI t.nodes (t.nodes.getD j default)=true) (inv:=fun i=>gp [(1,.rptr t.row),(3,.int .i64 (i:Int))] 121) (hp:=fun _=>[.dead]) (μ:=fun i=>t.nodes.length-i) 0 ⟨by omega,⟨[],by simp[JB]⟩,by omega⟩ ?_ rfl ?_
    ·simp[forget,gp,Tr.row]
    ·rintro i ⟨hi,⟨o,ho⟩,hnd⟩
     by_cases hlt:i < t.nodes.length
     ·have d1:((i:Int) < (t.nodes.length:Int))=True:=Jn
      have hx:=ht.nodes _ (Gc hlt)
      rw[← rowg hlt]at hx
      have hg:=Kz hlt
      have hki:=JW hlt
      have hkk:=hkids i hlt
      have hnf:=fun hb=>frm_nd hlt hb
      have hnR:=ndI_R t.nodes (t.nodes.getD i default)
      have hS:=refSized t i hlt hmany hx (fun y hy=>(ht.nodes y hy).k) (fun k hk=>by have:=hkk k hk; omega)
      have hstep:=step_ord ho hki
      have hsn:ndI t.nodes (t.nodes.getD i default)=true→∀ j,j < i+1→ndI t.nodes (t.nodes.getD j default)=true:=by
       intro h j hj
       by_cases e:j=i
       ·subst e; exact h
       ·exact hnd j (by omega)
      generalize t.nodes.getD i default=x at hx hg hki hkk hnf hnR hS hstep hsn
      have hO:=Jfd t ho hi hmany x.kids (by have:=hx.kidn; omega) i (Gl _)
      have hKi:=refKin t x hx hmany (fun y hy=>(ht.nodes y hy).k) (fun k hk=>by have:=hkk k hk; omega)
      have hF:=refFields x (kindR x.text) (Y3 x.text) (Jcw x.text) (refKind x.text (by have:=hx.text; omega))
      simp -implicitDefEqProofs only[go_sem,Tr.row,Jc,d1]
      refine JS JA (by decide) ?_
      simp -implicitDefEqProofs only[go_sem,Tr.row,Jc,hg]
      refine ⟨by omega,?_⟩
      simp -implicitDefEqProofs only[go_sem,Nd.cv]
      refine JO (.inl rfl) hO ?_
      simp -implicitDefEqProofs only[go_sem]
      refine JS JA (by decide) ?_
      rcases hstep with ⟨s1,s2⟩ | ⟨f,s1,s2⟩
      ·simp -implicitDefEqProofs only[go_sem,s2]
       rw[Jar h1 (frm_none (JcM s1))]
      ·simp -implicitDefEqProofs only[go_sem,Tr.row,Jc,s2,hg]
       refine ⟨by omega,?_⟩
       refine ⟨by simp[Nd.cv],?_⟩
       refine JO (gok rfl) hKi ?_
       cases b1:KA x.k x.n (lets t.nodes x) with
       |false=>
        rw[b1,Gy,Gy]at hnR
        simp -implicitDefEqProofs only[go_sem]
        rw[Jar h1 (hnf hnR)]
       |true=>
        simp -implicitDefEqProofs only[go_sem,Tr.row,Jc,hg]
        refine ⟨by omega,by simp[Nd.cv],?_⟩
        refine JO (gok rfl) hF ?_
        cases b2:Qa (Y3 x.text) x.k x.text x.n x.pl with
        |false=>
         rw[b1,b2,Gm,Gy]at hnR
         simp -implicitDefEqProofs only[go_sem]
         rw[Jar h1 (hnf hnR)]
        |true=>
         simp -implicitDefEqProofs only[go_sem,Tr.row,Jc,hg]
         refine JO (gok rfl) hS ?_
         cases b3:KH x.k x.n (lets t.nodes x) with
         |false=>
          rw[b1,b2,b3,Gm,Gm]at hnR
          simp -implicitDefEqProofs only[go_sem]
          rw[Jar h1 (hnf hnR)]
         |true=>
          rw[b1,b2,b3,Gm,Gm]at hnR
          simp -implicitDefEqProofs only[go_sem]
          refine ⟨Ji,i+1,⟨by omega,⟨_,s1⟩,hsn hnR⟩,by omega,?_⟩
          simp[forget,Tr.row]
     ·have hie:i=t.nodes.length:=by omega
      subst hie
      have d1:((t.nodes.length:Int) < (t.nodes.length:Int))=False:=Jj
      have ho2:JB (JH t.nodes) []=some o:=by
       rw[← Gn (l:=JH t.nodes) (i:=t.nodes.length) (by simp[JH])]; exact ho
      have hok:=KY _ _ _ Qu.nil ho2
      have hol:=KS _ _ _ ho2
      simp only[Gh,GA,Qs]at hol
      have hO:=Jfd t ho (Gl _) hmany t.items (by omega) t.nodes.length (Gl _)
      have hie2:=items_eq (fst:=fs o) (isD:=fun i=>Jt t.nodes i == 65) hok hol (fun k _ _=>rfl) t.items
      have hall:t.nodes.all (ndI t.nodes)=true:=by
       rw[GI]
       intro y hy
       obtain ⟨j,hj⟩:=List.getElem?_of_mem hy
       have hjl:=(List.getElem?_eq_some_iff.1 hj).1
       have:=hnd j hjl
       rw[Ga,hj]at this
       exact this
      have hfrm:frm t=XZ o (fun i=>Jt t.nodes i == 65) t.nodes.length t.items 0:=by
       unfold frm; rw[ho2]; simp only[hall,Bool.and_true]
      simp -implicitDefEqProofs only[go_sem,Tr.row,Jc,d1]
      refine JV hO ?_
      simp -implicitDefEqProofs only[go_sem]
      cases b1:(JeI (fs o) t.items.reverse t.nodes.length).2 with
      |false=>
       rw[Jar h1 (by rw[hfrm,hie2,decide_eq_false (fun h=>by rw[h]at b1; cases b1)]; rfl)]
       simp -implicitDefEqProofs only[go_sem]
      |true=>
       by_cases b2:(JeI (fs o) t.items.reverse t.nodes.length).1=0
       ·have e2:((JeI (fs o) t.items.reverse t.nodes.length).1 != 0)=false:=by simp[b2]
        have hor:JeI (fs o) t.items.reverse t.nodes.length=(0,true):=Prod.ext b2 b1
        rw[hor,decide_eq_true rfl,Gm]at hie2
        simp -implicitDefEqProofs only[go_sem,e2]
        have hch:=(Jcp hok hol (fst:=fs o) (fun k _ _=>rfl) t.items.reverse t.nodes.length (by omega) (by omega)).1 hor
        rw[List.reverse_reverse]at hch
        have hmem:=fun i hi=>KW hok rfl t.items 0 t.nodes.length (by rw[hol]; exact hch) i hi
        refine Jz (I:=fun i:Nat=>i≤t.items.length∧∀ k∈t.items.take i,(Jt t.nodes k == 65)=true) (inv:=fun i=>gp [(1,.rptr t.row),(8,.int .i64 (i:Int))] 116) (hp:=fun _=>[.dead]) (μ:=fun i=>t.items.length-i) 0 ⟨by omega,by simp⟩ ?_ rfl ?_
        ·simp[forget,gp,Tr.row]
        ·rintro i ⟨hi,hdk⟩
         have hil:(iz t.items).length=t.items.length:=Jf
         by_cases hlt:i < t.items.length
         ·have d2:((i:Int) < (t.items.length:Int))=True:=Jn
          have hgi:=JR hlt
          have hm2:t.items.getD i 0∈t.items:=by
           rw[Ga,Gb hlt]; exact Gc hlt
          have hts:t.items.take (i+1)=t.items.take i++[t.items.getD i 0]:=by
           rw[Gq hlt,Ga,Gb hlt]; rfl
          generalize t.items.getD i 0=k at hgi hm2 hts
          have hkr:=hmem k hm2
          have hgk:=Kz (l:=t.nodes) (i:=k.toNat) (by omega)
          have hkk:Jt t.nodes k=(t.nodes.getD k.toNat default).k:=rfl
          generalize t.nodes.getD k.toNat default=x at hgk hkk
          simp -implicitDefEqProofs only[go_sem,Tr.row,Jc,hil,d2]
          refine JS JA (by decide) ?_
          simp -implicitDefEqProofs only[go_sem,Tr.row,Jc,hil,hgi]
          refine ⟨by omega,?_⟩
          simp -implicitDefEqProofs only[go_sem,Tr.row,Jc,hil,hgk,Nd.cv]
          refine ⟨by omega,?_⟩
          have q65:=Jct 65 x.k
          simp only[Int.cast_ofNat_Int]at q65
          cases b3:(x.k == 65) with
          |true=>
           have e3:((x.k:Int) != 65)=false:=by rw[bne,q65,b3]; rfl
           simp -implicitDefEqProofs only[go_sem,e3]
           refine ⟨Ji,i+1,⟨by omega,?_⟩,by omega,?_⟩
           ·rw[hts]
            intro u hu
            rcases Gv.1 hu with hu | hu
            ·exact hdk u hu
            ·rw[Gt.1 hu,hkk]; exact b3
           ·simp[forget]
          |false=>
           have e3:((x.k:Int) != 65)=true:=by rw[bne,q65,b3]; rfl
           have hf:frm t=false:=by
            rw[hfrm,hie2,GG]
            exact ⟨k,hm2,by rw[hkk,b3]; simp⟩
           rw[Jar h1 hf]
           simp -implicitDefEqProofs only[go_sem,e3]
         ·have hie:i=t.items.length:=by omega
          subst hie
          rw[Gg]at hdk
          have d2:((t.items.length:Int) < (t.items.length:Int))=False:=Jj
          have hf:frm t=true:=by
           rw[hfrm,hie2,GI]; exact hdk
          have hc:chk t=if Jbj t=true then 5 else 0:=by unfold chk; rw[if_neg h1,if_pos hf]
          rw[hc]
          simp -implicitDefEqProofs only[go_sem,Tr.row,Jc,hil,d2]
          refine JV (refTooDeep t ht ho2) ?_
          cases b4:Jbj t with
          |true=>simp -implicitDefEqProofs only[go_sem]
          |false=>simp -implicitDefEqProofs only[go_sem]
       ·have e2:((JeI (fs o) t.items.reverse t.nodes.length).1 != 0)=true:=by simp[b2]
        rw[Jar h1 (by rw[hfrm,hie2,decide_eq_false (fun h=>by rw[h]at b2; exact b2 rfl)]; rfl)]
        simp -implicitDefEqProofs only[go_sem,e2]
theorem Xi {α:Type}{l:List α}{i:Nat}{d:α}(h:i < l.length):l.take (i+1)=l.take i++[l.getD i d]:=by
 rw[Gq h,Ga,Gb h]; rfl
theorem Ja5 (a b:List Int) (ha:a.length≤100000):Fn Gd 66 [.rslc 1 (iz a) none,.rslc 1 (iz b) none] (.bool (a == b)):=by
 have hal:(iz a).length=a.length:=Jf
 have hbl:(iz b).length=b.length:=Jf
 refine Ja c66_ok rfl rfl fun N=>?_
 by_cases hl:a.length=b.length
 ·have e1:((a.length:Int) != (b.length:Int))=false:=by simp[hl]
  simp -implicitDefEqProofs only[c66,go_sem,hal,hbl,e1]
  refine Jz (I:=fun i:Nat=>i≤a.length∧a.take i=b.take i) (inv:=fun i=>gp [(0,.rslc 1 (iz a) none),(0,.rslc 1 (iz b) none),(3,.int .i64 (i:Int))] 20) (hp:=fun _=>[]) (μ:=fun i=>a.length-i) 0 ⟨by omega,by simp⟩ ?_ rfl ?_
  ·simp[forget,gp]
  ·rintro i ⟨hi,hinv⟩
   by_cases hlt:i < a.length
   ·have d1:((i:Int) < (a.length:Int))=True:=Jn
    have hga:=JR hlt
    have hgb:=JR (l:=b) (i:=i) (by omega)
    have hta:=Xi (d:=0) hlt
    have htb:=Xi (l:=b) (i:=i) (d:=0) (by omega)
    simp -implicitDefEqProofs only[go_sem,hal,hbl,d1]
    refine JS JA (by decide) ?_
    simp -implicitDefEqProofs only[go_sem,hal,hbl,hga,hgb]
    refine ⟨by omega,by omega,?_⟩
    by_cases he:a.getD i 0=b.getD i 0
    ·have e2:(a.getD i 0 != b.getD i 0)=false:=by rw[he]; simp
     simp -implicitDefEqProofs only[go_sem,e2]
     refine ⟨Ji,i+1,⟨by omega,by rw[hta,htb,hinv,he]⟩,by omega,?_⟩
     simp[forget]
    ·have e2:(a.getD i 0 != b.getD i 0)=true:=by simpa using he
     have hne:(a == b)=false:=by
      rw[beq_eq_false_iff_ne]; rintro rfl; exact he rfl
     simp -implicitDefEqProofs only[go_sem,e2,hne]
   ·have d1:((i:Int) < (a.length:Int))=False:=Jj
    have he:(a == b)=true:=by
     rw[beq_iff_eq]
     have h1:i=a.length:=by omega
     rw[h1,Gg,Gn (by omega)]at hinv
     exact hinv
    simp -implicitDefEqProofs only[go_sem,hal,hbl,d1,he]
 ·have e1:((a.length:Int) != (b.length:Int))=true:=by simp; omega
  have hne:(a == b)=false:=by
   rw[beq_eq_false_iff_ne]; rintro rfl; exact hl rfl
  simp -implicitDefEqProofs only[c66,go_sem,hal,hbl,e1,hne]
def Jf6 (x y:Nd):Bool:=x.k == y.k && x.text == y.text && x.n == y.n && x.kids == y.kids
theorem sameN_self (x:Nd):Jf6 x x=true:=by simp[Jf6]
def XP:List Nd→List Nd→Bool
 |[],[]=>true
 |x::l,y::m=>Jf6 x y && XP l m
 |_,_=>false
theorem Je8:∀ l:List Nd,XP l l=true
 |[]=>rfl
 |x::l=>by simp[XP,sameN_self,Je8 l]
theorem sameL_len:∀ {l m:List Nd},XP l m=true→l.length=m.length
 |[],[],_=>rfl
 |x::l,y::m,h=>by simp[XP]at h; simp[sameL_len h.2]
 |[],_::_,h=>by simp[XP]at h
 |_::_,[],h=>by simp[XP]at h
theorem sameL_drop {l m:List Nd}{i:Nat}(hi:i < l.length) (hm:i < m.length):XP (l.drop i) (m.drop i)=(Jf6 (l.getD i default) (m.getD i default) && XP (l.drop (i+1)) (m.drop (i+1))):=by
 rw[Gs hi,Gs hm,XP]
 simp[Ga,hi,hm]
def Jf5 (a b:Tr):Bool:=a.items == b.items && XP a.nodes b.nodes
theorem refSame (a b:Tr) (ha:a.Fit) (hb:b.Fit):Fn Gd 65 [a.cv,b.cv] (.bool (Jf5 a b)):=by
 have hal:=ha.many
 have hail:=ha.items
 refine Ja c65_ok rfl rfl fun N=>?_
 by_cases hl:a.nodes.length=b.nodes.length
 ·have e1:((a.nodes.length:Int) != (b.nodes.length:Int))=false:=by simp[hl]
  simp -implicitDefEqProofs only[c65,go_sem,Tr.cv,Tr.row,Jc,e1]
  refine Jg (id:=0) (z:=2) (els:=[a.row]) rfl rfl ?_
  simp only[go_sem,J2,Ko,frz,KG]
  refine Jg (id:=1) (z:=2) (els:=[b.row]) rfl rfl ?_
  simp only[go_sem,J2,Ko,frz,KG,Tr.row,Jc]
  refine JN (gok rfl) (Ja5 a.items b.items (by omega)) ?_
  cases h2:(a.items == b.items) with
  |false=>
   have hs:Jf5 a b=false:=by unfold Jf5; rw[h2]; rfl
   simp -implicitDefEqProofs only[go_sem,hs]
  |true=>
   have hs:Jf5 a b=XP a.nodes b.nodes:=by unfold Jf5; rw[h2]; rfl
   rw[hs]
   simp -implicitDefEqProofs only[go_sem]
   refine JG (I:=fun i:Nat=>i≤a.nodes.length∧XP a.nodes b.nodes=XP (a.nodes.drop i) (b.nodes.drop i)) (inv:=fun i=>gp [(2,.rptr a.row),(0,.rptr b.row),(1,.int .i64 (i:Int))] 61) (hp:=fun _=>[.dead,.dead]) (μ:=fun i=>a.nodes.length-i) 0 [0,1] ⟨by omega,rfl⟩ rfl ?_ rfl ?_
   ·simp[forget,gp,JF,ren,Jo,Tr.row]
   ·rintro i ⟨hi,hinv⟩
    by_cases hlt:i < a.nodes.length
    ·have d1:((i:Int) < (a.nodes.length:Int))=True:=Jn
     have hga:=Kz hlt
     have hgb:=Kz (l:=b.nodes) (i:=i) (by omega)
     have hx:=ha.nodes _ (Gc hlt)
     rw[← rowg hlt]at hx
     rw[sameL_drop hlt (by omega)]at hinv
     generalize a.nodes.getD i default=x at hga hx hinv
     generalize b.nodes.getD i default=y at hgb hinv
     simp -implicitDefEqProofs only[go_sem,Tr.row,Jc,d1]
     refine vr_dregP 10 11 [false,false,false,false,false,false,false,false,false,false,true,true,true,true] [false,false,false,false,false,false,false,false,false,false,true,true,true,true] (gp [(2,.rptr a.row),(0,.rptr b.row),(1,.int .i64 (i:Int)),(0,.ptr 2 0 0),(0,.ptr 3 0 0)] 59) [.dead,.dead,.arr 5 [x.cv],.arr 5 [y.cv]] JA (by decide +kernel) ?_ ?_ ?_
     ·simp -implicitDefEqProofs only[go_sem,Tr.row,Jc,hga,hgb,Nd.cv,splice]
      exact ⟨by omega,by omega,Jdb [0,1,2,3] rfl (by simp[forget,JF,ren,Jo]) (by simp only[Kw,Gi,Gj,go_sem,Jp,Jr]; rfl)⟩
     ·simp -implicitDefEqProofs only[swl,swi,Ky,List.range,List.range.loop,Gf,Gh,Gi,Gj,List.getD_cons_zero,List.getD_cons_succ,go_sem,Tr.row,Jc,hga,hgb,Nd.cv,splice]
      exact ⟨by omega,by omega,Jdb [0,1,3,2] rfl (by simp[forget,JF,ren,Jo]) (by simp only[Kw,Gi,Gj,go_sem,Jp,Jr]; rfl)⟩
     ·have hkx:=hx.kidn
      have hK:=Ja5 x.kids y.kids (by omega)
      obtain ⟨k1,t1,n1,ks1,p1⟩:=x
      obtain ⟨k2,t2,n2,ks2,p2⟩:=y
      simp only[gp,List.replicate]
      dsimp only at hK hinv
      have c1:((k1:Int) != (k2:Int)) = !(k1 == k2):=by
       rw[bne]; congr 1; rw[GQ,beq_iff_eq,beq_iff_eq]; omega
      cases b1:(k1 == k2) with
      |false=>
       rw[b1]at c1
       have hR:XP a.nodes b.nodes=false:=by rw[hinv]; simp[Jf6,b1]
       simp -implicitDefEqProofs only[go_sem,Nd.cv,c1,hR,Gr]
      |true=>
       rw[b1]at c1
       cases b2:(t1 == t2) with
       |false=>
        have hR:XP a.nodes b.nodes=false:=by rw[hinv]; simp[Jf6,b2]
        simp -implicitDefEqProofs only[go_sem,Nd.cv,c1,b2,hR,Gz,Gr]
       |true=>
        cases b3:(n1 == n2) with
        |false=>
         have e3:(n1 != n2)=true:=by rw[bne,b3]; rfl
         have hR:XP a.nodes b.nodes=false:=by rw[hinv]; simp[Jf6,b3]
         simp -implicitDefEqProofs only[go_sem,Nd.cv,c1,b2,e3,hR,Gz,Gr]
        |true=>
         have e3:(n1 != n2)=false:=by rw[bne,b3]; rfl
         simp -implicitDefEqProofs only[go_sem,Nd.cv,c1,b2,e3,Gz,Gr]
         refine JN (gok rfl) hK ?_
         cases b4:(ks1 == ks2) with
         |false=>
          have hR:XP a.nodes b.nodes=false:=by rw[hinv]; simp[Jf6,b4]
          simp -implicitDefEqProofs only[go_sem,hR]
         |true=>
          have hR:XP a.nodes b.nodes=XP (a.nodes.drop (i+1)) (b.nodes.drop (i+1)):=by rw[hinv]; simp only[Jf6,b1,b2,b3,b4,Gm]
          simp -implicitDefEqProofs only[go_sem]
          refine ⟨Ji,i+1,[0,1],⟨by omega,hR⟩,by omega,rfl,?_,?_⟩
          ·simp only[Kw,Gi,Gj,go_sem,Jr]
          ·simp[forget,JF,ren,Jo,Tr.row]
    ·have hie:i=a.nodes.length:=by omega
     have d1:((i:Int) < (a.nodes.length:Int))=False:=Jj
     have hR:XP a.nodes b.nodes=true:=by
      rw[hinv,Gp (by omega),Gp (by omega)]; rfl
     simp -implicitDefEqProofs only[go_sem,Tr.row,Jc,d1,hR]
 ·have e1:((a.nodes.length:Int) != (b.nodes.length:Int))=true:=by simp; omega
  have hs:Jf5 a b=false:=by
   unfold Jf5
   cases h:XP a.nodes b.nodes with
   |false=>simp
   |true=>exact absurd (sameL_len h) hl
  simp -implicitDefEqProofs only[c65,go_sem,Tr.cv,Tr.row,Jc,e1,hs]
theorem JbJ (a:Tr) (ha:a.Fit):Fn Gd 17 [a.cv,a.cv] (.bool true):=by
 have hal:=ha.many
 have hS:=refSame a a ha ha
 rw[show Jf5 a a=true by simp[Jf5,Je8]]at hS
 refine Ja c17_ok rfl rfl fun N=>?_
 simp -implicitDefEqProofs only[c17,go_sem,Tr.cv,Tr.row]
 refine Jg (id:=0) (z:=2) (els:=[a.row]) rfl rfl ?_
 simp only[go_sem,J2,Ko,frz,KG]
 refine Jg (id:=1) (z:=2) (els:=[a.row]) rfl rfl ?_
 simp only[go_sem,J2,Ko,frz,KG,Tr.row]
 refine JV hS ?_
 simp -implicitDefEqProofs only[go_sem]
 refine Jz (I:=fun i:Nat=>i≤a.nodes.length) (inv:=fun i=>gp [(2,.rptr a.row),(0,.rptr a.row),(1,.int .i64 (i:Int))] 24) (hp:=fun _=>[.dead,.dead]) (μ:=fun i=>a.nodes.length-i) 0 (by omega) ?_ rfl ?_
 ·simp[forget,gp,Tr.row]
 ·intro i hi
  by_cases hlt:i < a.nodes.length
  ·have d1:((i:Int) < (a.nodes.length:Int))=True:=Jn
   have hga:=Kz hlt
   generalize a.nodes.getD i default=x at hga
   have e:(x.pl != x.pl)=false:=by simp
   simp -implicitDefEqProofs only[go_sem,Tr.row,Jc,d1]
   refine JS JA (by decide) ?_
   simp -implicitDefEqProofs only[go_sem,Tr.row,Jc,hga,Nd.cv,e]
   refine ⟨by omega,by omega,Ji,i+1,by omega,by omega,?_⟩
   simp[forget,Tr.row]
  ·have d1:((i:Int) < (a.nodes.length:Int))=False:=Jj
   simp -implicitDefEqProofs only[go_sem,Tr.row,Jc,d1]
def Jcf (x:Nd):Bool:=decide (30 < x.kids.length) || decide (60 < x.text.length)
def vastH (t:Tr):Bool:=(decide (250 < t.nodes.length) && decide (t.nodes.length≤700)) || decide (1400 < t.nodes.length) || decide (40 < t.items.length)
def vastT (t:Tr):Bool:=vastH t || t.nodes.any Jcf
theorem row_agg5 {x:Nd}{id n:Nat}{cap:Option Nat}(hn:n=x.kids.length):wk (frz id 1 (iz x.kids) (.agg [.int .u8 x.k,S x.text,.int .i64 x.n,.slc id 0 n cap,.int .i64 x.pl])) (.agg x.cv):=by
 subst hn
 have hl:(iz x.kids).length=x.kids.length:=Jf
 simp only[frz,J2,if_true,GA,hl,Gl,Gw]
 rw[← hl,Gg]
 exact Jbz ⟨wk.refl _,wk.refl _,wk.refl _,wk.rslc,wk.refl _,trivial⟩
theorem Jc8 (x:Nd) (hx:x.kids.length≤1000) (d:Int) (hk:∀ k∈x.kids,InR .i64 (k+d)):Fn Gd 48 [.agg x.cv,.int .i64 d] (.agg (mvN d x).cv):=by
 have hxl:(iz x.kids).length=x.kids.length:=Jf
 refine Jai ?_ rfl rfl
 refine KI c48_ok fun N=>?_
 simp -implicitDefEqProofs only[c48,go_sem,Nd.cv]
 refine JG (I:=fun i:Nat=>i≤x.kids.length) (inv:=fun i=>gp [(1,.int .i64 d),(0,.ptr 0 0 0),(1,.ptr 1 0 0),(0,.slc 2 0 (iz ((x.kids.take i).map (· + d))).length (Jcb (iz ((x.kids.take i).map (· + d))))),(0,.int .i64 (i:Int))] 21)
  (hp:=fun i=>[.arr 5 [x.cv],.arr 5 [[.int .u8 0,S [],.int .i64 0,.nils,.int .i64 0]],.arr 1 (iz ((x.kids.take i).map (· + d)))]) (μ:=fun i=>x.kids.length-i) 0 [0,1,2] (by omega) rfl ?_ rfl ?_
 ·simp[forget,JF,ren,Jo,gp,iz,Jcb]
 ·intro i hi
  by_cases hlt:i < x.kids.length
  ·have d1:((i:Int) < (x.kids.length:Int))=True:=Jn
   have hgi:=JR hlt
   have hts:(x.kids.take (i+1)).map (· + d)=(x.kids.take i).map (· + d)++[x.kids.getD i 0+d]:=by
    rw[Xi (d:=0) hlt,List.map_append]; rfl
   have hol:((x.kids.take i).map (· + d)).length=i:=by simp; omega
   have hmem:x.kids.getD i 0∈x.kids:=by
    rw[Ga,Gb hlt]; exact Gc hlt
   have hin:=hk _ hmem
   generalize x.kids.getD i 0=k at hgi hts hin
   generalize (x.kids.take i).map (· + d)=L at hts hol ⊢
   have hLl:(iz L).length=L.length:=Jf
   have hz:iz (L++[k+d])=iz L++[[.int .i64 (k+d)]]:=J8
   simp -implicitDefEqProofs only[go_sem,Nd.cv,hxl,d1,hgi,JJ]
   refine ⟨by omega,hin,by omega,Ji,i+1,[0,1,4],by omega,by omega,rfl,?_,?_⟩
   ·have hc:=Jb (ρ:=[0,1,4]) (Jd (L++[k+d]))
    rw[hz]at hc
    rw[hts,hz]
    simp only[Kw,Gi,Gj,go_sem,Jp,hc]
    rfl
   ·rw[hts,hz,JaL]
    simp[forget,JF,ren,Jo]
  ·have hie:i=x.kids.length:=by omega
   subst hie
   have d1:((x.kids.length:Int) < (x.kids.length:Int))=False:=Jj
   rw[Gg]
   simp -implicitDefEqProofs only[go_sem,Nd.cv,hxl,d1,splice]
   exact .inr ⟨2,1,iz (x.kids.map (· + d)),rfl,Jd _,row_agg5 (x:=mvN d x) (by simp[Jf,mvN])⟩
theorem row_aggT {z:Nat}{els:List (List CV)}{id n:Nat}{cap:Option Nat}{y:CV}(hy:y.closed=true) (hn:n=els.length):wk (frz id z els (.agg [.slc id 0 n cap,y])) (.agg [.rslc z els none,y]):=by
 subst hn
 simp only[frz,J2,if_true,GA,Gl,Gw,Gg,Xg y hy]
 exact Jbz ⟨wk.rslc,wk.refl _,trivial⟩
theorem refCopy (t:Tr) (ht:t.Fit):Fn Gd 12 [t.cv] t.cv:=by
 have hmany:=ht.many
 have hitems:=ht.items
 have hil:(iz t.items).length=t.items.length:=Jf
 have hrc:=Jd t.items
 refine Jai ?_ rfl rfl
 refine KI c12_ok fun N=>?_
 obtain ⟨R,hR⟩:∃ R,R=iz t.items:=⟨_,rfl⟩
 simp only[Tr.cv,Tr.row]
 rw[← hR]at hrc hil ⊢
 cases R with
 |nil=>
  simp -implicitDefEqProofs only[c12,go_sem]
  refine Jg (id:=0) (z:=2) (els:=[[.rslc 5 (ndz t.nodes) none,.rslc 1 [] none]]) rfl rfl ?_
  simp only[go_sem,J2,Ko,frz,KG]
  refine Jg (id:=2) (z:=1) (els:=[]) rfl rfl ?_
  simp only[go_sem,J2,Ko,frz,KG]
  refine XU ?_
  simp only[go_sem,GH,GJ]
  refine JG (I:=fun i:Nat=>i≤t.nodes.length) (inv:=fun i=>gp [(1,.rptr [.rslc 5 (ndz t.nodes) none,.rslc 1 [] none]),(0,.ptr 1 0 0),(0,.ptr 2 0 0),(0,.int .i64 (i:Int))] 24) (hp:=fun i=>[.dead,.arr 2 [[.nils,.nils]],.arr 2 [[QC 3 (ndz (t.nodes.take i)),.rslc 1 [] none]],Xu 5 (ndz (t.nodes.take i))]) (μ:=fun i=>t.nodes.length-i) 0 [0,1,3,4] (by omega) rfl ?_ ?_ ?_
  ·simp[forget,JF,ren,Jo,gp]
  ·rfl
  ·intro i hi
   by_cases hlt:i < t.nodes.length
   ·have d1:((i:Int) < (t.nodes.length:Int))=True:=Jn
    have hg:=Kz hlt
    have hx:=ht.nodes _ (Gc hlt)
    rw[← rowg hlt]at hx
    have hts:ndz (t.nodes.take (i+1))=ndz (t.nodes.take i)++[(t.nodes.getD i default).cv]:=by
     rw[Xi (d:=default) hlt]; simp[ndz]
    have hcl:=JZ (t.nodes.take (i+1))
    have hpl:(ndz (t.nodes.take i)).length=i:=by rw[Jc,Gu]; omega
    generalize t.nodes.getD i default=x at hg hx hts
    generalize ndz (t.nodes.take i)=Z at hts hpl ⊢
    have hM:=Jc8 x (by have:=hx.kidn; omega) 0 (fun k hk=>by rw[Int.add_zero]; exact hx.kids k hk)
    have hmv:mvN 0 x=x:=by
     obtain ⟨k,te,n,ks,p⟩:=x
     simp[mvN]
    rw[hmv]at hM
    simp -implicitDefEqProofs only[go_sem,Jc,d1]
    refine XA [false,true,false,false,false,false,false,false,false,true,false,true] JA (by decide +kernel) ?_
    simp -implicitDefEqProofs only[go_sem,Jc,hg]
    refine ⟨by omega,by simp[Nd.cv],?_⟩
    refine vh_f hM ?_
    simp -implicitDefEqProofs only[go_sem]
    refine vh_row [x.cv] rfl rfl rfl rfl ?_
    simp -implicitDefEqProofs only[go_sem,JJ,splice,Gf,Gh]
    refine ⟨by omega,Ji,i+1,[0,1,2,4],by omega,by omega,rfl,?_,?_⟩
    ·rw[hts]at hcl
     have hc:=Jb (ρ:=[0,1,2,4]) hcl
     rw[hts,Kl,Km]
     simp only[Kw,Gi,Gj,go_sem,Jp,hc]
     rfl
    ·simp[forget,JF,ren,Jo]
   ·have hie:i=t.nodes.length:=by omega
    subst hie
    have d1:((t.nodes.length:Int) < (t.nodes.length:Int))=False:=Jj
    rw[Gg]
    have hnc:=JZ t.nodes
    cases hN:ndz t.nodes with
    |nil=>
     have hnl:(([]:List (List CV)).length:Int)=t.nodes.length:=by rw[← hN,Jc]
     simp only[Gh]at hnl
     simp -implicitDefEqProofs only[go_sem,Qn,QX,Gh,hnl,d1,splice]
     exact .inl (Jbz ⟨wk.nils,wk.refl _,trivial⟩)
    |cons f fs=>
     have hnl:((fs.length+1:Nat):Int)=t.nodes.length:=by rw[← Gf,← hN,Jc]
     rw[Qz (by simp),Qd (by simp)]
     simp -implicitDefEqProofs only[go_sem,Gf,hnl,d1,splice]
     rw[hN]at hnc
     exact .inr ⟨3,5,f::fs,rfl,hnc,row_aggT rfl rfl⟩
 |cons e es=>
  have hel:es.length+1≤40:=by have:=hil; simp only[Gf]at this; omega
  simp -implicitDefEqProofs only[c12,go_sem,JJ,Gf]
  refine ⟨by omega,?_⟩
  refine Jg (id:=3) (z:=1) (els:=e::es) rfl hrc ?_
  simp only[go_sem,J2,Ko,frz,KG,Gf,Gw,Gn (l:=e::es) (i:=es.length+1) (Gl _)]
  refine Jg (id:=0) (z:=2) (els:=[[.rslc 5 (ndz t.nodes) none,.rslc 1 (e::es) none]]) rfl rfl ?_
  simp only[go_sem,J2,Ko,frz,KG]
  refine XU ?_
  simp only[go_sem,GH,GJ]
  refine JG (I:=fun i:Nat=>i≤t.nodes.length) (inv:=fun i=>gp [(1,.rptr [.rslc 5 (ndz t.nodes) none,.rslc 1 (e::es) none]),(0,.ptr 1 0 0),(0,.ptr 2 0 0),(0,.int .i64 (i:Int))] 24) (hp:=fun i=>[.dead,.arr 2 [[.nils,.nils]],.arr 2 [[QC 3 (ndz (t.nodes.take i)),.rslc 1 (e::es) none]],Xu 5 (ndz (t.nodes.take i))]) (μ:=fun i=>t.nodes.length-i) 0 [0,1,4,5] (by omega) rfl ?_ ?_ ?_
  ·simp[forget,JF,ren,Jo,gp]
  ·rfl
  ·intro i hi
   by_cases hlt:i < t.nodes.length
   ·have d1:((i:Int) < (t.nodes.length:Int))=True:=Jn
    have hg:=Kz hlt
    have hx:=ht.nodes _ (Gc hlt)
    rw[← rowg hlt]at hx
    have hts:ndz (t.nodes.take (i+1))=ndz (t.nodes.take i)++[(t.nodes.getD i default).cv]:=by
     rw[Xi (d:=default) hlt]; simp[ndz]
    have hcl:=JZ (t.nodes.take (i+1))
    have hpl:(ndz (t.nodes.take i)).length=i:=by rw[Jc,Gu]; omega
    generalize t.nodes.getD i default=x at hg hx hts
    generalize ndz (t.nodes.take i)=Z at hts hpl ⊢
    have hM:=Jc8 x (by have:=hx.kidn; omega) 0 (fun k hk=>by rw[Int.add_zero]; exact hx.kids k hk)
    have hmv:mvN 0 x=x:=by
     obtain ⟨k,te,n,ks,p⟩:=x
     simp[mvN]
    rw[hmv]at hM
    simp -implicitDefEqProofs only[go_sem,Jc,d1]
    refine XA [false,true,false,false,false,false,false,false,false,true,false,true] JA (by decide +kernel) ?_
    simp -implicitDefEqProofs only[go_sem,Jc,hg]
    refine ⟨by omega,by simp[Nd.cv],?_⟩
    refine vh_f hM ?_
    simp -implicitDefEqProofs only[go_sem]
    refine vh_row [x.cv] rfl rfl rfl rfl ?_
    simp -implicitDefEqProofs only[go_sem,JJ,splice,Gf,Gh]
    refine ⟨by omega,Ji,i+1,[0,1,2,4],by omega,by omega,rfl,?_,?_⟩
    ·rw[hts]at hcl
     have hc:=Jb (ρ:=[0,1,2,4]) hcl
     rw[hts,Kl,Km]
     simp only[Kw,Gi,Gj,go_sem,Jp,hc]
     rfl
    ·simp[forget,JF,ren,Jo]
   ·have hie:i=t.nodes.length:=by omega
    subst hie
    have d1:((t.nodes.length:Int) < (t.nodes.length:Int))=False:=Jj
    rw[Gg]
    have hnc:=JZ t.nodes
    cases hN:ndz t.nodes with
    |nil=>
     have hnl:(([]:List (List CV)).length:Int)=t.nodes.length:=by rw[← hN,Jc]
     simp only[Gh]at hnl
     simp -implicitDefEqProofs only[go_sem,Qn,QX,Gh,hnl,d1,splice]
     exact .inl (Jbz ⟨wk.nils,wk.refl _,trivial⟩)
    |cons f fs=>
     have hnl:((fs.length+1:Nat):Int)=t.nodes.length:=by rw[← Gf,← hN,Jc]
     rw[Qz (by simp),Qd (by simp)]
     simp -implicitDefEqProofs only[go_sem,Gf,hnl,d1,splice]
     rw[hN]at hnc
     exact .inr ⟨3,5,f::fs,rfl,hnc,row_aggT rfl rfl⟩
end Go.Cm
end
section
namespace Go.Cm
structure Nd.Ty (x:Nd):Prop where
 k:x.k < 256
 n:InR .i64 x.n
 kids:∀ i∈x.kids,InR .i64 i
 pl:InR .i64 x.pl
structure Tr.Ty (t:Tr):Prop where
 nodes:∀ x∈t.nodes,x.Ty
 items:∀ i∈t.items,InR .i64 i
theorem Tr.Ty.fit {t:Tr}(h:t.Ty) (hv:vastT t=false):t.Fit:=by
 unfold vastT vastH at hv
 simp only[GL,Gx,decide_eq_false_iff_not,GD]at hv
 obtain ⟨⟨⟨_,h2⟩,h3⟩,h4⟩:=hv
 refine ⟨by omega,by omega,fun x hx=>?_,h.items⟩
 have hn:=h4 x hx
 unfold Jcf at hn
 simp only[GM,GL,decide_eq_false_iff_not]at hn
 have ty:=h.nodes x hx
 exact ⟨ty.k,by omega,ty.n,by omega,ty.kids,ty.pl⟩
end Go.Cm
end
section
set_option maxRecDepth 100000
set_option maxHeartbeats 4000000
open Go.Proofs
namespace Go.Cm
theorem indexI (l:List Int) (x:Int) (hl:l.length≤100000):Fn Gd 100 [.rslc 1 (iz l) none,.int .i64 x] (.int .i64 (QU (fun y=>x == y) l 0)):=by
 have hil:(iz l).length=l.length:=Jf
 refine Ja c100_ok rfl rfl fun N=>?_
 simp -implicitDefEqProofs only[c100,go_sem,hil]
 refine Jz (I:=fun i:Nat=>i≤l.length∧QU (fun y=>x == y) l 0=QU (fun y=>x == y) (l.drop i) i) (inv:=fun i=>gp [(0,.rslc 1 (iz l) none),(0,.int .i64 x),(5,.int .i64 (l.length:Int)),(0,.int .i64 (i:Int))] 10) (hp:=fun _=>[]) (μ:=fun i=>l.length-i) 0 ⟨by omega,rfl⟩ ?_ rfl ?_
 ·simp[forget,gp]
 ·rintro i ⟨hi,hinv⟩
  by_cases hlt:i < l.length
  ·have d1:((i:Int) < (l.length:Int))=True:=Jn
   have hgi:=JR hlt
   have hge:l[i]? = some (l.getD i 0):=by rw[Ga,Gb hlt]; rfl
   rw[QF hge]at hinv
   simp -implicitDefEqProofs only[go_sem,hil,d1,hgi]
   generalize l.getD i 0=y at hinv ⊢
   refine ⟨by omega,?_⟩
   cases he:(x == y) with
   |true=>
    rw[he,if_pos rfl]at hinv
    simp -implicitDefEqProofs only[go_sem,hinv]
   |false=>
    rw[he]at hinv
    simp -implicitDefEqProofs only[go_sem]
    refine ⟨Ji,i+1,⟨by omega,by simpa using hinv⟩,by omega,?_⟩
    simp[forget]
  ·have d1:((i:Int) < (l.length:Int))=False:=Jj
   rw[Gp (by omega)]at hinv
   simp -implicitDefEqProofs only[go_sem,d1,hinv,QU]
theorem containsI (l:List Int) (x:Int) (hl:l.length≤100000):Fn Gd 56 [.rslc 1 (iz l) none,.int .i64 x] (.bool (l.contains x)):=by
 refine Ja c56_ok rfl rfl fun N=>?_
 simp -implicitDefEqProofs only[c56,go_sem]
 refine JV (indexI l x hl) ?_
 have e:decide (0≤QU (fun y=>x == y) l 0)=l.contains x:=by rw[JaI,List.contains_eq_any_beq]
 simp -implicitDefEqProofs only[go_sem,e]
def inT (t:Tr) (n:Int):Bool:=inI 0 ((t.nodes.length:Int)-1) n
theorem X8 {t:Tr}{n:Int}:inT t n=true↔0≤n∧n < t.nodes.length:=by
 simp only[inT,inI,GN,decide_eq_true_eq]; omega
theorem fixA_skip {α:Type}{q:α→Bool}{l:List α}:∀ (n:Nat),n≤l.length→(∀ j (h:j < l.length),j < n→q l[j]=false)→QU q l 0=QU q (l.drop n) n
 |0,_,_=>rfl
 |n+1,h,hq=>by
  rw[fixA_skip n (by omega) fun j hj hn=>hq j hj (by omega),QF (Gb (by omega:n < l.length)),hq n (by omega) (by omega)]
  simp
theorem refParent (t:Tr) (ht:t.Fit) {o:List Int}(g:GoodT t o) (n:Nat) (hn:n < t.nodes.length):Fn Gd 67 [t.cv,.int .i64 n] (.int .i64 (QU (fun x:Nd=>x.kids.contains (n:Int)) t.nodes 0)):=by
 have hmany:=ht.many
 refine Ja c67_ok rfl rfl fun N=>?_
 simp -implicitDefEqProofs only[c67,go_sem,Tr.cv,Tr.row]
 refine ⟨Ji,?_⟩
 refine Jg (id:=0) (z:=2) (els:=[t.row]) rfl rfl ?_
 simp only[go_sem,J2,Ko,frz,KG,Tr.row]
 have hskip:QU (fun x:Nd=>x.kids.contains (n:Int)) t.nodes 0=QU (fun x:Nd=>x.kids.contains (n:Int)) (t.nodes.drop (n+1)) (n+1):=by
  refine fixA_skip (n+1) (by omega) fun j hj hjn=>?_
  rw[← GM,List.contains_iff_mem]
  intro hm
  have:=g.kid hj (k:=n) (by rw[rowg hj]; exact hm)
  omega
 refine Jz (I:=fun i:Nat=>i≤t.nodes.length∧QU (fun x:Nd=>x.kids.contains (n:Int)) t.nodes 0=QU (fun x:Nd=>x.kids.contains (n:Int)) (t.nodes.drop i) i) (inv:=fun i=>gp [(1,.int .i64 (n:Int)),(0,.rptr t.row),(2,.int .i64 (i:Int))] 33) (hp:=fun _=>[.dead]) (μ:=fun i=>t.nodes.length-i) (n+1) ⟨by omega,hskip⟩ ?_ rfl ?_
 ·simp[forget,gp,Tr.row]
 ·rintro i ⟨hi,hinv⟩
  by_cases hlt:i < t.nodes.length
  ·have d1:((i:Int) < (t.nodes.length:Int))=True:=Jn
   have hg:=Kz hlt
   have hx:=ht.nodes _ (Gc hlt)
   rw[← rowg hlt]at hx
   have hge:t.nodes[i]? = some (t.nodes.getD i default):=by rw[Ga,Gb hlt]; rfl
   rw[QF hge]at hinv
   generalize t.nodes.getD i default=x at hg hinv hx
   have hkn:=hx.kidn
   have hxl:(iz x.kids).length=x.kids.length:=Jf
   simp -implicitDefEqProofs only[go_sem,Tr.row,Jc,d1]
   refine Jz (I:=fun j:Nat=>j≤x.kids.length∧x.kids.contains (n:Int)=(x.kids.drop j).contains (n:Int)) (inv:=fun j=>gp [(1,.int .i64 (n:Int)),(0,.rptr t.row),(2,.int .i64 (i:Int)),(0,.int .i64 (j:Int))] 32) (hp:=fun _=>[.dead]) (μ:=fun j=>x.kids.length-j) 0 ⟨by omega,rfl⟩ ?_ rfl ?_
   ·simp[forget,gp,Tr.row]
   ·rintro j ⟨hj,hjv⟩
    by_cases hjl:j < x.kids.length
    ·have d2:((j:Int) < (x.kids.length:Int))=True:=Jn
     have hgi:=JR hjl
     rw[Gs hjl,List.contains_cons,show x.kids[j]=x.kids.getD j 0 by rw[Ga,Gb hjl]; rfl]at hjv
     generalize x.kids.getD j 0=k at hgi hjv
     have hsym:(k == (n:Int))=((n:Int) == k):=by rw[GQ,beq_iff_eq,beq_iff_eq]; exact eq_comm
     cases he:(k == (n:Int)) with
     |true=>
      rw[← hsym,he,Bool.true_or]at hjv
      rw[hjv,if_pos rfl]at hinv
      simp -implicitDefEqProofs only[go_sem,Tr.row,Jc,hg,Nd.cv,hxl,d2,hgi,he,hinv]
      omega
     |false=>
      rw[← hsym,he,Bool.false_or]at hjv
      simp -implicitDefEqProofs only[go_sem,Tr.row,Jc,hg,Nd.cv,hxl,d2,hgi,he]
      refine ⟨by omega,by omega,by omega,Ji,j+1,⟨by omega,hjv⟩,by omega,?_⟩
      simp[forget,Tr.row]
    ·have d2:((j:Int) < (x.kids.length:Int))=False:=Jj
     rw[Gp (by omega)]at hjv
     rw[hjv]at hinv
     simp -implicitDefEqProofs only[go_sem,Tr.row,Jc,hg,Nd.cv,hxl,d2]
     refine ⟨by omega,Ji,i+1,⟨by omega,by simpa using hinv⟩,by omega,?_⟩
     simp[forget,Tr.row]
  ·have d1:((i:Int) < (t.nodes.length:Int))=False:=Jj
   rw[Gp (by omega)]at hinv
   simp -implicitDefEqProofs only[go_sem,Tr.row,Jc,d1,hinv,QU]
theorem ord_take {t:Tr}{o:List Int}(g:GoodT t o):JB ((JH t.nodes).take t.nodes.length) []=some o:=by
 rw[Gn (by rw[Qs]; exact Gl _)]; exact g.ord.h
theorem refIsBelow (t:Tr) (ht:t.Fit) {o:List Int}(g:GoodT t o) (a:Int) (i:Nat) (hi:i < t.nodes.length):Fn Gd 22 [t.cv,.int .i64 a,.int .i64 i] (.bool (decide (a≤i) && decide (fs o i≤a))):=by
 refine Ja c22_ok rfl rfl fun N=>?_
 by_cases h:a≤(i:Int)
 ·have d1:(a≤(i:Int))=True:=eq_true h
  simp -implicitDefEqProofs only[c22,go_sem,Tr.cv,Tr.row,d1]
  refine JN (gok rfl) (refFirst t (ord_take g) (Gl _) i hi) ?_
  simp -implicitDefEqProofs only[go_sem]
 ·have d1:(a≤(i:Int))=False:=eq_false h
  simp -implicitDefEqProofs only[c22,go_sem,Tr.cv,Tr.row,d1]
end Go.Cm
end
end
