/-
  Part of a proof about the package floodgatelaw02 (shortened by a program). Conditions: none.
-/
import Derived.Test.YthbifneaknlfgaaGreatDoorGP7
import Derived.Test.YthbifneaknlfgaaGreatDoorGP6
import Derived.Test.YthbifneaknlfgaaGreatDoorGP11
import Derived.Test.YthbifneaknlfgaaGreatDoorGPkRF
set_option linter.unusedSimpArgs false
set_option linter.unusedVariables false
section
open Go.Proofs
set_option maxRecDepth 100000
namespace Go.Cm
def mD (d:List Int) (ks:List Int):Int:=ks.foldl (fun a k=>mx a (d.getD k.toNat 0)) 0
theorem mx_succ (a b:Int):mx (a+1) (b+1)=mx a b+1:=by unfold mx; split <;> split <;> omega
theorem ownD_mD (d ks:List Int):ownD d ks=mD d ks+1:=by
 have key:∀ (l:List Int) (a:Int),l.foldl (fun a k=>mx a (d.getD k.toNat 0+1)) (a+1)=l.foldl (fun a k=>mx a (d.getD k.toNat 0)) a+1:=by
  intro l
  induction l with
  |nil=>intro a; rfl
  |cons k l ih=>intro a; rw[List.foldl_cons,List.foldl_cons,mx_succ]; exact ih _
 exact key ks 0
theorem mD_rng {d:List Int}{m:Int}(h:∀ v∈d,1≤v∧v≤m) (hm:0≤m) (ks:List Int):0≤mD d ks∧mD d ks≤m:=by
 have:=Jdy (m:=m) h hm ks 1 (by omega) (by omega)
 have e:=ownD_mD d ks
 unfold ownD at e
 omega
theorem refTooDeep (t:Tr) (ht:t.Fit) {o:List Int}(ho:Jw (JB t.nodes) []=some o):Fn Tryz.prog 47 [t.cv] (.bool (YP t)):=by
 have hmany:=ht.many
 refine Ja c47_ok rfl rfl fun N=>?_
 simp -implicitDefEqProofs only[c47,go_sem,Tr.cv,Tr.row]
 refine Jn (id:=0) (z:=2) (els:=[t.row]) rfl rfl ?_
 simp only[go_sem,frzL,frzH,frz,frzO]
 refine Qr (I:=fun i:Nat=>i≤t.nodes.length∧∀ v∈Kj ((JB t.nodes).take i) [],v≤30) (inv:=fun i=>gp [(1,.rptr t.row),(1,.slc 1 0 (iz (Kj ((JB t.nodes).take i) [])).length (capE (iz (Kj ((JB t.nodes).take i) [])))),(0,.int .i64 (i:Int))] 43)
  (hp:=fun i=>[.dead,.arr 1 (iz (Kj ((JB t.nodes).take i) []))]) (μ:=fun i=>t.nodes.length-i) 0 [0,1] ⟨by omega,by simp[Kj]⟩ rfl ?_ rfl ?_
 ·simp[forget,renL,ren,KZ,gp,Kj,iz,capE]
 ·rintro i ⟨hi,hall⟩
  have hdl:(Kj ((JB t.nodes).take i) []).length=i:=by
   rw[Jal,List.length_take]
   simp[JB]
   omega
  have hdk:=JdW ((JB t.nodes).take i) [] (by intro v hv; simp at hv)
  by_cases hlt:i < t.nodes.length
  ·have hstep:=Jc3 (Kl hlt)
   have hbel:=K7 ho (Kl hlt)
   have hx:=ht.nodes _ (List.getElem_mem hlt)
   rw[← rowg hlt]at hx
   have hln:=hdl
   clear hdl
   have hbig:∀ v∈Kj ((JB t.nodes).take (i+1)) [],v∈Kj (JB t.nodes) []:=by
    intro v hv
    rw[deepF_take (by rw[Qf]; omega)]at hv
    exact List.mem_of_mem_take hv
   generalize hD:Kj ((JB t.nodes).take i) []=d at hstep hln hdk hall ⊢
   have d1:((i:Int) < (t.nodes.length:Int))=True:=eq_true (by omega)
   simp -implicitDefEqProofs only[go_sem,Tr.row,Jd,d1]
   have hg:=J7 hlt
   generalize t.nodes.getD i default=x at hstep hbel hx hg ⊢
   have hkn:=hx.kidn
   have hdr:∀ v∈d,1≤v∧v≤i:=fun v hv=>by have:=hdk v hv; omega
   refine JG (I:=fun j:Nat=>j≤x.kids.length) (inv:=fun j=>gp [(1,.rptr t.row),(1,.slc 1 0 (iz d).length (capE (iz d))),(0,.int .i64 (i:Int)),(0,.int .i64 (mD d (x.kids.take j))),(0,.int .i64 (j:Int))] 41)
    (hp:=fun _=>[.dead,.arr 1 (iz d)]) (μ:=fun j=>x.kids.length-j) 0 (by omega) ?_ rfl ?_
   ·simp[forget,gp,mD,Tr.row]
   ·intro j hj
    have hxl:(iz x.kids).length=x.kids.length:=Jb
    by_cases hjl:j < x.kids.length
    ·have d2:((j:Int) < (x.kids.length:Int))=True:=eq_true (by omega)
     have hmem:x.kids.getD j 0∈x.kids:=by
      rw[List.getD_eq_getElem?_getD,List.getElem?_eq_getElem hjl]; exact List.getElem_mem hjl
     have hb:=hbel _ hmem
     have hst:mD d (x.kids.take (j+1))=mx (mD d (x.kids.take j)) (d.getD (x.kids.getD j 0).toNat 0):=by
      have hgk:x.kids.getD j 0=x.kids[j]:=by rw[List.getD_eq_getElem?_getD,List.getElem?_eq_getElem hjl]; rfl
      unfold mD
      rw[List.take_succ_eq_append_getElem hjl,List.foldl_append,hgk]; rfl
     have hgi:=J8 hjl
     generalize x.kids.getD j 0=k at hb hst hgi
     have hgk:=J8 (l:=d) (i:=k.toNat) (by omega)
     have hgr:=JdK (m:=i) (fun v hv=>by have:=hdr v hv; omega) (by omega) k.toNat
     have hdz:(iz d).length=d.length:=Jb
     simp -implicitDefEqProofs only[go_sem,Tr.row,Jd,hg,Nd.cv,hxl,d2,hgi,hgk]
     refine ⟨by omega,by omega,by omega,by omega,by omega,Jg (by omega) (by omega),j+1,by omega,by omega,?_⟩
     rw[hst]
     simp[forget,mx]
    ·have hje:j=x.kids.length:=by omega
     subst hje
     have d2:((x.kids.length:Int) < (x.kids.length:Int))=False:=eq_false (by omega)
     rw[List.take_length]
     have hmr:=mD_rng hdr (by omega) x.kids
     have hdz:(iz d).length=d.length:=Jb
     rw[ownD_mD]at hstep
     have hz:iz (d++[mD d x.kids+1])=iz d++[[.int .i64 (mD d x.kids+1)]]:=JaK
     have hcl:=KI (d++[mD d x.kids+1])
     generalize mD d x.kids=v at hstep hmr hz hcl ⊢
     by_cases hv:30 < v+1
     ·have d3:((30:Int) < v+1)=True:=eq_true hv
      have hB:YP t=true:=by
       rw[YP,List.any_eq_true]
       exact ⟨v+1,hbig _ (by rw[hstep]; simp),by simpa using hv⟩
      simp -implicitDefEqProofs only[go_sem,Tr.row,Jd,hg,Nd.cv,hxl,d2,d3,J2,hB]
      repeat' apply And.intro
      all_goals first | omega | exact Jg (by omega) (by omega)
     ·have d3:((30:Int) < v+1)=False:=eq_false hv
      simp -implicitDefEqProofs only[go_sem,Tr.row,Jd,hg,Nd.cv,hxl,d2,d3,J2]
      refine ⟨by omega,Jg (by omega) (by omega),by omega,Jg (by omega) (by omega),Jg (by omega) (by omega),i+1,[0,3],⟨by omega,?_⟩,by omega,rfl,?_,?_⟩
      ·rw[hstep]
       intro u hu
       rcases List.mem_append.1 hu with hu | hu
       ·exact hall u hu
       ·rw[List.mem_singleton.1 hu]; omega
      ·rw[hstep]
       have hc:=JV (ρ:=[0,3]) hcl
       simp only[renH,List.map_cons,List.map_nil,go_sem,Qi]
       rw[hz]at hc ⊢
       rw[hc]
       rfl
      ·rw[hstep,hz,Jd2]
       simp[forget,renL,ren,KZ,Jb,Tr.row]
  ·have hie:i=t.nodes.length:=by omega
   subst hie
   have d1:((t.nodes.length:Int) < (t.nodes.length:Int))=False:=eq_false (by omega)
   have hB:YP t=false:=by
    rw[YP,← List.take_of_length_le (l:=JB t.nodes) (i:=t.nodes.length) (by simp[JB]),List.any_eq_false]
    intro v hv
    have:=hall v hv
    simp; omega
   rw[hB]
   simp -implicitDefEqProofs only[go_sem,Tr.row,Jd,d1]
end Go.Cm
end
section
open Go.Proofs
set_option maxRecDepth 100000
set_option maxHeartbeats 4000000
namespace Go.Cm
theorem X3 {t:Tr}(h1:¬ (700 < t.nodes.length∨20 < t.items.length)) (h2:frm t=false):chk t=4:=by
 unfold chk; rw[if_neg h1,if_neg (by rw[h2]; simp)]
theorem frm_none {t:Tr}(h:Jw (JB t.nodes) []=none):frm t=false:=by unfold frm; rw[h]
theorem frm_kid {t:Tr}{i:Nat}(hi:i < t.nodes.length) {k:Int}(hk:k∈(t.nodes.getD i default).kids) (hb:¬ (0≤k∧k < i)):frm t=false:=by
 cases h:Jw (JB t.nodes) []with
 |none=>exact frm_none h
 |some o=>exact absurd (K7 h (Kl hi) k hk) hb
theorem frm_nd {t:Tr}{i:Nat}(hi:i < t.nodes.length) (hb:ndI t.nodes (t.nodes.getD i default)=false):frm t=false:=by
 unfold frm
 cases h:Jw (JB t.nodes) []with
 |none=>rfl
 |some o=>
  simp only[Bool.and_eq_false_iff]
  right
  rw[List.all_eq_false]
  refine ⟨t.nodes.getD i default,?_,by rw[hb]; simp⟩
  rw[List.getD_eq_getElem?_getD,List.getElem?_eq_getElem hi]; exact List.getElem_mem hi
theorem step_ord {K:List (List Int)}{i:Nat}{o ks:List Int}(ho:Jw (K.take i) []=some o) (hk:K[i]? = some ks) :
  (Jw (K.take (i+1)) []=none∧(ordR (fs o) ks.reverse i).2=false)∨(∃ f,Jw (K.take (i+1)) []=some (o++[f])∧(ordR (fs o) ks.reverse i).2=true):=by
 obtain ⟨h1,h2⟩:=JaW ho hk
 have hok:=Km _ _ _ KR.nil ho
 have h3:=JcK (fst:=fs o) hok (fun k _ _=>rfl) ks.reverse ((o.length:Int)-1) (by omega)
 rw[h1]
 unfold JbC
 have e:((o.length:Int)-1+1)=(i:Int):=by omega
 rw[e]at h3
 cases h4:KQ o ks.reverse ((o.length:Int)-1) with
 |none=>rw[h4]at h3; exact .inl ⟨rfl,h3⟩
 |some b=>rw[h4]at h3; simp only at h3; exact .inr ⟨b+1,rfl,by rw[h3]⟩
theorem ndI_R (l:List Nd) (x:Nd):ndI l x=(kinL x.k x.n (lets l x) && fldR (Ja6 x.text) x.k x.text x.n x.pl && sizR x.k x.n (lets l x)):=by
 unfold ndI; rw[node_eq]; rfl
theorem refCheck (t:Tr) (ht:t.Fit):Fn Tryz.prog 12 [t.cv] (.int .i64 (chk t)):=by
 have hmany:=ht.many
 have hitems:=ht.items
 refine Ja c12_ok rfl rfl fun N=>?_
 simp -implicitDefEqProofs only[c12,go_sem,Tr.cv,Tr.row]
 refine Jn (id:=0) (z:=2) (els:=[t.row]) rfl rfl ?_
 simp only[go_sem,frzL,frzH,frz,frzO,Tr.row]
 refine vr_f (refLimits t) ?_
 by_cases h1:700 < t.nodes.length∨20 < t.items.length
 ·have hc:chk t=5:=by unfold chk; rw[if_pos h1]
  rw[decide_eq_false (not_not_intro h1),hc]
  simp -implicitDefEqProofs only[go_sem]
 ·rw[decide_eq_true h1]
  simp -implicitDefEqProofs only[go_sem]
  refine JG (I:=fun i:Nat=>i≤t.nodes.length∧∀ j,j < i→∀ k∈(t.nodes.getD j default).kids,0≤k∧k < j) (inv:=fun i=>gp [(1,.rptr t.row),(1,.int .i64 (i:Int))] 123) (hp:=fun _=>[.dead]) (μ:=fun i=>t.nodes.length-i) 0 ⟨by omega,by omega⟩ ?_ rfl ?_
  ·simp[forget,gp,Tr.row]
  ·rintro i ⟨hi,hkids⟩
   by_cases hlt:i < t.nodes.length
   ·have d1:((i:Int) < (t.nodes.length:Int))=True:=eq_true (by omega)
    have hx:=ht.nodes _ (List.getElem_mem hlt)
    rw[← rowg hlt]at hx
    have hg:=J7 hlt
    have hfk:=fun {k:Int} (hk:k∈(t.nodes.getD i default).kids) (hb:¬ (0≤k∧k < i))=>frm_kid hlt hk hb
    have hsucc:(∀ k∈(t.nodes.getD i default).kids,0≤k∧k < i)→∀ j,j < i+1→∀ k∈(t.nodes.getD j default).kids,0≤k∧k < j:=by
     intro h j hj
     by_cases e:j=i
     ·subst e; exact h
     ·exact hkids j (by omega)
    generalize t.nodes.getD i default=x at hx hg hfk hsucc
    have hkn:=hx.kidn
    have hxl:(iz x.kids).length=x.kids.length:=Jb
    simp -implicitDefEqProofs only[go_sem,Tr.row,Jd,d1]
    refine JG (I:=fun j:Nat=>j≤x.kids.length∧∀ k∈x.kids.take j,0≤k∧k < i) (inv:=fun j=>gp [(1,.rptr t.row),(1,.int .i64 (i:Int)),(0,.int .i64 (j:Int))] 122) (hp:=fun _=>[.dead]) (μ:=fun j=>x.kids.length-j) 0 ⟨by omega,by simp⟩ ?_ rfl ?_
    ·simp[forget,gp,Tr.row]
    ·rintro j ⟨hj,hkj⟩
     by_cases hjl:j < x.kids.length
     ·have d2:((j:Int) < (x.kids.length:Int))=True:=eq_true (by omega)
      have hgi:=J8 hjl
      have hmem:x.kids.getD j 0∈x.kids:=by
       rw[List.getD_eq_getElem?_getD,List.getElem?_eq_getElem hjl]; exact List.getElem_mem hjl
      have hts:x.kids.take (j+1)=x.kids.take j++[x.kids.getD j 0]:=by
       rw[List.take_succ_eq_append_getElem hjl,List.getD_eq_getElem?_getD,List.getElem?_eq_getElem hjl]; rfl
      generalize x.kids.getD j 0=k at hgi hmem hts
      simp -implicitDefEqProofs only[go_sem,Tr.row,Jd,hg,Nd.cv,hxl,d2,hgi]
      refine ⟨by omega,by omega,by omega,Jg (by omega) (by omega),?_⟩
      refine vr_f (KD k 0 ((i:Int)-1)) ?_
      cases hin:inI 0 ((i:Int)-1) k with
      |true=>
       simp only[inI,Bool.and_eq_true,decide_eq_true_eq]at hin
       simp -implicitDefEqProofs only[go_sem]
       refine ⟨Jg (by omega) (by omega),j+1,⟨by omega,?_⟩,by omega,?_⟩
       ·rw[hts]
        intro u hu
        rcases List.mem_append.1 hu with hu | hu
        ·exact hkj u hu
        ·rw[List.mem_singleton.1 hu]; omega
       ·simp[forget]
      |false=>
       have hb:¬ (0≤k∧k < i):=by
        simp only[inI,Bool.and_eq_false_iff,decide_eq_false_iff_not]at hin
        omega
       rw[X3 h1 (hfk hmem hb)]
       simp -implicitDefEqProofs only[go_sem]
     ·have hje:j=x.kids.length:=by omega
      subst hje
      rw[List.take_length]at hkj
      have d2:((x.kids.length:Int) < (x.kids.length:Int))=False:=eq_false (by omega)
      simp -implicitDefEqProofs only[go_sem,Tr.row,Jd,hg,Nd.cv,hxl,d2]
      refine ⟨by omega,Jg (by omega) (by omega),i+1,⟨by omega,hsucc hkj⟩,by omega,?_⟩
      simp[forget]
   ·have hie:i=t.nodes.length:=by omega
    subst hie
    have d1:((t.nodes.length:Int) < (t.nodes.length:Int))=False:=eq_false (by omega)
    simp -implicitDefEqProofs only[go_sem,Tr.row,Jd,d1]
    refine JG (I:=fun i:Nat=>i≤t.nodes.length∧(∃ o,Jw ((JB t.nodes).take i) []=some o)∧∀ j,j < i→ndI t.nodes (t.nodes.getD j default)=true) (inv:=fun i=>gp [(1,.rptr t.row),(3,.int .i64 (i:Int))] 121) (hp:=fun _=>[.dead]) (μ:=fun i=>t.nodes.length-i) 0 ⟨by omega,⟨[],by simp[Jw]⟩,by omega⟩ ?_ rfl ?_
    ·simp[forget,gp,Tr.row]
    ·rintro i ⟨hi,⟨o,ho⟩,hnd⟩
     by_cases hlt:i < t.nodes.length
     ·have d1:((i:Int) < (t.nodes.length:Int))=True:=eq_true (by omega)
      have hx:=ht.nodes _ (List.getElem_mem hlt)
      rw[← rowg hlt]at hx
      have hg:=J7 hlt
      have hki:=Kl hlt
      have hkk:=hkids i hlt
      have hnf:=fun hb=>frm_nd hlt hb
      have hnR:=ndI_R t.nodes (t.nodes.getD i default)
      have hS:=refSized t i hlt hmany hx (fun y hy=>(ht.nodes y hy).k) (fun k hk=>by have:=hkk k hk; omega)
      have hstep:=step_ord ho hki
      have hsn:ndI t.nodes (t.nodes.getD i default)=true→∀ j,j < i+1→ndI t.nodes (t.nodes.getD j default)=true:=by
       intro h j hj
       by_cases e:j=i
       ·subst e; exact h
       ·exact hnd j (by omega)
      generalize t.nodes.getD i default=x at hx hg hki hkk hnf hnR hS hstep hsn
      have hO:=JcG t ho hi hmany x.kids (by have:=hx.kidn; omega) i (Nat.le_refl _)
      have hKi:=refKin t x hx hmany (fun y hy=>(ht.nodes y hy).k) (fun k hk=>by have:=hkk k hk; omega)
      have hF:=refFields x (kindR x.text) (Ja6 x.text) (kindR_name x.text) (refKind x.text (by have:=hx.text; omega))
      simp -implicitDefEqProofs only[go_sem,Tr.row,Jd,d1]
      refine JH JD (by decide) ?_
      simp -implicitDefEqProofs only[go_sem,Tr.row,Jd,hg]
      refine ⟨by omega,?_⟩
      simp -implicitDefEqProofs only[go_sem,Nd.cv]
      refine Qz (.inl rfl) hO ?_
      simp -implicitDefEqProofs only[go_sem]
      refine JH JD (by decide) ?_
      rcases hstep with ⟨s1,s2⟩ | ⟨f,s1,s2⟩
      ·simp -implicitDefEqProofs only[go_sem,s2]
       rw[X3 h1 (frm_none (JaX s1))]
      ·simp -implicitDefEqProofs only[go_sem,Tr.row,Jd,s2,hg]
       refine ⟨by omega,?_⟩
       refine ⟨by simp[Nd.cv],?_⟩
       refine Qz (gok rfl) hKi ?_
       cases b1:kinL x.k x.n (lets t.nodes x) with
       |false=>
        rw[b1,Bool.false_and,Bool.false_and]at hnR
        simp -implicitDefEqProofs only[go_sem]
        rw[X3 h1 (hnf hnR)]
       |true=>
        simp -implicitDefEqProofs only[go_sem,Tr.row,Jd,hg]
        refine ⟨by omega,by simp[Nd.cv],?_⟩
        refine Qz (gok rfl) hF ?_
        cases b2:fldR (Ja6 x.text) x.k x.text x.n x.pl with
        |false=>
         rw[b1,b2,Bool.true_and,Bool.false_and]at hnR
         simp -implicitDefEqProofs only[go_sem]
         rw[X3 h1 (hnf hnR)]
        |true=>
         simp -implicitDefEqProofs only[go_sem,Tr.row,Jd,hg]
         refine Qz (gok rfl) hS ?_
         cases b3:sizR x.k x.n (lets t.nodes x) with
         |false=>
          rw[b1,b2,b3,Bool.true_and,Bool.true_and]at hnR
          simp -implicitDefEqProofs only[go_sem]
          rw[X3 h1 (hnf hnR)]
         |true=>
          rw[b1,b2,b3,Bool.true_and,Bool.true_and]at hnR
          simp -implicitDefEqProofs only[go_sem]
          refine ⟨Jg (by omega) (by omega),i+1,⟨by omega,⟨_,s1⟩,hsn hnR⟩,by omega,?_⟩
          simp[forget,Tr.row]
     ·have hie:i=t.nodes.length:=by omega
      subst hie
      have d1:((t.nodes.length:Int) < (t.nodes.length:Int))=False:=eq_false (by omega)
      have ho2:Jw (JB t.nodes) []=some o:=by
       rw[← List.take_of_length_le (l:=JB t.nodes) (i:=t.nodes.length) (by simp[JB])]; exact ho
      have hok:=Km _ _ _ KR.nil ho2
      have hol:=Kh _ _ _ ho2
      simp only[List.length_nil,Nat.zero_add,Qf]at hol
      have hO:=JcG t ho (Nat.le_refl _) hmany t.items (by omega) t.nodes.length (Nat.le_refl _)
      have hie2:=items_eq (fst:=fs o) (isD:=fun i=>Jk t.nodes i == 65) hok hol (fun k _ _=>rfl) t.items
      have hall:t.nodes.all (ndI t.nodes)=true:=by
       rw[List.all_eq_true]
       intro y hy
       obtain ⟨j,hj⟩:=List.getElem?_of_mem hy
       have hjl:=(List.getElem?_eq_some_iff.1 hj).1
       have:=hnd j hjl
       rw[List.getD_eq_getElem?_getD,hj]at this
       exact this
      have hfrm:frm t=QR o (fun i=>Jk t.nodes i == 65) t.nodes.length t.items 0:=by
       unfold frm; rw[ho2]; simp only[hall,Bool.and_true]
      simp -implicitDefEqProofs only[go_sem,Tr.row,Jd,d1]
      refine vr_f hO ?_
      simp -implicitDefEqProofs only[go_sem]
      cases b1:(ordR (fs o) t.items.reverse t.nodes.length).2 with
      |false=>
       rw[X3 h1 (by rw[hfrm,hie2,decide_eq_false (fun h=>by rw[h]at b1; cases b1)]; rfl)]
       simp -implicitDefEqProofs only[go_sem]
      |true=>
       by_cases b2:(ordR (fs o) t.items.reverse t.nodes.length).1=0
       ·have e2:((ordR (fs o) t.items.reverse t.nodes.length).1 != 0)=false:=by simp[b2]
        have hor:ordR (fs o) t.items.reverse t.nodes.length=(0,true):=Prod.ext b2 b1
        rw[hor,decide_eq_true rfl,Bool.true_and]at hie2
        simp -implicitDefEqProofs only[go_sem,e2]
        have hch:=(JaC hok hol (fst:=fs o) (fun k _ _=>rfl) t.items.reverse t.nodes.length (by omega) (by omega)).1 hor
        rw[List.reverse_reverse]at hch
        have hmem:=fun i hi=>Jan hok rfl t.items 0 t.nodes.length (by rw[hol]; exact hch) i hi
        refine JG (I:=fun i:Nat=>i≤t.items.length∧∀ k∈t.items.take i,(Jk t.nodes k == 65)=true) (inv:=fun i=>gp [(1,.rptr t.row),(8,.int .i64 (i:Int))] 116) (hp:=fun _=>[.dead]) (μ:=fun i=>t.items.length-i) 0 ⟨by omega,by simp⟩ ?_ rfl ?_
        ·simp[forget,gp,Tr.row]
        ·rintro i ⟨hi,hdk⟩
         have hil:(iz t.items).length=t.items.length:=Jb
         by_cases hlt:i < t.items.length
         ·have d2:((i:Int) < (t.items.length:Int))=True:=eq_true (by omega)
          have hgi:=J8 hlt
          have hm2:t.items.getD i 0∈t.items:=by
           rw[List.getD_eq_getElem?_getD,List.getElem?_eq_getElem hlt]; exact List.getElem_mem hlt
          have hts:t.items.take (i+1)=t.items.take i++[t.items.getD i 0]:=by
           rw[List.take_succ_eq_append_getElem hlt,List.getD_eq_getElem?_getD,List.getElem?_eq_getElem hlt]; rfl
          generalize t.items.getD i 0=k at hgi hm2 hts
          have hkr:=hmem k hm2
          have hgk:=J7 (l:=t.nodes) (i:=k.toNat) (by omega)
          have hkk:Jk t.nodes k=(t.nodes.getD k.toNat default).k:=rfl
          generalize t.nodes.getD k.toNat default=x at hgk hkk
          simp -implicitDefEqProofs only[go_sem,Tr.row,Jd,hil,d2]
          refine JH JD (by decide) ?_
          simp -implicitDefEqProofs only[go_sem,Tr.row,Jd,hil,hgi]
          refine ⟨by omega,?_⟩
          simp -implicitDefEqProofs only[go_sem,Tr.row,Jd,hil,hgk,Nd.cv]
          refine ⟨by omega,?_⟩
          have q65:=nateq 65 x.k
          simp only[Int.cast_ofNat_Int]at q65
          cases b3:(x.k == 65) with
          |true=>
           have e3:((x.k:Int) != 65)=false:=by rw[bne,q65,b3]; rfl
           simp -implicitDefEqProofs only[go_sem,e3]
           refine ⟨Jg (by omega) (by omega),i+1,⟨by omega,?_⟩,by omega,?_⟩
           ·rw[hts]
            intro u hu
            rcases List.mem_append.1 hu with hu | hu
            ·exact hdk u hu
            ·rw[List.mem_singleton.1 hu,hkk]; exact b3
           ·simp[forget]
          |false=>
           have e3:((x.k:Int) != 65)=true:=by rw[bne,q65,b3]; rfl
           have hf:frm t=false:=by
            rw[hfrm,hie2,List.all_eq_false]
            exact ⟨k,hm2,by rw[hkk,b3]; simp⟩
           rw[X3 h1 hf]
           simp -implicitDefEqProofs only[go_sem,e3]
         ·have hie:i=t.items.length:=by omega
          subst hie
          rw[List.take_length]at hdk
          have d2:((t.items.length:Int) < (t.items.length:Int))=False:=eq_false (by omega)
          have hf:frm t=true:=by
           rw[hfrm,hie2,List.all_eq_true]; exact hdk
          have hc:chk t=if YP t=true then 5 else 0:=by unfold chk; rw[if_neg h1,if_pos hf]
          rw[hc]
          simp -implicitDefEqProofs only[go_sem,Tr.row,Jd,hil,d2]
          refine vr_f (refTooDeep t ht ho2) ?_
          cases b4:YP t with
          |true=>simp -implicitDefEqProofs only[go_sem]
          |false=>simp -implicitDefEqProofs only[go_sem]
       ·have e2:((ordR (fs o) t.items.reverse t.nodes.length).1 != 0)=true:=by simp[b2]
        rw[X3 h1 (by rw[hfrm,hie2,decide_eq_false (fun h=>by rw[h]at b2; exact b2 rfl)]; rfl)]
        simp -implicitDefEqProofs only[go_sem,e2]
end Go.Cm
end
section
open Go.Proofs
set_option maxRecDepth 100000
set_option maxHeartbeats 4000000
namespace Go.Cm
theorem X7 {α:Type}{l:List α}{i:Nat}{d:α}(h:i < l.length):l.take (i+1)=l.take i++[l.getD i d]:=by
 rw[List.take_succ_eq_append_getElem h,List.getD_eq_getElem?_getD,List.getElem?_eq_getElem h]; rfl
theorem JbM (a b:List Int) (ha:a.length≤100000):Fn Tryz.prog 71 [.rslc 1 (iz a) none,.rslc 1 (iz b) none] (.bool (a == b)):=by
 have hal:(iz a).length=a.length:=Jb
 have hbl:(iz b).length=b.length:=Jb
 refine Ja c71_ok rfl rfl fun N=>?_
 by_cases hl:a.length=b.length
 ·have e1:((a.length:Int) != (b.length:Int))=false:=by simp[hl]
  simp -implicitDefEqProofs only[c71,go_sem,hal,hbl,e1]
  refine JG (I:=fun i:Nat=>i≤a.length∧a.take i=b.take i) (inv:=fun i=>gp [(0,.rslc 1 (iz a) none),(0,.rslc 1 (iz b) none),(3,.int .i64 (i:Int))] 20) (hp:=fun _=>[]) (μ:=fun i=>a.length-i) 0 ⟨by omega,by simp⟩ ?_ rfl ?_
  ·simp[forget,gp]
  ·rintro i ⟨hi,hinv⟩
   by_cases hlt:i < a.length
   ·have d1:((i:Int) < (a.length:Int))=True:=eq_true (by omega)
    have hga:=J8 hlt
    have hgb:=J8 (l:=b) (i:=i) (by omega)
    have hta:=X7 (d:=0) hlt
    have htb:=X7 (l:=b) (i:=i) (d:=0) (by omega)
    simp -implicitDefEqProofs only[go_sem,hal,hbl,d1]
    refine JH JD (by decide) ?_
    simp -implicitDefEqProofs only[go_sem,hal,hbl,hga,hgb]
    refine ⟨by omega,by omega,?_⟩
    by_cases he:a.getD i 0=b.getD i 0
    ·have e2:(a.getD i 0 != b.getD i 0)=false:=by rw[he]; simp
     simp -implicitDefEqProofs only[go_sem,e2]
     refine ⟨Jg (by omega) (by omega),i+1,⟨by omega,by rw[hta,htb,hinv,he]⟩,by omega,?_⟩
     simp[forget]
    ·have e2:(a.getD i 0 != b.getD i 0)=true:=by simpa using he
     have hne:(a == b)=false:=by
      rw[beq_eq_false_iff_ne]; rintro rfl; exact he rfl
     simp -implicitDefEqProofs only[go_sem,e2,hne]
   ·have d1:((i:Int) < (a.length:Int))=False:=eq_false (by omega)
    have he:(a == b)=true:=by
     rw[beq_iff_eq]
     have h1:i=a.length:=by omega
     rw[h1,List.take_length,List.take_of_length_le (by omega)]at hinv
     exact hinv
    simp -implicitDefEqProofs only[go_sem,hal,hbl,d1,he]
 ·have e1:((a.length:Int) != (b.length:Int))=true:=by simp; omega
  have hne:(a == b)=false:=by
   rw[beq_eq_false_iff_ne]; rintro rfl; exact hl rfl
  simp -implicitDefEqProofs only[c71,go_sem,hal,hbl,e1,hne]
def Jdp (x y:Nd):Bool:=x.k == y.k && x.text == y.text && x.n == y.n && x.kids == y.kids
theorem sameN_self (x:Nd):Jdp x x=true:=by simp[Jdp]
def QK:List Nd→List Nd→Bool
 |[],[]=>true
 |x::l,y::m=>Jdp x y && QK l m
 |_,_=>false
theorem JcD:∀ l:List Nd,QK l l=true
 |[]=>rfl
 |x::l=>by simp[QK,sameN_self,JcD l]
theorem sameL_len:∀ {l m:List Nd},QK l m=true→l.length=m.length
 |[],[],_=>rfl
 |x::l,y::m,h=>by simp[QK]at h; simp[sameL_len h.2]
 |[],_::_,h=>by simp[QK]at h
 |_::_,[],h=>by simp[QK]at h
theorem sameL_drop {l m:List Nd}{i:Nat}(hi:i < l.length) (hm:i < m.length):QK (l.drop i) (m.drop i)=(Jdp (l.getD i default) (m.getD i default) && QK (l.drop (i+1)) (m.drop (i+1))):=by
 rw[List.drop_eq_getElem_cons hi,List.drop_eq_getElem_cons hm,QK]
 simp[List.getD_eq_getElem?_getD,hi,hm]
def Jdo (a b:Tr):Bool:=a.items == b.items && QK a.nodes b.nodes
theorem refSame (a b:Tr) (ha:a.Fit) (hb:b.Fit):Fn Tryz.prog 29 [a.cv,b.cv] (.bool (Jdo a b)):=by
 have hal:=ha.many
 have hail:=ha.items
 refine Ja c29_ok rfl rfl fun N=>?_
 by_cases hl:a.nodes.length=b.nodes.length
 ·have e1:((a.nodes.length:Int) != (b.nodes.length:Int))=false:=by simp[hl]
  simp -implicitDefEqProofs only[c29,go_sem,Tr.cv,Tr.row,Jd,e1]
  refine Jn (id:=0) (z:=2) (els:=[a.row]) rfl rfl ?_
  simp only[go_sem,frzL,frzH,frz,frzO]
  refine Jn (id:=1) (z:=2) (els:=[b.row]) rfl rfl ?_
  simp only[go_sem,frzL,frzH,frz,frzO,Tr.row,Jd]
  refine Js (gok rfl) (JbM a.items b.items (by omega)) ?_
  cases h2:(a.items == b.items) with
  |false=>
   have hs:Jdo a b=false:=by unfold Jdo; rw[h2]; rfl
   simp -implicitDefEqProofs only[go_sem,hs]
  |true=>
   have hs:Jdo a b=QK a.nodes b.nodes:=by unfold Jdo; rw[h2]; rfl
   rw[hs]
   simp -implicitDefEqProofs only[go_sem]
   refine Qr (I:=fun i:Nat=>i≤a.nodes.length∧QK a.nodes b.nodes=QK (a.nodes.drop i) (b.nodes.drop i)) (inv:=fun i=>gp [(2,.rptr a.row),(0,.rptr b.row),(1,.int .i64 (i:Int))] 61) (hp:=fun _=>[.dead,.dead]) (μ:=fun i=>a.nodes.length-i) 0 [0,1] ⟨by omega,rfl⟩ rfl ?_ rfl ?_
   ·simp[forget,gp,renL,ren,KZ,Tr.row]
   ·rintro i ⟨hi,hinv⟩
    by_cases hlt:i < a.nodes.length
    ·have d1:((i:Int) < (a.nodes.length:Int))=True:=eq_true (by omega)
     have hga:=J7 hlt
     have hgb:=J7 (l:=b.nodes) (i:=i) (by omega)
     have hx:=ha.nodes _ (List.getElem_mem hlt)
     rw[← rowg hlt]at hx
     rw[sameL_drop hlt (by omega)]at hinv
     generalize a.nodes.getD i default=x at hga hx hinv
     generalize b.nodes.getD i default=y at hgb hinv
     simp -implicitDefEqProofs only[go_sem,Tr.row,Jd,d1]
     refine vr_dregP 10 11 [false,false,false,false,false,false,false,false,false,false,true,true,true,true] [false,false,false,false,false,false,false,false,false,false,true,true,true,true] (gp [(2,.rptr a.row),(0,.rptr b.row),(1,.int .i64 (i:Int)),(0,.ptr 2 0 0),(0,.ptr 3 0 0)] 59) [.dead,.dead,.arr 5 [x.cv],.arr 5 [y.cv]] JD (by decide +kernel) ?_ ?_ ?_
     ·simp -implicitDefEqProofs only[go_sem,Tr.row,Jd,hga,hgb,Nd.cv,splice]
      exact ⟨by omega,by omega,leads_to [0,1,2,3] rfl (by simp[forget,renL,ren,KZ]) (by simp only[renH,List.map_cons,List.map_nil,go_sem,Qi,JbH]; rfl)⟩
     ·simp -implicitDefEqProofs only[swl,swi,lget,List.range,List.range.loop,List.length_cons,List.length_nil,List.map_cons,List.map_nil,List.getD_cons_zero,List.getD_cons_succ,go_sem,Tr.row,Jd,hga,hgb,Nd.cv,splice]
      exact ⟨by omega,by omega,leads_to [0,1,3,2] rfl (by simp[forget,renL,ren,KZ]) (by simp only[renH,List.map_cons,List.map_nil,go_sem,Qi,JbH]; rfl)⟩
     ·have hkx:=hx.kidn
      have hK:=JbM x.kids y.kids (by omega)
      obtain ⟨k1,t1,n1,ks1,p1⟩:=x
      obtain ⟨k2,t2,n2,ks2,p2⟩:=y
      simp only[gp,List.replicate]
      dsimp only at hK hinv
      have c1:((k1:Int) != (k2:Int)) = !(k1 == k2):=by
       rw[bne]; congr 1; rw[Bool.eq_iff_iff,beq_iff_eq,beq_iff_eq]; omega
      cases b1:(k1 == k2) with
      |false=>
       rw[b1]at c1
       have hR:QK a.nodes b.nodes=false:=by rw[hinv]; simp[Jdp,b1]
       simp -implicitDefEqProofs only[go_sem,Nd.cv,c1,hR,Bool.not_false]
      |true=>
       rw[b1]at c1
       cases b2:(t1 == t2) with
       |false=>
        have hR:QK a.nodes b.nodes=false:=by rw[hinv]; simp[Jdp,b2]
        simp -implicitDefEqProofs only[go_sem,Nd.cv,c1,b2,hR,Bool.not_true,Bool.not_false]
       |true=>
        cases b3:(n1 == n2) with
        |false=>
         have e3:(n1 != n2)=true:=by rw[bne,b3]; rfl
         have hR:QK a.nodes b.nodes=false:=by rw[hinv]; simp[Jdp,b3]
         simp -implicitDefEqProofs only[go_sem,Nd.cv,c1,b2,e3,hR,Bool.not_true,Bool.not_false]
        |true=>
         have e3:(n1 != n2)=false:=by rw[bne,b3]; rfl
         simp -implicitDefEqProofs only[go_sem,Nd.cv,c1,b2,e3,Bool.not_true,Bool.not_false]
         refine Js (gok rfl) hK ?_
         cases b4:(ks1 == ks2) with
         |false=>
          have hR:QK a.nodes b.nodes=false:=by rw[hinv]; simp[Jdp,b4]
          simp -implicitDefEqProofs only[go_sem,hR]
         |true=>
          have hR:QK a.nodes b.nodes=QK (a.nodes.drop (i+1)) (b.nodes.drop (i+1)):=by rw[hinv]; simp only[Jdp,b1,b2,b3,b4,Bool.true_and]
          simp -implicitDefEqProofs only[go_sem]
          refine ⟨Jg (by omega) (by omega),i+1,[0,1],⟨by omega,hR⟩,by omega,rfl,?_,?_⟩
          ·simp only[renH,List.map_cons,List.map_nil,go_sem,JbH]
          ·simp[forget,renL,ren,KZ,Tr.row]
    ·have hie:i=a.nodes.length:=by omega
     have d1:((i:Int) < (a.nodes.length:Int))=False:=eq_false (by omega)
     have hR:QK a.nodes b.nodes=true:=by
      rw[hinv,List.drop_eq_nil_of_le (by omega),List.drop_eq_nil_of_le (by omega)]; rfl
     simp -implicitDefEqProofs only[go_sem,Tr.row,Jd,d1,hR]
 ·have e1:((a.nodes.length:Int) != (b.nodes.length:Int))=true:=by simp; omega
  have hs:Jdo a b=false:=by
   unfold Jdo
   cases h:QK a.nodes b.nodes with
   |false=>simp
   |true=>exact absurd (sameL_len h) hl
  simp -implicitDefEqProofs only[c29,go_sem,Tr.cv,Tr.row,Jd,e1,hs]
end Go.Cm
end
section
open Go.Proofs
set_option maxRecDepth 100000
set_option maxHeartbeats 4000000
namespace Go.Cm
theorem Jdt (a:Tr) (ha:a.Fit):Fn Tryz.prog 13 [a.cv,a.cv] (.bool true):=by
 have hal:=ha.many
 have hS:=refSame a a ha ha
 rw[show Jdo a a=true by simp[Jdo,JcD]]at hS
 refine Ja c13_ok rfl rfl fun N=>?_
 simp -implicitDefEqProofs only[c13,go_sem,Tr.cv,Tr.row]
 refine Jn (id:=0) (z:=2) (els:=[a.row]) rfl rfl ?_
 simp only[go_sem,frzL,frzH,frz,frzO]
 refine Jn (id:=1) (z:=2) (els:=[a.row]) rfl rfl ?_
 simp only[go_sem,frzL,frzH,frz,frzO,Tr.row]
 refine vr_f hS ?_
 simp -implicitDefEqProofs only[go_sem]
 refine JG (I:=fun i:Nat=>i≤a.nodes.length) (inv:=fun i=>gp [(2,.rptr a.row),(0,.rptr a.row),(1,.int .i64 (i:Int))] 24) (hp:=fun _=>[.dead,.dead]) (μ:=fun i=>a.nodes.length-i) 0 (by omega) ?_ rfl ?_
 ·simp[forget,gp,Tr.row]
 ·intro i hi
  by_cases hlt:i < a.nodes.length
  ·have d1:((i:Int) < (a.nodes.length:Int))=True:=eq_true (by omega)
   have hga:=J7 hlt
   generalize a.nodes.getD i default=x at hga
   have e:(x.pl != x.pl)=false:=by simp
   simp -implicitDefEqProofs only[go_sem,Tr.row,Jd,d1]
   refine JH JD (by decide) ?_
   simp -implicitDefEqProofs only[go_sem,Tr.row,Jd,hga,Nd.cv,e]
   refine ⟨by omega,by omega,Jg (by omega) (by omega),i+1,by omega,by omega,?_⟩
   simp[forget,Tr.row]
  ·have d1:((i:Int) < (a.nodes.length:Int))=False:=eq_false (by omega)
   simp -implicitDefEqProofs only[go_sem,Tr.row,Jd,d1]
def Jbz (x:Nd):Bool:=decide (30 < x.kids.length) || decide (60 < x.text.length)
def vastH (t:Tr):Bool:=(decide (250 < t.nodes.length) && decide (t.nodes.length≤700)) || decide (1400 < t.nodes.length) || decide (40 < t.items.length)
def Jcs (t:Tr):Bool:=vastH t || t.nodes.any Jbz
theorem lawVast (t:Tr):Fn Tryz.prog 7 [t.cv] (.bool (Jcs t)):=by
 refine Ja c7_ok rfl rfl fun N=>?_
 have hil:(iz t.items).length=t.items.length:=Jb
 cases hH:vastH t with
 |true=>
  have hv:Jcs t=true:=by unfold Jcs; rw[hH]; rfl
  rw[hv]
  unfold vastH at hH
  have e1:((250:Int) < (t.nodes.length:Int))=(250 < t.nodes.length):=propext (by omega)
  have e2:((t.nodes.length:Int)≤700)=(t.nodes.length≤700):=propext (by omega)
  have e3:((1400:Int) < (t.nodes.length:Int))=(1400 < t.nodes.length):=propext (by omega)
  have e4:((40:Int) < (t.items.length:Int))=(40 < t.items.length):=propext (by omega)
  by_cases g1:250 < t.nodes.length <;> by_cases g2:t.nodes.length≤700 <;> by_cases g3:1400 < t.nodes.length <;> by_cases g4:40 < t.items.length <;> first | (exfalso; omega) | (exfalso; simp[g1,g2,g3,g4]at hH; done) | (simp -implicitDefEqProofs only[c7,go_sem,Tr.cv,Tr.row,Jd,hil,e1,e2,e3,e4,g1,g2,g3,g4])
 |false=>
  unfold vastH at hH
  simp only[Bool.or_eq_false_iff,Bool.and_eq_false_iff,decide_eq_false_iff_not]at hH
  obtain ⟨⟨h1,h2⟩,h3⟩:=hH
  have e3:((1400:Int) < (t.nodes.length:Int))=False:=eq_false (by omega)
  have e4:((40:Int) < (t.items.length:Int))=False:=eq_false (by omega)
  have hv:Jcs t=t.nodes.any Jbz:=by
   unfold Jcs vastH
   have:(decide (250 < t.nodes.length) && decide (t.nodes.length≤700))=false:=by
    simp only[Bool.and_eq_false_iff,decide_eq_false_iff_not]; exact h1
   rw[this,decide_eq_false h2,decide_eq_false h3]; rfl
  rw[hv]
  by_cases g1:250 < t.nodes.length
  case' pos=>
   have e1:((250:Int) < (t.nodes.length:Int))=True:=eq_true (by omega)
   have e2:((t.nodes.length:Int)≤700)=False:=eq_false (by omega)
   simp -implicitDefEqProofs only[c7,go_sem,Tr.cv,Tr.row,Jd,hil,e1,e2,e3,e4]
  case' neg=>
   have e1:((250:Int) < (t.nodes.length:Int))=False:=eq_false (by omega)
   simp -implicitDefEqProofs only[c7,go_sem,Tr.cv,Tr.row,Jd,hil,e1,e3,e4]
  all_goals (
   refine Jn (id:=0) (z:=2) (els:=[t.row]) rfl rfl ?_
   simp only[go_sem,frzL,frzH,frz,frzO,Tr.row]
   refine JG (I:=fun i:Nat=>i≤t.nodes.length∧t.nodes.any Jbz=(t.nodes.drop i).any Jbz) (inv:=fun i=>gp [(1,.rptr t.row),(1,.int .i64 (i:Int))] 47) (hp:=fun _=>[.dead]) (μ:=fun i=>t.nodes.length-i) 0 ⟨by omega,rfl⟩ ?_ rfl ?_
   ·simp[forget,gp,Tr.row]
   ·rintro i ⟨hi,hinv⟩
    by_cases hlt:i < t.nodes.length
    ·have d1:((i:Int) < (t.nodes.length:Int))=True:=eq_true (by omega)
     have hg:=J7 hlt
     rw[List.drop_eq_getElem_cons hlt,List.any_cons,← rowg hlt]at hinv
     generalize t.nodes.getD i default=x at hg hinv
     have hxl:(iz x.kids).length=x.kids.length:=Jb
     by_cases g5:30 < x.kids.length
     ·have e5:((30:Int) < (x.kids.length:Int))=True:=eq_true (by omega)
      rw[show Jbz x=true by simp[Jbz,g5],Bool.true_or]at hinv
      simp -implicitDefEqProofs only[go_sem,Tr.row,Jd,d1,hg,Nd.cv,hxl,e5,hinv]
      omega
     ·have e5:((30:Int) < (x.kids.length:Int))=False:=eq_false (by omega)
      by_cases g6:60 < x.text.length
      ·have e6:((60:Int) < (x.text.length:Int))=True:=eq_true (by omega)
       rw[show Jbz x=true by simp[Jbz,g6],Bool.true_or]at hinv
       simp -implicitDefEqProofs only[go_sem,Tr.row,Jd,d1,hg,Nd.cv,hxl,e5,e6,hinv]
       omega
      ·have e6:((60:Int) < (x.text.length:Int))=False:=eq_false (by omega)
       rw[show Jbz x=false by simp[Jbz,g5,g6],Bool.false_or]at hinv
       simp -implicitDefEqProofs only[go_sem,Tr.row,Jd,d1,hg,Nd.cv,hxl,e5,e6]
       refine ⟨by omega,by omega,Jg (by omega) (by omega),i+1,⟨by omega,hinv⟩,by omega,?_⟩
       simp[forget,Tr.row]
    ·have d1:((i:Int) < (t.nodes.length:Int))=False:=eq_false (by omega)
     rw[List.drop_eq_nil_of_le (by omega)]at hinv
     simp -implicitDefEqProofs only[go_sem,Tr.row,Jd,d1,hinv]
     simp
   )
theorem row_agg5 {x:Nd}{id n:Nat}{cap:Option Nat}(hn:n=x.kids.length):wk (frz id 1 (iz x.kids) (.agg [.int .u8 x.k,S x.text,.int .i64 x.n,.slc id 0 n cap,.int .i64 x.pl])) (.agg x.cv):=by
 subst hn
 have hl:(iz x.kids).length=x.kids.length:=Jb
 simp only[frz,frzL,if_true,Nat.zero_add,hl,Nat.le_refl,List.drop_zero]
 rw[← hl,List.take_length]
 exact wk_agg ⟨wk.refl _,wk.refl _,wk.refl _,wk.rslc,wk.refl _,trivial⟩
theorem refMoved (x:Nd) (hx:x.kids.length≤1000) (d:Int) (hk:∀ k∈x.kids,InR .i64 (k+d)):Fn Tryz.prog 35 [.agg x.cv,.int .i64 d] (.agg (mvN d x).cv):=by
 have hxl:(iz x.kids).length=x.kids.length:=Jb
 refine Jb6 ?_ rfl rfl
 refine Yt c35_ok fun N=>?_
 simp -implicitDefEqProofs only[c35,go_sem,Nd.cv]
 refine Qr (I:=fun i:Nat=>i≤x.kids.length) (inv:=fun i=>gp [(1,.int .i64 d),(0,.ptr 0 0 0),(1,.ptr 1 0 0),(0,.slc 2 0 (iz ((x.kids.take i).map (· + d))).length (capE (iz ((x.kids.take i).map (· + d))))),(0,.int .i64 (i:Int))] 21)
  (hp:=fun i=>[.arr 5 [x.cv],.arr 5 [[.int .u8 0,S [],.int .i64 0,.nils,.int .i64 0]],.arr 1 (iz ((x.kids.take i).map (· + d)))]) (μ:=fun i=>x.kids.length-i) 0 [0,1,2] (by omega) rfl ?_ rfl ?_
 ·simp[forget,renL,ren,KZ,gp,iz,capE]
 ·intro i hi
  by_cases hlt:i < x.kids.length
  ·have d1:((i:Int) < (x.kids.length:Int))=True:=eq_true (by omega)
   have hgi:=J8 hlt
   have hts:(x.kids.take (i+1)).map (· + d)=(x.kids.take i).map (· + d)++[x.kids.getD i 0+d]:=by
    rw[X7 (d:=0) hlt,List.map_append]; rfl
   have hol:((x.kids.take i).map (· + d)).length=i:=by simp; omega
   have hmem:x.kids.getD i 0∈x.kids:=by
    rw[List.getD_eq_getElem?_getD,List.getElem?_eq_getElem hlt]; exact List.getElem_mem hlt
   have hin:=hk _ hmem
   generalize x.kids.getD i 0=k at hgi hts hin
   generalize (x.kids.take i).map (· + d)=L at hts hol ⊢
   have hLl:(iz L).length=L.length:=Jb
   have hz:iz (L++[k+d])=iz L++[[.int .i64 (k+d)]]:=JaK
   simp -implicitDefEqProofs only[go_sem,Nd.cv,hxl,d1,hgi,J2]
   refine ⟨by omega,hin,by omega,Jg (by omega) (by omega),i+1,[0,1,4],by omega,by omega,rfl,?_,?_⟩
   ·have hc:=JV (ρ:=[0,1,4]) (KI (L++[k+d]))
    rw[hz]at hc
    rw[hts,hz]
    simp only[renH,List.map_cons,List.map_nil,go_sem,Qi,hc]
    rfl
   ·rw[hts,hz,Jd2]
    simp[forget,renL,ren,KZ]
  ·have hie:i=x.kids.length:=by omega
   subst hie
   have d1:((x.kids.length:Int) < (x.kids.length:Int))=False:=eq_false (by omega)
   rw[List.take_length]
   simp -implicitDefEqProofs only[go_sem,Nd.cv,hxl,d1,splice]
   exact .inr ⟨2,1,iz (x.kids.map (· + d)),rfl,KI _,row_agg5 (x:=mvN d x) (by simp[Jb,mvN])⟩
theorem row_aggT {z:Nat}{els:List (List CV)}{id n:Nat}{cap:Option Nat}{y:CV}(hy:y.closed=true) (hn:n=els.length):wk (frz id z els (.agg [.slc id 0 n cap,y])) (.agg [.rslc z els none,y]):=by
 subst hn
 simp only[frz,frzL,if_true,Nat.zero_add,Nat.le_refl,List.drop_zero,List.take_length,Qx y hy]
 exact wk_agg ⟨wk.rslc,wk.refl _,trivial⟩
theorem refCopy (t:Tr) (ht:t.Fit):Fn Tryz.prog 9 [t.cv] t.cv:=by
 have hmany:=ht.many
 have hitems:=ht.items
 have hil:(iz t.items).length=t.items.length:=Jb
 have hrc:=KI t.items
 refine Jb6 ?_ rfl rfl
 refine Yt c9_ok fun N=>?_
 obtain ⟨R,hR⟩:∃ R,R=iz t.items:=⟨_,rfl⟩
 simp only[Tr.cv,Tr.row]
 rw[← hR]at hrc hil ⊢
 cases R with
 |nil=>
  simp -implicitDefEqProofs only[c9,go_sem]
  refine Jn (id:=0) (z:=2) (els:=[[.rslc 5 (ndz t.nodes) none,.rslc 1 [] none]]) rfl rfl ?_
  simp only[go_sem,frzL,frzH,frz,frzO]
  refine Jn (id:=2) (z:=1) (els:=[]) rfl rfl ?_
  simp only[go_sem,frzL,frzH,frz,frzO]
  refine vr_pad ?_
  simp only[go_sem,List.cons_append,List.nil_append]
  refine Qr (I:=fun i:Nat=>i≤t.nodes.length) (inv:=fun i=>gp [(1,.rptr [.rslc 5 (ndz t.nodes) none,.rslc 1 [] none]),(0,.ptr 1 0 0),(0,.ptr 2 0 0),(0,.int .i64 (i:Int))] 24) (hp:=fun i=>[.dead,.arr 2 [[.nils,.nils]],.arr 2 [[rowV 3 (ndz (t.nodes.take i)),.rslc 1 [] none]],rowO 5 (ndz (t.nodes.take i))]) (μ:=fun i=>t.nodes.length-i) 0 [0,1,3,4] (by omega) rfl ?_ ?_ ?_
  ·simp[forget,renL,ren,KZ,gp]
  ·rfl
  ·intro i hi
   by_cases hlt:i < t.nodes.length
   ·have d1:((i:Int) < (t.nodes.length:Int))=True:=eq_true (by omega)
    have hg:=J7 hlt
    have hx:=ht.nodes _ (List.getElem_mem hlt)
    rw[← rowg hlt]at hx
    have hts:ndz (t.nodes.take (i+1))=ndz (t.nodes.take i)++[(t.nodes.getD i default).cv]:=by
     rw[X7 (d:=default) hlt]; simp[ndz]
    have hcl:=Q8 (t.nodes.take (i+1))
    have hpl:(ndz (t.nodes.take i)).length=i:=by rw[Jd,List.length_take]; omega
    generalize t.nodes.getD i default=x at hg hx hts
    generalize ndz (t.nodes.take i)=Z at hts hpl ⊢
    have hM:=refMoved x (by have:=hx.kidn; omega) 0 (fun k hk=>by rw[Int.add_zero]; exact hx.kids k hk)
    have hmv:mvN 0 x=x:=by
     obtain ⟨k,te,n,ks,p⟩:=x
     simp[mvN]
    rw[hmv]at hM
    simp -implicitDefEqProofs only[go_sem,Jd,d1]
    refine Jdk [false,true,false,false,false,false,false,false,false,true,false,true] JD (by decide +kernel) ?_
    simp -implicitDefEqProofs only[go_sem,Jd,hg]
    refine ⟨by omega,by simp[Nd.cv],?_⟩
    refine vh_f hM ?_
    simp -implicitDefEqProofs only[go_sem]
    refine vh_row [x.cv] rfl rfl rfl rfl ?_
    simp -implicitDefEqProofs only[go_sem,J2,splice,List.length_cons,List.length_nil]
    refine ⟨by omega,Jg (by omega) (by omega),i+1,[0,1,2,4],by omega,by omega,rfl,?_,?_⟩
    ·rw[hts]at hcl
     have hc:=JV (ρ:=[0,1,2,4]) hcl
     rw[hts,Y9,Jaa]
     simp only[renH,List.map_cons,List.map_nil,go_sem,Qi,hc]
     rfl
    ·simp[forget,renL,ren,KZ]
   ·have hie:i=t.nodes.length:=by omega
    subst hie
    have d1:((t.nodes.length:Int) < (t.nodes.length:Int))=False:=eq_false (by omega)
    rw[List.take_length]
    have hnc:=Q8 t.nodes
    cases hN:ndz t.nodes with
    |nil=>
     have hnl:(([]:List (List CV)).length:Int)=t.nodes.length:=by rw[← hN,Jd]
     simp only[List.length_nil]at hnl
     simp -implicitDefEqProofs only[go_sem,Ya,Jbh,List.length_nil,hnl,d1,splice]
     exact .inl (wk_agg ⟨wk.nils,wk.refl _,trivial⟩)
    |cons f fs=>
     have hnl:((fs.length+1:Nat):Int)=t.nodes.length:=by rw[← List.length_cons,← hN,Jd]
     rw[Yx (by simp),Yy (by simp)]
     simp -implicitDefEqProofs only[go_sem,List.length_cons,hnl,d1,splice]
     rw[hN]at hnc
     exact .inr ⟨3,5,f::fs,rfl,hnc,row_aggT rfl rfl⟩
 |cons e es=>
  have hel:es.length+1≤40:=by have:=hil; simp only[List.length_cons]at this; omega
  simp -implicitDefEqProofs only[c9,go_sem,J2,List.length_cons]
  refine ⟨by omega,?_⟩
  refine Jn (id:=3) (z:=1) (els:=e::es) rfl hrc ?_
  simp only[go_sem,frzL,frzH,frz,frzO,List.length_cons,List.drop_zero,List.take_of_length_le (l:=e::es) (i:=es.length+1) (Nat.le_refl _)]
  refine Jn (id:=0) (z:=2) (els:=[[.rslc 5 (ndz t.nodes) none,.rslc 1 (e::es) none]]) rfl rfl ?_
  simp only[go_sem,frzL,frzH,frz,frzO]
  refine vr_pad ?_
  simp only[go_sem,List.cons_append,List.nil_append]
  refine Qr (I:=fun i:Nat=>i≤t.nodes.length) (inv:=fun i=>gp [(1,.rptr [.rslc 5 (ndz t.nodes) none,.rslc 1 (e::es) none]),(0,.ptr 1 0 0),(0,.ptr 2 0 0),(0,.int .i64 (i:Int))] 24) (hp:=fun i=>[.dead,.arr 2 [[.nils,.nils]],.arr 2 [[rowV 3 (ndz (t.nodes.take i)),.rslc 1 (e::es) none]],rowO 5 (ndz (t.nodes.take i))]) (μ:=fun i=>t.nodes.length-i) 0 [0,1,4,5] (by omega) rfl ?_ ?_ ?_
  ·simp[forget,renL,ren,KZ,gp]
  ·rfl
  ·intro i hi
   by_cases hlt:i < t.nodes.length
   ·have d1:((i:Int) < (t.nodes.length:Int))=True:=eq_true (by omega)
    have hg:=J7 hlt
    have hx:=ht.nodes _ (List.getElem_mem hlt)
    rw[← rowg hlt]at hx
    have hts:ndz (t.nodes.take (i+1))=ndz (t.nodes.take i)++[(t.nodes.getD i default).cv]:=by
     rw[X7 (d:=default) hlt]; simp[ndz]
    have hcl:=Q8 (t.nodes.take (i+1))
    have hpl:(ndz (t.nodes.take i)).length=i:=by rw[Jd,List.length_take]; omega
    generalize t.nodes.getD i default=x at hg hx hts
    generalize ndz (t.nodes.take i)=Z at hts hpl ⊢
    have hM:=refMoved x (by have:=hx.kidn; omega) 0 (fun k hk=>by rw[Int.add_zero]; exact hx.kids k hk)
    have hmv:mvN 0 x=x:=by
     obtain ⟨k,te,n,ks,p⟩:=x
     simp[mvN]
    rw[hmv]at hM
    simp -implicitDefEqProofs only[go_sem,Jd,d1]
    refine Jdk [false,true,false,false,false,false,false,false,false,true,false,true] JD (by decide +kernel) ?_
    simp -implicitDefEqProofs only[go_sem,Jd,hg]
    refine ⟨by omega,by simp[Nd.cv],?_⟩
    refine vh_f hM ?_
    simp -implicitDefEqProofs only[go_sem]
    refine vh_row [x.cv] rfl rfl rfl rfl ?_
    simp -implicitDefEqProofs only[go_sem,J2,splice,List.length_cons,List.length_nil]
    refine ⟨by omega,Jg (by omega) (by omega),i+1,[0,1,2,4],by omega,by omega,rfl,?_,?_⟩
    ·rw[hts]at hcl
     have hc:=JV (ρ:=[0,1,2,4]) hcl
     rw[hts,Y9,Jaa]
     simp only[renH,List.map_cons,List.map_nil,go_sem,Qi,hc]
     rfl
    ·simp[forget,renL,ren,KZ]
   ·have hie:i=t.nodes.length:=by omega
    subst hie
    have d1:((t.nodes.length:Int) < (t.nodes.length:Int))=False:=eq_false (by omega)
    rw[List.take_length]
    have hnc:=Q8 t.nodes
    cases hN:ndz t.nodes with
    |nil=>
     have hnl:(([]:List (List CV)).length:Int)=t.nodes.length:=by rw[← hN,Jd]
     simp only[List.length_nil]at hnl
     simp -implicitDefEqProofs only[go_sem,Ya,Jbh,List.length_nil,hnl,d1,splice]
     exact .inl (wk_agg ⟨wk.nils,wk.refl _,trivial⟩)
    |cons f fs=>
     have hnl:((fs.length+1:Nat):Int)=t.nodes.length:=by rw[← List.length_cons,← hN,Jd]
     rw[Yx (by simp),Yy (by simp)]
     simp -implicitDefEqProofs only[go_sem,List.length_cons,hnl,d1,splice]
     rw[hN]at hnc
     exact .inr ⟨3,5,f::fs,rfl,hnc,row_aggT rfl rfl⟩
end Go.Cm
end
section
namespace Go.Cm
structure Nd.Ty (x:Nd):Prop where
 k:x.k < 256
 n:InR .i64 x.n
 kids:∀ i∈x.kids,InR .i64 i
 pl:InR .i64 x.pl
structure Tr.Ty (t:Tr):Prop where
 nodes:∀ x∈t.nodes,x.Ty
 items:∀ i∈t.items,InR .i64 i
theorem Tr.Ty.fit {t:Tr}(h:t.Ty) (hv:Jcs t=false):t.Fit:=by
 unfold Jcs vastH at hv
 simp only[Bool.or_eq_false_iff,Bool.and_eq_false_iff,decide_eq_false_iff_not,List.any_eq_false]at hv
 obtain ⟨⟨⟨_,h2⟩,h3⟩,h4⟩:=hv
 refine ⟨by omega,by omega,fun x hx=>?_,h.items⟩
 have hn:=h4 x hx
 unfold Jbz at hn
 simp only[Bool.not_eq_true,Bool.or_eq_false_iff,decide_eq_false_iff_not]at hn
 have ty:=h.nodes x hx
 exact ⟨ty.k,by omega,ty.n,by omega,ty.kids,ty.pl⟩
end Go.Cm
end
section
open Go.Proofs
set_option maxRecDepth 100000
set_option maxHeartbeats 4000000
namespace Go.Cm
theorem indexI (l:List Int) (x:Int) (hl:l.length≤100000):Fn Tryz.prog 99 [.rslc 1 (iz l) none,.int .i64 x] (.int .i64 (fixA (fun y=>x == y) l 0)):=by
 have hil:(iz l).length=l.length:=Jb
 refine Ja c99_ok rfl rfl fun N=>?_
 simp -implicitDefEqProofs only[c99,go_sem,hil]
 refine JG (I:=fun i:Nat=>i≤l.length∧fixA (fun y=>x == y) l 0=fixA (fun y=>x == y) (l.drop i) i) (inv:=fun i=>gp [(0,.rslc 1 (iz l) none),(0,.int .i64 x),(5,.int .i64 (l.length:Int)),(0,.int .i64 (i:Int))] 10) (hp:=fun _=>[]) (μ:=fun i=>l.length-i) 0 ⟨by omega,rfl⟩ ?_ rfl ?_
 ·simp[forget,gp]
 ·rintro i ⟨hi,hinv⟩
  by_cases hlt:i < l.length
  ·have d1:((i:Int) < (l.length:Int))=True:=eq_true (by omega)
   have hgi:=J8 hlt
   have hge:l[i]? = some (l.getD i 0):=by rw[List.getD_eq_getElem?_getD,List.getElem?_eq_getElem hlt]; rfl
   rw[K6 hge]at hinv
   simp -implicitDefEqProofs only[go_sem,hil,d1,hgi]
   generalize l.getD i 0=y at hinv ⊢
   refine ⟨by omega,?_⟩
   cases he:(x == y) with
   |true=>
    rw[he,if_pos rfl]at hinv
    simp -implicitDefEqProofs only[go_sem,hinv]
   |false=>
    rw[he]at hinv
    simp -implicitDefEqProofs only[go_sem]
    refine ⟨Jg (by omega) (by omega),i+1,⟨by omega,by simpa using hinv⟩,by omega,?_⟩
    simp[forget]
  ·have d1:((i:Int) < (l.length:Int))=False:=eq_false (by omega)
   rw[List.drop_eq_nil_of_le (by omega)]at hinv
   simp -implicitDefEqProofs only[go_sem,d1,hinv,fixA]
theorem containsI (l:List Int) (x:Int) (hl:l.length≤100000):Fn Tryz.prog 61 [.rslc 1 (iz l) none,.int .i64 x] (.bool (l.contains x)):=by
 refine Ja c61_ok rfl rfl fun N=>?_
 simp -implicitDefEqProofs only[c61,go_sem]
 refine vr_f (indexI l x hl) ?_
 have e:decide (0≤fixA (fun y=>x == y) l 0)=l.contains x:=by rw[JdP,List.contains_eq_any_beq]
 simp -implicitDefEqProofs only[go_sem,e]
theorem parent1 (x:Nd) (hx:x.kids.length≤100000) (n:Int):Fn Tryz.prog 60 [.agg x.cv,.rptr [.int .i64 n]] (.bool (x.kids.contains n)):=by
 refine Ja c60_ok rfl rfl fun N=>?_
 simp -implicitDefEqProofs only[c60,go_sem,Nd.cv]
 refine vr_f (containsI x.kids n hx) ?_
 simp -implicitDefEqProofs only[go_sem]
theorem find1 (x:Nd) (n:Int):Fn Tryz.prog 63 [.agg x.cv,.rptr [.int .i64 n]] (.bool (x.pl == n)):=by
 refine Ja c63_ok rfl rfl fun N=>?_
 simp -implicitDefEqProofs only[c63,go_sem,Nd.cv]
def inT (t:Tr) (n:Int):Bool:=inI 0 ((t.nodes.length:Int)-1) n
theorem JF {t:Tr}{n:Int}:inT t n=true↔0≤n∧n < t.nodes.length:=by
 simp only[inT,inI,Bool.and_eq_true,decide_eq_true_eq]; omega
theorem findE (t:Tr) (ht:t.Fit) (ns:List Int) (h:chk t≠0):Fn Tryz.prog 41 [t.cv,.rslc 1 (iz ns) none] (.tup [.nils,.int .i64 (chk t)]):=by
 have e:(chk t != 0)=true:=by simpa using h
 refine Ja c41_ok rfl rfl fun N=>?_
 simp -implicitDefEqProofs only[c41,go_sem,Tr.cv,Tr.row]
 refine vr_f (Qv t ht) ?_
 simp -implicitDefEqProofs only[go_sem,e]
theorem findS (t:Tr) (ht:t.Fit) (ns:List Int) (hns:ns.length≤100) (h:chk t=0) {o:List Int}(ho:Jw (JB t.nodes) []=some o):Fn Tryz.prog 41 [t.cv,.rslc 1 (iz ns) none] (if ns.all (inT t)=true then .tup [.rslc 1 (iz o) none,.int .i64 0] else .tup [.nils,.int .i64 7]):=by
 have hmany:=ht.many
 have e:(chk t != 0)=false:=by simpa using h
 have hil:(iz ns).length=ns.length:=Jb
 refine Ja c41_ok rfl (by split <;> rfl) fun N=>?_
 simp -implicitDefEqProofs only[c41,go_sem,Tr.cv,Tr.row]
 refine Jn (id:=0) (z:=2) (els:=[t.row]) rfl rfl ?_
 simp only[go_sem,frzL,frzH,frz,frzO,Tr.row]
 refine vr_f (Qv t ht) ?_
 simp -implicitDefEqProofs only[go_sem,e,hil]
 refine JG (I:=fun i:Nat=>i≤ns.length∧ns.all (inT t)=(ns.drop i).all (inT t)) (inv:=fun i=>gp [(2,.rptr t.row),(13,.rslc 1 (iz ns) none),(0,.int .i64 (ns.length:Int)),(0,.int .i64 (i:Int))] 17) (hp:=fun _=>[.dead]) (μ:=fun i=>ns.length-i) 0 ⟨by omega,rfl⟩ ?_ rfl ?_
 ·simp[forget,gp,Tr.row]
 ·rintro i ⟨hi,hinv⟩
  by_cases hlt:i < ns.length
  ·have d1:((i:Int) < (ns.length:Int))=True:=eq_true (by omega)
   have hgi:=J8 hlt
   rw[List.drop_eq_getElem_cons hlt,List.all_cons,show ns[i]=ns.getD i 0 by rw[List.getD_eq_getElem?_getD,List.getElem?_eq_getElem hlt]; rfl]at hinv
   simp -implicitDefEqProofs only[go_sem,Tr.row,hil,Jd,d1,hgi]
   generalize ns.getD i 0=y at hinv ⊢
   refine ⟨by omega,Jg (by omega) (by omega),?_⟩
   refine vr_f (within 0 ((t.nodes.length:Int)-1) y) ?_
   rw[show inI 0 ((t.nodes.length:Int)-1) y=inT t y from rfl]
   cases he:inT t y with
   |true=>
    rw[he,Bool.true_and]at hinv
    simp -implicitDefEqProofs only[go_sem]
    refine ⟨Jg (by omega) (by omega),i+1,⟨by omega,hinv⟩,by omega,?_⟩
    simp[forget,Tr.row]
   |false=>
    rw[he,Bool.false_and]at hinv
    rw[hinv]
    simp -implicitDefEqProofs only[go_sem]
  ·have d1:((i:Int) < (ns.length:Int))=False:=eq_false (by omega)
   rw[List.drop_eq_nil_of_le (by omega),List.all_nil]at hinv
   rw[hinv,if_pos rfl]
   simp -implicitDefEqProofs only[go_sem,Tr.row,d1]
   refine vr_f (firstsS t ht ho) ?_
   simp -implicitDefEqProofs only[go_sem]
theorem JbP (t:Tr) (ht:t.Fit) (n:Int) (hn:InR .i64 n):Fn Tryz.prog 17 [t.cv,.int .i64 n] (if chk t≠0 then .tup [.int .i64 0,.int .i64 (chk t)] else if inT t n=true then .tup [.int .i64 (fixA (fun x:Nd=>x.kids.contains n) t.nodes 0),.int .i64 0] else .tup [.int .i64 0,.int .i64 7]):=by
 have hmany:=ht.many
 refine Ja c17_ok rfl (by split; rfl; split <;> rfl) fun N=>?_
 simp -implicitDefEqProofs only[c17,go_sem,Tr.cv,Tr.row]
 refine Jn (id:=2) (z:=1) (els:=[[.int .i64 n]]) rfl rfl ?_
 simp only[go_sem,frzL,frzH,frz,frzO,List.length_cons,List.length_nil,List.drop_zero,List.take_succ_cons,List.take_zero]
 by_cases h:chk t=0
 ·obtain ⟨o,g⟩:=(Yj t).1 h
  have hF:=findS t ht [n] (by simp) h g.ord.h
  simp only[List.all_cons,List.all_nil,Bool.and_true]at hF
  rw[if_neg (by simp[h])]
  refine vr_f hF ?_
  cases hb:inT t n with
  |false=>
   simp -implicitDefEqProofs only[go_sem]
  |true=>
   simp -implicitDefEqProofs only[go_sem,if_true]
   refine Jn (id:=1) (z:=1) (els:=[[.int .i64 n]]) rfl rfl ?_
   simp only[go_sem,frzL,frzH,frz,frzO]
   refine vr_f (indexN t.nodes (fun x=>x.kids.contains n) none c60_ok rfl rfl (fun x hx=>parent1 x (by have:=(ht.nodes x hx).kidn; omega) n) (by omega)) ?_
   simp -implicitDefEqProofs only[go_sem]
 ·have e:(chk t != 0)=true:=by simpa using h
  rw[if_pos h]
  refine vr_f (findE t ht [n] h) ?_
  simp -implicitDefEqProofs only[go_sem,e]
theorem JcJ (t:Tr) (ht:t.Fit) (n:Int) (hn:InR .i64 n):Fn Tryz.prog 18 [t.cv,.int .i64 n] (if chk t≠0 then .tup [.int .i64 0,.int .i64 (chk t)] else if inT t n=true then .tup [.int .i64 (match Jw (JB t.nodes) []with | some o=>fs o n | none=>0),.int .i64 0] else .tup [.int .i64 0,.int .i64 7]):=by
 have hmany:=ht.many
 refine Ja c18_ok rfl (by split; rfl; split <;> rfl) fun N=>?_
 simp -implicitDefEqProofs only[c18,go_sem,Tr.cv,Tr.row]
 refine Jn (id:=1) (z:=1) (els:=[[.int .i64 n]]) rfl rfl ?_
 simp only[go_sem,frzL,frzH,frz,frzO,List.length_cons,List.length_nil,List.drop_zero,List.take_succ_cons,List.take_zero]
 by_cases h:chk t=0
 ·obtain ⟨o,g⟩:=(Yj t).1 h
  have hol:=g.olen
  have hF:=findS t ht [n] (by simp) h g.ord.h
  simp only[List.all_cons,List.all_nil,Bool.and_true]at hF
  rw[if_neg (by simp[h])]
  refine vr_f hF ?_
  cases hb:inT t n with
  |false=>
   simp -implicitDefEqProofs only[go_sem]
  |true=>
   have hr:=JF.1 hb
   have hgo:=J8 (l:=o) (i:=n.toNat) (by omega)
   have hzl:(iz o).length=t.nodes.length:=by rw[Jb,hol]
   simp -implicitDefEqProofs only[go_sem,if_true,hgo,hzl,g.ord.h,fs]
   omega
 ·have e:(chk t != 0)=true:=by simpa using h
  rw[if_pos h]
  refine vr_f (findE t ht [n] h) ?_
  simp -implicitDefEqProofs only[go_sem,e]
def mn (a b:Int):Int:=if b < a then b else a
def kinF (o:List Int) (a b:Int):Int:=fixA (fun v=>decide (v≤mn a b)) (o.drop (mx a b).toNat) (mx a b).toNat
theorem Jdx (t:Tr) (ht:t.Fit) (a b:Int) (ha:InR .i64 a) (hb:InR .i64 b):Fn Tryz.prog 19 [t.cv,.int .i64 a,.int .i64 b] (if chk t≠0 then .tup [.int .i64 0,.int .i64 (chk t)] else if (inT t a && inT t b)=true then .tup [.int .i64 (match Jw (JB t.nodes) []with | some o=>kinF o a b | none=>0),.int .i64 0] else .tup [.int .i64 0,.int .i64 7]):=by
 have hmany:=ht.many
 refine Ja c19_ok rfl (by split; rfl; split <;> rfl) fun N=>?_
 simp -implicitDefEqProofs only[c19,go_sem,Tr.cv,Tr.row]
 refine Jn (id:=1) (z:=1) (els:=iz [a,b]) rfl rfl ?_
 simp only[go_sem,frzL,frzH,frz,frzO,iz,List.map_cons,List.map_nil,List.length_cons,List.length_nil,List.drop_zero,List.take_succ_cons,List.take_zero]
 by_cases h:chk t=0
 ·obtain ⟨o,g⟩:=(Yj t).1 h
  have hol:=g.olen
  have hF:=findS t ht [a,b] (by simp) h g.ord.h
  simp only[List.all_cons,List.all_nil,Bool.and_true]at hF
  rw[if_neg (by simp[h])]
  refine vr_f hF ?_
  cases hb:(inT t a && inT t b) with
  |false=>
   simp -implicitDefEqProofs only[go_sem]
  |true=>
   rw[Bool.and_eq_true]at hb
   have hra:=JF.1 hb.1
   have hrb:=JF.1 hb.2
   simp -implicitDefEqProofs only[go_sem,if_true,g.ord.h]
   refine Jn (id:=0) (z:=2) (els:=[t.row]) rfl rfl ?_
   simp only[go_sem,frzL,frzH,frz,frzO]
   have hmx:0≤mx a b∧mx a b < t.nodes.length:=by unfold mx; split <;> omega
   obtain ⟨m0,hm0⟩:∃ m0:Nat,(m0:Int)=mx a b:=⟨(mx a b).toNat,by omega⟩
   have hK:kinF o a b=fixA (fun v=>decide (v≤mn a b)) (o.drop m0) m0:=by unfold kinF; rw[← hm0,Int.toNat_natCast]
   have hmxe:(if b > a then b else a)=(m0:Int):=by rw[hm0]; rfl
   have hzl:(iz o).length=o.length:=Jb
   refine JG (I:=fun i:Nat=>i≤o.length∧kinF o a b=fixA (fun v=>decide (v≤mn a b)) (o.drop i) i) (inv:=fun i=>gp [(1,.int .i64 a),(0,.int .i64 b),(5,.rslc 1 (iz o) none),(1,.int .i64 (i:Int))] 29) (hp:=fun _=>[.dead,.dead]) (μ:=fun i=>o.length-i) m0 ⟨by omega,hK⟩ ?_ rfl ?_
   ·simp[forget,gp,hmxe]
   ·rintro i ⟨hi,hinv⟩
    by_cases hlt:i < o.length
    ·have d1:((i:Int) < (o.length:Int))=True:=eq_true (by omega)
     have hgi:=J8 hlt
     have hge:o[i]? = some (o.getD i 0):=by rw[List.getD_eq_getElem?_getD,List.getElem?_eq_getElem hlt]; rfl
     rw[K6 hge]at hinv
     generalize o.getD i 0=v at hgi hinv
     by_cases hv:v≤mn a b
     ·have d2:(v≤if b < a then b else a)=True:=eq_true hv
      rw[decide_eq_true hv,if_pos rfl]at hinv
      simp -implicitDefEqProofs only[go_sem,hzl,d1,hgi,d2,hinv]
      omega
     ·have d2:(v≤if b < a then b else a)=False:=eq_false hv
      rw[decide_eq_false hv]at hinv
      simp -implicitDefEqProofs only[go_sem,hzl,d1,hgi,d2]
      refine ⟨by omega,Jg (by omega) (by omega),i+1,⟨by omega,by simpa using hinv⟩,by omega,?_⟩
      simp[forget]
    ·have d1:((i:Int) < (o.length:Int))=False:=eq_false (by omega)
     rw[List.drop_eq_nil_of_le (by omega)]at hinv
     simp -implicitDefEqProofs only[go_sem,hzl,d1,hinv,fixA]
 ·have e:(chk t != 0)=true:=by simpa using h
  rw[if_pos h]
  refine vr_f (findE t ht [a,b] h) ?_
  simp -implicitDefEqProofs only[go_sem,e]
theorem JbQ (t:Tr) (ht:t.Fit) (n:Int) (hn:InR .i64 n):Fn Tryz.prog 20 [t.cv,.int .i64 n] (if chk t≠0 then .tup [.int .i64 0,.int .i64 (chk t)] else if fixA (fun x:Nd=>x.pl == n) t.nodes 0 < 0 then .tup [.int .i64 0,.int .i64 7] else .tup [.int .i64 (fixA (fun x:Nd=>x.pl == n) t.nodes 0),.int .i64 0]):=by
 have hmany:=ht.many
 refine Ja c20_ok rfl (by split; rfl; split <;> rfl) fun N=>?_
 simp -implicitDefEqProofs only[c20,go_sem,Tr.cv,Tr.row]
 refine vr_f (Qv t ht) ?_
 by_cases h:chk t=0
 ·have e:(chk t != 0)=false:=by simpa using h
  rw[if_neg (by simp[h])]
  simp -implicitDefEqProofs only[go_sem,e]
  refine Jn (id:=1) (z:=1) (els:=[[.int .i64 n]]) rfl rfl ?_
  simp only[go_sem,frzL,frzH,frz,frzO]
  refine vr_f (indexN t.nodes (fun x=>x.pl == n) none c63_ok rfl rfl (fun x hx=>find1 x n) (by omega)) ?_
  by_cases hneg:fixA (fun x:Nd=>x.pl == n) t.nodes 0 < 0
  ·have d1:(fixA (fun x:Nd=>x.pl == n) t.nodes 0 < 0)=True:=eq_true hneg
   simp -implicitDefEqProofs only[go_sem,d1,if_true]
  ·have d1:(fixA (fun x:Nd=>x.pl == n) t.nodes 0 < 0)=False:=eq_false hneg
   simp -implicitDefEqProofs only[go_sem,d1,if_false]
 ·have e:(chk t != 0)=true:=by simpa using h
  rw[if_pos h]
  simp -implicitDefEqProofs only[go_sem,e]
theorem refFind (t:Tr) (ht:t.Fit) (n:Int):Fn Tryz.prog 21 [t.cv,.int .i64 n] (.int .i64 (fixA (fun x:Nd=>x.pl == n) t.nodes 0)):=by
 have hmany:=ht.many
 refine Ja c21_ok rfl rfl fun N=>?_
 simp -implicitDefEqProofs only[c21,go_sem,Tr.cv,Tr.row]
 refine Jn (id:=0) (z:=2) (els:=[t.row]) rfl rfl ?_
 simp only[go_sem,frzL,frzH,frz,frzO,Tr.row]
 refine JG (I:=fun i:Nat=>i≤t.nodes.length∧fixA (fun x:Nd=>x.pl == n) t.nodes 0=fixA (fun x:Nd=>x.pl == n) (t.nodes.drop i) i) (inv:=fun i=>gp [(1,.int .i64 n),(0,.rptr t.row),(2,.int .i64 (i:Int))] 16) (hp:=fun _=>[.dead]) (μ:=fun i=>t.nodes.length-i) 0 ⟨by omega,rfl⟩ ?_ rfl ?_
 ·simp[forget,gp,Tr.row]
 ·rintro i ⟨hi,hinv⟩
  by_cases hlt:i < t.nodes.length
  ·have d1:((i:Int) < (t.nodes.length:Int))=True:=eq_true (by omega)
   have hg:=J7 hlt
   have hge:t.nodes[i]? = some (t.nodes.getD i default):=by rw[List.getD_eq_getElem?_getD,List.getElem?_eq_getElem hlt]; rfl
   rw[K6 hge]at hinv
   generalize t.nodes.getD i default=x at hg hinv
   cases he:(x.pl == n) with
   |true=>
    rw[he,if_pos rfl]at hinv
    simp -implicitDefEqProofs only[go_sem,Tr.row,Jd,d1,hg,Nd.cv,he,hinv]
    omega
   |false=>
    rw[he]at hinv
    simp -implicitDefEqProofs only[go_sem,Tr.row,Jd,d1,hg,Nd.cv,he]
    refine ⟨by omega,Jg (by omega) (by omega),i+1,⟨by omega,by simpa using hinv⟩,by omega,?_⟩
    simp[forget,Tr.row]
  ·have d1:((i:Int) < (t.nodes.length:Int))=False:=eq_false (by omega)
   rw[List.drop_eq_nil_of_le (by omega)]at hinv
   simp -implicitDefEqProofs only[go_sem,Tr.row,Jd,d1,hinv,fixA]
theorem fixA_skip {α:Type}{q:α→Bool}{l:List α}:∀ (n:Nat),n≤l.length→(∀ j (h:j < l.length),j < n→q l[j]=false)→fixA q l 0=fixA q (l.drop n) n
 |0,_,_=>rfl
 |n+1,h,hq=>by
  rw[fixA_skip n (by omega) fun j hj hn=>hq j hj (by omega),K6 (List.getElem?_eq_getElem (by omega:n < l.length)),hq n (by omega) (by omega)]
  simp
theorem Q6 (t:Tr) (ht:t.Fit) {o:List Int}(g:GoodT t o) (n:Nat) (hn:n < t.nodes.length):Fn Tryz.prog 22 [t.cv,.int .i64 n] (.int .i64 (fixA (fun x:Nd=>x.kids.contains (n:Int)) t.nodes 0)):=by
 have hmany:=ht.many
 refine Ja c22_ok rfl rfl fun N=>?_
 simp -implicitDefEqProofs only[c22,go_sem,Tr.cv,Tr.row]
 refine ⟨Jg (by omega) (by omega),?_⟩
 refine Jn (id:=0) (z:=2) (els:=[t.row]) rfl rfl ?_
 simp only[go_sem,frzL,frzH,frz,frzO,Tr.row]
 have hskip:fixA (fun x:Nd=>x.kids.contains (n:Int)) t.nodes 0=fixA (fun x:Nd=>x.kids.contains (n:Int)) (t.nodes.drop (n+1)) (n+1):=by
  refine fixA_skip (n+1) (by omega) fun j hj hjn=>?_
  rw[← Bool.not_eq_true,List.contains_iff_mem]
  intro hm
  have:=g.kid hj (k:=n) (by rw[rowg hj]; exact hm)
  omega
 refine JG (I:=fun i:Nat=>i≤t.nodes.length∧fixA (fun x:Nd=>x.kids.contains (n:Int)) t.nodes 0=fixA (fun x:Nd=>x.kids.contains (n:Int)) (t.nodes.drop i) i) (inv:=fun i=>gp [(1,.int .i64 (n:Int)),(0,.rptr t.row),(2,.int .i64 (i:Int))] 33) (hp:=fun _=>[.dead]) (μ:=fun i=>t.nodes.length-i) (n+1) ⟨by omega,hskip⟩ ?_ rfl ?_
 ·simp[forget,gp,Tr.row]
 ·rintro i ⟨hi,hinv⟩
  by_cases hlt:i < t.nodes.length
  ·have d1:((i:Int) < (t.nodes.length:Int))=True:=eq_true (by omega)
   have hg:=J7 hlt
   have hx:=ht.nodes _ (List.getElem_mem hlt)
   rw[← rowg hlt]at hx
   have hge:t.nodes[i]? = some (t.nodes.getD i default):=by rw[List.getD_eq_getElem?_getD,List.getElem?_eq_getElem hlt]; rfl
   rw[K6 hge]at hinv
   generalize t.nodes.getD i default=x at hg hinv hx
   have hkn:=hx.kidn
   have hxl:(iz x.kids).length=x.kids.length:=Jb
   simp -implicitDefEqProofs only[go_sem,Tr.row,Jd,d1]
   refine JG (I:=fun j:Nat=>j≤x.kids.length∧x.kids.contains (n:Int)=(x.kids.drop j).contains (n:Int)) (inv:=fun j=>gp [(1,.int .i64 (n:Int)),(0,.rptr t.row),(2,.int .i64 (i:Int)),(0,.int .i64 (j:Int))] 32) (hp:=fun _=>[.dead]) (μ:=fun j=>x.kids.length-j) 0 ⟨by omega,rfl⟩ ?_ rfl ?_
   ·simp[forget,gp,Tr.row]
   ·rintro j ⟨hj,hjv⟩
    by_cases hjl:j < x.kids.length
    ·have d2:((j:Int) < (x.kids.length:Int))=True:=eq_true (by omega)
     have hgi:=J8 hjl
     rw[List.drop_eq_getElem_cons hjl,List.contains_cons,show x.kids[j]=x.kids.getD j 0 by rw[List.getD_eq_getElem?_getD,List.getElem?_eq_getElem hjl]; rfl]at hjv
     generalize x.kids.getD j 0=k at hgi hjv
     have hsym:(k == (n:Int))=((n:Int) == k):=by rw[Bool.eq_iff_iff,beq_iff_eq,beq_iff_eq]; exact eq_comm
     cases he:(k == (n:Int)) with
     |true=>
      rw[← hsym,he,Bool.true_or]at hjv
      rw[hjv,if_pos rfl]at hinv
      simp -implicitDefEqProofs only[go_sem,Tr.row,Jd,hg,Nd.cv,hxl,d2,hgi,he,hinv]
      omega
     |false=>
      rw[← hsym,he,Bool.false_or]at hjv
      simp -implicitDefEqProofs only[go_sem,Tr.row,Jd,hg,Nd.cv,hxl,d2,hgi,he]
      refine ⟨by omega,by omega,by omega,Jg (by omega) (by omega),j+1,⟨by omega,hjv⟩,by omega,?_⟩
      simp[forget,Tr.row]
    ·have d2:((j:Int) < (x.kids.length:Int))=False:=eq_false (by omega)
     rw[List.drop_eq_nil_of_le (by omega)]at hjv
     rw[hjv]at hinv
     simp -implicitDefEqProofs only[go_sem,Tr.row,Jd,hg,Nd.cv,hxl,d2]
     refine ⟨by omega,Jg (by omega) (by omega),i+1,⟨by omega,by simpa using hinv⟩,by omega,?_⟩
     simp[forget,Tr.row]
  ·have d1:((i:Int) < (t.nodes.length:Int))=False:=eq_false (by omega)
   rw[List.drop_eq_nil_of_le (by omega)]at hinv
   simp -implicitDefEqProofs only[go_sem,Tr.row,Jd,d1,hinv,fixA]
theorem Xk {t:Tr}{o:List Int}(g:GoodT t o):Jw ((JB t.nodes).take t.nodes.length) []=some o:=by
 rw[List.take_of_length_le (by rw[Qf]; exact Nat.le_refl _)]; exact g.ord.h
theorem JcH (t:Tr) (ht:t.Fit) {o:List Int}(g:GoodT t o) (a:Int) (i:Nat) (hi:i < t.nodes.length):Fn Tryz.prog 64 [t.cv,.int .i64 a,.int .i64 i] (.bool (decide (a≤i) && decide (fs o i≤a))):=by
 refine Ja c64_ok rfl rfl fun N=>?_
 by_cases h:a≤(i:Int)
 ·have d1:(a≤(i:Int))=True:=eq_true h
  simp -implicitDefEqProofs only[c64,go_sem,Tr.cv,Tr.row,d1]
  refine Js (gok rfl) (QO t (Xk g) (Nat.le_refl _) i hi) ?_
  simp -implicitDefEqProofs only[go_sem]
 ·have d1:(a≤(i:Int))=False:=eq_false h
  simp -implicitDefEqProofs only[c64,go_sem,Tr.cv,Tr.row,d1]
theorem refCommon (t:Tr) (ht:t.Fit) {o:List Int}(g:GoodT t o) (a b:Int) (ha:0≤a∧a < t.nodes.length) (hb:0≤b∧b < t.nodes.length):Fn Tryz.prog 24 [t.cv,.int .i64 a,.int .i64 b] (.int .i64 (kinF o a b)):=by
 have hmany:=ht.many
 have hol:=g.olen
 have hmx:0≤mx a b∧mx a b < t.nodes.length:=by unfold mx; split <;> omega
 obtain ⟨m0,hm0⟩:∃ m0:Nat,(m0:Int)=mx a b:=⟨(mx a b).toNat,by omega⟩
 have hK:kinF o a b=fixA (fun v=>decide (v≤mn a b)) (o.drop m0) m0:=by unfold kinF; rw[← hm0,Int.toNat_natCast]
 refine Ja c24_ok rfl rfl fun N=>?_
 simp -implicitDefEqProofs only[c24,go_sem,Tr.cv,Tr.row]
 refine Jn (id:=0) (z:=2) (els:=[t.row]) rfl rfl ?_
 simp only[go_sem,frzL,frzH,frz,frzO,Tr.row]
 refine JG (I:=fun i:Nat=>i≤t.nodes.length∧((i:Int)≤mx a b∨kinF o a b=fixA (fun v=>decide (v≤mn a b)) (o.drop i) i)) (inv:=fun i=>gp [(1,.int .i64 a),(0,.int .i64 b),(0,.rptr t.row),(3,.int .i64 (i:Int))] 18) (hp:=fun _=>[.dead]) (μ:=fun i=>t.nodes.length-i) 0 ⟨by omega,.inl (by omega)⟩ ?_ rfl ?_
 ·simp[forget,gp,Tr.row]
 ·rintro i ⟨hi,hinv⟩
  by_cases hlt:i < t.nodes.length
  ·have d1:((i:Int) < (t.nodes.length:Int))=True:=eq_true (by omega)
   have hBa:=JcH t ht g a i hlt
   have hBb:=JcH t ht g b i hlt
   have hge:o[i]? = some (fs o i):=by rw[fs,Int.toNat_natCast,List.getD_eq_getElem?_getD,List.getElem?_eq_getElem (by omega)]; rfl
   have hcond:((decide (a≤(i:Int)) && decide (fs o i≤a)) && (decide (b≤(i:Int)) && decide (fs o i≤b)))=(decide (mx a b≤i) && decide (fs o i≤mn a b)):=by
    rw[Bool.eq_iff_iff]
    simp only[Bool.and_eq_true,decide_eq_true_eq]
    unfold mx mn
    split <;> split <;> omega
   have hnext:(decide (mx a b≤i) && decide (fs o i≤mn a b))=false→((i+1:Nat):Int)≤mx a b∨kinF o a b=fixA (fun v=>decide (v≤mn a b)) (o.drop (i+1)) (i+1):=by
    intro hf
    by_cases hge2:mx a b≤i
    ·right
     have hv:¬ fs o i≤mn a b:=by
      intro hv; rw[decide_eq_true hge2,decide_eq_true hv]at hf; cases hf
     have hKi:kinF o a b=fixA (fun v=>decide (v≤mn a b)) (o.drop i) i:=by
      rcases hinv with h | h
      ·have:m0=i:=by omega
       rw[← this]; exact hK
      ·exact h
     rw[hKi,K6 hge,decide_eq_false hv]; simp
    ·left; omega
   have hyes:(decide (mx a b≤i) && decide (fs o i≤mn a b))=true→kinF o a b=i:=by
    intro hf
    simp only[Bool.and_eq_true,decide_eq_true_eq]at hf
    have hKi:kinF o a b=fixA (fun v=>decide (v≤mn a b)) (o.drop i) i:=by
     rcases hinv with h | h
     ·have:m0=i:=by omega
      rw[← this]; exact hK
     ·exact h
    rw[hKi,K6 hge,decide_eq_true hf.2]; simp
   rw[← hcond]at hnext hyes
   simp -implicitDefEqProofs only[go_sem,Tr.row,Jd,d1]
   refine vr_f hBa ?_
   cases h1:(decide (a≤(i:Int)) && decide (fs o i≤a)) with
   |false=>
    rw[h1]at hnext
    simp -implicitDefEqProofs only[go_sem]
    refine ⟨Jg (by omega) (by omega),i+1,⟨by omega,hnext rfl⟩,by omega,?_⟩
    simp[forget,Tr.row]
   |true=>
    rw[h1]at hnext hyes
    simp -implicitDefEqProofs only[go_sem]
    refine Js (gok rfl) hBb ?_
    cases h2:(decide (b≤(i:Int)) && decide (fs o i≤b)) with
    |false=>
     rw[h2]at hnext
     simp -implicitDefEqProofs only[go_sem]
     refine ⟨Jg (by omega) (by omega),i+1,⟨by omega,hnext rfl⟩,by omega,?_⟩
     simp[forget,Tr.row]
    |true=>
     rw[h2]at hyes
     rw[hyes rfl]
     simp -implicitDefEqProofs only[go_sem]
  ·have d1:((i:Int) < (t.nodes.length:Int))=False:=eq_false (by omega)
   have hKi:kinF o a b = -1:=by
    rcases hinv with h | h
    ·omega
    ·rw[h,List.drop_eq_nil_of_le (by omega)]; rfl
   rw[hKi]
   simp -implicitDefEqProofs only[go_sem,Tr.row,Jd,d1]
end Go.Cm
end
