/-
  A part of the proof. Conditions: none.
-/
import Derived.Test.YtaiboeciecfgoaaGreatDoorMP45
import Derived.Test.YtaiboeciecfgoaaGreatDoorMP47
import Derived.Test.YtaiboeciecfgoaaGreatDoorMP30
import Derived.Test.YtaiboeciecfgoaaGreatDoorMP51
set_option linter.unusedSimpArgs false
set_option linter.unusedVariables false
open List renaming map_cons→Gd,length_cons→Gg,map_nil→Gf,length_nil→Gj,take_succ_cons→Gn,take_of_length_le→Gs,getD_eq_getElem?_getD→Gu,getElem?_eq_getElem→Gv,take_zero→Gp,drop_zero→Gq,getD_cons_zero→Gw,getD_cons_succ→Gx,set_cons_zero→Gy,set_cons_succ→Gz,length_drop→GA,append_nil→GD,length_eraseIdx_of_lt→GL,mem_of_mem_eraseIdx→GM,all_cons→GG,drop_eq_nil_of_le→GN,length_filter_le→GQ,all_nil→GH,length_take→GR,getElem_mem→GU
open Bool renaming not_false→Gb,true_and→Gc,and_eq_true_iff→Gl,false_eq_true→Gi,not_true→Gh,false_and→Gm,or_eq_false_iff→Gt,and_false→Gr,or_eq_true→GI,false_or→GJ,and_true→GK
open Int renaming toNat_natCast→Ga
noncomputable section
section
set_option maxRecDepth 100000
set_option maxHeartbeats 4000000
open Go.Proofs
namespace Go.Cm
section
theorem refMeet (a b:List Int) (ha:a.length≤100000) (hb:b.length≤100000):Fn Tryz.prog 35 [.rslc 1 (iz a) none,.rslc 1 (iz b) none] (.bool (a.any fun y=>b.contains y)):=by
 have hil:(iz a).length=a.length:=Jf
 refine Ja c35_ok rfl rfl fun N=>?_
 simp -implicitDefEqProofs only[c35,go_sem]
 generalize hq:(fun y=>b.contains y)=q
 refine Jz (I:=fun i:Nat=>i≤a.length∧a.any q=(a.drop i).any q) (inv:=fun i=>gp [(0,.rslc 1 (iz a) none),(0,.rslc 1 (iz b) none),(3,.int .i64 (i:Int))] 12) (hp:=fun _=>[]) (μ:=fun i=>a.length-i) 0 ⟨by omega,rfl⟩ ?_ rfl ?_
 ·simp[forget,gp]
 ·rintro i ⟨hi,hinv⟩
  by_cases hlt:i < a.length
  ·have d1:((i:Int) < (a.length:Int))=True:=Jn
   have hgi:=JS hlt
   rw[List.drop_eq_getElem_cons hlt,List.any_cons,show a[i]=a.getD i 0 by rw[Gu,Gv hlt]; rfl]at hinv
   generalize a.getD i 0=y at hinv hgi
   have hH:=refHas3 b y hb
   rw[show b.contains y=q y by rw[← hq]]at hH
   simp -implicitDefEqProofs only[go_sem,hil,d1,hgi]
   refine ⟨by omega,?_⟩
   refine JU hH ?_
   cases he:q y with
   |true=>
    rw[he,Bool.true_or]at hinv
    simp -implicitDefEqProofs only[go_sem,hinv]
   |false=>
    rw[he,GJ]at hinv
    simp -implicitDefEqProofs only[go_sem]
    refine ⟨Ji,i+1,⟨by omega,hinv⟩,by omega,?_⟩
    simp[forget]
  ·have d1:((i:Int) < (a.length:Int))=False:=Jk
   rw[show a.drop i=[] from GN (by omega),List.any_nil]at hinv
   simp -implicitDefEqProofs only[go_sem,hil,d1,hinv]
section
variable {t:Tr}{o:List Int}(g:GoodT t o) (ht:t.Fit)
include g ht
theorem refSets {u:Nat}(hu:u < t.nodes.length):Jb3 Tryz.prog 34 [t.cv,.int .i64 (u:Int)] 1 (iz (Kt t u 41)):=by
 have hmany:=g.many
 have hg:=Ki hu
 have hkn:=(fitN ht hu).kidn
 have hkl:(iz (nd t u).kids).length=(nd t u).kids.length:=Jf
 have hK:∀ k∈(nd t u).kids,0≤k∧k < t.nodes.length:=fun c hc=>by have:=g.kid hu hc; omega
 refine Jal (K5 c34_ok fun N=>?_) rfl (Jd _)
 simp -implicitDefEqProofs only[c34,go_sem,Tr.cv,Tr.row]
 refine Jg (id:=0) (z:=2) (els:=[t.row]) rfl rfl ?_
 simp only[go_sem,J2,Kk,frz,KA,Gd,Gf,Tr.row]
 generalize hF:(fun c=>Jr t.nodes c == 41)=F
 refine JJ (I:=fun i:Nat=>i≤(nd t u).kids.length) (inv:=fun i=>gp [(1,.int .i64 (u:Int)),(0,.rptr t.row),(2,.slc 1 0 (iz (((nd t u).kids.take i).filter F)).length (Jdh (iz (((nd t u).kids.take i).filter F)))),(0,.int .i64 (i:Int))] 34) (hp:=fun i=>[.dead,.arr 1 (iz (((nd t u).kids.take i).filter F))]) (μ:=fun i=>(nd t u).kids.length-i) 0 [0,1] (by omega) rfl ?_ ?_ ?_
 ·simp[forget,JI,ren,Jo,gp,Tr.row,iz,Jdh]
 ·simp[KE,Jf4,iz]
 ·intro i hi
  by_cases hlt:i < (nd t u).kids.length
  ·have d1:((i:Int) < ((nd t u).kids.length:Int))=True:=Jn
   have hgi:=JS hlt
   have htk:=Jfh (k:=41) hlt
   have hle:=JdZ (t:=t) (u:=u) (k:=41) (i:=i)
   have hmem:(nd t u).kids.getD i 0∈(nd t u).kids:=by rw[Gu,Gv hlt]; exact GU hlt
   have hb:=hK _ hmem
   rw[hF]at htk hle
   generalize (nd t u).kids.getD i 0=c at htk hgi hb
   obtain ⟨c,rfl⟩:∃ c':Nat,c=c':=⟨c.toNat,by omega⟩
   have hgc:=Ki (t:=t) (i:=c) (by omega)
   generalize ((nd t u).kids.take i).filter F=acc at htk hle
   have hcl:=Jb (ρ:=[0,1]) (Jd acc)
   have hcl2:=Jb (ρ:=[0,3]) (Jd acc)
   have ek:Jr t.nodes (c:Int)=(nd t c).k:=by unfold Jr nd; rw[Ga]
   rw[ek]at htk
   cases hq:(nd t c).k == 41 with
   |false=>
    rw[hq]at htk
    simp only[Gi,if_false,GD]at htk
    simp -implicitDefEqProofs only[go_sem,d1,Tr.row,Jc,hg,Nd.cv,hkl,hgi,hgc,kbE,hq]
    refine ⟨by omega,by omega,by omega,by omega,Ji,i+1,[0,1],by omega,by omega,rfl,?_,?_⟩
    ·rw[htk]; simp only[KE,Gd,Gf,go_sem,Jt,Jq,hcl]
    ·rw[htk]; simp[forget,JI,ren,Jo,Tr.row]
   |true=>
    rw[hq]at htk
    simp only[if_true]at htk
    simp -implicitDefEqProofs only[go_sem,d1,Tr.row,Jc,hg,Nd.cv,hkl,hgi,hgc,kbE,hq,JK,Jf]
    refine ⟨by omega,by omega,by omega,by omega,⟨by omega,by omega⟩,Ji,i+1,[0,3],by omega,by omega,rfl,?_,?_⟩
    ·rw[htk,JX]
     simp only[KE,Gd,Gf,go_sem,Jt,Jq]
     simp[hcl2,JI,ren]
    ·rw[htk,JX,Q0]
     simp[forget,JI,ren,Jo,Jf,Tr.row]
  ·have d1:((i:Int) < ((nd t u).kids.length:Int))=False:=Jk
   rw[Gs (by omega),show (nd t u).kids.filter F=Kt t u 41 by rw[← hF]; rfl]
   simp -implicitDefEqProofs only[go_sem,d1,Tr.row,Jc,hg,Nd.cv,hkl]
   refine ⟨by omega,1,rfl,rfl⟩
end
end
section
theorem fixA_end {α:Type}{q:α→Bool}{i:Nat}:K9 q ([]:List α) i = -1:=rfl
section
variable {t:Tr}{o:List Int}(g:GoodT t o) (ht:t.Fit)
include g ht
theorem refOrder {of:List Int}(ho:OfOk t of) {u:Nat}(hu:u < t.nodes.length)
  (hfree:∀ left:List Int,(∀ x∈left,0≤x∧x < t.nodes.length∧(nd t x.toNat).k=41)→left≠[]→∃ k,K9 (XQ (fun x=>QN t o of x.toNat) left) left 0=((k:Nat):Int)∧k < left.length) :
  Jb3 Tryz.prog 21 [t.cv,.rslc 1 (iz of) none,.int .i64 (u:Int)] 1 (iz (JdL (fun x=>QN t o of x.toNat) (Kt t u 41).length (Kt t u 41))):=by
 have hmany:=g.many
 have hKl:=QX ht (x:=(u:Int)) (k:=41)
 rw[Ga]at hKl
 have hKm:∀ x∈Kt t u 41,0≤x∧x < t.nodes.length∧(nd t x.toNat).k=41:=fun x hx=>by
  have h1:=Jaj g hu hx
  have h2:=(Kb.1 hx).2
  exact ⟨h1.1,h1.2,h2⟩
 have hS:=(refSets g ht hu).fn rfl (Jd _)
 refine Jal (K5 c21_ok fun N=>?_) rfl (Jd _)
 generalize hN:(fun x:Int=>QN t o of x.toNat)=Nf at hfree ⊢
 have hNd:∀ x:Int,0≤x→x < t.nodes.length→(nd t x.toNat).k=41→Fn Tryz.prog 20 [t.cv,.rslc 1 (iz of) none,.int .i64 x] (.rslc 1 (iz (Nf x)) none)∧(Nf x).length≤100000:=fun x h0 h1 h2=>by
  obtain ⟨x,rfl⟩:∃ x':Nat,x=x':=⟨x.toNat,by omega⟩
  rw[Ga]at h2
  have hr:=(Jc6 g ht ho (s:=x) (by omega) h2).fn rfl (Jd _)
  have e:Nf (x:Int)=QN t o of x:=by rw[← hN]; simp only[Ga]
  rw[e]
  refine ⟨hr,?_⟩
  have h3:(QN t o of x).length≤(J6 t).length:=GQ _ _
  have h4:(J6 t).length=t.nodes.length:=by simp[J6]
  omega
 generalize Kt t u 41=K at hKl hKm hS ⊢
 simp -implicitDefEqProofs only[c21,go_sem,Tr.cv,Tr.row]
 refine Jg (id:=0) (z:=2) (els:=[t.row]) rfl rfl ?_
 simp only[go_sem,J2,Kk,frz,KA,Gd,Gf,Tr.row]
 refine JU hS ?_
 simp -implicitDefEqProofs only[go_sem]
 refine vr_loopL (σ:=List Int×List Int) (I:=fun s=>(∀ x∈s.1,0≤x∧x < t.nodes.length∧(nd t x.toNat).k=41)∧s.1.length+s.2.length≤30∧JdL Nf K.length K=s.2++JdL Nf s.1.length s.1) (inv:=fun s=>gp [(1,.rslc 1 (iz of) none),(1,.rptr t.row),(3,.rslc 1 (iz s.1) none),(0,.slc 1 0 (iz s.2).length (Jdh (iz s.2)))] 51) (hp:=fun s=>[.dead,.arr 1 (iz s.2)]) (μ:=fun s=>s.1.length) (K,[]) ⟨hKm,by simpa using hKl,by simp⟩ (fun Q=>XX [0,1] rfl ?_ ?_) ?_
 ·simp[forget,JI,ren,Jo,gp,Tr.row,iz,Jdh]
 ·simp[KE,Jf4,iz]
 ·rintro ⟨left,out⟩ ⟨hm,hlen,hord⟩
  dsimp only at hm hlen hord
  have hil:(iz left).length=left.length:=Jf
  by_cases hne:left=[]
  ·subst hne
   have d2:((0:Int) > 0)=False:=Jk
   have d1:((0:Int) < 0)=False:=Jk
   rw[show JdL Nf ([]:List Int).length []=[] from rfl,GD]at hord
   rw[hord]
   simp -implicitDefEqProofs only[go_sem,d1,d2,KN,Gj,Int.ofNat_zero]
   exact ⟨1,rfl,rfl⟩
  ·have hlp:=List.length_pos_iff.2 hne
   have d1:((0:Int) < (left.length:Int))=True:=Jn
   have d2:((left.length:Int) > 0)=True:=Jn
   obtain ⟨k,hk1,hk2⟩:=hfree left hm hne
   have hog:JdL Nf left.length left=left.getD k 0::JdL Nf (left.eraseIdx k).length (left.eraseIdx k):=by
    rw[GL hk2]
    obtain ⟨m,hm⟩:∃ m,left.length=m+1:=⟨left.length-1,by omega⟩
    rw[hm,JdL,if_neg hne,hk1,Ga]; rfl
   have hel:=GL hk2
   have hgk:=JS hk2
   simp -implicitDefEqProofs only[go_sem,hil,d1,d2,Int.reduceNeg]
   refine Jz (σ:=Nat×Int) (I:=fun s=>s.1≤left.length∧((s.2 = -1∧K9 (XQ Nf left) (left.drop s.1) s.1=(k:Int))∨s.2=(k:Int))) (inv:=fun s=>gp [(1,.rslc 1 (iz of) none),(1,.rptr t.row),(3,.rslc 1 (iz left) none),(0,.slc 1 0 (iz out).length (Jdh (iz out))),(0,.int .i64 s.2),(0,.int .i64 (s.1:Int))] 49) (hp:=fun _=>[.dead,.arr 1 (iz out)]) (μ:=fun s=>left.length-s.1) (0,-1) ⟨by omega,.inl ⟨rfl,by simpa using hk1⟩⟩ ?_ rfl ?_
   ·simp[forget,gp,Tr.row]
   ·rintro ⟨i,b⟩ ⟨hi,hb⟩
    dsimp only at hi hb
    rcases (show (i < left.length∧b = -1∧K9 (XQ Nf left) (left.drop i) i=(k:Int))∨(i < left.length∧b=(k:Int))∨(i=left.length∧b=(k:Int)) from by
     rcases Nat.lt_or_ge i left.length with h | h
     ·rcases hb with ⟨h1,h2⟩ | h1
      ·exact .inl ⟨h,h1,h2⟩
      ·exact .inr (.inl ⟨h,h1⟩)
     ·rcases hb with ⟨h1,h2⟩ | h1
      ·rw[GN h,fixA_end]at h2; omega
      ·exact .inr (.inr ⟨by omega,h1⟩)) with ⟨hlt,rfl,hfx⟩ | hrest
    ·have e1:decide ((i:Int) < (left.length:Int))=true:=decide_eq_true (by omega)
     have e2:decide ((-1:Int) < 0)=true:=rfl
     have hgi:=JS hlt
     have hst:=Qg (q:=XQ Nf left) (l:=left) (i:=i) (p:=left.getD i 0) (by rw[Gu,Gv hlt]; rfl)
     have hx:=hm (left.getD i 0) (by rw[Gu,Gv hlt]; exact GU hlt)
     rw[hst]at hfx
     generalize left.getD i 0=x at hgi hfx hx
     obtain ⟨hNx,hNl⟩:=hNd x hx.1 hx.2.1 hx.2.2
     have hMt:=refMeet (Nf x) left hNl (by omega)
     have hfr:XQ Nf left x = !(Nf x).any fun y=>left.contains y:=rfl
     simp -implicitDefEqProofs only[go_sem,hil,e1,e2]
     refine JV JD (by decide) ?_
     simp -implicitDefEqProofs only[go_sem,hil,hgi,Tr.row]
     refine ⟨by omega,?_⟩
     refine JM (.inl rfl) hNx ?_
     simp -implicitDefEqProofs only[go_sem,Tr.row]
     refine JM (.inl rfl) hMt ?_
     cases hM:(Nf x).any fun y=>left.contains y with
     |true=>
      rw[hM,Gh]at hfr
      rw[hfr,if_neg (by simp)]at hfx
      simp -implicitDefEqProofs only[go_sem,Gh]
      refine ⟨Ji,(i+1,-1),⟨by simp only; omega,.inl ⟨rfl,hfx⟩⟩,by simp only; omega,?_⟩
      simp[forget,Tr.row]
     |false=>
      rw[hM,Gb]at hfr
      rw[hfr,if_pos rfl]at hfx
      obtain rfl:i=k:=by omega
      simp -implicitDefEqProofs only[go_sem,Gb]
      refine ⟨Ji,(i+1,(i:Int)),⟨by simp only; omega,.inr rfl⟩,by simp only; omega,?_⟩
      simp[forget,Tr.row]
    ·have e3:decide ((k:Int) < 0)=false:=decide_eq_false (by omega)
     have e4:((k:Int) < 0)=False:=Jk
     have e1:decide ((i:Int) < (left.length:Int))=true∨decide ((i:Int) < (left.length:Int))=false:=by cases decide ((i:Int) < (left.length:Int)) <;> simp
     obtain rfl:b=(k:Int):=by rcases hrest with h | h <;> exact h.2
     have hA:(iz left).take (k-0)=iz (left.take k):=by simp[iz,List.map_take]
     have hB:((iz left).drop ((k:Int)+1).toNat).take (left.length-((k:Int)+1).toNat)=iz (left.drop (k+1)):=by
      rw[show ((k:Int)+1).toNat=k+1 by omega,Gs (by rw[GA,Jf]; omega),iz,iz,← List.map_drop]
     have hI:(∀ x∈left.eraseIdx k,0≤x∧x < t.nodes.length∧(nd t x.toNat).k=41)∧(left.eraseIdx k).length+(out++[left.getD k 0]).length≤30∧JdL Nf K.length K=(out++[left.getD k 0])++JdL Nf (left.eraseIdx k).length (left.eraseIdx k):=
      ⟨fun x hx=>hm x (GM hx),by simp only[List.length_append,Gg,Gj]; omega,by rw[hord,hog]; simp⟩
     have hmu:(left.eraseIdx k).length < left.length:=by omega
     have hAl:(left.take k).length≤30:=by rw[GR]; omega
     have hBl:(left.drop (k+1)).length≤30:=by rw[GA]; omega
     have hABl:(left.take k).length+(left.drop (k+1)).length≤30:=by rw[GR,GA]; omega
     rw[List.eraseIdx_eq_take_drop_succ]at hI hmu
     have hc0:=Jb (ρ:=[0,3]) (Jd out)
     generalize left.take k=A at hA hI hmu hAl hABl
     generalize left.drop (k+1)=B at hB hI hmu hBl hABl
     generalize left.getD k 0=y at hgk hI
     rcases e1 with e1 | e1
     all_goals
      simp -implicitDefEqProofs only[go_sem,hil,e1,e3,e4,hgk,Jf,JK]
      refine ⟨by omega,⟨by omega,by omega⟩,?_⟩
      refine XR [true,false,false,false,true,false,false,false,false,true,false] JD (by decide +kernel) ?_
      cases A with
      |nil=>
       cases B with
       |nil=>
        simp -implicitDefEqProofs only[go_sem,hil,hA,hB,KN]
        refine ⟨by omega,Ji,by omega,([],out++[y]),hI,hmu,fun Q=>XY (id:=4) (z:=1) (els:=[]) rfl rfl (XX [0,3] rfl ?_ ?_)⟩
        ·simp[forget,JI,ren,Jo,J2,frz,Jf,JX,Q0,Tr.row,iz]
        ·rw[← JX]
         simp only[Kk,Gz,Gy,Gd,Gf,KA,Km (Jd (out++[y])),KE,Gw,Gx,Jq,Jt,Jb (Jd (out++[y]))]
       |cons b0 B=>
        simp only[Gg,Gj]at hBl
        simp -implicitDefEqProofs only[go_sem,hil,hA,hB,KN,JQ,Jf,JK]
        refine ⟨by omega,Ji,by omega,⟨by omega,by omega⟩,(b0::B,out++[y]),hI,hmu,fun Q=>XY (id:=5) (z:=1) (els:=iz (b0::B)) rfl (Jd _) (XX [0,3] rfl ?_ ?_)⟩
        ·simp[forget,JI,ren,Jo,J2,frz,Jf,JX,Q0,Tr.row,iz]
         exact Gs (by first | omega | (simp; try omega))
        ·rw[← JX]
         simp only[Kk,Gz,Gy,Gd,Gf,KA,Km (Jd (out++[y])),KE,Gw,Gx,Jq,Jt,Jb (Jd (out++[y]))]
      |cons a0 A=>
       simp only[Gg]at hAl hABl
       cases B with
       |nil=>
        rw[GD]at hI hmu
        simp -implicitDefEqProofs only[go_sem,hil,hA,hB,KN,JQ,Jf,JK]
        refine ⟨by omega,⟨by omega,by omega⟩,Ji,by omega,(a0::A,out++[y]),hI,hmu,fun Q=>XY (id:=5) (z:=1) (els:=iz (a0::A)) rfl (Jd _) (XX [0,3] rfl ?_ ?_)⟩
        ·simp[forget,JI,ren,Jo,J2,frz,Jf,JX,Q0,Tr.row,iz]
         exact Gs (by first | omega | (simp; try omega))
        ·rw[← JX]
         simp only[Kk,Gz,Gy,Gd,Gf,KA,Km (Jd (out++[y])),KE,Gw,Gx,Jq,Jt,Jb (Jd (out++[y]))]
       |cons b0 B=>
        simp only[Gg]at hBl hABl
        simp -implicitDefEqProofs only[go_sem,hil,hA,hB,JQ,Jf,JK]
        refine ⟨by omega,⟨by omega,by omega⟩,Ji,by omega,⟨by omega,by omega⟩,(a0::A++b0::B,out++[y]),hI,hmu,fun Q=>XY (id:=6) (z:=1) (els:=iz (a0::A++b0::B)) (by rw[Yp]; rfl) (Jd _) (XX [0,3] rfl ?_ ?_)⟩
        ·simp[forget,JI,ren,Jo,J2,frz,Jf,JX,Q0,Tr.row,iz]
         rw[if_pos (by omega),Gs (by simp; try omega)]
         rfl
        ·rw[← JX]
         simp only[Kk,Gz,Gy,Gd,Gf,KA,Km (Jd (out++[y])),KE,Gw,Gx,Jq,Jt,Jb (Jd (out++[y]))]
end
end
section
section
variable {t:Tr}{o:List Int}(g:GoodT t o) (ht:t.Fit)
include g ht
def Yo (t:Tr) (o:List Int) (a b:Int):Bool:=inT t a && (inT t b && ((nd t a.toNat).k == 3 && ((nd t b.toNat).k == 41 && YS o a.toNat b.toNat)))
def lateV (t:Tr) (a b:Int):Bool:=buL t (upL t (JG t b.toNat) t.nodes.length a.toNat) false
theorem nLateP (a b:Int):Fn Tryz.prog 13 [t.cv,.int .i64 a,.int .i64 b] (if (Xi t o).2≠0 then .tup [.bool false,.int .i64 (Xi t o).2] else if Yo t o a b=true then .tup [.bool (lateV t a b),.int .i64 0] else .tup [.bool false,.int .i64 7]):=by
 have hmany:=g.many
 have hF:=nFind g ht [a,b] (by simp)
 obtain ⟨l,hl⟩:=Jf9 (t:=t) (o:=o)
 refine Ja c13_ok rfl (by split; rfl; split <;> rfl) fun N=>?_
 simp -implicitDefEqProofs only[c13,go_sem,Tr.cv,Tr.row]
 refine Jg (id:=1) (z:=1) (els:=iz [a,b]) rfl rfl ?_
 simp only[go_sem,J2,Kk,frz,KA,JQ,KN,Gd,Gf,Gg,Gj,Gq,Gn,Gp]
 refine JU hF ?_
 by_cases hE:(Xi t o).2=0
 ·rw[if_neg (show ¬ (Xi t o).2≠0 by simp[hE]),if_neg (show ¬ (Xi t o).2≠0 by simp[hE]),rE_ok hE]
  simp only[GG,GH,GK]
  have e70:((7:Int) != 0)=true:=rfl
  cases hia:inT t a with
  |false=>
   have hq:Yo t o a b=false:=by unfold Yo; rw[hia]; rfl
   simp only[hq,Gm,Gi,if_false]
   simp -implicitDefEqProofs only[go_sem,rRw,e70]
  |true=>
   cases hib:inT t b with
   |false=>
    have hq:Yo t o a b=false:=by unfold Yo; rw[hia,hib]; rfl
    simp only[hq,Gr,Gi,if_false]
    simp -implicitDefEqProofs only[go_sem,rRw,e70]
   |true=>
    simp only[if_true,Gc]
    have hra:=Qv.1 hia
    have hrb:=Qv.1 hib
    obtain ⟨a,rfl⟩:∃ a':Nat,a=a':=⟨a.toNat,by omega⟩
    obtain ⟨b,rfl⟩:∃ b':Nat,b=b':=⟨b.toNat,by omega⟩
    have hqv:Yo t o a b=((nd t a).k == 3 && ((nd t b).k == 41 && YS o a b)):=by unfold Yo; rw[hia,hib]; simp only[Ga,Gc]
    have hvv:lateV t a b=buL t (upL t (JG t b) t.nodes.length a) false:=by unfold lateV; simp only[Ga]
    have hKa:=Jah t (i:=a) (by omega)
    have hKb:=Jah t (i:=b) (by omega)
    have hBl:=nBelow g (j0:=a) (a:=b) (by omega) (by omega)
    simp -implicitDefEqProofs only[go_sem,rRw]
    refine JU hKa ?_
    cases h3:((nd t a).k == 3) with
    |false=>
     rw[h3,Gm]at hqv
     simp only[hqv,Gi,if_false]
     simp -implicitDefEqProofs only[go_sem,kbN,h3,Gb]
    |true=>
     rw[h3,Gc]at hqv
     simp -implicitDefEqProofs only[go_sem,kbN,h3,Gh]
     refine JE (gok rfl) hKb ?_
     cases h41:((nd t b).k == 41) with
     |false=>
      rw[h41,Gm]at hqv
      simp only[hqv,Gi,if_false]
      simp -implicitDefEqProofs only[go_sem,kbN,h41,Gb]
     |true=>
      rw[h41,Gc]at hqv
      simp -implicitDefEqProofs only[go_sem,kbN,h41,Gh]
      refine JE (gok rfl) hBl ?_
      cases hb:YS o a b with
      |false=>
       rw[hb]at hqv
       simp only[hqv,Gi,if_false]
       simp -implicitDefEqProofs only[go_sem,Gb]
      |true=>
       rw[hb]at hqv
       have hk:(nd t b).k=41:=by simpa using h41
       have ha3:(nd t a).k=3:=by simpa using h3
       have hL:=nLate g ht (a0:=a) (by omega) hk ((JaD g (by omega) hk (by omega)).1 (Kz.1 hb))
       rw[← hvv]at hL
       simp only[hqv,if_true]
       simp -implicitDefEqProofs only[go_sem,Gh]
       refine JU hL ?_
       simp -implicitDefEqProofs only[go_sem]
 ·have e1:((Xi t o).2 != 0)=true:=by simpa using hE
  rw[if_pos hE,if_pos hE,hl]
  simp -implicitDefEqProofs only[go_sem,e1]
theorem nNeedsP (d:Int):Fn Tryz.prog 14 [t.cv,.int .i64 d] (if (Xi t o).2≠0 then .tup [.nils,.int .i64 (Xi t o).2] else if (inT t d && (nd t d.toNat).k == 41)=true then .tup [.rslc 1 (iz (Ka t o (ofL t o) d.toNat)) none,.int .i64 0] else .tup [.nils,.int .i64 7]):=by
 have hmany:=g.many
 have hF:=nFind g ht [d] (by simp)
 obtain ⟨l,hl⟩:=Jf9 (t:=t) (o:=o)
 refine Ja c14_ok rfl (by split; rfl; split <;> rfl) fun N=>?_
 simp -implicitDefEqProofs only[c14,go_sem,Tr.cv,Tr.row]
 refine Jg (id:=1) (z:=1) (els:=iz [d]) rfl rfl ?_
 simp only[go_sem,J2,Kk,frz,KA,JQ,KN,Gd,Gf,Gg,Gj,Gq,Gn,Gp]
 refine JU hF ?_
 by_cases hE:(Xi t o).2=0
 ·rw[if_neg (show ¬ (Xi t o).2≠0 by simp[hE]),if_neg (show ¬ (Xi t o).2≠0 by simp[hE]),rE_ok hE]
  simp only[GG,GH,GK]
  have e70:((7:Int) != 0)=true:=rfl
  cases hin:inT t d with
  |false=>
   simp only[Gm,Gi,if_false]
   simp -implicitDefEqProofs only[go_sem,rRw,e70]
  |true=>
   have hr:=Qv.1 hin
   obtain ⟨d,rfl⟩:∃ d':Nat,d=d':=⟨d.toNat,by omega⟩
   simp only[Ga,if_true,Gc]
   simp -implicitDefEqProofs only[go_sem,rRw]
   refine JU (Jah t (by omega)) ?_
   cases h41:((nd t d).k == 41) with
   |true=>
    simp -implicitDefEqProofs only[go_sem,kbN,h41,Gh]
    refine JU ((nNeeds g ht (JdP (o:=o)) (by omega) (by simpa using h41)).fn rfl (Jd _)) ?_
    simp -implicitDefEqProofs only[go_sem,if_true]
   |false=>
    simp -implicitDefEqProofs only[go_sem,kbN,h41,Gb,Gi,if_false]
 ·have e1:((Xi t o).2 != 0)=true:=by simpa using hE
  rw[if_pos hE,if_pos hE,hl]
  simp -implicitDefEqProofs only[go_sem,e1]
theorem nOrderP (d:Int):Fn Tryz.prog 15 [t.cv,.int .i64 d] (if (Xi t o).2≠0 then .tup [.nils,.int .i64 (Xi t o).2] else if (inT t d && ((nd t d.toNat).k == 40 || (nd t d.toNat).k == 28))=true then .tup [.rslc 1 (iz (JgM t o (ofL t o) d.toNat)) none,.int .i64 0] else .tup [.nils,.int .i64 7]):=by
 have hmany:=g.many
 have hF:=nFind g ht [d] (by simp)
 obtain ⟨l,hl⟩:=Jf9 (t:=t) (o:=o)
 cases hp:((Xi t o).2 == 0 && (inT t d && ((nd t d.toNat).k == 40 || (nd t d.toNat).k == 28))) with
 |true=>
  simp only[Bool.and_eq_true,beq_iff_eq,GI]at hp
  obtain ⟨hE,hin,hk⟩:=hp
  have hr:=Qv.1 hin
  obtain ⟨d,rfl⟩:∃ d':Nat,d=d':=⟨d.toNat,by omega⟩
  rw[Ga]at hk ⊢
  rw[if_neg (by simp[hE]),if_pos (by rw[hin]; simpa using hk)]
  exact nOrderF g ht hE (by omega) hk
 |false=>
  refine Ja c15_ok rfl (by split; rfl; split <;> rfl) fun N=>?_
  simp -implicitDefEqProofs only[c15,go_sem,Tr.cv,Tr.row]
  refine Jg (id:=1) (z:=1) (els:=iz [d]) rfl rfl ?_
  simp only[go_sem,J2,Kk,frz,KA,JQ,KN,Gd,Gf,Gg,Gj,Gq,Gn,Gp]
  refine JU hF ?_
  by_cases hE:(Xi t o).2=0
  ·rw[hE,beq_self_eq_true,Gc]at hp
   rw[if_neg (show ¬ (Xi t o).2≠0 by simp[hE]),if_neg (show ¬ (Xi t o).2≠0 by simp[hE]),rE_ok hE,hp]
   simp only[GG,GH,GK,Gi,if_false]
   have e70:((7:Int) != 0)=true:=rfl
   cases hin:inT t d with
   |false=>simp -implicitDefEqProofs only[go_sem,rRw,e70,Gi,if_false]
   |true=>
    have hr:=Qv.1 hin
    obtain ⟨d,rfl⟩:∃ d':Nat,d=d':=⟨d.toNat,by omega⟩
    rw[hin,Gc,Ga,Gt]at hp
    simp -implicitDefEqProofs only[go_sem,rRw,if_true]
    refine JU (Jah t (by omega)) ?_
    simp -implicitDefEqProofs only[go_sem,kbN,hp.1,Gb]
    refine JE (gok rfl) (Jah t (by omega)) ?_
    simp -implicitDefEqProofs only[go_sem,kbN,hp.2,Gb]
  ·have e1:((Xi t o).2 != 0)=true:=by simpa using hE
   rw[if_pos hE,if_pos hE,hl]
   simp -implicitDefEqProofs only[go_sem,e1]
end
theorem nLateE (t:Tr) (ht:t.Fit) (h:chk t≠0) (a b:Int):Fn Tryz.prog 13 [t.cv,.int .i64 a,.int .i64 b] (.tup [.bool false,.int .i64 (chk t)]):=by
 have e:(chk t != 0)=true:=by simpa using h
 refine Ja c13_ok rfl rfl fun N=>?_
 simp -implicitDefEqProofs only[c13,go_sem,Tr.cv,Tr.row]
 refine Jg (id:=1) (z:=1) (els:=iz [a,b]) rfl rfl ?_
 simp only[go_sem,J2,Kk,frz,KA,JQ,KN,Gd,Gf,Gg,Gj,Gq,Gn,Gp]
 refine JU (nFindE t ht [a,b] h) ?_
 simp -implicitDefEqProofs only[go_sem,e]
theorem nNeedsE (t:Tr) (ht:t.Fit) (h:chk t≠0) (d:Int):Fn Tryz.prog 14 [t.cv,.int .i64 d] (.tup [.nils,.int .i64 (chk t)]):=by
 have e:(chk t != 0)=true:=by simpa using h
 refine Ja c14_ok rfl rfl fun N=>?_
 simp -implicitDefEqProofs only[c14,go_sem,Tr.cv,Tr.row]
 refine Jg (id:=1) (z:=1) (els:=iz [d]) rfl rfl ?_
 simp only[go_sem,J2,Kk,frz,KA,JQ,KN,Gd,Gf,Gg,Gj,Gq,Gn,Gp]
 refine JU (nFindE t ht [d] h) ?_
 simp -implicitDefEqProofs only[go_sem,e]
theorem nOrderE (t:Tr) (ht:t.Fit) (h:chk t≠0) (d:Int):Fn Tryz.prog 15 [t.cv,.int .i64 d] (.tup [.nils,.int .i64 (chk t)]):=by
 have e:(chk t != 0)=true:=by simpa using h
 refine Ja c15_ok rfl rfl fun N=>?_
 simp -implicitDefEqProofs only[c15,go_sem,Tr.cv,Tr.row]
 refine Jg (id:=1) (z:=1) (els:=iz [d]) rfl rfl ?_
 simp only[go_sem,J2,Kk,frz,KA,JQ,KN,Gd,Gf,Gg,Gj,Gq,Gn,Gp]
 refine JU (nFindE t ht [d] h) ?_
 simp -implicitDefEqProofs only[go_sem,e]
end
section
theorem Jd9 {α:Type}{q q':α→Bool}:∀ (l:List α) (i:Nat),(∀ x∈l,q x=q' x)→K9 q l i=K9 q' l i
 |[],_,_=>rfl
 |p::l,i,h=>by
  have h1:=h p (by simp)
  have h2:=Jd9 l (i+1) fun x hx=>h x (List.mem_cons_of_mem _ hx)
  simp only[K9,h1,h2]
theorem ordG_cong {N N':Int→List Int}:∀ (f:Nat) (left:List Int),(∀ x∈left,N x=N' x)→JdL N f left=JdL N' f left
 |0,_,_=>rfl
 |f+1,left,h=>by
  have h1:K9 (XQ N left) left 0=K9 (XQ N' left) left 0:=Jd9 left 0 fun x hx=>by unfold XQ; rw[h x hx]
  unfold JdL
  rw[h1]
  have h2:=ordG_cong (N:=N) (N':=N') f (left.eraseIdx (K9 (XQ N' left) left 0).toNat) fun x hx=>h x (GM hx)
  rw[h2]
section
variable {t:Tr}{o:List Int}(g:GoodT t o) (ht:t.Fit)
include g ht
theorem refOrderG (hE:(Xi t o).2=0) {u:Nat}(hu:u < t.nodes.length):Fn Tryz.prog 21 [t.cv,.rslc 1 (iz (ofL t o)) none,.int .i64 (u:Int)] (.rslc 1 (iz (JgM t o (ofL t o) u)) none):=by
 have hne:∀ x:Int,0≤x∧x < t.nodes.length∧(nd t x.toNat).k=41→Ka t o (ofL t o) x.toNat=QN t o (ofL t o) x.toNat:=fun x hx=>JdQ g (by omega) hx.2.2
 have hfree:∀ left:List Int,(∀ x∈left,0≤x∧x < t.nodes.length∧(nd t x.toNat).k=41)→left≠[]→∃ k,K9 (XQ (fun x=>QN t o (ofL t o) x.toNat) left) left 0=((k:Nat):Int)∧k < left.length:=fun left hl h0=>by
  obtain ⟨k,h1,h2⟩:=Je8 g hE hl h0
  refine ⟨k,?_,h2⟩
  rw[← h1]
  refine Jd9 left 0 fun x hx=>?_
  unfold XQ
  simp only[hne x (hl x hx)]
 have h:=(refOrder g ht (JdP (o:=o)) hu hfree).fn rfl (Jd _)
 have e:JgM t o (ofL t o) u=JdL (fun x=>QN t o (ofL t o) x.toNat) (Kt t u 41).length (Kt t u 41):=by
  unfold JgM
  refine ordG_cong _ _ fun x hx=>hne x ?_
  have h1:=Jaj g hu hx
  have h2:=(Kb.1 hx).2
  exact ⟨h1.1,h1.2,h2⟩
 rw[e]; exact h
omit g ht in
theorem ordL_len {u:Nat}(hl:(Kt t u 41).length≤30):(JgM t o (ofL t o) u).length≤100000:=by
 have key:∀ (N:Int→List Int) (f:Nat) (l:List Int),(JdL N f l).length≤f:=by
  intro N f
  induction f with
  |zero=>intro l; exact Nat.le_refl _
  |succ f ih=>
   intro l
   unfold JdL
   split
   ·simp
   ·have:=ih (l.eraseIdx (K9 (XQ N l) l 0).toNat)
    simp only[Gg]; omega
 have:=key (fun x=>Ka t o (ofL t o) x.toNat) (Kt t u 41).length (Kt t u 41)
 unfold JgM
 omega
end
end
theorem needBad (t:Tr) (ht:t.Fit) (hv:JaX t=false) (h:chk t≠0) (a b:Int):Fn Tryz.prog 3 [t.cv,.int .i64 a,.int .i64 b] (.bool true):=by
 have hV:=Jgj t
 rw[hv]at hV
 have e1:((chk t) == (chk t))=true:=by simp
 have e2:((chk t) != 0)=true:=by simpa using h
 have e3:((0+0:Int) == 0)=true:=rfl
 refine Ja c3_ok rfl rfl fun N=>?_
 simp -implicitDefEqProofs only[c3,go_sem,Tr.cv,Tr.row]
 refine JU hV ?_
 simp -implicitDefEqProofs only[go_sem,Tr.row]
 refine JU (refCopy t ht) ?_
 simp -implicitDefEqProofs only[go_sem,Tr.cv,Tr.row]
 refine JU (nLateE t ht h a b) ?_
 simp -implicitDefEqProofs only[go_sem,Tr.cv,Tr.row]
 refine JU (nNeedsE t ht h b) ?_
 simp -implicitDefEqProofs only[go_sem,Tr.cv,Tr.row]
 refine JU (nOrderE t ht h a) ?_
 simp -implicitDefEqProofs only[go_sem,Tr.cv,Tr.row]
 refine JU (refResolveE t ht h) ?_
 simp -implicitDefEqProofs only[go_sem,Tr.cv,Tr.row]
 refine JU (Jf6 t ht) ?_
 simp -implicitDefEqProofs only[go_sem,e1,e2,e3,Gb]
 refine ⟨Ji,?_⟩
 refine JE (gok rfl) XF ?_
 simp -implicitDefEqProofs only[go_sem]
theorem needGood {t:Tr}{o:List Int}(g:GoodT t o) (ht:t.Fit) (hv:JaX t=false) (a b:Int):Fn Tryz.prog 3 [t.cv,.int .i64 a,.int .i64 b] (.bool true):=by
 have hmany:=g.many
 have hV:=Jgj t
 rw[hv]at hV
 have hLt:=nLateP g ht a b
 have hNd:=nNeedsP g ht b
 have hOr:=nOrderP g ht a
 have hR:=refResolve g ht
 rw[← res_eq g]at hR
 have e00:((0:Int) == 0)=true:=rfl
 have e01:((0:Int) != 0)=false:=rfl
 have e70:((7:Int) != 0)=true:=rfl
 have e77:((7:Int) == 7)=true:=rfl
 have e7n:((7:Int) != 7)=false:=rfl
 by_cases he:(Xi t o).2=0
 ·rw[if_pos he]at hR
  rw[if_neg (show ¬ (Xi t o).2≠0 by simp[he])]at hLt hNd hOr
  obtain ⟨lv,le,hlt,hls⟩:∃ lv le,Fn Tryz.prog 13 [t.cv,.int .i64 a,.int .i64 b] (.tup [.bool lv,.int .i64 le])∧((Yo t o a b=true∧lv=lateV t a b∧le=0)∨(Yo t o a b=false∧lv=false∧le=7)):=by
   cases hq:Yo t o a b with
   |true=>rw[hq,if_pos rfl]at hLt; exact ⟨_,_,hLt,.inl ⟨rfl,rfl,rfl⟩⟩
   |false=>rw[hq,if_neg (by simp)]at hLt; exact ⟨_,_,hLt,.inr ⟨rfl,rfl,rfl⟩⟩
  obtain ⟨nv,ne,hnt,hns⟩:∃ nv ne,Fn Tryz.prog 14 [t.cv,.int .i64 b] (.tup [nv,.int .i64 ne])∧(((inT t b && (nd t b.toNat).k == 41)=true∧nv=.rslc 1 (iz (Ka t o (ofL t o) b.toNat)) none∧ne=0)∨((inT t b && (nd t b.toNat).k == 41)=false∧nv=.nils∧ne=7)):=by
   cases hq:(inT t b && (nd t b.toNat).k == 41) with
   |true=>rw[hq,if_pos rfl]at hNd; exact ⟨_,_,hNd,.inl ⟨rfl,rfl,rfl⟩⟩
   |false=>rw[hq,if_neg (by simp)]at hNd; exact ⟨_,_,hNd,.inr ⟨rfl,rfl,rfl⟩⟩
  obtain ⟨ov,oe,hot,hos⟩:∃ ov oe,Fn Tryz.prog 15 [t.cv,.int .i64 a] (.tup [ov,.int .i64 oe])∧(((inT t a && ((nd t a.toNat).k == 40 || (nd t a.toNat).k == 28))=true∧ov=.rslc 1 (iz (JgM t o (ofL t o) a.toNat)) none∧oe=0)∨((inT t a && ((nd t a.toNat).k == 40 || (nd t a.toNat).k == 28))=false∧ov=.nils∧oe=7)):=by
   cases hq:(inT t a && ((nd t a.toNat).k == 40 || (nd t a.toNat).k == 28)) with
   |true=>rw[hq,if_pos rfl]at hOr; exact ⟨_,_,hOr,.inl ⟨rfl,rfl,rfl⟩⟩
   |false=>rw[hq,if_neg (by simp)]at hOr; exact ⟨_,_,hOr,.inr ⟨rfl,rfl,rfl⟩⟩
  clear hLt hNd hOr
  have hT41:Fn Tryz.prog 18 [t.cv,.int .i64 b,.int .u8 41] (.bool (inT t b && (nd t b.toNat).k == 41)):=Jc9 t (by omega) b 41
  have hT40:Fn Tryz.prog 18 [t.cv,.int .i64 a,.int .u8 40] (.bool (inT t a && (nd t a.toNat).k == 40)):=Jc9 t (by omega) a 40
  have hT28:Fn Tryz.prog 18 [t.cv,.int .i64 a,.int .u8 28] (.bool (inT t a && (nd t a.toNat).k == 28)):=Jc9 t (by omega) a 28
  have hT3:Fn Tryz.prog 18 [t.cv,.int .i64 a,.int .u8 3] (.bool (inT t a && (nd t a.toNat).k == 3)):=Jc9 t (by omega) a 3
  refine Ja c3_ok rfl rfl fun N=>?_
  simp -implicitDefEqProofs only[c3,go_sem,Tr.cv,Tr.row]
  refine JU hV ?_
  simp -implicitDefEqProofs only[go_sem,Tr.row]
  refine JU (refCopy t ht) ?_
  simp -implicitDefEqProofs only[go_sem,Tr.cv,Tr.row]
  refine JU hlt ?_
  simp -implicitDefEqProofs only[go_sem,Tr.cv,Tr.row]
  refine JU hnt ?_
  simp -implicitDefEqProofs only[go_sem,Tr.cv,Tr.row]
  refine JU hot ?_
  simp -implicitDefEqProofs only[go_sem,Tr.cv,Tr.row]
  refine JU hR ?_
  simp -implicitDefEqProofs only[go_sem,Tr.cv,Tr.row]
  refine JU (Jf6 t ht) ?_
  simp -implicitDefEqProofs only[go_sem,e01]
  refine JU hT41 ?_
  rcases hns with ⟨hset,rfl,rfl⟩ | ⟨hset,rfl,rfl⟩
  ·have hb:=Qv.1 (Gl.1 hset).1
   have hbk:(nd t b.toNat).k=41:=by simpa using (Gl.1 hset).2
   obtain ⟨b,rfl⟩:∃ b':Nat,b=b':=⟨b.toNat,by omega⟩
   rw[Ga]at hbk
   have hbn:b < t.nodes.length:=by omega
   have hrn:=(Jc6 g ht (JdP (o:=o)) hbn hbk).fn rfl (Jd _)
   rw[← JdQ g hbn hbk]at hrn
   have hln:(Ka t o (ofL t o) b).length≤100000:=by
    have h1:(Ka t o (ofL t o) b).length≤(J6 t).length:=GQ _ _
    have h2:(J6 t).length=t.nodes.length:=by simp[J6]
    omega
   have hsn:=lawSame (Ka t o (ofL t o) b) (Ka t o (ofL t o) b) hln
   rw[show (Ka t o (ofL t o) b == Ka t o (ofL t o) b)=true by simp]at hsn
   rw[hset,Ga]
   simp -implicitDefEqProofs only[go_sem,e01,Tr.row]
   refine JE (gok rfl) hrn ?_
   simp -implicitDefEqProofs only[go_sem]
   refine JE (gok rfl) hsn ?_
   simp -implicitDefEqProofs only[go_sem,Gh]
   refine JU hT40 ?_
   rcases hos with ⟨hblk,rfl,rfl⟩ | ⟨hblk,rfl,rfl⟩
   ·have hia:=(Gl.1 hblk).1
    have ha:=Qv.1 hia
    obtain ⟨a,rfl⟩:∃ a':Nat,a=a':=⟨a.toNat,by omega⟩
    have han:a < t.nodes.length:=by omega
    have hkk:=(Gl.1 hblk).2
    simp only[Ga]at hkk hT40 hT28 hT3
    have hro:=refOrderG g ht he han
    have hlo:=ordL_len (t:=t) (o:=o) (u:=a) (by have h:=QX ht (x:=(a:Int)) (k:=41); rw[Ga]at h; exact h)
    have hso:=lawSame (JgM t o (ofL t o) a) (JgM t o (ofL t o) a) hlo
    rw[show (JgM t o (ofL t o) a == JgM t o (ofL t o) a)=true by simp]at hso
    have hn3:((nd t a).k == 3)=false:=by rw[GI,beq_iff_eq,beq_iff_eq]at hkk; rw[beq_eq_false_iff_ne]; omega
    have hq:Yo t o (a:Int) (b:Int)=false:=by unfold Yo; simp only[Ga,hn3,Gm,Gr]
    obtain ⟨rfl,rfl⟩:lv=false∧le=7:=by rcases hls with ⟨h1,_⟩ | ⟨_,h2,h3⟩; (rw[hq]at h1; exact absurd h1 (by simp)); exact ⟨h2,h3⟩
    rw[hia,Gc]at hT28 hT3
    rw[hn3]at hT3
    cases h40:((nd t a).k == 40) with
    |true=>
     rw[hia,Ga,h40,Gc]
     simp -implicitDefEqProofs only[go_sem,e01,Tr.row,Ga]
     refine JE (gok rfl) hro ?_
     simp -implicitDefEqProofs only[go_sem]
     refine JE (gok rfl) hso ?_
     simp -implicitDefEqProofs only[go_sem,Gh,Gb,e77,Tr.row]
     refine JE (gok rfl) hT3 ?_
     simp -implicitDefEqProofs only[go_sem,Gb,e77]
     refine JE (gok rfl) XF ?_
     simp -implicitDefEqProofs only[go_sem]
    |false=>
     rw[hia,Ga,h40,Gc]
     rw[h40,GJ]at hkk
     rw[hkk]at hT28
     simp -implicitDefEqProofs only[go_sem,Tr.row]
     refine JE (gok rfl) hT28 ?_
     simp -implicitDefEqProofs only[go_sem,e01,Tr.row,Ga]
     refine JE (gok rfl) hro ?_
     simp -implicitDefEqProofs only[go_sem]
     refine JE (gok rfl) hso ?_
     simp -implicitDefEqProofs only[go_sem,Gh,Gb,e77,Tr.row]
     refine JE (gok rfl) hT3 ?_
     simp -implicitDefEqProofs only[go_sem,Gb,e77]
     refine JE (gok rfl) XF ?_
     simp -implicitDefEqProofs only[go_sem]
   ·have h40:(inT t a && (nd t a.toNat).k == 40)=false:=by cases h:inT t a with | false=>rfl | true=>rw[h,Gc,Gt]at hblk; rw[hblk.1]; rfl
    have h28:(inT t a && (nd t a.toNat).k == 28)=false:=by cases h:inT t a with | false=>rfl | true=>rw[h,Gc,Gt]at hblk; rw[hblk.2]; rfl
    rw[h28]at hT28
    rw[h40]
    simp -implicitDefEqProofs only[go_sem,Tr.row]
    refine JE (gok rfl) hT28 ?_
    simp -implicitDefEqProofs only[go_sem,e7n,e01,Gb,Tr.row]
    refine JE (gok rfl) hT3 ?_
    cases h3:(inT t a && (nd t a.toNat).k == 3) with
    |false=>
     have hq:Yo t o a (b:Int)=false:=by unfold Yo; cases h:inT t a with | false=>rfl | true=>rw[h,Gc]at h3; simp only[h3,Gm,Gr]
     obtain ⟨rfl,rfl⟩:lv=false∧le=7:=by rcases hls with ⟨h1,_⟩ | ⟨_,h2,h3⟩; (rw[hq]at h1; exact absurd h1 (by simp)); exact ⟨h2,h3⟩
     simp -implicitDefEqProofs only[go_sem,Gb,e77,Tr.row]
     refine JE (gok rfl) XF ?_
     simp -implicitDefEqProofs only[go_sem]
    |true=>
     have hia:=(Gl.1 h3).1
     have ha:=Qv.1 hia
     have hk3:=(Gl.1 h3).2
     obtain ⟨a,rfl⟩:∃ a':Nat,a=a':=⟨a.toNat,by omega⟩
     rw[Ga]at hk3
     have han:a < t.nodes.length:=by omega
     have hBel:=Je5 t ht g (a:Int) b hbn
     have hbe:(decide ((a:Int)≤(b:Int)) && decide (fs o (b:Int)≤(a:Int)))=YS o a b:=by unfold YS; rw[Bool.eq_iff_iff]; simp
     have hqv:Yo t o (a:Int) (b:Int)=YS o a b:=by unfold Yo; simp only[Ga,hia,hk3,(Gl.1 hset).1,hbk,beq_self_eq_true,Gc]
     simp -implicitDefEqProofs only[go_sem,Tr.row]
     refine JE (gok rfl) hBel ?_
     cases hbl:YS o a b with
     |false=>
      obtain ⟨rfl,rfl⟩:lv=false∧le=7:=by rcases hls with ⟨h1,_⟩ | ⟨_,h2,h3⟩; (rw[hqv,hbl]at h1; exact absurd h1 (by simp)); exact ⟨h2,h3⟩
      rw[hbl]at hbe
      simp -implicitDefEqProofs only[go_sem,hbe,Gb,e77,Tr.row]
      refine JE (gok rfl) XF ?_
      simp -implicitDefEqProofs only[go_sem]
     |true=>
      obtain ⟨hlv,rfl⟩:lv=lateV t (a:Int) (b:Int)∧le=0:=by rcases hls with ⟨_,h2,h3⟩ | ⟨h1,_⟩; exact ⟨h2,h3⟩; (rw[hqv,hbl]at h1; exact absurd h1 (by simp))
      have hk3':(nd t a).k=3:=by simpa using hk3
      have hb1:=(JaD g hbn hbk (j:=a) (by omega)).1 (Kz.1 hbl)
      have hRL:=refLate g ht (a0:=a) hbn hbk hb1
      rw[← late_eq g hbn hbk (by omega) (Kz.1 hbl)]at hRL
      have hlv':lv=buL t (upL t (JG t b) t.nodes.length a) false:=by rw[hlv]; unfold lateV; simp only[Ga]
      rw[← hlv']at hRL
      have ell:(lv == lv)=true:=by simp
      rw[hbl]at hbe
      simp -implicitDefEqProofs only[go_sem,hbe,e00,Tr.row]
      refine JE (gok rfl) hRL ?_
      simp -implicitDefEqProofs only[go_sem,ell]
      refine JE (gok rfl) XF ?_
      simp -implicitDefEqProofs only[go_sem]
  ·rw[hset]
   simp -implicitDefEqProofs only[go_sem,e7n,e01,Gb,Tr.row]
   refine JU hT40 ?_
   rcases hos with ⟨hblk,rfl,rfl⟩ | ⟨hblk,rfl,rfl⟩
   ·have hia:=(Gl.1 hblk).1
    have ha:=Qv.1 hia
    obtain ⟨a,rfl⟩:∃ a':Nat,a=a':=⟨a.toNat,by omega⟩
    have han:a < t.nodes.length:=by omega
    have hkk:=(Gl.1 hblk).2
    simp only[Ga]at hkk hT40 hT28 hT3
    have hro:=refOrderG g ht he han
    have hlo:=ordL_len (t:=t) (o:=o) (u:=a) (by have h:=QX ht (x:=(a:Int)) (k:=41); rw[Ga]at h; exact h)
    have hso:=lawSame (JgM t o (ofL t o) a) (JgM t o (ofL t o) a) hlo
    rw[show (JgM t o (ofL t o) a == JgM t o (ofL t o) a)=true by simp]at hso
    have hn3:((nd t a).k == 3)=false:=by rw[GI,beq_iff_eq,beq_iff_eq]at hkk; rw[beq_eq_false_iff_ne]; omega
    have hq:Yo t o (a:Int) b=false:=by unfold Yo; simp only[Ga,hn3,Gm,Gr]
    obtain ⟨rfl,rfl⟩:lv=false∧le=7:=by rcases hls with ⟨h1,_⟩ | ⟨_,h2,h3⟩; (rw[hq]at h1; exact absurd h1 (by simp)); exact ⟨h2,h3⟩
    rw[hia,Gc]at hT28 hT3
    rw[hn3]at hT3
    cases h40:((nd t a).k == 40) with
    |true=>
     rw[hia,Ga,h40,Gc]
     simp -implicitDefEqProofs only[go_sem,e01,Tr.row,Ga]
     refine JE (gok rfl) hro ?_
     simp -implicitDefEqProofs only[go_sem]
     refine JE (gok rfl) hso ?_
     simp -implicitDefEqProofs only[go_sem,Gh,Gb,e77,Tr.row]
     refine JE (gok rfl) XF ?_
     simp -implicitDefEqProofs only[go_sem]
    |false=>
     rw[hia,Ga,h40,Gc]
     rw[h40,GJ]at hkk
     rw[hkk]at hT28
     simp -implicitDefEqProofs only[go_sem,Tr.row]
     refine JE (gok rfl) hT28 ?_
     simp -implicitDefEqProofs only[go_sem,e01,Tr.row,Ga]
     refine JE (gok rfl) hro ?_
     simp -implicitDefEqProofs only[go_sem]
     refine JE (gok rfl) hso ?_
     simp -implicitDefEqProofs only[go_sem,Gh,Gb,e77,Tr.row]
     refine JE (gok rfl) XF ?_
     simp -implicitDefEqProofs only[go_sem]
   ·have h40:(inT t a && (nd t a.toNat).k == 40)=false:=by cases h:inT t a with | false=>rfl | true=>rw[h,Gc,Gt]at hblk; rw[hblk.1]; rfl
    have h28:(inT t a && (nd t a.toNat).k == 28)=false:=by cases h:inT t a with | false=>rfl | true=>rw[h,Gc,Gt]at hblk; rw[hblk.2]; rfl
    rw[h28]at hT28
    rw[h40]
    simp -implicitDefEqProofs only[go_sem,Tr.row]
    refine JE (gok rfl) hT28 ?_
    simp -implicitDefEqProofs only[go_sem,e7n,e01,Gb,Tr.row]
    have hq:Yo t o a b=false:=by unfold Yo; cases h:inT t b with | false=>simp only[Gm,Gr] | true=>rw[h,Gc]at hset; simp only[hset,Gm,Gr]
    obtain ⟨rfl,rfl⟩:lv=false∧le=7:=by rcases hls with ⟨h1,_⟩ | ⟨_,h2,h3⟩; (rw[hq]at h1; exact absurd h1 (by simp)); exact ⟨h2,h3⟩
    simp -implicitDefEqProofs only[go_sem,Gb,e77,Tr.row]
    refine JE (gok rfl) XF ?_
    simp -implicitDefEqProofs only[go_sem]
 ·rw[if_neg he]at hR
  rw[if_pos he]at hLt hNd hOr
  have e1:((Xi t o).2 == (Xi t o).2)=true:=by simp
  have e2:((Xi t o).2 != 0)=true:=by simpa using he
  have e3:((0+0:Int) == 0)=true:=rfl
  refine Ja c3_ok rfl rfl fun N=>?_
  simp -implicitDefEqProofs only[c3,go_sem,Tr.cv,Tr.row]
  refine JU hV ?_
  simp -implicitDefEqProofs only[go_sem,Tr.row]
  refine JU (refCopy t ht) ?_
  simp -implicitDefEqProofs only[go_sem,Tr.cv,Tr.row]
  refine JU hLt ?_
  simp -implicitDefEqProofs only[go_sem,Tr.cv,Tr.row]
  refine JU hNd ?_
  simp -implicitDefEqProofs only[go_sem,Tr.cv,Tr.row]
  refine JU hOr ?_
  simp -implicitDefEqProofs only[go_sem,Tr.cv,Tr.row]
  refine JU hR ?_
  simp -implicitDefEqProofs only[go_sem,Tr.cv,Tr.row]
  refine JU (Jf6 t ht) ?_
  simp -implicitDefEqProofs only[go_sem,e1,e2,e3,Gb]
  refine ⟨Ji,?_⟩
  refine JE (gok rfl) XF ?_
  simp -implicitDefEqProofs only[go_sem]
theorem needAll (t:Tr) (ty:t.Ty) (a:Int) (_:InR .i64 a) (b:Int) (_:InR .i64 b):Fn Tryz.prog 3 [t.cv,.int .i64 a,.int .i64 b] (.bool true):=by
 cases hv:JaX t with
 |true=>
  have hV:=Jgj t
  rw[hv]at hV
  refine Ja c3_ok rfl rfl fun N=>?_
  simp -implicitDefEqProofs only[c3,go_sem,Tr.cv,Tr.row]
  refine JU hV ?_
  simp -implicitDefEqProofs only[go_sem,Tr.row]
  refine JU XF ?_
  simp -implicitDefEqProofs only[go_sem]
 |false=>
  have ht:=ty.fit3 hv
  by_cases h:chk t=0
  ·obtain ⟨o,g⟩:=(Jdg t).1 h
   exact needGood g ht hv a b
  ·exact needBad t ht hv h a b
end Go.Cm
end
end
