/-
  A part of the proof. Conditions: none.
-/
import Derived.Test.YtaiboeciecfgoaaGreatDoorRP51
set_option linter.unusedSimpArgs false
set_option linter.unusedVariables false
open List renaming map_cons→Gb,length_cons→Gd,map_nil→Gc,length_nil→Gf,getD_eq_getElem?_getD→Gl,getElem?_eq_getElem→Gm,drop_zero→Gi,take_of_length_le→Gv,contains_iff_mem→Gw,take_zero→Gs,mem_range→Gt,take_succ_cons→Gx,set_cons_zero→Gy,set_cons_succ→Gz,mem_singleton→GA,getElem_range→GD,mem_map→Gu,getElem_map→GG,ext_getElem→GH,mem_filter→GI,mem_append→GJ,getElem_set→GL,all_cons→GM,all_nil→GN
open Bool renaming not_true→Gj,eq_iff_iff→Gn,not_false→Gp,true_and→Gq,or_eq_true→GK,true_eq_false→GQ,false_eq_true→GR,and_eq_true→GU,and_true→GV
open Go.Proofs.Tryz renaming prog→Ga
open Nat renaming zero_add→Gg,le_refl→Gr,succ_le_succ→GX
open Int renaming toNat_natCast→Gh
noncomputable section
section
set_option maxRecDepth 100000
set_option maxHeartbeats 4000000
open Go.Proofs
namespace Go.Cm
def renN (s:List UInt8) (x:Nd):Nd:=⟨x.k,s,x.n,x.kids,x.pl⟩
def JcT (t:Tr) (q:Nat→Bool) (s:List UInt8):Tr:=⟨(List.range t.nodes.length).map fun i=>if q i=true then renN s (nd t i) else nd t i,t.items⟩
theorem Jga {t:Tr}{q:Nat→Bool}{s:List UInt8}:(JcT t q s).nodes.length=t.nodes.length:=by simp[JcT]
theorem renT_get {t:Tr}{q:Nat→Bool}{s:List UInt8}{i:Nat}(h:i < t.nodes.length):nd (JcT t q s) i=if q i=true then renN s (nd t i) else nd t i:=by
 unfold nd JcT
 rw[Gl,Gm (by simpa using h),Option.getD_some,GG,GD]
 rfl
theorem JaA {t:Tr}{q q':Nat→Bool}{s:List UInt8}(h:∀ i,i < t.nodes.length→q i=q' i):JcT t q s=JcT t q' s:=by
 unfold JcT
 congr 1
 refine List.map_congr_left fun i hi=>?_
 rw[h i (Gt.1 hi)]
theorem renT_none {t:Tr}{s:List UInt8}:JcT t (fun _=>false) s=t:=by
 have:(List.range t.nodes.length).map (fun i=>nd t i)=t.nodes:=by
  apply GH (by simp)
  intro i h1 h2
  rw[GG,GD]
  unfold nd
  rw[Gl,Gm h2]; rfl
 unfold JcT
 simp only[GR,if_false,this]
theorem renT_set {t:Tr}{q:Nat→Bool}{s:List UInt8}{j:Nat}(_:j < t.nodes.length):(ndz (JcT t q s).nodes).set j (renN s (nd t j)).cv=ndz (JcT t (fun i=>q i || i == j) s).nodes:=by
 unfold ndz JcT
 apply GH (by simp)
 intro i h1 h2
 rw[GL]
 simp only[GG,GD]
 by_cases h:j=i
 ·subst h; simp
 ·have:(i == j)=false:=by simpa using fun h'=>h h'.symm
  rw[if_neg h,this,Bool.or_false]
theorem renT_fit {t:Tr}{q:Nat→Bool}{s:List UInt8}(ht:t.Fit) (hs:s.length≤60):(JcT t q s).Fit:=by
 refine ⟨by rw[Jga]; exact ht.many,ht.items,fun x hx=>?_,ht.iz⟩
 unfold JcT at hx
 obtain ⟨i,hi,rfl⟩:=Gu.1 hx
 have hf:=fitN ht (Gt.1 hi)
 split
 ·exact ⟨hf.k,hs,hf.n,hf.kidn,hf.kids,hf.pl⟩
 ·exact hf
theorem cloneN {l:List Nd}(hl:l.length≤100000) (hne:l≠[]):Jbp Ga 74 [.rslc 5 (ndz l) none] 5 (ndz l):=by
 refine JaH (KI c74_ok fun N=>?_) rfl (JZ l)
 obtain ⟨x,xs,hR⟩:∃ x xs,ndz l=x::xs:=by
  cases l with
  |nil=>exact absurd rfl hne
  |cons a l=>exact ⟨_,_,rfl⟩
 have hlen:xs.length+1=l.length:=by rw[← Jc (l:=l),hR]; rfl
 rw[hR]
 simp -implicitDefEqProofs only[c74,go_sem,JJ]
 refine ⟨by omega,1,by rw[Xl],rfl⟩
theorem cloneF (l:List Int) (hl:l.length≤100000):Fn Ga 75 [.rslc 1 (iz l) none] (.rslc 1 (iz l) none):=by
 by_cases h:l=[]
 ·subst h; exact cloneE
 ·exact (cloneR hl h).fn rfl (Jd l)
section
def renQ (of:List Int) (d i:Nat):Bool:=of.getD i 0 == (d:Int) || i == d
theorem Jd2 {P:Program}{E:Env}{T:List CV}{H:List CObj}{io:IOper}{x:CV}{c:Cond}(hg:GOk T io.guard) (he:exec io.op T H=some (c,x,H)) (hc:c.holds):HS P E io T H x H (.all,.on []):=by
 refine ⟨fun _ _=>rfl,fun T2 H2 ha hx=>?_⟩
 have hH:H2=H:=Jbd fun y=>hx y trivial
 subst hH
 exact ⟨H2,fun y hy=>(by cases hy),fun _ _=>rfl,fun _ _ _ _ _ hok=>Jcr (XH ha hg) (by rw[← Kt (Jh ha).2]; exact he) hc hok⟩
theorem set_same {t:Tr}{i:Nat}(h:i < t.nodes.length):(ndz t.nodes).set i (nd t i).cv=ndz t.nodes:=by
 rw[← J6 h]
 apply GH (by simp)
 intro j h1 h2
 rw[GL]
 split
 ·rename_i e
  subst e
  rw[Gl,Gm h2]; rfl
 ·rfl
section
variable {t:Tr}{o:List Int}(g:GoodT t o) (ht:t.Fit)
include g ht
theorem nRenameC (hE:(Yr t o).2=0) {d:Nat}(hd:d < t.nodes.length) (hdc:Kk (nd t d).k=true) (nm:List UInt8) (hnl:nm.length≤60) (hnk:knd nm=some 2)
  (X1 X2:CV) (a e:Int) (of':List Int) (hol':e=0→of'.length≤100000) (hX:(X1=.nilp∧X2=.nils∧e≠0)∨((∃ l,X1=.rptr l)∧X2=.rslc 1 (iz of') none))
  (hRs:Fn Ga 77 [(JcT t (renQ (ofL t o) d) nm).cv] (.tup [.agg [X1,X2],.int .i64 a,.int .i64 e])) :
  Fn Ga 24 [t.cv,.int .i64 (d:Int),S nm] (if e=0∧of'=ofL t o then .tup [(JcT t (renQ (ofL t o) d) nm).cv,.int .i64 0] else .tup [.agg [.nils,.nils],.int .i64 9]):=by
 have hmany:=g.many
 have hF:=nFind g ht [(d:Int)] (by simp)
 have hin:[(d:Int)].all (inT t)=true:=by simp only[GM,GN,GV]; exact X8.2 ⟨by omega,by omega⟩
 rw[if_neg (by simp[hE]),if_pos hin,rE_ok hE]at hF
 have hDc:=Jgl t hd
 rw[hdc]at hDc
 have hK:=lexKind nm (by omega)
 rw[hnk]at hK
 have hCn:=cloneN (l:=t.nodes) (by omega) (by rintro h; rw[h]at hd; simp at hd)
 have hCi:=cloneF t.items (by have:=ht.items; omega)
 have hne:t.nodes≠[]:=by rintro h; rw[h]at hd; simp at hd
 have hne':ndz t.nodes≠[]:=by unfold ndz; simpa using hne
 have hCn':∀ E H,CallsC Ga E 74 [.rslc 5 (ndz t.nodes) none] H fun v H'=>v=.slc H.length 0 t.nodes.length none∧H'=H++[.arr 5 (ndz t.nodes)]:=fun E H=>by
  have h:=hCn E H
  rw[Qz hne',Qd hne',Jc]at h
  exact h
 have e22:(((2:Nat):Int) != 2)=false:=rfl
 have hUs:=nUses0 t (ofL t o) (by rw[K5]; omega) (d:Int)
 refine QP ?_ rfl (by split <;> rfl)
 refine KI c24_ok fun N=>?_
 simp -implicitDefEqProofs only[c24,go_sem,Tr.cv,Tr.row]
 refine Jg (id:=2) (z:=1) (els:=iz [(d:Int)]) rfl rfl ?_
 simp only[go_sem,J2,Ko,frz,KG,JY,Qw,Gb,Gc,Gd,Gf,Gi,Gx,Gs]
 refine JV hF ?_
 simp -implicitDefEqProofs only[go_sem,rRw]
 refine JV hDc ?_
 simp -implicitDefEqProofs only[go_sem,Gj]
 refine JV hK ?_
 simp -implicitDefEqProofs only[go_sem,kndV,e22]
 refine Jg (id:=0) (z:=2) (els:=[t.row]) rfl rfl ?_
 simp only[go_sem,J2,Ko,frz,KG,Gb,Gc,Tr.row]
 refine Jg (id:=3) (z:=2) (els:=[rRw t (ofL t o)]) rfl rfl ?_
 simp only[go_sem,J2,Ko,frz,KG,Gb,Gc,rRw,Gi]
 have hnc:=Jb (ρ:=[0,1,2,3,5,4]) (JZ t.nodes)
 refine vr_dregQ 2 7 [0,1,7,2,3,4,5,6,8] [0,1,3,4,5,6,7,2,8] [false,false,true,false,false,false,false,true,true] [false,false,true,true,false,false,false,false,true] (gp [(1,.int .i64 (d:Int)),(0,S nm),(3,.ptr 1 0 0),(1,.rptr (rRw t (ofL t o))),(3,.ptr 5 0 0)] 98) [.dead,.arr 2 [[.nils,.nils]],.dead,.dead,.arr 5 (ndz t.nodes),.arr 2 [[.slc 4 0 t.nodes.length none,.rslc 1 (iz t.items) none]]] JA (by decide +kernel) ?_ ?_ ?_
 ·simp -implicitDefEqProofs only[go_sem,Tr.row]
  refine ⟨_,_,Jd3 (.inl rfl) (hCn' _ _),?_⟩
  simp -implicitDefEqProofs only[go_sem]
  refine vk_f hCi ?_
  simp -implicitDefEqProofs only[go_sem]
  exact Jag (by simp[forget,rRw])
 ·simp -implicitDefEqProofs only[prl,Ky,Gd,Gf,Gb,Gc,List.getD_cons_zero,List.getD_cons_succ,go_sem,Tr.row]
  refine ⟨_,_,Jd3 (.inl rfl) (hCn' _ _),?_⟩
  simp -implicitDefEqProofs only[go_sem]
  refine vk_f hCi ?_
  simp -implicitDefEqProofs only[go_sem]
  refine Jdb [0,1,2,3,5,4] rfl (by simp[forget,JF,ren,Jo,rRw]) ?_
  simp only[Kw,Gb,Gc,go_sem,Jp,Jr,hnc]
  simp[JF,ren,Jo]
 ·simp only[gp,List.replicate]
  simp -implicitDefEqProofs only[go_sem]
  refine Jz (I:=fun i:Nat=>i≤t.nodes.length) (inv:=fun i=>gp [(1,.int .i64 (d:Int)),(0,S nm),(3,.ptr 1 0 0),(1,.rptr (rRw t (ofL t o))),(3,.ptr 5 0 0),(45,.int .i64 (t.nodes.length:Int)),(0,.int .i64 (i:Int))] 51) (hp:=fun _=>[.dead,.arr 2 [[.nils,.nils]],.dead,.dead,.arr 5 (ndz t.nodes),.arr 2 [[.slc 4 0 t.nodes.length none,.rslc 1 (iz t.items) none]]]) (μ:=fun i=>t.nodes.length-i) 0 (by omega) ?_ rfl ?_
  ·simp[forget,gp]
  ·intro i hi
   by_cases hlt:i < t.nodes.length
   ·have d1:((i:Int) < (t.nodes.length:Int))=True:=Jn
    have hgi:=J6 hlt
    have hCk:=cloneF (nd t i).kids (by have:=(fitN ht hlt).kidn; omega)
    have hns:(ndz t.nodes).set i (nd t i).cv=ndz t.nodes:=set_same hlt
    unfold Nd.cv at hns
    simp -implicitDefEqProofs only[go_sem,d1]
    refine Yu [(.all,.on []),(.all,.on []),(.all,.on []),(.all,.on []),(.all,.on []),(.all,.on []),(.all,.on []),(.all,.on []),(.all,.on []),Foot.no,(.all,.on []),(.all,.on []),Foot.any] JA (by decide +kernel) ?_
    refine ⟨_,_,Jd2 (.inl rfl) rfl trivial,_,_,Jd2 (.inl rfl) rfl ⟨Gr 1,GX (Nat.zero_le 1)⟩,_,_,Jd2 (.inl rfl) rfl trivial,_,_,Jd2 (.inl rfl) rfl trivial,_,_,Jd2 (.inl rfl) rfl ⟨Gr 1,GX (Nat.zero_le 1)⟩,_,_,Jd2 (.inl rfl) rfl trivial,.ptr 4 i 0,_,Jd2 (c:=.idx (i:Int) t.nodes.length) (.inl rfl) ?_ ?_,_,_,Jd2 (.inl rfl) rfl trivial,.rslc 1 (iz (nd t i).kids) none,_,Jd2 (c:=.and (.le (i+1) t.nodes.length) (.le 4 5)) (.inl rfl) ?_ ?_,_,_,hs_f (.inl rfl) hCk,.ptr 4 i 0,_,Jd2 (c:=.idx (i:Int) t.nodes.length) (.inl rfl) ?_ ?_,_,_,Jd2 (.inl rfl) rfl trivial,.un,[.dead,.arr 2 [[.nils,.nils]],.dead,.dead,.arr 5 (ndz t.nodes),.arr 2 [[.slc 4 0 t.nodes.length none,.rslc 1 (iz t.items) none]]],hs_any (c:=.and (.le (i+1) t.nodes.length) (.le 4 5)) (.inl rfl) ?_ ?_,?_⟩
    ·simp -implicitDefEqProofs only[go_sem,Gg,Gh]
    ·exact ⟨by omega,by omega⟩
    ·simp -implicitDefEqProofs only[go_sem,Jc,hgi,Nd.cv,Gd,Gf]
    ·exact ⟨(by omega:i+1≤t.nodes.length),(by omega:4≤5)⟩
    ·simp -implicitDefEqProofs only[go_sem,Gg,Gh]
    ·exact ⟨by omega,by omega⟩
    ·simp -implicitDefEqProofs only[go_sem,Jc,hns,hgi,Nd.cv,Gd,Gf]
    ·exact ⟨(by omega:i+1≤t.nodes.length),(by omega:4≤5)⟩
    ·simp -implicitDefEqProofs only[vdf,go_sem]
     refine ⟨Ji,i+1,by omega,by omega,?_⟩
     simp[forget]
   ·have d1:((i:Int) < (t.nodes.length:Int))=False:=Jj
    simp -implicitDefEqProofs only[go_sem,d1]
    refine ⟨by simp[rRw],?_⟩
    refine Jdr (.inl rfl) hUs ?_
    simp -implicitDefEqProofs only[go_sem]
    have hur:∀ x∈usesL (ofL t o) (d:Int),0≤x∧x < t.nodes.length:=fun x hx=>by
     obtain ⟨j,hj,rfl⟩:=Gu.1 hx
     have:=Gt.1 (GI.1 hj).1
     rw[K5]at this
     omega
    have hul:=JeX (of:=ofL t o) (d:=(d:Int)) (i:=(ofL t o).length)
    rw[show YY (ofL t o) (d:Int) (ofL t o).length=usesL (ofL t o) (d:Int) from rfl,K5]at hul
    have hq:JcT t (renQ (ofL t o) d) nm=JcT t (fun i=>(usesL (ofL t o) (d:Int)++[(d:Int)]).contains (i:Int)) nm:=JaA fun i hi=>by
     unfold renQ
     rw[Gn,GK,beq_iff_eq,beq_iff_eq,Gw,GJ,GA]
     constructor
     ·rintro (h | h)
      ·exact .inl (Gu.2 ⟨i,GI.2 ⟨Gt.2 (by rw[K5]; exact hi),by simpa using h⟩,rfl⟩)
      ·exact .inr (by omega)
     ·rintro (h | h)
      ·obtain ⟨j,hj,hji⟩:=Gu.1 h
       obtain rfl:j=i:=by omega
       exact .inl (by simpa using (GI.1 hj).2)
      ·exact .inr (by omega)
    rw[hq]at hRs ⊢
    generalize hU:usesL (ofL t o) (d:Int)=U at hur hul hRs ⊢
    have hLr:∀ x∈U++[(d:Int)],0≤x∧x < t.nodes.length:=fun x hx=>by
     rcases GJ.1 hx with h | h
     ·exact hur x h
     ·simp only[GA]at h; omega
    have hLl:(U++[(d:Int)]).length≤1500:=by simp only[List.length_append,Gd,Gf]; omega
    simp -implicitDefEqProofs only[go_sem,Jf,JJ]
    refine ⟨⟨by omega,by omega⟩,?_⟩
    have hLe:(U++[(d:Int)]).length=U.length+1:=by simp
    rw[← hLe,← J8]
    generalize U++[(d:Int)]=L at hLr hLl hRs ⊢
    have hLe2:(iz L).length=L.length:=Jf
    obtain ⟨Z,hZ⟩:∃ Z:Nat→Tr,∀ k,Z k=JcT t (fun i=>(L.take k).contains (i:Int)) nm:=⟨_,fun _=>rfl⟩
    have hZ0:(Z 0).nodes=t.nodes:=by rw[hZ]; simp only[Gs,List.contains_nil]; rw[renT_none]
    have hZl:∀ k,(Z k).nodes.length=t.nodes.length:=fun k=>by rw[hZ,Jga]
    refine JG (I:=fun k:Nat=>k≤L.length) (inv:=fun k=>gp [(2,S nm),(3,.ptr 1 0 0),(1,.rptr (rRw t (ofL t o))),(3,.ptr 5 0 0),(67,.slc 6 0 L.length none),(0,.int .i64 (L.length:Int)),(0,.int .i64 (k:Int))] 28) (hp:=fun k=>[.dead,.arr 2 [[.nils,.nils]],.dead,.dead,.arr 5 (ndz (Z k).nodes),.arr 2 [[.slc 4 0 t.nodes.length none,.rslc 1 (iz t.items) none]],.arr 1 (iz L)]) (μ:=fun k=>L.length-k) 0 [0,1,2,3,4,5,8] (by omega) rfl ?_ ?_ ?_
    ·simp[forget,JF,ren,Jo,gp,rRw]
    ·simp only[Kw,Gb,Gc,go_sem,Jp,Jr,Jb (Jd L),Jb (JZ t.nodes),hZ0]
     simp[JF,ren,Jo]
    ·intro k hk
     by_cases hlk:k < L.length
     ·have d2:((k:Int) < (L.length:Int))=True:=Jn
      have hgk:=JR hlk
      have hx:=hLr (L.getD k 0) (by rw[Gl,Gm hlk]; exact List.getElem_mem hlk)
      have htk:L.take (k+1)=L.take k++[L.getD k 0]:=by rw[List.take_succ_eq_append_getElem hlk,Gl,Gm hlk]; rfl
      generalize L.getD k 0=x at hgk hx htk
      obtain ⟨x,rfl⟩:∃ x':Nat,x=x':=⟨x.toNat,by omega⟩
      have hxl:x < t.nodes.length:=by omega
      have hgx:(ndz (Z k).nodes).getD x []=(nd (Z k) x).cv:=J6 (by rw[hZl]; exact hxl)
      have hst:(ndz (Z k).nodes).set x [.int .u8 (nd (Z k) x).k,S nm,.int .i64 (nd (Z k) x).n,.rslc 1 (iz (nd (Z k) x).kids) none,.int .i64 (nd (Z k) x).pl]=ndz (Z (k+1)).nodes:=by
       have h:=renT_set (t:=t) (q:=fun i=>(L.take k).contains (i:Int)) (s:=nm) hxl
       have h2:(renN nm (nd t x)).cv=[.int .u8 (nd (Z k) x).k,S nm,.int .i64 (nd (Z k) x).n,.rslc 1 (iz (nd (Z k) x).kids) none,.int .i64 (nd (Z k) x).pl]:=by
        rw[hZ,renT_get hxl]
        split <;> rfl
       rw[← h2,hZ k,hZ (k+1),h]
       congr 2
       refine JaA fun i hi=>?_
       rw[htk,Gn,GK,Gw,Gw,GJ,GA,beq_iff_eq]
       constructor
       ·rintro (h | h)
        ·exact .inl h
        ·exact .inr (by omega)
       ·rintro (h | h)
        ·exact .inl h
        ·exact .inr (by omega)
      simp -implicitDefEqProofs only[go_sem,d2,hLe2,hgk,Jc,hZl,hgx,Nd.cv,Gg,Gh,splice,Gd,Gf]
      refine ⟨by omega,by omega,⟨by omega,by omega⟩,by omega,Ji,k+1,[0,1,2,3,4,5,6],by omega,by omega,rfl,?_,?_⟩
      ·rw[hst]
       simp only[Kw,Gb,Gc,go_sem,Jp,Jr,Jb (Jd L),Jb (JZ (Z (k+1)).nodes)]
       simp[JF,ren,Jo]
      ·simp[forget,JF,ren,Jo,rRw]
     ·have d2:((k:Int) < (L.length:Int))=False:=Jj
      obtain rfl:k=L.length:=by omega
      have hZL:Z L.length=JcT t (fun i=>L.contains (i:Int)) nm:=by rw[hZ,List.take_length]
      simp -implicitDefEqProofs only[go_sem,d2]
      refine Jg (id:=4) (z:=5) (els:=ndz (Z L.length).nodes) rfl (JZ _) ?_
      have hft:=Gv (l:=ndz (Z L.length).nodes) (i:=t.nodes.length) (by rw[Jc,hZl]; omega)
      simp only[go_sem,J2,Ko,frz,KG,Gb,Gc,Gi,Gg,if_true,Jc,hZl,Gr,hft,Gz,Gy,KD (Jd L)]
      rw[hZL]
      refine JV hRs ?_
      by_cases he:e=0
      ·rcases hX with ⟨_,_,h⟩ | ⟨⟨l,rfl⟩,rfl⟩
       ·exact absurd he h
       subst he
       have e00:((0:Int) != 0)=false:=rfl
       have hEq:=equalI of' (ofL t o) (hol' rfl)
       simp -implicitDefEqProofs only[go_sem,e00,rRw]
       refine JN (gok rfl) hEq ?_
       by_cases hoo:of'=ofL t o
       ·rw[if_pos hoo,show (of' == ofL t o)=true by simpa using hoo]
        simp -implicitDefEqProofs only[go_sem,Gj]
        exact .done (wk.refl _)
       ·rw[if_neg hoo,show (of' == ofL t o)=false by simpa using hoo]
        simp -implicitDefEqProofs only[go_sem,Gp]
        exact .done (wk.refl _)
      ·have e1:(e != 0)=true:=by simpa using he
       rw[if_neg fun h=>he h.1]
       rcases hX with ⟨rfl,rfl,_⟩ | ⟨⟨l,rfl⟩,rfl⟩
       all_goals
        simp -implicitDefEqProofs only[go_sem,e1,rRw]
        exact .done (wk.refl _)
end
end
section
theorem nRenameE (t:Tr) (ht:t.Fit) (h:chk t≠0) (d:Int) (nm:List UInt8):Fn Ga 24 [t.cv,.int .i64 d,S nm] (.tup [.agg [.nils,.nils],.int .i64 (chk t)]):=by
 have e:(chk t != 0)=true:=by simpa using h
 refine Ja c24_ok rfl rfl fun N=>?_
 simp -implicitDefEqProofs only[c24,go_sem,Tr.cv,Tr.row]
 refine Jg (id:=2) (z:=1) (els:=iz [d]) rfl rfl ?_
 simp only[go_sem,J2,Ko,frz,KG,JY,Qw,Gb,Gc,Gd,Gf,Gi,Gx,Gs]
 refine JV (nFindE t ht [d] h) ?_
 simp -implicitDefEqProofs only[go_sem,e]
section
variable {t:Tr}{o:List Int}(g:GoodT t o) (ht:t.Fit)
include g ht
def JbG (t:Tr) (o:List Int) (d:Int) (nm:List UInt8):Int:=if (Yr t o).2≠0 then (Yr t o).2 else if (inT t d && Kk (nd t d.toNat).k)=false then 7 else if Y3 nm=false then 4 else 0
theorem Jgk (d:Int) (nm:List UInt8) (hnl:nm.length≤60) (hX:JbG t o d nm≠0):Fn Ga 24 [t.cv,.int .i64 d,S nm] (.tup [.agg [.nils,.nils],.int .i64 (JbG t o d nm)]):=by
 have hmany:=g.many
 have hF:=nFind g ht [d] (by simp)
 obtain ⟨l,hl⟩:=rE_head (t:=t) (o:=o)
 have hK:=lexKind nm (by omega)
 have hkn:=Jgo nm
 refine Ja c24_ok rfl rfl fun N=>?_
 simp -implicitDefEqProofs only[c24,go_sem,Tr.cv,Tr.row]
 refine Jg (id:=2) (z:=1) (els:=iz [d]) rfl rfl ?_
 simp only[go_sem,J2,Ko,frz,KG,JY,Qw,Gb,Gc,Gd,Gf,Gi,Gx,Gs]
 refine JV hF ?_
 unfold JbG at hX ⊢
 by_cases hE:(Yr t o).2=0
 ·rw[if_neg (show ¬ (Yr t o).2≠0 by simp[hE]),rE_ok hE]
  rw[if_neg (show ¬ (Yr t o).2≠0 by simp[hE])]at hX ⊢
  simp only[GM,GN,GV]
  have e70:((7:Int) != 0)=true:=rfl
  cases hin:inT t d with
  |false=>
   simp only[Bool.false_and,GR,if_false,if_true]
   simp -implicitDefEqProofs only[go_sem,rRw,e70]
  |true=>
   have hr:=X8.1 hin
   obtain ⟨d,rfl⟩:∃ d':Nat,d=d':=⟨d.toNat,by omega⟩
   rw[hin,Gq,Gh]at hX
   simp only[Gh,if_true,Gq]
   simp -implicitDefEqProofs only[go_sem,rRw]
   refine JV (Jgl t (by omega)) ?_
   cases hd:Kk (nd t d).k with
   |false=>
    simp -implicitDefEqProofs only[go_sem,Gp,if_true]
   |true=>
    rw[hd,if_neg (by simp)]at hX
    have hn:Y3 nm=false:=by
     cases h:Y3 nm with
     |false=>rfl
     |true=>rw[h]at hX; simp at hX
    simp -implicitDefEqProofs only[go_sem,Gj,hn,if_true,GQ,if_false]
    rw[hn]at hkn
    refine JV hK ?_
    cases hk:knd nm with
    |none=>
     have e40:((4:Int) != 0)=true:=rfl
     simp -implicitDefEqProofs only[go_sem,kndV,e40]
    |some k=>
     rw[hk]at hkn
     have h2:(k == 2)=false:=by simpa using hkn
     have e2:(((k:Nat):Int) != 2)=true:=bne_iff_ne.2 (by have:=beq_eq_false_iff_ne.1 h2; omega)
     have e00:((0:Int) != 0)=false:=rfl
     simp -implicitDefEqProofs only[go_sem,kndV,e00,e2]
 ·have e1:((Yr t o).2 != 0)=true:=by simpa using hE
  rw[if_pos hE,if_pos hE,hl]
  simp -implicitDefEqProofs only[go_sem,e1]
omit g ht in
theorem refRenameX {d:Nat}(hd:d < t.nodes.length) (of:List Int) (nm:List UInt8) (hnl:nm.length≤60) (hX:(Kk (nd t d).k && Y3 nm)=false):Fn Ga 25 [t.cv,.rslc 1 (iz of) none,.int .i64 (d:Int),S nm] (.tup [.agg [.nils,.nils],.int .i64 (if Kk (nd t d).k=false then 7 else 4)]):=by
 have hgi:=J6 hd
 have hD:=XD (nd t d).k
 have hK:=refKind nm (by omega)
 have hkn:=Jcw nm
 refine Ja c25_ok rfl rfl fun N=>?_
 simp -implicitDefEqProofs only[c25,go_sem,Tr.cv,Tr.row,Jc,hgi,Nd.cv]
 refine ⟨by omega,?_⟩
 refine JV hD ?_
 cases hdc:Kk (nd t d).k with
 |false=>simp -implicitDefEqProofs only[go_sem,Gp,if_true]
 |true=>
  rw[hdc,Gq]at hX
  rw[hX]at hkn
  have e2:(((kindR nm:Nat):Int) != 2)=true:=bne_iff_ne.2 (by have:=beq_eq_false_iff_ne.1 hkn; omega)
  simp -implicitDefEqProofs only[go_sem,Gj,GQ,if_false]
  refine JV hK ?_
  simp -implicitDefEqProofs only[go_sem,e2]
theorem refRenameC {of:List Int}(hol:of.length=t.nodes.length) {d:Nat}(hd:d < t.nodes.length) (hdc:Kk (nd t d).k=true) (nm:List UInt8) (hnl:nm.length≤60) (hnk:Y3 nm=true)
  (a e:Int) (of':List Int) (hol':e=0→of'.length≤100000) (l':List Int) (hl':e=0→l'=of')
  (hRs:Fn Ga 16 [(JcT t (renQ of d) nm).cv] (.tup [.rslc 1 (iz l') none,.int .i64 a,.int .i64 e])) :
  Fn Ga 25 [t.cv,.rslc 1 (iz of) none,.int .i64 (d:Int),S nm] (if e=0∧of'=of then .tup [(JcT t (renQ of d) nm).cv,.int .i64 0] else .tup [.agg [.nils,.nils],.int .i64 9]):=by
 have hmany:=g.many
 have hgi:=J6 hd
 have hD:=XD (nd t d).k
 rw[hdc]at hD
 have hK:=refKind nm (by omega)
 have hkn:=Jcw nm
 rw[hnk]at hkn
 have e2:(((kindR nm:Nat):Int) != 2)=false:=by rw[beq_iff_eq.1 hkn]; rfl
 have hne:ndz t.nodes≠[]:=by unfold ndz; rintro h; rw[List.map_eq_nil_iff]at h; rw[h]at hd; simp at hd
 have hCp:∀ E H,CallsC Ga E 12 [t.cv] H fun v H'=>v=.agg [.slc H.length 0 t.nodes.length none,.slc (H.length+1) 0 (iz t.items).length (Jcb (iz t.items))]∧H'=H++[.arr 5 (ndz t.nodes),.arr 1 (iz t.items)]:=fun E H=>by
  have h:=copyO t ht E H
  rw[Qz hne,Qd hne,Jc]at h
  exact h
 refine QP ?_ rfl (by split <;> rfl)
 refine KI c25_ok fun N=>?_
 simp -implicitDefEqProofs only[c25,go_sem,Tr.cv,Tr.row,Jc,hgi,Nd.cv]
 refine ⟨by omega,?_⟩
 refine JV hD ?_
 simp -implicitDefEqProofs only[go_sem,Gj]
 refine JV hK ?_
 simp -implicitDefEqProofs only[go_sem,e2]
 refine Jg (id:=0) (z:=2) (els:=[t.row]) rfl rfl ?_
 simp only[go_sem,J2,Ko,frz,KG,Gb,Gc,Tr.row]
 refine Xc (.inl rfl) (hCp _ _) fun v' H' ⟨h1,h2⟩=>?_
 subst h1 h2
 simp -implicitDefEqProofs only[go_sem]
 refine Jg (id:=3) (z:=1) (els:=iz t.items) rfl (Jd _) ?_
 have hfi:=Gv (l:=iz t.items) (i:=(iz t.items).length) (by omega)
 simp only[go_sem,J2,Ko,frz,KG,Gb,Gc,Gi,Gg,if_true,Gr,hfi,Gz,Gy,KD (JZ t.nodes)]
 obtain ⟨Z,hZ⟩:∃ Z:Nat→Tr,∀ k,Z k=JcT t (fun j=>decide (j < k) && renQ of d j) nm:=⟨_,fun _=>rfl⟩
 have hZ0:(Z 0).nodes=t.nodes:=by rw[hZ,JaA (q':=fun _=>false) (fun i _=>by simp),renT_none]
 have hZl:∀ k,(Z k).nodes.length=t.nodes.length:=fun k=>by rw[hZ,Jga]
 have hZn:Z t.nodes.length=JcT t (renQ of d) nm:=by rw[hZ]; exact JaA fun i hi=>by simp[hi]
 have hofl:(iz of).length=of.length:=Jf
 refine Jz (I:=fun i:Nat=>i≤t.nodes.length) (inv:=fun i=>gp [(1,.rslc 1 (iz of) none),(0,.int .i64 (d:Int)),(0,S nm),(0,.rptr t.row),(3,.ptr 1 0 0),(1,.ptr 4 0 0),(0,.int .i64 (i:Int))] 58) (hp:=fun i=>[.dead,.arr 2 [[.nils,.nils]],.arr 5 (ndz (Z i).nodes),.dead,.arr 2 [[.slc 2 0 t.nodes.length none,.rslc 1 (iz t.items) none]]]) (μ:=fun i=>t.nodes.length-i) 0 (by omega) ?_ (by rw[hZ0]) ?_
 ·simp[forget,gp,Tr.row]
 ·intro i hi
  by_cases hlt:i < t.nodes.length
  ·have d1:((i:Int) < (t.nodes.length:Int))=True:=Jn
   have hgo:=JR (l:=of) (i:=i) (by omega)
   have hgx:(ndz (Z i).nodes).getD i []=(nd (Z i) i).cv:=J6 (by rw[hZl]; exact hlt)
   have ed:((i:Int) == (d:Int))=(i == d):=by rw[Gn,beq_iff_eq,beq_iff_eq]; omega
   have hQ:renQ of d i=(of.getD i 0 == (d:Int) || i == d):=rfl
   have hyes:renQ of d i=true→(ndz (Z i).nodes).set i [.int .u8 (nd (Z i) i).k,S nm,.int .i64 (nd (Z i) i).n,.rslc 1 (iz (nd (Z i) i).kids) none,.int .i64 (nd (Z i) i).pl]=ndz (Z (i+1)).nodes:=fun hq=>by
    have h:=renT_set (t:=t) (q:=fun j=>decide (j < i) && renQ of d j) (s:=nm) hlt
    have h2:(renN nm (nd t i)).cv=[.int .u8 (nd (Z i) i).k,S nm,.int .i64 (nd (Z i) i).n,.rslc 1 (iz (nd (Z i) i).kids) none,.int .i64 (nd (Z i) i).pl]:=by
     rw[hZ,renT_get hlt]
     split <;> rfl
    rw[← h2,hZ i,hZ (i+1),h]
    congr 2
    refine JaA fun j hj=>?_
    rw[Gn]
    simp only[GK,GU,decide_eq_true_eq,beq_iff_eq]
    constructor
    ·rintro (⟨h1,h2⟩ | rfl)
     ·exact ⟨by omega,h2⟩
     ·exact ⟨by omega,hq⟩
    ·rintro ⟨h1,h2⟩
     by_cases hji:j=i
     ·exact .inr hji
     ·exact .inl ⟨by omega,h2⟩
   have hno:renQ of d i=false→Z (i+1)=Z i:=fun hq=>by
    rw[hZ,hZ]
    refine JaA fun j hj=>?_
    rw[Gn]
    simp only[GU,decide_eq_true_eq]
    constructor
    ·rintro ⟨h1,h2⟩
     by_cases hji:j=i
     ·subst hji; rw[hq]at h2; cases h2
     ·exact ⟨by omega,h2⟩
    ·rintro ⟨h1,h2⟩; exact ⟨by omega,h2⟩
   cases hid:(i == d) with
   |true=>
    have hq:renQ of d i=true:=by rw[hQ,hid,Bool.or_true]
    simp -implicitDefEqProofs only[go_sem,d1,Tr.row,Jc,ed,hid,hZl,hgx,Nd.cv,Gg,Gh,splice,Gd,Gf]
    refine ⟨by omega,by omega,Ji,i+1,by omega,by omega,by rw[← hyes hq],?_⟩
    simp[forget]
   |false=>
    cases hof:(of.getD i 0 == (d:Int)) with
    |true=>
     have hq:renQ of d i=true:=by rw[hQ,hof,Bool.true_or]
     simp -implicitDefEqProofs only[go_sem,d1,Tr.row,Jc,ed,hid,hofl,hgo,hof,hZl,hgx,Nd.cv,Gg,Gh,splice,Gd,Gf]
     refine ⟨by omega,by omega,by omega,Ji,i+1,by omega,by omega,by rw[← hyes hq],?_⟩
     simp[forget]
    |false=>
     have hq:renQ of d i=false:=by rw[hQ,hof,hid]; rfl
     simp -implicitDefEqProofs only[go_sem,d1,Tr.row,Jc,ed,hid,hofl,hgo,hof]
     refine ⟨by omega,Ji,i+1,by omega,by omega,by rw[hno hq],?_⟩
     simp[forget]
  ·have d1:((i:Int) < (t.nodes.length:Int))=False:=Jj
   obtain rfl:i=t.nodes.length:=by omega
   simp -implicitDefEqProofs only[go_sem,d1,Tr.row,Jc]
   refine Jg (id:=2) (z:=5) (els:=ndz (Z t.nodes.length).nodes) rfl (JZ _) ?_
   have hft:=Gv (l:=ndz (Z t.nodes.length).nodes) (i:=t.nodes.length) (by rw[Jc,hZl]; omega)
   simp only[go_sem,J2,Ko,frz,KG,Gb,Gc,Gi,Gg,if_true,Jc,hZl,Gr,hft,Gz,Gy]
   rw[hZn]
   refine JV hRs ?_
   by_cases he:e=0
   ·obtain rfl:=hl' he
    subst he
    have e00:((0:Int) != 0)=false:=rfl
    have hEq:=Ja5 l' of (hol' rfl)
    simp -implicitDefEqProofs only[go_sem,e00]
    refine JN (gok rfl) hEq ?_
    by_cases hoo:l'=of
    ·rw[if_pos hoo,show (l' == of)=true by simpa using hoo]
     simp -implicitDefEqProofs only[go_sem,Gj]
     exact .done (wk.refl _)
    ·rw[if_neg hoo,show (l' == of)=false by simpa using hoo]
     simp -implicitDefEqProofs only[go_sem,Gp]
     exact .done (wk.refl _)
   ·have e1:(e != 0)=true:=by simpa using he
    rw[if_neg fun h=>he h.1]
    simp -implicitDefEqProofs only[go_sem,e1]
    exact .done (wk.refl _)
end
end
def noTr:Tr:=⟨[],[]⟩
theorem JgO:Fn Ga 17 [.agg [.nils,.nils],.agg [.nils,.nils]] (.bool true):=
 (JbJ noTr ⟨by simp[noTr],by simp[noTr],fun x hx=>by simp[noTr]at hx,fun x hx=>by simp[noTr]at hx⟩).args ⟨Jbz ⟨wk.nils,wk.nils,trivial⟩,Jbz ⟨wk.nils,wk.nils,trivial⟩,trivial⟩
theorem renLaw1 (t:Tr) (ht:t.Fit) (hv:YW t=false) (d:Int) (nm:List UInt8) (hnl:nm.length≤60) (l:CV) (a e:Int) (he:e≠0)
  (hN:Fn Ga 24 [t.cv,.int .i64 d,S nm] (.tup [.agg [.nils,.nils],.int .i64 e])) (hR:Fn Ga 16 [t.cv] (.tup [l,.int .i64 a,.int .i64 e])) :
  Fn Ga 4 [t.cv,.int .i64 d,S nm] (.bool true):=by
 have hV:=Jdc t
 rw[hv]at hV
 have e1:decide ((nm.length:Int) > 60)=false:=decide_eq_false (by omega)
 have e2:decide ((60:Int) < (nm.length:Int))=false:=decide_eq_false (by omega)
 have e3:(e == 0)=false:=by simpa using he
 have e4:(e == e)=true:=by simp
 refine Ja c4_ok rfl rfl fun N=>?_
 simp -implicitDefEqProofs only[c4,go_sem,Tr.cv,Tr.row]
 refine JV hV ?_
 simp -implicitDefEqProofs only[go_sem,Tr.row,e1,e2]
 refine JV (refCopy t ht) ?_
 simp -implicitDefEqProofs only[go_sem,Tr.cv,Tr.row]
 refine JV hN ?_
 simp -implicitDefEqProofs only[go_sem,Tr.row]
 refine JV hR ?_
 simp -implicitDefEqProofs only[go_sem,e3,Tr.cv,Tr.row]
 refine JV (JbJ t ht) ?_
 simp -implicitDefEqProofs only[go_sem,e4]
 refine JN (gok rfl) JgO ?_
 simp -implicitDefEqProofs only[go_sem]
 refine JN (gok rfl) Jeb ?_
 simp -implicitDefEqProofs only[go_sem]
theorem renLaw2 (t:Tr) (ht:t.Fit) (hv:YW t=false) (hm:t.nodes.length≤100000) (d:Int) (nm:List UInt8) (hnl:nm.length≤60) (l:CV) (a:Int) (hin:inT t d=false)
  (hN:Fn Ga 24 [t.cv,.int .i64 d,S nm] (.tup [.agg [.nils,.nils],.int .i64 7])) (hR:Fn Ga 16 [t.cv] (.tup [l,.int .i64 a,.int .i64 0])) :
  Fn Ga 4 [t.cv,.int .i64 d,S nm] (.bool true):=by
 have hV:=Jdc t
 rw[hv]at hV
 have hT:=lawThere0 t hm d
 rw[hin]at hT
 have e1:decide ((nm.length:Int) > 60)=false:=decide_eq_false (by omega)
 have e2:decide ((60:Int) < (nm.length:Int))=false:=decide_eq_false (by omega)
 have e3:((0:Int) == 0)=true:=rfl
 have e4:((7:Int) == 7)=true:=rfl
 have e5:((7:Int) == 0)=false:=rfl
 refine Ja c4_ok rfl rfl fun N=>?_
 simp -implicitDefEqProofs only[c4,go_sem,Tr.cv,Tr.row]
 refine JV hV ?_
 simp -implicitDefEqProofs only[go_sem,Tr.row,e1,e2]
 refine JV (refCopy t ht) ?_
 simp -implicitDefEqProofs only[go_sem,Tr.cv,Tr.row]
 refine JV hN ?_
 simp -implicitDefEqProofs only[go_sem,Tr.row]
 refine JV hR ?_
 simp -implicitDefEqProofs only[go_sem,e3,Tr.row]
 refine JN (gok rfl) hT ?_
 simp -implicitDefEqProofs only[go_sem,Gp,e5,Tr.cv,Tr.row]
 refine JV (JbJ t ht) ?_
 simp -implicitDefEqProofs only[go_sem,e4]
 refine JN (gok rfl) JgO ?_
 simp -implicitDefEqProofs only[go_sem]
 refine JN (gok rfl) Jeb ?_
 simp -implicitDefEqProofs only[go_sem]
theorem renLaw3 (t:Tr) (ht:t.Fit) (hv:YW t=false) (hm:t.nodes.length≤100000) (d:Int) (nm:List UInt8) (hnl:nm.length≤60) (l:CV) (a e:Int) (hin:inT t d=true) (x y:CV) (hxy:(x=.nils∧y=.nils)∨∃ A B,x=.rslc 5 A none∧y=.rslc 1 B none)
  (hN:Fn Ga 24 [t.cv,.int .i64 d,S nm] (.tup [.agg [x,y],.int .i64 e])) (hR:Fn Ga 16 [t.cv] (.tup [l,.int .i64 a,.int .i64 0]))
  (hRR:Fn Ga 25 [t.cv,l,.int .i64 d,S nm] (.tup [.agg [x,y],.int .i64 e])) (hA:Fn Ga 17 [.agg [x,y],.agg [x,y]] (.bool true)) :
  Fn Ga 4 [t.cv,.int .i64 d,S nm] (.bool true):=by
 have hV:=Jdc t
 rw[hv]at hV
 have hT:=lawThere0 t hm d
 rw[hin]at hT
 have e1:decide ((nm.length:Int) > 60)=false:=decide_eq_false (by omega)
 have e2:decide ((60:Int) < (nm.length:Int))=false:=decide_eq_false (by omega)
 have e3:((0:Int) == 0)=true:=rfl
 have e4:(e == e)=true:=by simp
 rcases hxy with ⟨rfl,rfl⟩ | ⟨A,B,rfl,rfl⟩
 all_goals
  refine Ja c4_ok rfl rfl fun N=>?_
  simp -implicitDefEqProofs only[c4,go_sem,Tr.cv,Tr.row]
  refine JV hV ?_
  simp -implicitDefEqProofs only[go_sem,Tr.row,e1,e2]
  refine JV (refCopy t ht) ?_
  simp -implicitDefEqProofs only[go_sem,Tr.cv,Tr.row]
  refine JV hN ?_
  simp -implicitDefEqProofs only[go_sem,Tr.row]
  refine JV hR ?_
  simp -implicitDefEqProofs only[go_sem,e3,Tr.row]
  refine JN (gok rfl) hT ?_
  simp -implicitDefEqProofs only[go_sem,Gj,e3,Tr.cv,Tr.row]
  refine JV hRR ?_
  simp -implicitDefEqProofs only[go_sem,Tr.cv,Tr.row]
  refine JV (JbJ t ht) ?_
  simp -implicitDefEqProofs only[go_sem,e4]
  refine JN (gok rfl) hA ?_
  simp -implicitDefEqProofs only[go_sem]
  refine JN (gok rfl) Jeb ?_
  simp -implicitDefEqProofs only[go_sem]
theorem renameGood {t:Tr}{o:List Int}(g:GoodT t o) (ht:t.Fit) (hv:YW t=false) (d:Int) (nm:List UInt8) (hnl:nm.length≤60):Fn Ga 4 [t.cv,.int .i64 d,S nm] (.bool true):=by
 have hmany:=g.many
 have hR:=Jfc g ht
 rw[← res_eq g]at hR
 by_cases hE:(Yr t o).2=0
 ·rw[if_pos hE]at hR
  cases hin:inT t d with
  |false=>
   have hr:JbG t o d nm=7:=by unfold JbG; rw[if_neg (by simp[hE]),hin,if_pos (by simp)]
   have hN:=Jgk g ht d nm hnl (by rw[hr]; decide)
   rw[hr]at hN
   exact renLaw2 t ht hv (by omega) d nm hnl _ _ hin hN hR
  |true=>
   have hr:=X8.1 hin
   obtain ⟨d,rfl⟩:∃ d':Nat,d=d':=⟨d.toNat,by omega⟩
   have hd:d < t.nodes.length:=by omega
   cases hdn:Kk (nd t d).k && Y3 nm with
   |false=>
    have hr:JbG t o (d:Int) nm=if Kk (nd t d).k=false then 7 else 4:=by
     unfold JbG
     rw[if_neg (by simp[hE]),hin,Gq,Gh]
     cases hdc:Kk (nd t d).k with
     |false=>simp
     |true=>rw[hdc,Gq]at hdn; simp[hdn]
    have hN:=Jgk g ht (d:Int) nm hnl (by rw[hr]; split <;> decide)
    rw[hr]at hN
    exact renLaw3 t ht hv (by omega) d nm hnl _ _ _ hin .nils .nils (.inl ⟨rfl,rfl⟩) hN hR (refRenameX hd (ofL t o) nm hnl hdn) JgO
   |true=>
    obtain ⟨hdc,hnm⟩:=Bool.and_eq_true_iff.1 hdn
    have hkn:knd nm=some 2:=by have:=Jgo nm; rw[hnm]at this; simpa using this
    have htf:=renT_fit (q:=renQ (ofL t o) d) ht hnl
    generalize hT':JcT t (renQ (ofL t o) d) nm=T' at htf
    have hRC:=fun a e of' hol' l' hl' hRs=>refRenameC g ht (of:=ofL t o) K5 hd hdc nm hnl hnm a e of' hol' l' hl' hRs
    have hNC:=fun X1 X2 a e of' hol' hX hRs=>nRenameC g ht hE hd hdc nm hnl hkn X1 X2 a e of' hol' hX hRs
    rw[hT']at hRC hNC
    have hA':=JbJ T' htf
    have fin:∀ (e:Int) (of':List Int),Fn Ga 24 [t.cv,.int .i64 (d:Int),S nm] (if e=0∧of'=ofL t o then .tup [T'.cv,.int .i64 0] else .tup [.agg [.nils,.nils],.int .i64 9])→
      Fn Ga 25 [t.cv,.rslc 1 (iz (ofL t o)) none,.int .i64 (d:Int),S nm] (if e=0∧of'=ofL t o then .tup [T'.cv,.int .i64 0] else .tup [.agg [.nils,.nils],.int .i64 9])→
      Fn Ga 4 [t.cv,.int .i64 (d:Int),S nm] (.bool true):=fun e of' h1 h2=>by
     by_cases hc:e=0∧of'=ofL t o
     ·rw[if_pos hc]at h1 h2
      exact renLaw3 t ht hv (by omega) d nm hnl _ _ _ hin _ _ (.inr ⟨_,_,rfl,rfl⟩) h1 hR h2 hA'
     ·rw[if_neg hc]at h1 h2
      exact renLaw3 t ht hv (by omega) d nm hnl _ _ _ hin .nils .nils (.inl ⟨rfl,rfl⟩) h1 hR h2 JgO
    by_cases hck:chk T'=0
    ·obtain ⟨o',g'⟩:=(Jb3 T').1 hck
     have hm':=g'.many
     have hN':=JdS g' htf
     rw[resV_eq]at hN'
     have hR':=Jfc g' htf
     rw[← res_eq g']at hR'
     obtain ⟨l,hl⟩:=rE_head (t:=T') (o:=o')
     by_cases he:(Yr T' o').2=0
     ·rw[rE_ok he,rRw]at hN'
      rw[if_pos he]at hR'
      have h1:=hNC _ _ _ _ (ofL T' o') (fun _=>by rw[K5]; omega) (.inr ⟨⟨_,rfl⟩,rfl⟩) hN'
      have h2:=hRC _ (Yr T' o').2 (ofL T' o') (fun _=>by rw[K5]; omega) (ofL T' o') (fun _=>rfl) (by rw[he]; exact hR')
      exact fin _ _ h1 h2
     ·rw[hl]at hN'
      rw[if_neg he]at hR'
      have h1:=hNC _ _ _ _ l (fun h=>absurd h he) (.inr ⟨⟨_,rfl⟩,rfl⟩) hN'
      have h2:=hRC _ (Yr T' o').2 l (fun h=>absurd h he) [] (fun h=>absurd h he) hR'
      exact fin _ _ h1 h2
    ·have h1:=hNC _ _ _ _ [] (fun _=>by simp) (.inl ⟨rfl,rfl,hck⟩) (Jfl T' htf hck)
     have h2:=hRC _ (chk T') [] (fun _=>by simp) [] (fun _=>rfl) (JdK T' htf hck)
     exact fin _ _ h1 h2
 ·rw[if_neg hE]at hR
  have hr:JbG t o d nm=(Yr t o).2:=by unfold JbG; rw[if_pos hE]
  have hN:=Jgk g ht d nm hnl (by rw[hr]; exact hE)
  rw[hr]at hN
  exact renLaw1 t ht hv d nm hnl _ _ _ hE hN hR
theorem renameAll (t:Tr) (ty:t.Ty) (d:Int) (_:InR .i64 d) (b:ByteArray):Fn Ga 4 [t.cv,.int .i64 d,.str b] (.bool true):=by
 obtain ⟨⟨nm⟩⟩:=b
 change Fn Ga 4 [t.cv,.int .i64 d,S nm] (.bool true)
 have hV:=Jdc t
 cases hv:YW t with
 |true=>
  rw[hv]at hV
  refine Ja c4_ok rfl rfl fun N=>?_
  simp -implicitDefEqProofs only[c4,go_sem,Tr.cv,Tr.row]
  refine JV hV ?_
  simp -implicitDefEqProofs only[go_sem,Tr.row]
  refine JV Jeb ?_
  simp -implicitDefEqProofs only[go_sem]
 |false=>
  by_cases hnl:nm.length≤60
  ·have ht:=ty.fit3 hv
   by_cases h:chk t=0
   ·obtain ⟨o,g⟩:=(Jb3 t).1 h
    exact renameGood g ht hv d nm hnl
   ·exact renLaw1 t ht hv d nm hnl _ _ _ h (nRenameE t ht h d nm) (JdK t ht h)
  ·rw[hv]at hV
   have e1:decide ((nm.length:Int) > 60)=true:=decide_eq_true (by omega)
   have e2:decide ((60:Int) < (nm.length:Int))=true:=decide_eq_true (by omega)
   refine Ja c4_ok rfl rfl fun N=>?_
   simp -implicitDefEqProofs only[c4,go_sem,Tr.cv,Tr.row]
   refine JV hV ?_
   simp -implicitDefEqProofs only[go_sem,Tr.row,e1,e2]
   refine JV Jeb ?_
   simp -implicitDefEqProofs only[go_sem]
end Go.Cm
end
end
