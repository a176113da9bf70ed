/-
  A part of the proof. Conditions: none.
-/
import Derived.Test.YtneijgchknmeaaaGreatDoorOP12
import Derived.Test.YtneijgchknmeaaaGreatDoorOP50
import Derived.Test.YtneijgchknmeaaaGreatDoorOP47
import Derived.Test.YtneijgchknmeaaaGreatDoorOP45
set_option linter.unusedSimpArgs false
set_option linter.unusedVariables false
open Bool renaming false_and→Gc,true_and→Gd,false_eq_true→Gh,and_eq_false_iff→Gs,or_eq_false_iff→Gt,not_false→Gi,not_true→Gj,true_or→Gl,and_true→Gu,eq_false_iff→Gx,false_or→Gy
open List renaming map_cons→Ga,map_nil→Gb,take_succ_cons→Gm,append_nil→Gf,length_cons→Gn,length_nil→Gp,length_filter_le→Gv,take_zero→Gq,drop_zero→Gr,length_map→Gw,filter_append→Gz,filter_cons→GA,range_succ→GD,map_append→GG,filter_nil→GH,all_cons→GI,all_nil→GJ
open Int renaming toNat_natCast→Gg
noncomputable section
section
set_option maxRecDepth 100000
set_option maxHeartbeats 4000000
open Go.Proofs
namespace Go.Cm
def JeJ (t:Tr):Bool:=(decide (160 < t.nodes.length) && decide (t.nodes.length≤700)) || decide (1400 < t.nodes.length) || decide (40 < t.items.length)
def JaN (t:Tr):Bool:=JeJ t || t.nodes.any Jdl
theorem Jf9 (t:Tr):Fn Tryz.prog 9 [t.cv] (.bool (JaN t)):=by
 refine Ja c9_ok rfl rfl fun N=>?_
 have hil:(iz t.items).length=t.items.length:=Jf
 cases hH:JeJ t with
 |true=>
  have hv:JaN t=true:=by unfold JaN; rw[hH]; rfl
  rw[hv]
  unfold JeJ at hH
  have e1:((160:Int) < (t.nodes.length:Int))=(160 < t.nodes.length):=propext (by omega)
  have e2:((t.nodes.length:Int)≤700)=(t.nodes.length≤700):=propext (by omega)
  have e3:((1400:Int) < (t.nodes.length:Int))=(1400 < t.nodes.length):=propext (by omega)
  have e4:((40:Int) < (t.items.length:Int))=(40 < t.items.length):=propext (by omega)
  by_cases g1:160 < t.nodes.length <;> by_cases g2:t.nodes.length≤700 <;> by_cases g3:1400 < t.nodes.length <;> by_cases g4:40 < t.items.length <;> first | (exfalso; omega) | (exfalso; simp[g1,g2,g3,g4]at hH; done) | (simp -implicitDefEqProofs only[c9,go_sem,Tr.cv,Tr.row,Jc,hil,e1,e2,e3,e4,g1,g2,g3,g4])
 |false=>
  unfold JeJ at hH
  simp only[Gt,Gs,decide_eq_false_iff_not]at hH
  obtain ⟨⟨h1,h2⟩,h3⟩:=hH
  have e3:((1400:Int) < (t.nodes.length:Int))=False:=eq_false (by omega)
  have e4:((40:Int) < (t.items.length:Int))=False:=eq_false (by omega)
  have hv:JaN t=t.nodes.any Jdl:=by
   unfold JaN JeJ
   have:(decide (160 < t.nodes.length) && decide (t.nodes.length≤700))=false:=by
    simp only[Gs,decide_eq_false_iff_not]; exact h1
   rw[this,decide_eq_false h2,decide_eq_false h3]; rfl
  rw[hv]
  by_cases g1:160 < t.nodes.length
  case' pos=>
   have e1:((160:Int) < (t.nodes.length:Int))=True:=eq_true (by omega)
   have e2:((t.nodes.length:Int)≤700)=False:=eq_false (by omega)
   simp -implicitDefEqProofs only[c9,go_sem,Tr.cv,Tr.row,Jc,hil,e1,e2,e3,e4]
  case' neg=>
   have e1:((160:Int) < (t.nodes.length:Int))=False:=eq_false (by omega)
   simp -implicitDefEqProofs only[c9,go_sem,Tr.cv,Tr.row,Jc,hil,e1,e3,e4]
  all_goals (
   refine Jg (id:=0) (z:=2) (els:=[t.row]) rfl rfl ?_
   simp only[go_sem,J3,Kn,frz,KH,Tr.row]
   refine JA (I:=fun i:Nat=>i≤t.nodes.length∧t.nodes.any Jdl=(t.nodes.drop i).any Jdl) (inv:=fun i=>gp [(1,.rptr t.row),(1,.int .i64 (i:Int))] 47) (hp:=fun _=>[.dead]) (μ:=fun i=>t.nodes.length-i) 0 ⟨by omega,rfl⟩ ?_ rfl ?_
   ·simp[forget,gp,Tr.row]
   ·rintro i ⟨hi,hinv⟩
    by_cases hlt:i < t.nodes.length
    ·have d1:((i:Int) < (t.nodes.length:Int))=True:=eq_true (by omega)
     have hg:=KG hlt
     rw[List.drop_eq_getElem_cons hlt,List.any_cons,← rowg hlt]at hinv
     generalize t.nodes.getD i default=x at hg hinv
     have hxl:(iz x.kids).length=x.kids.length:=Jf
     by_cases g5:30 < x.kids.length
     ·have e5:((30:Int) < (x.kids.length:Int))=True:=eq_true (by omega)
      rw[show Jdl x=true by simp[Jdl,g5],Gl]at hinv
      simp -implicitDefEqProofs only[go_sem,Tr.row,Jc,d1,hg,Nd.cv,hxl,e5,hinv]
      omega
     ·have e5:((30:Int) < (x.kids.length:Int))=False:=eq_false (by omega)
      by_cases g6:60 < x.text.length
      ·have e6:((60:Int) < (x.text.length:Int))=True:=eq_true (by omega)
       rw[show Jdl x=true by simp[Jdl,g6],Gl]at hinv
       simp -implicitDefEqProofs only[go_sem,Tr.row,Jc,d1,hg,Nd.cv,hxl,e5,e6,hinv]
       omega
      ·have e6:((60:Int) < (x.text.length:Int))=False:=eq_false (by omega)
       rw[show Jdl x=false by simp[Jdl,g5,g6],Gy]at hinv
       simp -implicitDefEqProofs only[go_sem,Tr.row,Jc,d1,hg,Nd.cv,hxl,e5,e6]
       refine ⟨by omega,by omega,Ji (by omega) (by omega),i+1,⟨by omega,hinv⟩,by omega,?_⟩
       simp[forget,Tr.row]
    ·have d1:((i:Int) < (t.nodes.length:Int))=False:=eq_false (by omega)
     rw[List.drop_eq_nil_of_le (by omega)]at hinv
     simp -implicitDefEqProofs only[go_sem,Tr.row,Jc,d1,hinv]
     simp
   )
theorem Tr.Ty.fit3 {t:Tr}(h:t.Ty) (hv:JaN t=false):t.Fit:=by
 unfold JaN JeJ at hv
 simp only[Gt,Gs,decide_eq_false_iff_not,List.any_eq_false]at hv
 obtain ⟨⟨⟨_,h2⟩,h3⟩,h4⟩:=hv
 refine ⟨by omega,by omega,fun x hx=>?_,h.items⟩
 have hn:=h4 x hx
 unfold Jdl at hn
 simp only[Bool.not_eq_true,Gt,decide_eq_false_iff_not]at hn
 have ty:=h.nodes x hx
 exact ⟨ty.k,by omega,ty.n,by omega,ty.kids,ty.pl⟩
theorem lawSame (a b:List Int) (ha:a.length≤100000):Fn Tryz.prog 15 [.rslc 1 (iz a) none,.rslc 1 (iz b) none] (.bool (a == b)):=by
 refine Ja c15_ok rfl rfl fun N=>?_
 simp -implicitDefEqProofs only[c15,go_sem]
 refine JP (JaY a b ha) ?_
 simp -implicitDefEqProofs only[go_sem]
section
def Q0 (of:List Int) (d:Int) (i:Nat):List Int:=((List.range i).filter fun j=>of.getD j 0 == d).map fun j:Nat=>(j:Int)
def usesL (of:List Int) (d:Int):List Int:=Q0 of d of.length
theorem Jdm {of:List Int}{d:Int}{i:Nat}:Q0 of d (i+1)=Q0 of d i++if (of.getD i 0 == d)=true then [(i:Int)] else []:=by
 unfold Q0
 rw[GD,Gz,GG,GA,GH]
 split <;> rfl
theorem Jb0 {of:List Int}{d:Int}{i:Nat}:(Q0 of d i).length≤i:=by
 unfold Q0
 rw[Gw]
 exact Nat.le_trans (Gv _ _) (by simp)
theorem nUses0 (t:Tr) (of:List Int) (hl:of.length≤100000) (d:Int):Jcq Tryz.prog 73 [.agg (rRw t of),.int .i64 d] 1 (iz (usesL of d)):=by
 have hol:(iz of).length=of.length:=Jf
 refine Jc7 (KP c73_ok fun N=>?_) rfl (Jd _)
 simp -implicitDefEqProofs only[c73,go_sem,rRw,hol]
 refine YS ?_
 simp only[go_sem,List.cons_append,List.nil_append]
 refine JF (I:=fun i:Nat=>i≤of.length) (inv:=fun i=>gp [(1,.int .i64 d),(2,QJ 0 (iz (Q0 of d i))),(3,.rslc 1 (iz of) none),(0,.int .i64 (of.length:Int)),(0,.int .i64 (i:Int))] 13) (hp:=fun i=>[XI 1 (iz (Q0 of d i))]) (μ:=fun i=>of.length-i) 0 [1] (by omega) rfl ?_ ?_ ?_
 ·simp[forget,JD,ren,Jm,gp,Q0,Qc,QM]
 ·simp[Kw,JeW,Q0,Qc,Xu]
 ·intro i hi
  by_cases hlt:i < of.length
  ·have d1:((i:Int) < (of.length:Int))=True:=eq_true (by omega)
   have hgi:=JQ hlt
   have hst:=Jdm (of:=of) (d:=d) (i:=i)
   have hul:=Jb0 (of:=of) (d:=d) (i:=i)
   generalize Q0 of d i=acc at hst hul ⊢
   cases hb:(of.getD i 0 == d) with
   |false=>
    rw[hb,if_neg (by simp),Gf]at hst
    simp -implicitDefEqProofs only[go_sem,hol,d1,hgi,hb]
    refine ⟨by omega,Ji (by omega) (by omega),i+1,[0],by omega,by omega,rfl,?_,?_⟩
    ·rw[hst]; simp only[Kw,Ga,Gb,go_sem,KQ (Jb (Jd acc))]
    ·rw[hst]; simp[forget,JD,ren,Jm,Qi]
   |true=>
    rw[hb,if_pos rfl]at hst
    simp -implicitDefEqProofs only[go_sem,hol,d1,hgi,hb,JI,Jf]
    refine ⟨by omega,⟨by omega,by omega⟩,Ji (by omega) (by omega),i+1,[2],by omega,by omega,rfl,?_,?_⟩
    ·rw[hst,JX,Kv]
     simp only[Kw,Ga,Gb,go_sem,Jo]
     simp[Jb (Jd acc),JD,ren]
    ·rw[hst,JX,Ku]
     simp[forget,JD,ren,Jm,Jf]
  ·have d1:((i:Int) < (of.length:Int))=False:=eq_false (by omega)
   obtain rfl:i=of.length:=by omega
   simp -implicitDefEqProofs only[go_sem,hol,d1]
   exact ⟨0,rfl,rfl⟩
theorem refUses3 (of:List Int) (hl:of.length≤100000) (d:Int):JbT Tryz.prog 27 [.rslc 1 (iz of) none,.int .i64 d] 1 (iz (usesL of d)):=by
 have hol:(iz of).length=of.length:=Jf
 refine Jac (KP c27_ok fun N=>?_) rfl (Jd _)
 simp -implicitDefEqProofs only[c27,go_sem]
 refine JF (I:=fun i:Nat=>i≤of.length) (inv:=fun i=>gp [(0,.rslc 1 (iz of) none),(0,.int .i64 d),(3,.slc 0 0 (iz (Q0 of d i)).length (Jef (iz (Q0 of d i)))),(0,.int .i64 (i:Int))] 18) (hp:=fun i=>[.arr 1 (iz (Q0 of d i))]) (μ:=fun i=>of.length-i) 0 [0] (by omega) rfl ?_ ?_ ?_
 ·simp[forget,JD,ren,Jm,gp,Q0,iz,Jef]
 ·simp[Kw,JeW,Q0,iz]
 ·intro i hi
  by_cases hlt:i < of.length
  ·have d1:((i:Int) < (of.length:Int))=True:=eq_true (by omega)
   have hgi:=JQ hlt
   have hst:=Jdm (of:=of) (d:=d) (i:=i)
   have hul:=Jb0 (of:=of) (d:=d) (i:=i)
   have hcl:=Jb (ρ:=[0]) (Jd (Q0 of d i))
   have hcl2:=Jb (ρ:=[2]) (Jd (Q0 of d i))
   cases hb:(of.getD i 0 == d) with
   |false=>
    rw[hb,if_neg (by simp),Gf]at hst
    simp -implicitDefEqProofs only[go_sem,hol,d1,hgi,hb]
    refine ⟨by omega,Ji (by omega) (by omega),i+1,[0],by omega,by omega,rfl,?_,?_⟩
    ·rw[hst]; simp only[Kw,Ga,Gb,go_sem,Jo,hcl]
    ·rw[hst]; simp[forget,JD,ren,Jm]
   |true=>
    rw[hb,if_pos rfl]at hst
    simp -implicitDefEqProofs only[go_sem,hol,d1,hgi,hb,JI,Jf]
    refine ⟨by omega,⟨by omega,by omega⟩,Ji (by omega) (by omega),i+1,[2],by omega,by omega,rfl,?_,?_⟩
    ·rw[hst,JX]
     simp only[Kw,Ga,Gb,go_sem,Jo]
     simp[hcl2,JD,ren]
    ·rw[hst,JX,XW]
     simp[forget,JD,ren,Jm,Jf]
  ·have d1:((i:Int) < (of.length:Int))=False:=eq_false (by omega)
   obtain rfl:i=of.length:=by omega
   simp -implicitDefEqProofs only[go_sem,hol,d1]
   exact ⟨0,rfl,rfl⟩
section
variable {t:Tr}{o:List Int}(g:GoodT t o) (ht:t.Fit)
include g ht
theorem nUses (d:Int):Fn Tryz.prog 24 [t.cv,.int .i64 d] (if (XK t o).2≠0 then .tup [.nils,.int .i64 (XK t o).2] else if (inT t d && Km (nd t d.toNat).k)=true then .tup [.rslc 1 (iz (usesL (ofL t o) d)) none,.int .i64 0] else .tup [.nils,.int .i64 7]):=by
 have hmany:=g.many
 have hF:=nFind g ht [d] (by simp)
 obtain ⟨l,hl⟩:=rE_head (t:=t) (o:=o)
 refine Ja c24_ok rfl (by split; rfl; split <;> rfl) fun N=>?_
 simp -implicitDefEqProofs only[c24,go_sem,Tr.cv,Tr.row]
 refine Jg (id:=1) (z:=1) (els:=iz [d]) rfl rfl ?_
 simp only[go_sem,J3,Kn,frz,KH,JV,Qc,Ga,Gb,Gn,Gp,Gr,Gm,Gq]
 refine JP hF ?_
 by_cases hE:(XK t o).2=0
 ·rw[if_neg (show ¬ (XK t o).2≠0 by simp[hE]),if_neg (show ¬ (XK t o).2≠0 by simp[hE]),rE_ok hE]
  simp only[GI,GJ,Gu]
  cases hin:inT t d with
  |false=>
   simp only[Gc,Gh,if_false]
   simp -implicitDefEqProofs only[go_sem,rRw]
  |true=>
   simp only[if_true,Gd]
   have hr:=X3.1 hin
   obtain ⟨d,rfl⟩:∃ d':Nat,d=d':=⟨d.toNat,by omega⟩
   rw[Gg]
   simp -implicitDefEqProofs only[go_sem,rRw]
   refine JP (nIsDecl t (by omega)) ?_
   cases hc:Km (nd t d).k with
   |false=>
    simp only[Gh,if_false]
    simp -implicitDefEqProofs only[go_sem,Gi]
   |true=>
    simp only[if_true]
    simp -implicitDefEqProofs only[go_sem,Gj]
    refine JP ((nUses0 t (ofL t o) (by rw[QP]; omega) (d:Int)).fn rfl (Jd _)) ?_
    simp -implicitDefEqProofs only[go_sem]
 ·have e1:((XK t o).2 != 0)=true:=by simpa using hE
  rw[if_pos hE,if_pos hE,hl]
  simp -implicitDefEqProofs only[go_sem,e1]
theorem nSightP (d:Int):Fn Tryz.prog 25 [t.cv,.int .i64 d] (if (XK t o).2≠0 then .tup [.nils,.int .i64 (XK t o).2] else if (inT t d && JcN (nd t d.toNat).k)=true then .tup [.rslc 1 (iz (Xe t d.toNat)) none,.int .i64 0] else .tup [.nils,.int .i64 7]):=by
 have hmany:=g.many
 have hF:=nFind g ht [d] (by simp)
 obtain ⟨l,hl⟩:=rE_head (t:=t) (o:=o)
 refine Ja c25_ok rfl (by split; rfl; split <;> rfl) fun N=>?_
 simp -implicitDefEqProofs only[c25,go_sem,Tr.cv,Tr.row]
 refine Jg (id:=1) (z:=1) (els:=iz [d]) rfl rfl ?_
 simp only[go_sem,J3,Kn,frz,KH,JV,Qc,Ga,Gb,Gn,Gp,Gr,Gm,Gq]
 refine JP hF ?_
 by_cases hE:(XK t o).2=0
 ·rw[if_neg (show ¬ (XK t o).2≠0 by simp[hE]),if_neg (show ¬ (XK t o).2≠0 by simp[hE]),rE_ok hE]
  simp only[GI,GJ,Gu]
  cases hin:inT t d with
  |false=>
   simp only[Gc,Gh,if_false]
   simp -implicitDefEqProofs only[go_sem,rRw]
  |true=>
   simp only[if_true,Gd]
   have hr:=X3.1 hin
   obtain ⟨d,rfl⟩:∃ d':Nat,d=d':=⟨d.toNat,by omega⟩
   rw[Gg]
   simp -implicitDefEqProofs only[go_sem,rRw]
   refine JP (nIsExpr t (by omega)) ?_
   cases hc:JcN (nd t d).k with
   |false=>
    simp only[Gh,if_false]
    simp -implicitDefEqProofs only[go_sem,Gi]
   |true=>
    simp only[if_true]
    simp -implicitDefEqProofs only[go_sem,Gj]
    refine JP (nSight g ht (by omega)) ?_
    simp -implicitDefEqProofs only[go_sem]
 ·have e1:((XK t o).2 != 0)=true:=by simpa using hE
  rw[if_pos hE,if_pos hE,hl]
  simp -implicitDefEqProofs only[go_sem,e1]
end
theorem nUsesE (t:Tr) (ht:t.Fit) (h:chk t≠0) (d:Int):Fn Tryz.prog 24 [t.cv,.int .i64 d] (.tup [.nils,.int .i64 (chk t)]):=by
 have e:(chk t != 0)=true:=by simpa using h
 refine Ja c24_ok rfl rfl fun N=>?_
 simp -implicitDefEqProofs only[c24,go_sem,Tr.cv,Tr.row]
 refine Jg (id:=1) (z:=1) (els:=iz [d]) rfl rfl ?_
 simp only[go_sem,J3,Kn,frz,KH,JV,Qc,Ga,Gb,Gn,Gp,Gr,Gm,Gq]
 refine JP (nFindE t ht [d] h) ?_
 simp -implicitDefEqProofs only[go_sem,e]
theorem nSightPE (t:Tr) (ht:t.Fit) (h:chk t≠0) (d:Int):Fn Tryz.prog 25 [t.cv,.int .i64 d] (.tup [.nils,.int .i64 (chk t)]):=by
 have e:(chk t != 0)=true:=by simpa using h
 refine Ja c25_ok rfl rfl fun N=>?_
 simp -implicitDefEqProofs only[c25,go_sem,Tr.cv,Tr.row]
 refine Jg (id:=1) (z:=1) (els:=iz [d]) rfl rfl ?_
 simp only[go_sem,J3,Kn,frz,KH,JV,Qc,Ga,Gb,Gn,Gp,Gr,Gm,Gq]
 refine JP (nFindE t ht [d] h) ?_
 simp -implicitDefEqProofs only[go_sem,e]
end
section
theorem lawThere (t:Tr) (hm:t.nodes.length≤100000) (d:Int) (k:Nat):Fn Tryz.prog 19 [t.cv,.int .i64 d,.int .u8 (k:Int)] (.bool (inT t d && (k == 0 || (nd t d.toNat).k == k))):=by
 refine Ja c19_ok rfl rfl fun N=>?_
 by_cases h0:0≤d
 ·have e0:decide (0≤d)=true:=decide_eq_true h0
  by_cases h1:d < t.nodes.length
  ·have e1:decide (d < (t.nodes.length:Int))=true:=decide_eq_true h1
   have hin:inT t d=true:=X3.2 ⟨h0,h1⟩
   obtain ⟨d,rfl⟩:∃ d':Nat,d=d':=⟨d.toNat,by omega⟩
   have hg:=Kc (t:=t) (i:=d) (by omega)
   rw[hin,Gd,Gg]
   cases hk:(k == 0) with
   |true=>
    simp -implicitDefEqProofs only[c19,go_sem,Tr.cv,Tr.row,Jc,e0,e1,kbE,hk,Gl]
   |false=>
    have en:=Jcf k (nd t d).k
    simp -implicitDefEqProofs only[c19,go_sem,Tr.cv,Tr.row,Jc,e0,e1,kbE,hk,hg,Nd.cv,en,Gy]
    omega
  ·have e1:decide (d < (t.nodes.length:Int))=false:=decide_eq_false h1
   have hin:inT t d=false:=by rw[Gx]; intro h; exact h1 (X3.1 h).2
   rw[hin,Gc]
   simp -implicitDefEqProofs only[c19,go_sem,Tr.cv,Tr.row,Jc,e0,e1]
 ·have e0:decide (0≤d)=false:=decide_eq_false h0
  have hin:inT t d=false:=by rw[Gx]; intro h; exact h0 (X3.1 h).1
  rw[hin,Gc]
  simp -implicitDefEqProofs only[c19,go_sem,Tr.cv,Tr.row,e0]
def preB (q:Nat→Bool) (i:Nat):List Int:=((List.range i).filter q).map fun j:Nat=>(j:Int)
theorem preB_succ {q:Nat→Bool}{i:Nat}:preB q (i+1)=preB q i++if q i=true then [(i:Int)] else []:=by
 unfold preB
 rw[GD,Gz,GG,GA,GH]
 split <;> rfl
theorem preB_len {q:Nat→Bool}{i:Nat}:(preB q i).length≤i:=by
 unfold preB
 rw[Gw]
 exact Nat.le_trans (Gv _ _) (by simp)
theorem preB_all {t:Tr}{q:Nat→Bool}:preB q t.nodes.length=(J5 t).filter fun x=>q x.toNat:=by
 unfold preB J5
 rw[List.filter_map]
 rfl
def sightQ (t:Tr) (o:List Int) (j d:Nat):Bool:=Km (nd t d).k && (!((nd t d).k == 65) && inB t o d j)
section
variable {t:Tr}{o:List Int}(g:GoodT t o) (ht:t.Fit)
include g ht
theorem refSight3 {j:Nat}(hj:j < t.nodes.length):JbT Tryz.prog 29 [t.cv,.int .i64 (j:Int)] 1 (iz (preB (sightQ t o j) t.nodes.length)):=by
 have hmany:=g.many
 refine Jac (KP c29_ok fun N=>?_) rfl (Jd _)
 simp -implicitDefEqProofs only[c29,go_sem,Tr.cv,Tr.row]
 refine Jg (id:=0) (z:=2) (els:=[t.row]) rfl rfl ?_
 simp only[go_sem,J3,Kn,frz,KH,Ga,Gb,Tr.row]
 generalize hq:sightQ t o j=q
 refine JF (I:=fun i:Nat=>i≤t.nodes.length) (inv:=fun i=>gp [(1,.int .i64 (j:Int)),(0,.rptr t.row),(2,.slc 1 0 (iz (preB q i)).length (Jef (iz (preB q i)))),(0,.int .i64 (i:Int))] 32) (hp:=fun i=>[.dead,.arr 1 (iz (preB q i))]) (μ:=fun i=>t.nodes.length-i) 0 [0,1] (by omega) rfl ?_ ?_ ?_
 ·simp[forget,JD,ren,Jm,gp,preB,iz,Jef,Tr.row]
 ·simp[Kw,JeW,preB,iz]
 ·intro i hi
  by_cases hlt:i < t.nodes.length
  ·have d1:((i:Int) < (t.nodes.length:Int))=True:=eq_true (by omega)
   have hgi:=Kc hlt
   have hst:=preB_succ (q:=q) (i:=i)
   have hul:=preB_len (q:=q) (i:=i)
   have hqi:q i=(Km (nd t i).k && (!((nd t i).k == 65) && inB t o i j)):=by rw[← hq]; rfl
   have hcl:=Jb (ρ:=[0,1]) (Jd (preB q i))
   have hcl2:=Jb (ρ:=[0,3]) (Jd (preB q i))
   simp -implicitDefEqProofs only[go_sem,d1,Tr.row,Jc,hgi,Nd.cv]
   refine ⟨by omega,?_⟩
   refine JP (Xy _) ?_
   cases hd:Km (nd t i).k with
   |false=>
    rw[hqi,hd,Gc,if_neg (by simp),Gf]at hst
    simp -implicitDefEqProofs only[go_sem]
    refine ⟨Ji (by omega) (by omega),i+1,[0,1],by omega,by omega,rfl,?_,?_⟩
    ·rw[hst]; simp only[Kw,Ga,Gb,go_sem,Jo,Jp,hcl]
    ·rw[hst]; simp[forget,JD,ren,Jm,Tr.row]
   |true=>
    rw[hd,Gd]at hqi
    cases h65:((nd t i).k == 65) with
    |true=>
     rw[hqi,h65,Gj,Gc,if_neg (by simp),Gf]at hst
     simp -implicitDefEqProofs only[go_sem,kbN,h65,Gj]
     refine ⟨Ji (by omega) (by omega),i+1,[0,1],by omega,by omega,rfl,?_,?_⟩
     ·rw[hst]; simp only[Kw,Ga,Gb,go_sem,Jo,Jp,hcl]
     ·rw[hst]; simp[forget,JD,ren,Jm,Tr.row]
    |false=>
     rw[h65,Gi,Gd]at hqi
     simp -implicitDefEqProofs only[go_sem,kbN,h65,Gi,Tr.row]
     refine JH (gok rfl) (JeZ g ht hlt hj) ?_
     cases hin:inB t o i j with
     |false=>
      rw[hqi,hin,if_neg (by simp),Gf]at hst
      simp -implicitDefEqProofs only[go_sem]
      refine ⟨Ji (by omega) (by omega),i+1,[0,1],by omega,by omega,rfl,?_,?_⟩
      ·rw[hst]; simp only[Kw,Ga,Gb,go_sem,Jo,Jp,hcl]
      ·rw[hst]; simp[forget,JD,ren,Jm,Tr.row]
     |true=>
      rw[hqi,hin,if_pos rfl]at hst
      simp -implicitDefEqProofs only[go_sem,JI,Jf]
      refine ⟨⟨by omega,by omega⟩,Ji (by omega) (by omega),i+1,[0,3],by omega,by omega,rfl,?_,?_⟩
      ·rw[hst,JX]
       simp only[Kw,Ga,Gb,go_sem,Jo,Jp]
       simp[hcl2,JD,ren]
      ·rw[hst,JX,XW]
       simp[forget,JD,ren,Jm,Jf,Tr.row]
  ·have d1:((i:Int) < (t.nodes.length:Int))=False:=eq_false (by omega)
   obtain rfl:i=t.nodes.length:=by omega
   simp -implicitDefEqProofs only[go_sem,d1,Tr.row,Jc]
   exact ⟨1,rfl,rfl⟩
omit ht in
theorem sight_eq {j:Nat}(hj:j < t.nodes.length) (he:JcN (nd t j).k=true):preB (sightQ t o j) t.nodes.length=Xe t j:=by
 unfold JcN at he
 rw[Bool.and_eq_true,decide_eq_true_eq,decide_eq_true_eq]at he
 rw[preB_all]
 unfold Xe
 refine List.filter_congr fun d hd=>?_
 have:=K3.1 hd
 obtain ⟨d,rfl⟩:∃ d':Nat,d=d':=⟨d.toNat,by omega⟩
 rw[Gg,sight_mem g (by omega) hj he]
 rfl
end
end
theorem lawThere0 (t:Tr) (hm:t.nodes.length≤100000) (d:Int):Fn Tryz.prog 19 [t.cv,.int .i64 d,.int .u8 0] (.bool (inT t d)):=by
 have h:=lawThere t hm d 0
 simp only[beq_self_eq_true,Gl,Gu]at h
 exact h
theorem sightF_len (t:Tr) (d:Nat) (h:t.nodes.length≤100000):(Xe t d).length≤100000:=by
 refine Nat.le_trans (Gv _ _) ?_
 simp only[J5,Gw,List.length_range]
 exact h
theorem seeBad (t:Tr) (ht:t.Fit) (hv:JaN t=false) (h:chk t≠0) (d:Int):Fn Tryz.prog 5 [t.cv,.int .i64 d] (.bool true):=by
 have hV:=Jf9 t
 rw[hv]at hV
 have e1:((chk t) == (chk t))=true:=by simp
 have e2:((chk t) != 0)=true:=by simpa using h
 have e3:((0+0:Int) == 0)=true:=rfl
 refine Ja c5_ok rfl rfl fun N=>?_
 simp -implicitDefEqProofs only[c5,go_sem,Tr.cv,Tr.row]
 refine JP hV ?_
 simp -implicitDefEqProofs only[go_sem,Tr.row]
 refine JP (JfX t ht) ?_
 simp -implicitDefEqProofs only[go_sem,Tr.cv,Tr.row]
 refine JP (nUsesE t ht h d) ?_
 simp -implicitDefEqProofs only[go_sem,Tr.cv,Tr.row]
 refine JP (nSightPE t ht h d) ?_
 simp -implicitDefEqProofs only[go_sem,Tr.cv,Tr.row]
 refine JP (refResolveE t ht h) ?_
 simp -implicitDefEqProofs only[go_sem,Tr.cv,Tr.row]
 refine JP (JcZ t ht) ?_
 simp -implicitDefEqProofs only[go_sem,e1,e2,e3]
 refine ⟨Ji (by omega) (by omega),?_⟩
 refine JH (gok rfl) Ja7 ?_
 simp -implicitDefEqProofs only[go_sem]
theorem seeGood {t:Tr}{o:List Int}(g:GoodT t o) (ht:t.Fit) (hv:JaN t=false) (d:Int):Fn Tryz.prog 5 [t.cv,.int .i64 d] (.bool true):=by
 have hmany:=g.many
 have hV:=Jf9 t
 rw[hv]at hV
 have hU:=nUses g ht d
 have hS:=nSightP g ht d
 have hR:=refResolve g ht
 rw[← res_eq g]at hR
 have hT:=lawThere0 t (by omega) d
 have e00:((0:Int) == 0)=true:=rfl
 have e01:((0:Int) != 0)=false:=rfl
 have e70:((7:Int) != 0)=true:=rfl
 have e77:((7:Int) == 7)=true:=rfl
 have e7n:((7:Int) != 7)=false:=rfl
 have e3:((0+0:Int) == 0)=true:=rfl
 by_cases he:(XK t o).2=0
 ·rw[if_pos he]at hR
  rw[if_neg (show ¬ (XK t o).2≠0 by simp[he])]at hU hS
  cases hin:inT t d with
  |false=>
   rw[hin,Gc,if_neg (by simp)]at hU hS
   rw[hin]at hT
   refine Ja c5_ok rfl rfl fun N=>?_
   simp -implicitDefEqProofs only[c5,go_sem,Tr.cv,Tr.row]
   refine JP hV ?_
   simp -implicitDefEqProofs only[go_sem,Tr.row]
   refine JP (JfX t ht) ?_
   simp -implicitDefEqProofs only[go_sem,Tr.cv,Tr.row]
   refine JP hU ?_
   simp -implicitDefEqProofs only[go_sem,Tr.cv,Tr.row]
   refine JP hS ?_
   simp -implicitDefEqProofs only[go_sem,Tr.cv,Tr.row]
   refine JP hR ?_
   simp -implicitDefEqProofs only[go_sem,Tr.cv,Tr.row]
   refine JP (JcZ t ht) ?_
   simp -implicitDefEqProofs only[go_sem,e00,e01]
   refine JP hT ?_
   simp -implicitDefEqProofs only[go_sem,e7n,e01]
   refine JP hT ?_
   simp -implicitDefEqProofs only[go_sem,e77,e00]
   refine JH (gok rfl) Ja7 ?_
   simp -implicitDefEqProofs only[go_sem]
  |true=>
   rw[hin,Gd]at hU hS
   rw[hin]at hT
   have hr:=X3.1 hin
   obtain ⟨d,rfl⟩:∃ d':Nat,d=d':=⟨d.toNat,by omega⟩
   rw[Gg]at hU hS
   have hdn:d < t.nodes.length:=by omega
   have hg:=Kc (t:=t) (i:=d) hdn
   have hD:=Xy (nd t d).k
   have hX:=refIsExpr (nd t d).k
   have hxe:inN 1 29 (nd t d).k=JcN (nd t d).k:=rfl
   rw[hxe]at hX
   have hus:=(refUses3 (ofL t o) (by rw[QP]; omega) (d:Int)).fn rfl (Jd _)
   have hsu:=lawSame (usesL (ofL t o) (d:Int)) (usesL (ofL t o) (d:Int)) (by have:=Jb0 (of:=ofL t o) (d:=(d:Int)) (i:=(ofL t o).length); unfold usesL; rw[QP]at this ⊢; omega)
   rw[show (usesL (ofL t o) (d:Int) == usesL (ofL t o) (d:Int))=true by simp]at hsu
   cases hd:Km (nd t d).k <;> cases hx:JcN (nd t d).k <;> rw[hd]at hU hD <;> rw[hx]at hS hX <;> (try rw[if_pos rfl]at hU) <;> (try rw[if_pos rfl]at hS) <;> (try rw[if_neg (by simp)]at hU) <;> (try rw[if_neg (by simp)]at hS)
   all_goals
    refine Ja c5_ok rfl rfl fun N=>?_
    simp -implicitDefEqProofs only[c5,go_sem,Tr.cv,Tr.row]
    refine JP hV ?_
    simp -implicitDefEqProofs only[go_sem,Tr.row]
    refine JP (JfX t ht) ?_
    simp -implicitDefEqProofs only[go_sem,Tr.cv,Tr.row]
    refine JP hU ?_
    simp -implicitDefEqProofs only[go_sem,Tr.cv,Tr.row]
    refine JP hS ?_
    simp -implicitDefEqProofs only[go_sem,Tr.cv,Tr.row]
    refine JP hR ?_
    simp -implicitDefEqProofs only[go_sem,Tr.cv,Tr.row]
    refine JP (JcZ t ht) ?_
    simp -implicitDefEqProofs only[go_sem,e00,e01]
    refine JP hT ?_
    simp -implicitDefEqProofs only[go_sem,hg,Nd.cv,Tr.row]
    refine ⟨⟨by omega,by rw[Jc]; omega⟩,?_⟩
    refine JH (gok rfl) hD ?_
    simp -implicitDefEqProofs only[go_sem,e7n,e01,Tr.row]
   ·refine JP hT ?_
    simp -implicitDefEqProofs only[go_sem,hg,Nd.cv,Tr.row]
    refine ⟨⟨by omega,by rw[Jc]; omega⟩,?_⟩
    refine JH (gok rfl) hX ?_
    simp -implicitDefEqProofs only[go_sem,e77,e00]
    refine JH (gok rfl) Ja7 ?_
    simp -implicitDefEqProofs only[go_sem]
   ·have hsi:=(refSight3 g ht hdn).fn rfl (Jd _)
    rw[sight_eq g hdn hx]at hsi
    have hss:=lawSame (Xe t d) (Xe t d) (sightF_len t d (by omega))
    rw[show (Xe t d == Xe t d)=true by simp]at hss
    refine JP hT ?_
    simp -implicitDefEqProofs only[go_sem,hg,Nd.cv,Tr.row]
    refine ⟨⟨by omega,by rw[Jc]; omega⟩,?_⟩
    refine JH (gok rfl) hX ?_
    simp -implicitDefEqProofs only[go_sem,e00,Tr.row,Tr.cv]
    refine JH (gok rfl) hsi ?_
    simp -implicitDefEqProofs only[go_sem]
    refine JH (gok rfl) hss ?_
    simp -implicitDefEqProofs only[go_sem]
    refine JH (gok rfl) Ja7 ?_
    simp -implicitDefEqProofs only[go_sem]
   ·refine JH (gok rfl) hus ?_
    simp -implicitDefEqProofs only[go_sem]
    refine JH (gok rfl) hsu ?_
    simp -implicitDefEqProofs only[go_sem,Tr.row]
    refine JP hT ?_
    simp -implicitDefEqProofs only[go_sem,hg,Nd.cv,Tr.row]
    refine ⟨⟨by omega,by rw[Jc]; omega⟩,?_⟩
    refine JH (gok rfl) hX ?_
    simp -implicitDefEqProofs only[go_sem,e77,e00]
    refine JH (gok rfl) Ja7 ?_
    simp -implicitDefEqProofs only[go_sem]
   ·unfold Km at hd
    unfold JcN at hx
    simp at hd hx
    omega
 ·rw[if_neg he]at hR
  rw[if_pos he]at hU hS
  have e1:((XK t o).2 == (XK t o).2)=true:=by simp
  have e2:((XK t o).2 != 0)=true:=by simpa using he
  refine Ja c5_ok rfl rfl fun N=>?_
  simp -implicitDefEqProofs only[c5,go_sem,Tr.cv,Tr.row]
  refine JP hV ?_
  simp -implicitDefEqProofs only[go_sem,Tr.row]
  refine JP (JfX t ht) ?_
  simp -implicitDefEqProofs only[go_sem,Tr.cv,Tr.row]
  refine JP hU ?_
  simp -implicitDefEqProofs only[go_sem,Tr.cv,Tr.row]
  refine JP hS ?_
  simp -implicitDefEqProofs only[go_sem,Tr.cv,Tr.row]
  refine JP hR ?_
  simp -implicitDefEqProofs only[go_sem,Tr.cv,Tr.row]
  refine JP (JcZ t ht) ?_
  simp -implicitDefEqProofs only[go_sem,e1,e2,e3]
  refine ⟨Ji (by omega) (by omega),?_⟩
  refine JH (gok rfl) Ja7 ?_
  simp -implicitDefEqProofs only[go_sem]
theorem seeAll (t:Tr) (ty:t.Ty) (d:Int) (_:InR .i64 d):Fn Tryz.prog 5 [t.cv,.int .i64 d] (.bool true):=by
 cases hv:JaN t with
 |true=>
  have hV:=Jf9 t
  rw[hv]at hV
  refine Ja c5_ok rfl rfl fun N=>?_
  simp -implicitDefEqProofs only[c5,go_sem,Tr.cv,Tr.row]
  refine JP hV ?_
  simp -implicitDefEqProofs only[go_sem,Tr.row]
  refine JP Ja7 ?_
  simp -implicitDefEqProofs only[go_sem]
 |false=>
  have ht:=ty.fit3 hv
  by_cases h:chk t=0
  ·obtain ⟨o,g⟩:=(Jc9 t).1 h
   exact seeGood g ht hv d
  ·exact seeBad t ht hv h d
end Go.Cm
end
end
