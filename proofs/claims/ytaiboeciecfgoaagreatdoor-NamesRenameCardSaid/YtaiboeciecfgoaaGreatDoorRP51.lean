/-
  A part of the proof. Conditions: none.
-/
import Derived.Test.YtaiboeciecfgoaaGreatDoorRP50
import Derived.Test.YtaiboeciecfgoaaGreatDoorRP47
set_option linter.unusedSimpArgs false
set_option linter.unusedVariables false
open Bool renaming and_eq_false_iff→Gb,or_eq_false_iff→Gc,true_or→Ga,eq_false_iff→Gd,false_and→Gf,false_or→Gg
noncomputable section
section
set_option maxRecDepth 100000
set_option maxHeartbeats 4000000
open Go.Proofs
namespace Go.Cm
def JeW (t:Tr):Bool:=(decide (160 < t.nodes.length) && decide (t.nodes.length≤700)) || decide (1400 < t.nodes.length) || decide (40 < t.items.length)
def YW (t:Tr):Bool:=JeW t || t.nodes.any Jcf
theorem Jdc (t:Tr):Fn Tryz.prog 10 [t.cv] (.bool (YW t)):=by
 refine Ja c10_ok rfl rfl fun N=>?_
 have hil:(iz t.items).length=t.items.length:=Jf
 cases hH:JeW t with
 |true=>
  have hv:YW t=true:=by unfold YW; rw[hH]; rfl
  rw[hv]
  unfold JeW at hH
  have e1:((160:Int) < (t.nodes.length:Int))=(160 < t.nodes.length):=propext (by omega)
  have e2:((t.nodes.length:Int)≤700)=(t.nodes.length≤700):=propext (by omega)
  have e3:((1400:Int) < (t.nodes.length:Int))=(1400 < t.nodes.length):=propext (by omega)
  have e4:((40:Int) < (t.items.length:Int))=(40 < t.items.length):=propext (by omega)
  by_cases g1:160 < t.nodes.length <;> by_cases g2:t.nodes.length≤700 <;> by_cases g3:1400 < t.nodes.length <;> by_cases g4:40 < t.items.length <;> first | (exfalso; omega) | (exfalso; simp[g1,g2,g3,g4]at hH; done) | (simp -implicitDefEqProofs only[c10,go_sem,Tr.cv,Tr.row,Jc,hil,e1,e2,e3,e4,g1,g2,g3,g4])
 |false=>
  unfold JeW at hH
  simp only[Gc,Gb,decide_eq_false_iff_not]at hH
  obtain ⟨⟨h1,h2⟩,h3⟩:=hH
  have e3:((1400:Int) < (t.nodes.length:Int))=False:=Jj
  have e4:((40:Int) < (t.items.length:Int))=False:=Jj
  have hv:YW t=t.nodes.any Jcf:=by
   unfold YW JeW
   have:(decide (160 < t.nodes.length) && decide (t.nodes.length≤700))=false:=by
    simp only[Gb,decide_eq_false_iff_not]; exact h1
   rw[this,decide_eq_false h2,decide_eq_false h3]; rfl
  rw[hv]
  by_cases g1:160 < t.nodes.length
  case' pos=>
   have e1:((160:Int) < (t.nodes.length:Int))=True:=Jn
   have e2:((t.nodes.length:Int)≤700)=False:=Jj
   simp -implicitDefEqProofs only[c10,go_sem,Tr.cv,Tr.row,Jc,hil,e1,e2,e3,e4]
  case' neg=>
   have e1:((160:Int) < (t.nodes.length:Int))=False:=Jj
   simp -implicitDefEqProofs only[c10,go_sem,Tr.cv,Tr.row,Jc,hil,e1,e3,e4]
  all_goals (
   refine Jg (id:=0) (z:=2) (els:=[t.row]) rfl rfl ?_
   simp only[go_sem,J2,Ko,frz,KG,Tr.row]
   refine Jz (I:=fun i:Nat=>i≤t.nodes.length∧t.nodes.any Jcf=(t.nodes.drop i).any Jcf) (inv:=fun i=>gp [(1,.rptr t.row),(1,.int .i64 (i:Int))] 47) (hp:=fun _=>[.dead]) (μ:=fun i=>t.nodes.length-i) 0 ⟨by omega,rfl⟩ ?_ rfl ?_
   ·simp[forget,gp,Tr.row]
   ·rintro i ⟨hi,hinv⟩
    by_cases hlt:i < t.nodes.length
    ·have d1:((i:Int) < (t.nodes.length:Int))=True:=Jn
     have hg:=Kz hlt
     rw[List.drop_eq_getElem_cons hlt,List.any_cons,← rowg hlt]at hinv
     generalize t.nodes.getD i default=x at hg hinv
     have hxl:(iz x.kids).length=x.kids.length:=Jf
     by_cases g5:30 < x.kids.length
     ·have e5:((30:Int) < (x.kids.length:Int))=True:=Jn
      rw[show Jcf x=true by simp[Jcf,g5],Ga]at hinv
      simp -implicitDefEqProofs only[go_sem,Tr.row,Jc,d1,hg,Nd.cv,hxl,e5,hinv]
      omega
     ·have e5:((30:Int) < (x.kids.length:Int))=False:=Jj
      by_cases g6:60 < x.text.length
      ·have e6:((60:Int) < (x.text.length:Int))=True:=Jn
       rw[show Jcf x=true by simp[Jcf,g6],Ga]at hinv
       simp -implicitDefEqProofs only[go_sem,Tr.row,Jc,d1,hg,Nd.cv,hxl,e5,e6,hinv]
       omega
      ·have e6:((60:Int) < (x.text.length:Int))=False:=Jj
       rw[show Jcf x=false by simp[Jcf,g5,g6],Gg]at hinv
       simp -implicitDefEqProofs only[go_sem,Tr.row,Jc,d1,hg,Nd.cv,hxl,e5,e6]
       refine ⟨by omega,by omega,Ji,i+1,⟨by omega,hinv⟩,by omega,?_⟩
       simp[forget,Tr.row]
    ·have d1:((i:Int) < (t.nodes.length:Int))=False:=Jj
     rw[List.drop_eq_nil_of_le (by omega)]at hinv
     simp -implicitDefEqProofs only[go_sem,Tr.row,Jc,d1,hinv]
     simp
   )
theorem Tr.Ty.fit3 {t:Tr}(h:t.Ty) (hv:YW t=false):t.Fit:=by
 unfold YW JeW at hv
 simp only[Gc,Gb,decide_eq_false_iff_not,List.any_eq_false]at hv
 obtain ⟨⟨⟨_,h2⟩,h3⟩,h4⟩:=hv
 refine ⟨by omega,by omega,fun x hx=>?_,h.items⟩
 have hn:=h4 x hx
 unfold Jcf at hn
 simp only[Bool.not_eq_true,Gc,decide_eq_false_iff_not]at hn
 have ty:=h.nodes x hx
 exact ⟨ty.k,by omega,ty.n,by omega,ty.kids,ty.pl⟩
section
def YY (of:List Int) (d:Int) (i:Nat):List Int:=((List.range i).filter fun j=>of.getD j 0 == d).map fun j:Nat=>(j:Int)
def usesL (of:List Int) (d:Int):List Int:=YY of d of.length
theorem usesTo_succ {of:List Int}{d:Int}{i:Nat}:YY of d (i+1)=YY of d i++if (of.getD i 0 == d)=true then [(i:Int)] else []:=by
 unfold YY
 rw[List.range_succ,List.filter_append,List.map_append,List.filter_cons,List.filter_nil]
 split <;> rfl
theorem JeX {of:List Int}{d:Int}{i:Nat}:(YY of d i).length≤i:=by
 unfold YY
 rw[List.length_map]
 exact Nat.le_trans (List.length_filter_le _ _) (by simp)
theorem nUses0 (t:Tr) (of:List Int) (hl:of.length≤100000) (d:Int):Jbp Tryz.prog 76 [.agg (rRw t of),.int .i64 d] 1 (iz (usesL of d)):=by
 have hol:(iz of).length=of.length:=Jf
 refine JaH (KI c76_ok fun N=>?_) rfl (Jd _)
 simp -implicitDefEqProofs only[c76,go_sem,rRw,hol]
 refine XU ?_
 simp only[go_sem,List.cons_append,List.nil_append]
 refine JG (I:=fun i:Nat=>i≤of.length) (inv:=fun i=>gp [(1,.int .i64 d),(2,QC 0 (iz (YY of d i))),(3,.rslc 1 (iz of) none),(0,.int .i64 (of.length:Int)),(0,.int .i64 (i:Int))] 13) (hp:=fun i=>[Xu 1 (iz (YY of d i))]) (μ:=fun i=>of.length-i) 0 [1] (by omega) rfl ?_ ?_ ?_
 ·simp[forget,JF,ren,Jo,gp,YY,Qw,Qn]
 ·simp[Kw,JgQ,YY,Qw,QX]
 ·intro i hi
  by_cases hlt:i < of.length
  ·have d1:((i:Int) < (of.length:Int))=True:=Jn
   have hgi:=JR hlt
   have hst:=usesTo_succ (of:=of) (d:=d) (i:=i)
   have hul:=JeX (of:=of) (d:=d) (i:=i)
   generalize YY of d i=acc at hst hul ⊢
   cases hb:(of.getD i 0 == d) with
   |false=>
    rw[hb,if_neg (by simp),List.append_nil]at hst
    simp -implicitDefEqProofs only[go_sem,hol,d1,hgi,hb]
    refine ⟨by omega,Ji,i+1,[0],by omega,by omega,rfl,?_,?_⟩
    ·rw[hst]; simp only[Kw,List.map_cons,List.map_nil,go_sem,KU (Jb (Jd acc))]
    ·rw[hst]; simp[forget,JF,ren,Jo,Qo]
   |true=>
    rw[hb,if_pos rfl]at hst
    simp -implicitDefEqProofs only[go_sem,hol,d1,hgi,hb,JJ,Jf]
    refine ⟨by omega,⟨by omega,by omega⟩,Ji,i+1,[2],by omega,by omega,rfl,?_,?_⟩
    ·rw[hst,J8,Km]
     simp only[Kw,List.map_cons,List.map_nil,go_sem,Jp]
     simp[Jb (Jd acc),JF,ren]
    ·rw[hst,J8,Kl]
     simp[forget,JF,ren,Jo,Jf]
  ·have d1:((i:Int) < (of.length:Int))=False:=Jj
   obtain rfl:i=of.length:=by omega
   simp -implicitDefEqProofs only[go_sem,hol,d1]
   exact ⟨0,rfl,rfl⟩
section
variable {t:Tr}{o:List Int}(g:GoodT t o) (ht:t.Fit)
include g ht
end
end
section
theorem lawThere (t:Tr) (hm:t.nodes.length≤100000) (d:Int) (k:Nat):Fn Tryz.prog 18 [t.cv,.int .i64 d,.int .u8 (k:Int)] (.bool (inT t d && (k == 0 || (nd t d.toNat).k == k))):=by
 refine Ja c18_ok rfl rfl fun N=>?_
 by_cases h0:0≤d
 ·have e0:decide (0≤d)=true:=decide_eq_true h0
  by_cases h1:d < t.nodes.length
  ·have e1:decide (d < (t.nodes.length:Int))=true:=decide_eq_true h1
   have hin:inT t d=true:=X8.2 ⟨h0,h1⟩
   obtain ⟨d,rfl⟩:∃ d':Nat,d=d':=⟨d.toNat,by omega⟩
   have hg:=J6 (t:=t) (i:=d) (by omega)
   rw[hin,Bool.true_and,Int.toNat_natCast]
   cases hk:(k == 0) with
   |true=>
    simp -implicitDefEqProofs only[c18,go_sem,Tr.cv,Tr.row,Jc,e0,e1,kbE,hk,Ga]
   |false=>
    have en:=Jct k (nd t d).k
    simp -implicitDefEqProofs only[c18,go_sem,Tr.cv,Tr.row,Jc,e0,e1,kbE,hk,hg,Nd.cv,en,Gg]
    omega
  ·have e1:decide (d < (t.nodes.length:Int))=false:=decide_eq_false h1
   have hin:inT t d=false:=by rw[Gd]; intro h; exact h1 (X8.1 h).2
   rw[hin,Gf]
   simp -implicitDefEqProofs only[c18,go_sem,Tr.cv,Tr.row,Jc,e0,e1]
 ·have e0:decide (0≤d)=false:=decide_eq_false h0
  have hin:inT t d=false:=by rw[Gd]; intro h; exact h0 (X8.1 h).1
  rw[hin,Gf]
  simp -implicitDefEqProofs only[c18,go_sem,Tr.cv,Tr.row,e0]
section
variable {t:Tr}{o:List Int}(g:GoodT t o) (ht:t.Fit)
include g ht
omit ht in
end
end
theorem lawThere0 (t:Tr) (hm:t.nodes.length≤100000) (d:Int):Fn Tryz.prog 18 [t.cv,.int .i64 d,.int .u8 0] (.bool (inT t d)):=by
 have h:=lawThere t hm d 0
 simp only[beq_self_eq_true,Ga,Bool.and_true]at h
 exact h
end Go.Cm
end
end
