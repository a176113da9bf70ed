/-
  A part of the proof. Conditions: none.
-/
import Derived.Test.YtaiboeciecfgoaaGreatDoorMP12
import Derived.Test.YtaiboeciecfgoaaGreatDoorMP50
import Derived.Test.YtaiboeciecfgoaaGreatDoorMP47
import Derived.Test.YtaiboeciecfgoaaGreatDoorMP45
set_option linter.unusedSimpArgs false
set_option linter.unusedVariables false
open Bool renaming and_eq_false_iff→Ga,or_eq_false_iff→Gb,true_or→Gc,eq_false_iff→Gd,false_and→Gf,false_or→Gg
noncomputable section
section
set_option maxRecDepth 100000
set_option maxHeartbeats 4000000
open Go.Proofs
namespace Go.Cm
def JeQ (t:Tr):Bool:=(decide (160 < t.nodes.length) && decide (t.nodes.length≤700)) || decide (1400 < t.nodes.length) || decide (40 < t.items.length)
def JaX (t:Tr):Bool:=JeQ t || t.nodes.any Jca
theorem Jgj (t:Tr):Fn Tryz.prog 10 [t.cv] (.bool (JaX t)):=by
 refine Ja c10_ok rfl rfl fun N=>?_
 have hil:(iz t.items).length=t.items.length:=Jf
 cases hH:JeQ t with
 |true=>
  have hv:JaX t=true:=by unfold JaX; rw[hH]; rfl
  rw[hv]
  unfold JeQ at hH
  have e1:((160:Int) < (t.nodes.length:Int))=(160 < t.nodes.length):=propext (by omega)
  have e2:((t.nodes.length:Int)≤700)=(t.nodes.length≤700):=propext (by omega)
  have e3:((1400:Int) < (t.nodes.length:Int))=(1400 < t.nodes.length):=propext (by omega)
  have e4:((40:Int) < (t.items.length:Int))=(40 < t.items.length):=propext (by omega)
  by_cases g1:160 < t.nodes.length <;> by_cases g2:t.nodes.length≤700 <;> by_cases g3:1400 < t.nodes.length <;> by_cases g4:40 < t.items.length <;> first | (exfalso; omega) | (exfalso; simp[g1,g2,g3,g4]at hH; done) | (simp -implicitDefEqProofs only[c10,go_sem,Tr.cv,Tr.row,Jc,hil,e1,e2,e3,e4,g1,g2,g3,g4])
 |false=>
  unfold JeQ at hH
  simp only[Gb,Ga,decide_eq_false_iff_not]at hH
  obtain ⟨⟨h1,h2⟩,h3⟩:=hH
  have e3:((1400:Int) < (t.nodes.length:Int))=False:=Jk
  have e4:((40:Int) < (t.items.length:Int))=False:=Jk
  have hv:JaX t=t.nodes.any Jca:=by
   unfold JaX JeQ
   have:(decide (160 < t.nodes.length) && decide (t.nodes.length≤700))=false:=by
    simp only[Ga,decide_eq_false_iff_not]; exact h1
   rw[this,decide_eq_false h2,decide_eq_false h3]; rfl
  rw[hv]
  by_cases g1:160 < t.nodes.length
  case' pos=>
   have e1:((160:Int) < (t.nodes.length:Int))=True:=Jn
   have e2:((t.nodes.length:Int)≤700)=False:=Jk
   simp -implicitDefEqProofs only[c10,go_sem,Tr.cv,Tr.row,Jc,hil,e1,e2,e3,e4]
  case' neg=>
   have e1:((160:Int) < (t.nodes.length:Int))=False:=Jk
   simp -implicitDefEqProofs only[c10,go_sem,Tr.cv,Tr.row,Jc,hil,e1,e3,e4]
  all_goals (
   refine Jg (id:=0) (z:=2) (els:=[t.row]) rfl rfl ?_
   simp only[go_sem,J2,Kk,frz,KA,Tr.row]
   refine Jz (I:=fun i:Nat=>i≤t.nodes.length∧t.nodes.any Jca=(t.nodes.drop i).any Jca) (inv:=fun i=>gp [(1,.rptr t.row),(1,.int .i64 (i:Int))] 47) (hp:=fun _=>[.dead]) (μ:=fun i=>t.nodes.length-i) 0 ⟨by omega,rfl⟩ ?_ rfl ?_
   ·simp[forget,gp,Tr.row]
   ·rintro i ⟨hi,hinv⟩
    by_cases hlt:i < t.nodes.length
    ·have d1:((i:Int) < (t.nodes.length:Int))=True:=Jn
     have hg:=KM hlt
     rw[List.drop_eq_getElem_cons hlt,List.any_cons,← rowg hlt]at hinv
     generalize t.nodes.getD i default=x at hg hinv
     have hxl:(iz x.kids).length=x.kids.length:=Jf
     by_cases g5:30 < x.kids.length
     ·have e5:((30:Int) < (x.kids.length:Int))=True:=Jn
      rw[show Jca x=true by simp[Jca,g5],Gc]at hinv
      simp -implicitDefEqProofs only[go_sem,Tr.row,Jc,d1,hg,Nd.cv,hxl,e5,hinv]
      omega
     ·have e5:((30:Int) < (x.kids.length:Int))=False:=Jk
      by_cases g6:60 < x.text.length
      ·have e6:((60:Int) < (x.text.length:Int))=True:=Jn
       rw[show Jca x=true by simp[Jca,g6],Gc]at hinv
       simp -implicitDefEqProofs only[go_sem,Tr.row,Jc,d1,hg,Nd.cv,hxl,e5,e6,hinv]
       omega
      ·have e6:((60:Int) < (x.text.length:Int))=False:=Jk
       rw[show Jca x=false by simp[Jca,g5,g6],Gg]at hinv
       simp -implicitDefEqProofs only[go_sem,Tr.row,Jc,d1,hg,Nd.cv,hxl,e5,e6]
       refine ⟨by omega,by omega,Ji,i+1,⟨by omega,hinv⟩,by omega,?_⟩
       simp[forget,Tr.row]
    ·have d1:((i:Int) < (t.nodes.length:Int))=False:=Jk
     rw[List.drop_eq_nil_of_le (by omega)]at hinv
     simp -implicitDefEqProofs only[go_sem,Tr.row,Jc,d1,hinv]
     simp
   )
theorem Tr.Ty.fit3 {t:Tr}(h:t.Ty) (hv:JaX t=false):t.Fit:=by
 unfold JaX JeQ at hv
 simp only[Gb,Ga,decide_eq_false_iff_not,List.any_eq_false]at hv
 obtain ⟨⟨⟨_,h2⟩,h3⟩,h4⟩:=hv
 refine ⟨by omega,by omega,fun x hx=>?_,h.items⟩
 have hn:=h4 x hx
 unfold Jca at hn
 simp only[Bool.not_eq_true,Gb,decide_eq_false_iff_not]at hn
 have ty:=h.nodes x hx
 exact ⟨ty.k,by omega,ty.n,by omega,ty.kids,ty.pl⟩
theorem lawSame (a b:List Int) (ha:a.length≤100000):Fn Tryz.prog 19 [.rslc 1 (iz a) none,.rslc 1 (iz b) none] (.bool (a == b)):=by
 refine Ja c19_ok rfl rfl fun N=>?_
 simp -implicitDefEqProofs only[c19,go_sem]
 refine JU (Ja7 a b ha) ?_
 simp -implicitDefEqProofs only[go_sem]
section
section
variable {t:Tr}{o:List Int}(g:GoodT t o) (ht:t.Fit)
include g ht
end
end
section
theorem Jc9 (t:Tr) (hm:t.nodes.length≤100000) (d:Int) (k:Nat):Fn Tryz.prog 18 [t.cv,.int .i64 d,.int .u8 (k:Int)] (.bool (inT t d && (k == 0 || (nd t d.toNat).k == k))):=by
 refine Ja c18_ok rfl rfl fun N=>?_
 by_cases h0:0≤d
 ·have e0:decide (0≤d)=true:=decide_eq_true h0
  by_cases h1:d < t.nodes.length
  ·have e1:decide (d < (t.nodes.length:Int))=true:=decide_eq_true h1
   have hin:inT t d=true:=Qv.2 ⟨h0,h1⟩
   obtain ⟨d,rfl⟩:∃ d':Nat,d=d':=⟨d.toNat,by omega⟩
   have hg:=Ki (t:=t) (i:=d) (by omega)
   rw[hin,Bool.true_and,Int.toNat_natCast]
   cases hk:(k == 0) with
   |true=>
    simp -implicitDefEqProofs only[c18,go_sem,Tr.cv,Tr.row,Jc,e0,e1,kbE,hk,Gc]
   |false=>
    have en:=Jcp k (nd t d).k
    simp -implicitDefEqProofs only[c18,go_sem,Tr.cv,Tr.row,Jc,e0,e1,kbE,hk,hg,Nd.cv,en,Gg]
    omega
  ·have e1:decide (d < (t.nodes.length:Int))=false:=decide_eq_false h1
   have hin:inT t d=false:=by rw[Gd]; intro h; exact h1 (Qv.1 h).2
   rw[hin,Gf]
   simp -implicitDefEqProofs only[c18,go_sem,Tr.cv,Tr.row,Jc,e0,e1]
 ·have e0:decide (0≤d)=false:=decide_eq_false h0
  have hin:inT t d=false:=by rw[Gd]; intro h; exact h0 (Qv.1 h).1
  rw[hin,Gf]
  simp -implicitDefEqProofs only[c18,go_sem,Tr.cv,Tr.row,e0]
section
variable {t:Tr}{o:List Int}(g:GoodT t o) (ht:t.Fit)
include g ht
omit ht in
end
end
end Go.Cm
end
end
