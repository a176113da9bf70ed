/-
  A part of the proof. Conditions: none.
-/
import Derived.Test.YtneijgchknmeaaaGreatDoorNP12
import Derived.Test.YtneijgchknmeaaaGreatDoorNP50
import Derived.Test.YtneijgchknmeaaaGreatDoorNP47
set_option linter.unusedSimpArgs false
set_option linter.unusedVariables false
open Bool renaming and_eq_false_iff→Ga,or_eq_false_iff→Gb,true_or→Gc
noncomputable section
section
set_option maxRecDepth 100000
set_option maxHeartbeats 4000000
open Go.Proofs
namespace Go.Cm
def JeD (t:Tr):Bool:=(decide (160 < t.nodes.length) && decide (t.nodes.length≤700)) || decide (1400 < t.nodes.length) || decide (40 < t.items.length)
def JaJ (t:Tr):Bool:=JeD t || t.nodes.any Jde
theorem Jf3 (t:Tr):Fn Tryz.prog 9 [t.cv] (.bool (JaJ t)):=by
 refine Ja c9_ok rfl rfl fun N=>?_
 have hil:(iz t.items).length=t.items.length:=Jf
 cases hH:JeD t with
 |true=>
  have hv:JaJ t=true:=by unfold JaJ; rw[hH]; rfl
  rw[hv]
  unfold JeD at hH
  have e1:((160:Int) < (t.nodes.length:Int))=(160 < t.nodes.length):=propext (by omega)
  have e2:((t.nodes.length:Int)≤700)=(t.nodes.length≤700):=propext (by omega)
  have e3:((1400:Int) < (t.nodes.length:Int))=(1400 < t.nodes.length):=propext (by omega)
  have e4:((40:Int) < (t.items.length:Int))=(40 < t.items.length):=propext (by omega)
  by_cases g1:160 < t.nodes.length <;> by_cases g2:t.nodes.length≤700 <;> by_cases g3:1400 < t.nodes.length <;> by_cases g4:40 < t.items.length <;> first | (exfalso; omega) | (exfalso; simp[g1,g2,g3,g4]at hH; done) | (simp -implicitDefEqProofs only[c9,go_sem,Tr.cv,Tr.row,Jc,hil,e1,e2,e3,e4,g1,g2,g3,g4])
 |false=>
  unfold JeD at hH
  simp only[Gb,Ga,decide_eq_false_iff_not]at hH
  obtain ⟨⟨h1,h2⟩,h3⟩:=hH
  have e3:((1400:Int) < (t.nodes.length:Int))=False:=eq_false (by omega)
  have e4:((40:Int) < (t.items.length:Int))=False:=eq_false (by omega)
  have hv:JaJ t=t.nodes.any Jde:=by
   unfold JaJ JeD
   have:(decide (160 < t.nodes.length) && decide (t.nodes.length≤700))=false:=by
    simp only[Ga,decide_eq_false_iff_not]; exact h1
   rw[this,decide_eq_false h2,decide_eq_false h3]; rfl
  rw[hv]
  by_cases g1:160 < t.nodes.length
  case' pos=>
   have e1:((160:Int) < (t.nodes.length:Int))=True:=eq_true (by omega)
   have e2:((t.nodes.length:Int)≤700)=False:=eq_false (by omega)
   simp -implicitDefEqProofs only[c9,go_sem,Tr.cv,Tr.row,Jc,hil,e1,e2,e3,e4]
  case' neg=>
   have e1:((160:Int) < (t.nodes.length:Int))=False:=eq_false (by omega)
   simp -implicitDefEqProofs only[c9,go_sem,Tr.cv,Tr.row,Jc,hil,e1,e3,e4]
  all_goals (
   refine Jh (id:=0) (z:=2) (els:=[t.row]) rfl rfl ?_
   simp only[go_sem,J3,Ku,frz,KO,Tr.row]
   refine JA (I:=fun i:Nat=>i≤t.nodes.length∧t.nodes.any Jde=(t.nodes.drop i).any Jde) (inv:=fun i=>gp [(1,.rptr t.row),(1,.int .i64 (i:Int))] 47) (hp:=fun _=>[.dead]) (μ:=fun i=>t.nodes.length-i) 0 ⟨by omega,rfl⟩ ?_ rfl ?_
   ·simp[forget,gp,Tr.row]
   ·rintro i ⟨hi,hinv⟩
    by_cases hlt:i < t.nodes.length
    ·have d1:((i:Int) < (t.nodes.length:Int))=True:=eq_true (by omega)
     have hg:=KE hlt
     rw[List.drop_eq_getElem_cons hlt,List.any_cons,← rowg hlt]at hinv
     generalize t.nodes.getD i default=x at hg hinv
     have hxl:(iz x.kids).length=x.kids.length:=Jf
     by_cases g5:30 < x.kids.length
     ·have e5:((30:Int) < (x.kids.length:Int))=True:=eq_true (by omega)
      rw[show Jde x=true by simp[Jde,g5],Gc]at hinv
      simp -implicitDefEqProofs only[go_sem,Tr.row,Jc,d1,hg,Nd.cv,hxl,e5,hinv]
      omega
     ·have e5:((30:Int) < (x.kids.length:Int))=False:=eq_false (by omega)
      by_cases g6:60 < x.text.length
      ·have e6:((60:Int) < (x.text.length:Int))=True:=eq_true (by omega)
       rw[show Jde x=true by simp[Jde,g6],Gc]at hinv
       simp -implicitDefEqProofs only[go_sem,Tr.row,Jc,d1,hg,Nd.cv,hxl,e5,e6,hinv]
       omega
      ·have e6:((60:Int) < (x.text.length:Int))=False:=eq_false (by omega)
       rw[show Jde x=false by simp[Jde,g5,g6],Bool.false_or]at hinv
       simp -implicitDefEqProofs only[go_sem,Tr.row,Jc,d1,hg,Nd.cv,hxl,e5,e6]
       refine ⟨by omega,by omega,Ji (by omega) (by omega),i+1,⟨by omega,hinv⟩,by omega,?_⟩
       simp[forget,Tr.row]
    ·have d1:((i:Int) < (t.nodes.length:Int))=False:=eq_false (by omega)
     rw[List.drop_eq_nil_of_le (by omega)]at hinv
     simp -implicitDefEqProofs only[go_sem,Tr.row,Jc,d1,hinv]
     simp
   )
theorem Tr.Ty.fit3 {t:Tr}(h:t.Ty) (hv:JaJ t=false):t.Fit:=by
 unfold JaJ JeD at hv
 simp only[Gb,Ga,decide_eq_false_iff_not,List.any_eq_false]at hv
 obtain ⟨⟨⟨_,h2⟩,h3⟩,h4⟩:=hv
 refine ⟨by omega,by omega,fun x hx=>?_,h.items⟩
 have hn:=h4 x hx
 unfold Jde at hn
 simp only[Bool.not_eq_true,Gb,decide_eq_false_iff_not]at hn
 have ty:=h.nodes x hx
 exact ⟨ty.k,by omega,ty.n,by omega,ty.kids,ty.pl⟩
theorem lawSame (a b:List Int) (ha:a.length≤100000):Fn Tryz.prog 15 [.rslc 1 (iz a) none,.rslc 1 (iz b) none] (.bool (a == b)):=by
 refine Ja c15_ok rfl rfl fun N=>?_
 simp -implicitDefEqProofs only[c15,go_sem]
 refine JV (JaU a b ha) ?_
 simp -implicitDefEqProofs only[go_sem]
theorem lawSameE:Fn Tryz.prog 15 [.nils,.rslc 1 [] none] (.bool true):=
 (lawSame [] [] (by simp)).args ⟨wk.nils,wk.refl _,trivial⟩
theorem resolveBad (t:Tr) (ht:t.Fit) (hv:JaJ t=false) (h:chk t≠0):Fn Tryz.prog 3 [t.cv] (.bool true):=by
 have hV:=Jf3 t
 rw[hv]at hV
 have e1:((chk t) == (chk t))=true:=by simp
 refine Ja c3_ok rfl rfl fun N=>?_
 simp -implicitDefEqProofs only[c3,go_sem,Tr.cv,Tr.row]
 refine JV hV ?_
 simp -implicitDefEqProofs only[go_sem,Tr.row]
 refine JV (refCopy t ht) ?_
 simp -implicitDefEqProofs only[go_sem,Tr.cv,Tr.row]
 refine JV (nResolveE t ht h) ?_
 simp -implicitDefEqProofs only[go_sem,Tr.cv,Tr.row]
 refine JV (refResolveE t ht h) ?_
 simp -implicitDefEqProofs only[go_sem,Tr.cv,Tr.row]
 refine JV (JfR t ht) ?_
 simp -implicitDefEqProofs only[go_sem,e1]
 refine JO (gok rfl) lawSameE ?_
 simp -implicitDefEqProofs only[go_sem]
 refine JO (gok rfl) Jgf ?_
 simp -implicitDefEqProofs only[go_sem]
theorem resolveGood {t:Tr}{o:List Int}(g:GoodT t o) (ht:t.Fit) (hv:JaJ t=false):Fn Tryz.prog 3 [t.cv] (.bool true):=by
 have hmany:=g.many
 have hV:=Jf3 t
 rw[hv]at hV
 have hN:=Yp g ht
 have hR:=refResolve g ht
 rw[← res_eq g]at hR
 by_cases he:(JaE t o).2=0
 ·rw[if_pos he]at hN hR
  have e0:((0:Int) == 0)=true:=rfl
  have hS:=lawSame (ofL t o) (ofL t o) (by rw[Xl]; omega)
  rw[show (ofL t o == ofL t o)=true by simp]at hS
  refine Ja c3_ok rfl rfl fun N=>?_
  simp -implicitDefEqProofs only[c3,go_sem,Tr.cv,Tr.row]
  refine JV hV ?_
  simp -implicitDefEqProofs only[go_sem,Tr.row]
  refine JV (refCopy t ht) ?_
  simp -implicitDefEqProofs only[go_sem,Tr.cv,Tr.row]
  refine JV hN ?_
  simp -implicitDefEqProofs only[go_sem,Tr.cv,Tr.row]
  refine JV hR ?_
  simp -implicitDefEqProofs only[go_sem,Tr.cv,Tr.row]
  refine JV (JfR t ht) ?_
  simp -implicitDefEqProofs only[go_sem,e0]
  refine JO (gok rfl) hS ?_
  simp -implicitDefEqProofs only[go_sem]
  refine JO (gok rfl) Jgf ?_
  simp -implicitDefEqProofs only[go_sem]
 ·rw[if_neg he]at hN hR
  have e0:((JaE t o).2 == (JaE t o).2)=true:=by simp
  have e1:(((JaE t o).1:Int) == ((JaE t o).1:Int))=true:=by simp
  refine Ja c3_ok rfl rfl fun N=>?_
  simp -implicitDefEqProofs only[c3,go_sem,Tr.cv,Tr.row]
  refine JV hV ?_
  simp -implicitDefEqProofs only[go_sem,Tr.row]
  refine JV (refCopy t ht) ?_
  simp -implicitDefEqProofs only[go_sem,Tr.cv,Tr.row]
  refine JV hN ?_
  simp -implicitDefEqProofs only[go_sem,Tr.cv,Tr.row]
  refine JV hR ?_
  simp -implicitDefEqProofs only[go_sem,Tr.cv,Tr.row]
  refine JV (JfR t ht) ?_
  simp -implicitDefEqProofs only[go_sem,e0,e1]
  refine JO (gok rfl) lawSameE ?_
  simp -implicitDefEqProofs only[go_sem]
  refine JO (gok rfl) Jgf ?_
  simp -implicitDefEqProofs only[go_sem]
theorem resolveAll (t:Tr) (ty:t.Ty):Fn Tryz.prog 3 [t.cv] (.bool true):=by
 cases hv:JaJ t with
 |true=>
  have hV:=Jf3 t
  rw[hv]at hV
  refine Ja c3_ok rfl rfl fun N=>?_
  simp -implicitDefEqProofs only[c3,go_sem,Tr.cv,Tr.row]
  refine JV hV ?_
  simp -implicitDefEqProofs only[go_sem,Tr.row]
  refine JV Jgf ?_
  simp -implicitDefEqProofs only[go_sem]
 |false=>
  have ht:=ty.fit3 hv
  by_cases h:chk t=0
  ·obtain ⟨o,g⟩:=(Jc2 t).1 h
   exact resolveGood g ht hv
  ·exact resolveBad t ht hv h
end Go.Cm
end
end
