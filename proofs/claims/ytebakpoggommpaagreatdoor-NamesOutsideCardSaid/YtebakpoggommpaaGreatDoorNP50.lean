/-
  A part of the proof. Conditions: none.
-/
import Derived.Test.YtebakpoggommpaaGreatDoorNP13
import Derived.Test.YtebakpoggommpaaGreatDoorNP43
set_option linter.unusedSimpArgs false
set_option linter.unusedVariables false
open Go.Proofs.Tryz renaming prog→Gb
open Bool renaming not_true→Gh,not_false→Gj,false_and→Gn,and_eq_true→Gr,true_and→Gq,or_eq_false_iff→Gz,eq_iff_iff→Gw,eq_false_iff→GA,false_or→GD,and_eq_false_iff→GY,true_or→GH,or_false→GZ,false_eq_true→Hl,not_eq_true'→Hm,not_eq_true→Ho,and_true→Hq
open List renaming map_cons→Ga,map_nil→Gc,length_cons→Gd,getElem?_eq_getElem→Gi,getD_eq_getElem?_getD→Gl,drop_zero→Gg,mem_filter→Gm,length_nil→Gp,getElem?_eq_some_iff→GG,getElem_mem→Gs,length_append→Gx,mem_range→Gt,append_nil→Gy,length_filter_le→GI,mem_of_mem_drop→GJ,mem_of_getElem?→GK,drop_succ_cons→GL,drop_eq_getElem_cons→G5,range→Gu,cons_append→GM,take_of_length_le→G6,nil_append→GN,find?_some→GQ,take_succ_cons→G7,set_cons_zero→G8,set_cons_succ→G9,map_replicate→Ha,filter_map→Hd,take_zero→He,replicate→Hf,pairwise_iff_getElem→Hr,exists_mem_of_ne_nil→Ht,drop_eq_nil_of_le→Hu,length_mergeSort→Hw,getElem_of_mem→Hy,ne_nil_of_mem→Hz,mergeSort_nil→HV,contains_cons→HY,getElem?_inj→HZ,filter_congr→H5,any_eq_false→H6,length_drop→H7,drop_length→H8,range_succ→H9,mem_append→La,any_append→Lb,any_cons→Lc,all_cons→Ld,mem_map→Le,all_nil→Lf
open Int renaming toNat_natCast→Gf,le_refl→Gv
open Nat renaming mul_le_mul_right→Hg,zero_add→GR,lt_or_ge→GU,add_zero→GV,le_refl→GX,mul_le_mul→Lg,le_trans→Lh
noncomputable section
section
set_option maxRecDepth 100000
set_option maxHeartbeats 4000000
open Go.Proofs
namespace Go.Cm
theorem Jfh (a b:List Int) (ha:a.length≤100000):Fn Gb 16 [.rslc 1 (iz a) none,.rslc 1 (iz b) none] (.bool (a == b)):=by
 refine Jb c16_ok rfl rfl fun N=>?_
 simp -implicitDefEqProofs only[c16,go_sem]
 refine JM (YA a b ha) ?_
 simp -implicitDefEqProofs only[go_sem]
theorem lawTree {l:List UInt8}{t:Tr}(h:Yf l=some t):Fn Gb 34 [S l] t.cv:=by
 refine Jb c34_ok rfl rfl fun N=>?_
 simp -implicitDefEqProofs only[c34,go_sem]
 refine JM (refTreeK h).1 ?_
 simp -implicitDefEqProofs only[go_sem,Tr.cv,Tr.row,splice]
theorem getK {l:List UInt8}(h:(Yf l).isSome=true):Yf l=some ((Yf l).getD ⟨[],[]⟩):=by
 cases hx:Yf l with
 |none=>rw[hx]at h; cases h
 |some t=>rfl
def kx0:List UInt8:=[100,101,102,32,109,97,105,110,40,41,32,45,62,32,105,110,116,32,123,32,120,32,61,32,121,32,43,32,49,59,32,121,32,61,32,104,101,97,100,40,115,41,59,32,115,32,61,32,50,32,58,58,32,114,59,32,114,32,61,32,51,32,58,58,32,115,59,32,103,105,118,101,32,120,32,125]
def JdK:Tr:=(Yf kx0).getD ⟨[],[]⟩
def ko0:List Int:=(Js (JC JdK.nodes) []).getD []
theorem kf0:((Yf kx0).isSome && chk JdK == 0 && (Js (JC JdK.nodes) []).isSome && QF JdK ko0 == (0,0))=true:=by decide +kernel
def kx1:List UInt8:=[100,101,102,32,102,40,41,32,45,62,32,105,110,116,32,123,32,120,32,61,32,120,32,43,32,49,59,32,103,105,118,101,32,120,32,125]
def kt1t:Tr:=(Yf kx1).getD ⟨[],[]⟩
def ko1:List Int:=(Js (JC kt1t.nodes) []).getD []
theorem kf1:((Yf kx1).isSome && chk kt1t == 0 && (Js (JC kt1t.nodes) []).isSome && QF kt1t ko1 == (5,9))=true:=by decide +kernel
def kx2:List UInt8:=[100,101,102,32,102,40,41,32,45,62,32,115,116,114,101,97,109,32,105,110,116,32,123,32,115,32,61,32,108,111,111,112,40,105,32,58,61,32,48,41,32,119,104,105,108,101,32,105,32,60,32,50,32,100,111,32,123,32,110,101,120,116,32,105,32,61,32,104,101,97,100,40,115,41,59,32,125,32,103,105,118,101,40,49,32,58,58,32,115,41,59,32,103,105,118,101,32,115,32,125]
def kt2t:Tr:=(Yf kx2).getD ⟨[],[]⟩
def ko2:List Int:=(Js (JC kt2t.nodes) []).getD []
theorem kf2:((Yf kx2).isSome && chk kt2t == 0 && (Js (JC kt2t.nodes) []).isSome && QF kt2t ko2 == (16,9))=true:=by decide +kernel
def kx3:List UInt8:=[100,101,102,32,102,40,41,32,45,62,32,115,116,114,101,97,109,32,105,110,116,32,123,32,115,32,61,32,108,111,111,112,40,114,32,58,61,32,49,32,58,58,32,115,41,32,119,104,105,108,101,32,102,97,108,115,101,32,100,111,32,123,32,125,32,103,105,118,101,40,114,41,59,32,103,105,118,101,32,115,32,125]
def kt3t:Tr:=(Yf kx3).getD ⟨[],[]⟩
def ko3:List Int:=(Js (JC kt3t.nodes) []).getD []
theorem kf3:((Yf kx3).isSome && chk kt3t == 0 && (Js (JC kt3t.nodes) []).isSome && QF kt3t ko3 == (0,0))=true:=by decide +kernel
def kx4:List UInt8:=[100,101,102,32,102,40,97,58,32,105,110,116,41,32,45,62,32,105,110,116,32,123,32,97,32,61,32,49,59,32,103,105,118,101,32,97,32,125]
def kt4t:Tr:=(Yf kx4).getD ⟨[],[]⟩
def ko4:List Int:=(Js (JC kt4t.nodes) []).getD []
theorem kf4:((Yf kx4).isSome && chk kt4t == 0 && (Js (JC kt4t.nodes) []).isSome && QF kt4t ko4 == (3,6))=true:=by decide +kernel
def kx5:List UInt8:=[100,101,102,32,102,40,41,32,45,62,32,105,110,116,32,123,32,103,105,118,101,32,103,40,49,41,32,125]
def kt5t:Tr:=(Yf kx5).getD ⟨[],[]⟩
def ko5:List Int:=(Js (JC kt5t.nodes) []).getD []
theorem kf5:((Yf kx5).isSome && chk kt5t == 0 && (Js (JC kt5t.nodes) []).isSome && QF kt5t ko5 == (2,10))=true:=by decide +kernel
theorem kRes {x:List UInt8}{t:Tr}{o:List Int}{a:Nat}{b:Int}(ht:t=(Yf x).getD ⟨[],[]⟩) (ho:o=(Js (JC t.nodes) []).getD []) (h:((Yf x).isSome && chk t == 0 && (Js (JC t.nodes) []).isSome && QF t o == (a,b))=true) :
  Fn Gb 34 [S x] t.cv∧t.Fit∧GoodT t o∧QF t o=(a,b)∧Fn Gb 9 [t.cv] (if b=0 then .tup [.agg [.rslc 1 (iz (ofL t o)) none],.int .i64 0,.int .i64 0] else .tup [.agg [.nils],.int .i64 (a:Int),.int .i64 b]):=by
 simp only[Gr,beq_iff_eq]at h
 obtain ⟨⟨⟨h1,h2⟩,h3⟩,h4⟩:=h
 have hk:=getK h1
 rw[← ht]at hk
 have hfit:=okT_fit (refTreeK hk).2
 have hg:GoodT t o:=by
  obtain ⟨o',g⟩:=(Jcw t).1 h2
  have hh:=g.ord.h
  rw[hh]at ho
  rw[ho]; exact g
 have hr:=nResolve hg hfit
 rw[h4]at hr
 exact ⟨lawTree hk,hfit,hg,h4,hr⟩
theorem kN:((nd JdK 5).k == 41 && (nd JdK 9).k == 41 && (nd JdK 21).k == 40 && JdK.nodes.length == 23 && KW JdK ko0 (ofL JdK ko0) 5 == [9] && KW JdK ko0 (ofL JdK ko0) 9 == [14] && ordL JdK ko0 (ofL JdK ko0) 21 == [14,9,5,19] && (ofL JdK ko0).length == 23 && (ofL JdK ko0).getD 2 0 == 6)=true:=by decide +kernel
theorem Jfs:Fn Gb 7 [] (.bool true):=by
 obtain ⟨a0,f0,g0,e0,r0⟩:=kRes (x:=kx0) (t:=JdK) (o:=ko0) rfl rfl kf0
 obtain ⟨a1,f1,g1,e1,r1⟩:=kRes (x:=kx1) (t:=kt1t) (o:=ko1) rfl rfl kf1
 obtain ⟨a2,f2,g2,e2,r2⟩:=kRes (x:=kx2) (t:=kt2t) (o:=ko2) rfl rfl kf2
 obtain ⟨a3,f3,g3,e3,r3⟩:=kRes (x:=kx3) (t:=kt3t) (o:=ko3) rfl rfl kf3
 obtain ⟨a4,f4,g4,e4,r4⟩:=kRes (x:=kx4) (t:=kt4t) (o:=ko4) rfl rfl kf4
 obtain ⟨a5,f5,g5,e5,r5⟩:=kRes (x:=kx5) (t:=kt5t) (o:=ko5) rfl rfl kf5
 have hN:=kN
 simp only[Gr,beq_iff_eq]at hN
 obtain ⟨⟨⟨⟨⟨⟨⟨⟨n1,n2⟩,n3⟩,n4⟩,n5⟩,n6⟩,n7⟩,n8⟩,n9⟩:=hN
 have hE:(QF JdK ko0).2=0:=congrArg Prod.snd e0
 have N5:=nNeedsF g0 f0 hE 5 (by rw[n4]; decide) n1
 have N9:=nNeedsF g0 f0 hE 9 (by rw[n4]; decide) n2
 have O21:=nOrderF g0 f0 hE (b:=21) (by rw[n4]; decide) (.inl n3)
 rw[n5]at N5
 rw[n6]at N9
 rw[n7]at O21
 rw[if_pos rfl]at r0 r3
 rw[if_neg (by decide)]at r1 r2 r4 r5
 have hl1:(iz (ofL JdK ko0)).length=23:=by rw[Jf,n8]
 have hl2:(ndz JdK.nodes).length=23:=by rw[Jd,n4]
 have hg2:(iz (ofL JdK ko0)).getD 2 []=[.int .i64 6]:=by rw[← n9]; exact JQ (by rw[n8]; decide)
 refine Jb c7_ok rfl rfl fun N=>?_
 simp -implicitDefEqProofs only[c7,go_sem]
 refine JM a0 ?_
 simp -implicitDefEqProofs only[go_sem,Tr.cv,Tr.row,splice]
 refine JM r0 ?_
 simp -implicitDefEqProofs only[go_sem,Tr.cv,Tr.row,splice]
 refine JM N5 ?_
 simp -implicitDefEqProofs only[go_sem]
 refine JM N9 ?_
 simp -implicitDefEqProofs only[go_sem]
 refine JM O21 ?_
 simp -implicitDefEqProofs only[go_sem]
 refine JM a1 ?_
 simp -implicitDefEqProofs only[go_sem,Tr.cv,Tr.row,splice]
 refine JM r1 ?_
 simp -implicitDefEqProofs only[go_sem,Tr.cv,Tr.row,splice]
 refine JM a2 ?_
 simp -implicitDefEqProofs only[go_sem,Tr.cv,Tr.row,splice]
 refine JM r2 ?_
 simp -implicitDefEqProofs only[go_sem,Tr.cv,Tr.row,splice]
 refine JM a3 ?_
 simp -implicitDefEqProofs only[go_sem,Tr.cv,Tr.row,splice]
 refine JM r3 ?_
 simp -implicitDefEqProofs only[go_sem,Tr.cv,Tr.row,splice]
 refine JM a4 ?_
 simp -implicitDefEqProofs only[go_sem,Tr.cv,Tr.row,splice]
 refine JM r4 ?_
 simp -implicitDefEqProofs only[go_sem,Tr.cv,Tr.row,splice]
 refine JM a5 ?_
 simp -implicitDefEqProofs only[go_sem,Tr.cv,Tr.row,splice]
 refine JM r5 ?_
 simp -implicitDefEqProofs only[go_sem,Tr.cv,Tr.row,splice,hl1,hl2]
 have h9:Fn Gb 16 [.rslc 1 (iz [9]) none,.rslc 1 [[.int .i64 9]] none] (.bool true):=Jfh [9] [9] (by decide)
 have h14:Fn Gb 16 [.rslc 1 (iz [14]) none,.rslc 1 [[.int .i64 14]] none] (.bool true):=Jfh [14] [14] (by decide)
 have hO:Fn Gb 16 [.rslc 1 (iz [14,9,5,19]) none,.rslc 1 [[.int .i64 14],[.int .i64 9],[.int .i64 5],[.int .i64 19]] none] (.bool true):=Jfh [14,9,5,19] [14,9,5,19] (by decide)
 refine Je (id:=7) (z:=1) (els:=[[.int .i64 9]]) rfl rfl ?_
 simp -implicitDefEqProofs only[go_sem,JS,frz,Kb,JZ,JL]
 refine JM h9 ?_
 simp -implicitDefEqProofs only[go_sem]
 refine Je (id:=8) (z:=1) (els:=[[.int .i64 14]]) rfl rfl ?_
 simp -implicitDefEqProofs only[go_sem,JS,frz,Kb,JZ,JL]
 refine JP (.inr ⟨124,true,rfl,rfl⟩) h14 ?_
 simp -implicitDefEqProofs only[go_sem]
 refine Je (id:=9) (z:=1) (els:=[[.int .i64 14],[.int .i64 9],[.int .i64 5],[.int .i64 19]]) rfl rfl ?_
 simp -implicitDefEqProofs only[go_sem,JS,frz,Kb,JZ,JL]
 refine JP (.inr ⟨129,true,rfl,rfl⟩) hO ?_
 simp -implicitDefEqProofs only[go_sem,hl1,hg2,show (((5:Nat):Int) == 5)=true from rfl,show (((3:Nat):Int) == 3)=true from rfl,show (((2:Nat):Int) == 2)=true from rfl]
 decide
def JdS (t:Tr):Bool:=(decide (160 < t.nodes.length) && decide (t.nodes.length≤700)) || decide (1400 < t.nodes.length) || decide (40 < t.items.length)
def JaN (t:Tr):Bool:=JdS t || t.nodes.any JcC
theorem Jfg (t:Tr):Fn Gb 10 [t.cv] (.bool (JaN t)):=by
 refine Jb c10_ok rfl rfl fun N=>?_
 have hil:(iz t.items).length=t.items.length:=Jf
 cases hH:JdS t with
 |true=>
  have hv:JaN t=true:=by unfold JaN; rw[hH]; rfl
  rw[hv]
  unfold JdS at hH
  have e1:((160:Int) < (t.nodes.length:Int))=(160 < t.nodes.length):=propext (by omega)
  have e2:((t.nodes.length:Int)≤700)=(t.nodes.length≤700):=propext (by omega)
  have e3:((1400:Int) < (t.nodes.length:Int))=(1400 < t.nodes.length):=propext (by omega)
  have e4:((40:Int) < (t.items.length:Int))=(40 < t.items.length):=propext (by omega)
  by_cases g1:160 < t.nodes.length <;> by_cases g2:t.nodes.length≤700 <;> by_cases g3:1400 < t.nodes.length <;> by_cases g4:40 < t.items.length <;> first | (exfalso; omega) | (exfalso; simp[g1,g2,g3,g4]at hH; done) | (simp -implicitDefEqProofs only[c10,go_sem,Tr.cv,Tr.row,Jd,hil,e1,e2,e3,e4,g1,g2,g3,g4])
 |false=>
  unfold JdS at hH
  simp only[Gz,GY,decide_eq_false_iff_not]at hH
  obtain ⟨⟨h1,h2⟩,h3⟩:=hH
  have e3:((1400:Int) < (t.nodes.length:Int))=False:=Jn
  have e4:((40:Int) < (t.items.length:Int))=False:=Jn
  have hv:JaN t=t.nodes.any JcC:=by
   unfold JaN JdS
   have:(decide (160 < t.nodes.length) && decide (t.nodes.length≤700))=false:=by
    simp only[GY,decide_eq_false_iff_not]; exact h1
   rw[this,decide_eq_false h2,decide_eq_false h3]; rfl
  rw[hv]
  by_cases g1:160 < t.nodes.length
  case' pos=>
   have e1:((160:Int) < (t.nodes.length:Int))=True:=Jo
   have e2:((t.nodes.length:Int)≤700)=False:=Jn
   simp -implicitDefEqProofs only[c10,go_sem,Tr.cv,Tr.row,Jd,hil,e1,e2,e3,e4]
  case' neg=>
   have e1:((160:Int) < (t.nodes.length:Int))=False:=Jn
   simp -implicitDefEqProofs only[c10,go_sem,Tr.cv,Tr.row,Jd,hil,e1,e3,e4]
  all_goals (
   refine Je (id:=0) (z:=2) (els:=[t.row]) rfl rfl ?_
   simp only[go_sem,JS,Kb,frz,KI,Tr.row]
   refine JA (I:=fun i:Nat=>i≤t.nodes.length∧t.nodes.any JcC=(t.nodes.drop i).any JcC) (inv:=fun i=>gp [(1,.rptr t.row),(1,.int .i64 (i:Int))] 47) (hp:=fun _=>[.dead]) (μ:=fun i=>t.nodes.length-i) 0 ⟨by omega,rfl⟩ ?_ rfl ?_
   ·simp[forget,gp,Tr.row]
   ·rintro i ⟨hi,hinv⟩
    by_cases hlt:i < t.nodes.length
    ·have d1:((i:Int) < (t.nodes.length:Int))=True:=Jo
     have hg:=Qb hlt
     rw[G5 hlt,Lc,← rowg hlt]at hinv
     generalize t.nodes.getD i default=x at hg hinv
     have hxl:(iz x.kids).length=x.kids.length:=Jf
     by_cases g5:30 < x.kids.length
     ·have e5:((30:Int) < (x.kids.length:Int))=True:=Jo
      rw[show JcC x=true by simp[JcC,g5],GH]at hinv
      simp -implicitDefEqProofs only[go_sem,Tr.row,Jd,d1,hg,Nd.cv,hxl,e5,hinv]
      omega
     ·have e5:((30:Int) < (x.kids.length:Int))=False:=Jn
      by_cases g6:60 < x.text.length
      ·have e6:((60:Int) < (x.text.length:Int))=True:=Jo
       rw[show JcC x=true by simp[JcC,g6],GH]at hinv
       simp -implicitDefEqProofs only[go_sem,Tr.row,Jd,d1,hg,Nd.cv,hxl,e5,e6,hinv]
       omega
      ·have e6:((60:Int) < (x.text.length:Int))=False:=Jn
       rw[show JcC x=false by simp[JcC,g5,g6],GD]at hinv
       simp -implicitDefEqProofs only[go_sem,Tr.row,Jd,d1,hg,Nd.cv,hxl,e5,e6]
       refine ⟨by omega,by omega,Jj,i+1,⟨by omega,hinv⟩,by omega,?_⟩
       simp[forget,Tr.row]
    ·have d1:((i:Int) < (t.nodes.length:Int))=False:=Jn
     rw[Hu (by omega)]at hinv
     simp -implicitDefEqProofs only[go_sem,Tr.row,Jd,d1,hinv]
     simp
   )
theorem Tr.Ty.fit3 {t:Tr}(h:t.Ty) (hv:JaN t=false):t.Fit:=by
 unfold JaN JdS at hv
 simp only[Gz,GY,decide_eq_false_iff_not,H6]at hv
 obtain ⟨⟨⟨_,h2⟩,h3⟩,h4⟩:=hv
 refine ⟨by omega,by omega,fun x hx=>?_,h.items⟩
 have hn:=h4 x hx
 unfold JcC at hn
 simp only[Ho,Gz,decide_eq_false_iff_not]at hn
 have ty:=h.nodes x hx
 exact ⟨ty.k,by omega,ty.n,by omega,ty.kids,ty.pl⟩
theorem lawSame (a b:List Int) (ha:a.length≤100000):Fn Gb 16 [.rslc 1 (iz a) none,.rslc 1 (iz b) none] (.bool (a == b)):=by
 refine Jb c16_ok rfl rfl fun N=>?_
 simp -implicitDefEqProofs only[c16,go_sem]
 refine JM (YA a b ha) ?_
 simp -implicitDefEqProofs only[go_sem]
section
section
variable {t:Tr}{o:List Int}(g:GoodT t o) (ht:t.Fit)
include g ht
end
end
section
theorem lawThere (t:Tr) (hm:t.nodes.length≤100000) (d:Int) (k:Nat):Fn Gb 24 [t.cv,.int .i64 d,.int .u8 (k:Int)] (.bool (inT t d && (k == 0 || (nd t d.toNat).k == k))):=by
 refine Jb c24_ok rfl rfl fun N=>?_
 by_cases h0:0≤d
 ·have e0:decide (0≤d)=true:=decide_eq_true h0
  by_cases h1:d < t.nodes.length
  ·have e1:decide (d < (t.nodes.length:Int))=true:=decide_eq_true h1
   have hin:inT t d=true:=XP.2 ⟨h0,h1⟩
   obtain ⟨d,rfl⟩:∃ d':Nat,d=d':=⟨d.toNat,by omega⟩
   have hg:=Kh (t:=t) (i:=d) (by omega)
   rw[hin,Gq,Gf]
   cases hk:(k == 0) with
   |true=>
    simp -implicitDefEqProofs only[c24,go_sem,Tr.cv,Tr.row,Jd,e0,e1,kbE,hk,GH]
   |false=>
    have en:=JbT k (nd t d).k
    simp -implicitDefEqProofs only[c24,go_sem,Tr.cv,Tr.row,Jd,e0,e1,kbE,hk,hg,Nd.cv,en,GD]
    omega
  ·have e1:decide (d < (t.nodes.length:Int))=false:=decide_eq_false h1
   have hin:inT t d=false:=by rw[GA]; intro h; exact h1 (XP.1 h).2
   rw[hin,Gn]
   simp -implicitDefEqProofs only[c24,go_sem,Tr.cv,Tr.row,Jd,e0,e1]
 ·have e0:decide (0≤d)=false:=decide_eq_false h0
  have hin:inT t d=false:=by rw[GA]; intro h; exact h0 (XP.1 h).1
  rw[hin,Gn]
  simp -implicitDefEqProofs only[c24,go_sem,Tr.cv,Tr.row,e0]
section
variable {t:Tr}{o:List Int}(g:GoodT t o) (ht:t.Fit)
include g ht
omit ht in
end
end
section
section
variable {t:Tr}{o:List Int}(g:GoodT t o)
include g
theorem item_blw {j u:Nat}(hu:u < t.nodes.length) (h:blw o j u):KE t j=KE t u:=by
 unfold KE
 congr 1
 refine H5 fun L hL=>?_
 rw[items_all g]at hL
 have h1:=K7.1 (Gm.1 hL).1
 have h2:(nd t L.toNat).k=65:=by simpa using (Gm.1 hL).2
 obtain ⟨L,rfl⟩:∃ L':Nat,L=L':=⟨L.toNat,by omega⟩
 rw[Gf]at h2
 have hj:=h.1
 rw[Gw,decide_eq_true_eq,decide_eq_true_eq]
 constructor
 ·intro h3; omega
 ·intro h3
  rcases GU L j with h4 | h4
  ·omega
  ·have hb:blw o L u:=⟨by omega,by have:=h.2; omega⟩
   obtain ⟨m,hm,_⟩:=Xr g hu hb (by omega)
   have:=(JfC g (d:=L) (by omega) h2).1
   omega
theorem sight_kind {d j:Nat}(hj:j < t.nodes.length) (hje:1≤(nd t j).k∧(nd t j).k≤29) (h:(d:Int)∈Yo t j):d < t.nodes.length∧KZ (nd t d).k=true∧(nd t d).k≠65∧inB t o d j=true:=by
 obtain ⟨h1,h2⟩:=Gm.1 h
 have hd:=K7.1 h1
 rw[sight_mem g (d:=d) (by omega) hj hje]at h2
 simp only[Gr,Hm,beq_eq_false_iff_ne]at h2
 exact ⟨by omega,h2.1,h2.2.1,h2.2.2⟩
end
theorem scan_none {t:Tr}{o:List Int}{a b:Int}:∀ {l:List Nat},Xi t o a b l=none→∀ i∈l,twN t i=false∧(K8 t i=true→KX t o i≠-1)
 |[],_,i,hi=>by simp at hi
 |x::l,h,i,hi=>by
  unfold Xi at h
  split at h
  ·cases h
  ·rename_i h1
   split at h
   ·cases h
   ·rename_i h2
    rcases List.mem_cons.1 hi with rfl | hi
    ·refine ⟨by simpa using h1,fun hs hm=>h2 (by rw[hs,hm]; rfl)⟩
    ·exact scan_none h i hi
theorem scan_err {t:Tr}{o:List Int}{r:Nat×Int}:∀ {l:List Nat},Xi t o 6 10 l=some r→r.2=6∨r.2=10
 |[],h=>by cases h
 |x::l,h=>by
  unfold Xi at h
  split at h
  ·cases h; exact .inl rfl
  ·split at h
   ·cases h; exact .inr rfl
   ·exact scan_err h
theorem Je3 {t:Tr}{o:List Int}(hE:(QF t o).2=0) {i:Nat}(hi:i < t.nodes.length):twN t i=false∧(K8 t i=true→KX t o i≠-1):=by
 unfold QF at hE
 cases hs:Xi t o 6 10 (Gu t.nodes.length) with
 |some r=>rw[hs]at hE; have:=scan_err hs; simp only at hE; omega
 |none=>exact scan_none hs i (Gt.2 hi)
section
variable {t:Tr}{o:List Int}(g:GoodT t o)
include g
theorem mean_name (hE:(QF t o).2=0) {j:Nat}(hj:j < t.nodes.length) (hk:(nd t j).k=3):KX t o j∈Yo t j∧0≤KX t o j∧KX t o j < t.nodes.length∧(nd t (KX t o j).toNat).text=(nd t j).text∧KZ (nd t (KX t o j).toNat).k=true:=by
 have h1:=(Je3 hE hj).2 (by unfold K8; rw[hk]; rfl)
 have hm:KX t o j=JaQ t (Yo t j) (nd t j).text:=by
  unfold KX; rw[if_pos hk,Jc0 g hj (by omega)]
 rw[hm]at h1 ⊢
 unfold JaQ at h1 ⊢
 cases hf:(Yo t j).find? fun d=>(nd t d.toNat).text == (nd t j).text with
 |none=>rw[hf]at h1; exact absurd rfl h1
 |some d=>
  simp only
  have h2:=List.mem_of_find?_eq_some hf
  have h3:=GQ hf
  have h4:=K7.1 (Gm.1 h2).1
  obtain ⟨d,rfl⟩:∃ d':Nat,d=d':=⟨d.toNat,by omega⟩
  exact ⟨h2,h4.1,h4.2,by simpa using h3,by rw[Gf]; exact (sight_kind g hj (by omega) h2).2.1⟩
omit g in
end
end
section
def YO (q:Nat→Bool) (f:Nat→Int) (i:Nat):List Int:=((Gu i).filter q).map f
theorem Jbj {q:Nat→Bool}{f:Nat→Int}{i:Nat}:YO q f (i+1)=YO q f i++if q i=true then [f i] else []:=by
 unfold YO
 rw[H9,List.filter_append,List.map_append,List.filter_cons,List.filter_nil]
 split <;> rfl
theorem YB {q:Nat→Bool}{f:Nat→Int}{i:Nat}:(YO q f i).length≤i:=by
 unfold YO
 rw[List.length_map]
 exact Lh (GI _ _) (by simp)
def upto (m:Nat):List Int:=(Gu m).map fun i:Nat=>(i:Int)
theorem XB {m:Nat}{x:Int}:x∈upto m↔0≤x∧x < m:=by
 unfold upto
 rw[Le]
 constructor
 ·rintro ⟨a,h,rfl⟩; have:=Gt.1 h; omega
 ·intro h; exact ⟨x.toNat,Gt.2 (by omega),by omega⟩
theorem Jcn {m:Nat}:(upto m).length=m:=by simp[upto]
theorem upto_asc {m:Nat}:(upto m).Pairwise (· < ·):=by
 unfold upto
 rw[List.pairwise_map]
 exact List.pairwise_lt_range.imp fun h=>by omega
def imgQ (q:Nat→Bool) (f:Nat→Int) (x:Int) (i:Nat):Bool:=q i && f i == x
def imgL (q:Nat→Bool) (f:Nat→Int) (n m:Nat):List Int:=(upto m).filter fun x=>(Gu n).any (imgQ q f x)
theorem img_asc {q:Nat→Bool}{f:Nat→Int}{n m:Nat}:(imgL q f n m).Pairwise (· < ·):=upto_asc.filter _
theorem img_le {q:Nat→Bool}{f:Nat→Int}{n m:Nat}:(imgL q f n m).length≤m:=Lh (GI _ _) (by rw[Jcn]; exact GX _)
theorem mem_img {q:Nat→Bool}{f:Nat→Int}{n m:Nat}{x:Int}:x∈imgL q f n m↔(0≤x∧x < m)∧∃ i,i < n∧q i=true∧f i=x:=by
 unfold imgL imgQ
 rw[Gm,XB,List.any_eq_true]
 simp only[Gt,Gr,beq_iff_eq]
theorem img_done {q:Nat→Bool}{f:Nat→Int}{n m:Nat}(h:∀ i,i < n→q i=true→0≤f i∧f i < m):Lib.compact ((YO q f n).mergeSort fun x y=>decide (x≤y))=imgL q f n m:=by
 refine Jdy (Jdn (JeS _)) img_asc fun x=>?_
 rw[XR,JeR,mem_img]
 unfold YO
 simp only[Le,Gm,Gt]
 constructor
 ·rintro ⟨i,⟨h1,h2⟩,rfl⟩
  exact ⟨h i h1 h2,i,h1,h2,rfl⟩
 ·rintro ⟨_,i,h1,h2,rfl⟩
  exact ⟨i,⟨h1,h2⟩,rfl⟩
def JfM (q:Nat→Bool) (f:Nat→Int) (m i:Nat):List Bool:=JN m fun x=>(Gu i).any (imgQ q f x)
theorem JfK {p:Nat→Bool}{i:Nat}:(Gu (i+1)).any p=((Gu i).any p || p i):=by
 rw[H9,Lb,Lc,List.any_nil,GZ]
theorem imgB_no {q:Nat→Bool}{f:Nat→Int}{m i:Nat}(h:q i=false):JfM q f m (i+1)=JfM q f m i:=
 Yc fun j _=>by rw[JfK,imgQ,h,Gn,GZ]
theorem imgB_yes {q:Nat→Bool}{f:Nat→Int}{m i k:Nat}(h:q i=true) (hf:f i=(k:Int)) (hk:k < m):(JfM q f m i).set k true=JfM q f m (i+1):=by
 refine JbZ hk (fun j _ hne=>?_) ?_
 ·rw[JfK,imgQ,hf,beq_eq_false_iff_ne.2 (show (k:Int)≠(j:Int) by omega),Bool.and_false,GZ]
 ·rw[JfK,imgQ,h,hf]; simp
theorem imgB_zero {q:Nat→Bool}{f:Nat→Int}{m:Nat}:JfM q f m 0=Hf m false:=by
 rw[← Yb]; rfl
theorem JcH {m:Nat}{f:Int→Bool}:setL (JN m f)=(upto m).filter f:=by
 unfold setL upto
 rw[J4,Hd]
 refine congrArg _ (H5 fun i hi=>?_)
 rw[JaC (Gt.1 hi)]; rfl
theorem imgB_all {q:Nat→Bool}{f:Nat→Int}{m n:Nat}:setL (JfM q f m n)=imgL q f n m:=JcH
def Yh (t:Tr) (o:List Int) (i d:Nat):Bool:=if (nd t d).k=28 then bkB t o i d (nd t d).n true else if (nd t d).k=47 then XF o i (JI t d) else XF o i d
def outQ (t:Tr) (o of:List Int) (d i:Nat):Bool:=(nd t i).k == 3 && (Yh t o i d && !XF o (of.getD i 0).toNat d)
def outL (t:Tr) (o of:List Int) (d:Nat):List Int:=imgL (outQ t o of d) (fun i=>of.getD i 0) t.nodes.length t.nodes.length
def callQ (t:Tr) (it i:Nat):Bool:=(nd t i).k == 26 && KE t i == it
def callF (t:Tr) (of:List Int) (i:Nat):Int:=(KE t (of.getD i 0).toNat:Int)
def Xv (t:Tr) (of:List Int) (it:Nat):List Int:=imgL (callQ t it) (callF t of) t.nodes.length t.items.length
def mainT:List UInt8:=[109,97,105,110]
def Ja2 (t:Tr):List Int:=(upto t.items.length).filter fun i=>(nd t (t.items.getD i.toNat 0).toNat).text == mainT
def liveL (t:Tr) (of:List Int):List Int:=bfs (fun x=>Xv t of x.toNat) (upto t.items.length) (Ja2 t) []
def deadL (t:Tr) (of:List Int):List Int:=(upto t.items.length).filter fun i=>!(liveL t of).contains i
theorem callL_ok {t:Tr}{of:List Int}:∀ x∈upto t.items.length,(∀ y∈Xv t of x.toNat,y∈upto t.items.length)∧(Xv t of x.toNat).length≤(upto t.items.length).length:=
 fun _ _=>⟨fun _ hy=>(Gm.1 hy).1,GI _ _⟩
section
variable {t:Tr}{o:List Int}(g:GoodT t o)
include g
theorem part_loop {d m i:Nat}(hd:d < t.nodes.length) (hk:(nd t d).k=28) (hm:(m:Int)∈(nd t d).kids) (hb:blw o i m):bkB t o i d (nd t d).n true = !((nd t m).k == 43):=by
 obtain ⟨a,b,h1,h2,h3,h4,h5,h6,h7,h8⟩:=XL g hd hk
 change (nd t d).n=(a:Int) at h1
 obtain ⟨x,hx1,hx2,hx3⟩:=Jej hm
 have hkx:=(Kt g hd hx1).2.2
 rw[hx2]at hkx
 change (∀ i,i < a→Ju t.nodes ((nd t d).kids.getD i 0)=43) at h4
 have hone:∀ j,j < (nd t d).kids.length→blw o i (Jba t d j)→Jba t d j=m:=fun j hj hbj=>kid_one g hd (Kt g hd hj).1 hm hbj hb
 rw[Gw,JfH,Hm,beq_eq_false_iff_ne,h1]
 have hnot:∀ j,a≤j→j < (nd t d).kids.length→Ju t.nodes ((nd t d).kids.getD j 0)≠43:=fun j h9 h10=>by
  change b < (nd t d).kids.length at h3
  change _∧Ju t.nodes ((nd t d).kids.getD a 0)≤29 at h5
  change (∀ i,a+1≤i→i < b→Ju t.nodes ((nd t d).kids.getD i 0)=41) at h6
  change (∀ i,b≤i→i+1 < (nd t d).kids.length→Ju t.nodes ((nd t d).kids.getD i 0)=44) at h7
  change Ju t.nodes ((nd t d).kids.getD ((nd t d).kids.length-1) 0)=45 at h8
  by_cases j1:j=a
  ·subst j1; omega
  ·by_cases j2:j < b
   ·rw[h6 j (by omega) j2]; decide
   ·by_cases j3:j+1 < (nd t d).kids.length
    ·rw[h7 j (by omega) j3]; decide
    ·obtain rfl:j=(nd t d).kids.length-1:=by omega
     rw[h8]; decide
 constructor
 ·rintro ⟨j,h9,h10,_,h12⟩ h13
  have h14:=hone j h10 h12
  have h15:=(Kt g hd h10).2.2
  rw[h14,h13]at h15
  exact hnot j (by omega) h10 h15.symm
 ·intro h9
  refine ⟨x,?_,hx1,.inl rfl,by rw[hx2]; exact hb⟩
  rcases GU x a with h10 | h10
  ·exact absurd (hkx.trans (h4 x h10)) h9
  ·omega
theorem part_span {d i:Nat}(hd:d < t.nodes.length) (hk:(nd t d).k=47) (hi:(nd t i).k=3):XF o i (JI t d)=XF o i d:=by
 obtain ⟨h1,_,_⟩:=Yn g hd hk
 change (nd t d).kids.length=3 at h1
 have hl:=Kt g hd (i:=(nd t d).kids.length-1) (by omega)
 change ((JI t d:Nat):Int)∈_∧_ at hl
 rw[Gw,Kj,Kj]
 constructor
 ·intro h; exact Xp g hd h (Y8 g hd hl.1)
 ·intro h
  rcases Jb0 g hd h with rfl | ⟨c,hc,hb⟩
  ·omega
  ·rw[← JbC g hd (.inr hk) hc hb (by omega)]; exact hb
theorem Jek {k L:Nat}(h:t.items[k]? = some (L:Int)):KE t L=k:=by
 have hk:k < t.items.length:=(GG.1 h).1
 have hr:=g.itr (GK h)
 obtain ⟨b,B,b1,b2,b3,b4,b5,b6⟩:=Jc7 g (i:=L) (by omega)
 have hn:t.items.Nodup:=XV g.ord.ok g.olen _ _ _ g.its
 have hself:Xl t o L=L:=by
  unfold Xl
  have hasc:=XW g.ord.ok g.olen _ _ _ g.its
  have hno:∀ y∈t.items.take k,XF o L y.toNat=false:=fun y hy=>by
   obtain ⟨j,hj,rfl⟩:=Hy hy
   rw[List.getElem_take]
   rw[List.length_take]at hj
   have h2:=Hr.1 hasc j k (by omega) hk (by omega)
   rw[(GG.1 h).2]at h2
   rw[GA]
   intro hb
   have:=(Kj.1 hb).1
   have:=g.itr (Gs (l:=t.items) (show j < t.items.length by omega))
   omega
  rw[Jfv (q:=fun M:Int=>XF o L M.toNat) h (by rw[Kj,Gf]; exact JaD g (by omega)) hno]
 rw[b4]at hself
 have:B=L:=by omega
 subst this
 rw[b3]
 exact (HZ b1 hn).1 (b2.trans h.symm)
theorem item_in {i it L:Nat}(hi:i < t.nodes.length) (h:t.items[it]? = some (L:Int)):XF o i L=(KE t i == it):=by
 have hr:=g.itr (GK h)
 rw[Gw,Kj,beq_iff_eq]
 constructor
 ·intro hb
  rw[item_blw g (by omega) hb,Jek g h]
 ·rintro rfl
  obtain ⟨b,B,b1,b2,b3,b4,b5,b6⟩:=Jc7 g hi
  rw[b3]at h
  rw[b2]at h
  have:B=L:=by have:=Option.some.inj h; omega
  subst this
  unfold Xl at b4
  split at b4
  ·rename_i x hx
   have:=GQ hx
   subst b4
   rw[Gf]at this
   exact Kj.1 this
  ·omega
theorem call_item (hE:(QF t o).2=0) {i:Nat}(hi:i < t.nodes.length) (hk:(nd t i).k=26):∃ L:Nat,KX t o i=L∧t.items[KE t L]? = some (L:Int)∧L < t.nodes.length:=by
 have h1:=(Je3 hE hi).2 (by unfold K8; rw[hk]; rfl)
 have hm:KX t o i=Jce t i:=by unfold KX; rw[if_neg (by omega),if_pos hk]
 have hr:=mean_rng (t:=t) (o:=o) (i:=i)
 have h2:(nd t (KX t o i).toNat).k=65:=by
  rw[hm]at h1 ⊢
  unfold Jce at h1 ⊢
  generalize hf:(Ku t).find? _=r at h1 ⊢
  cases r with
  |none=>exact absurd rfl h1
  |some d=>
   have:=GQ hf
   simp only[Gr,beq_iff_eq]at this
   exact this.2.2
 obtain ⟨L,hL⟩:∃ L:Nat,KX t o i=L:=⟨(KX t o i).toNat,by omega⟩
 rw[hL,Gf]at h2
 rw[hL]at hr
 have h3:=(JfC g (by omega) h2).2
 obtain ⟨k,hk,hkL⟩:=Hy h3
 have h4:t.items[k]? = some (L:Int):=by rw[Gi hk,hkL]
 exact ⟨L,hL,by rw[Jek g h4]; exact h4,by omega⟩
theorem main_one (hE:(QF t o).2=0):Ja2 t=[]∨∃ i:Nat,i < t.items.length∧Ja2 t=[(i:Int)]∧(nd t (t.items.getD i 0).toNat).text=mainT∧∀ j,j < i→(nd t (t.items.getD j 0).toNat).text≠mainT:=by
 have hasc:(Ja2 t).Pairwise (· < ·):=upto_asc.filter _
 have hit:∀ i,i < t.items.length→∃ L:Nat,t.items.getD i 0=L∧L < t.nodes.length∧(nd t L).k=65:=fun i hi=>by
  have hm:t.items.getD i 0∈t.items:=by rw[Gl,Gi hi]; exact Gs hi
  have h1:=g.itr hm
  have h2:(nd t (t.items.getD i 0).toNat).k=65:=g.defs _ hm
  obtain ⟨L,hL⟩:∃ L:Nat,t.items.getD i 0=L:=⟨(t.items.getD i 0).toNat,by omega⟩
  rw[hL]at h1 h2
  exact ⟨L,hL,by omega,h2⟩
 have hlt:∀ i j,i < j→j < t.items.length→t.items.getD i 0 < t.items.getD j 0:=fun i j h1 h2=>by
  have:=Hr.1 (XW g.ord.ok g.olen _ _ _ g.its) i j (by omega) h2 h1
  rw[Gl,Gi (show i < t.items.length by omega),Gl,Gi h2]
  exact this
 have hno:∀ i j,i < j→j < t.items.length→(nd t (t.items.getD i 0).toNat).text=mainT→(nd t (t.items.getD j 0).toNat).text=mainT→False:=fun i j h1 h2 h3 h4=>by
  obtain ⟨L,l1,l2,l3⟩:=hit i (by omega)
  obtain ⟨M,m1,m2,m3⟩:=hit j h2
  have h5:=hlt i j h1 h2
  rw[l1]at h3 h5
  rw[m1]at h4 h5
  rw[Gf]at h3 h4
  have htw:=(Je3 hE m2).1
  unfold twN at htw
  rw[if_neg (by rw[m3]; simp[KZ]),H6]at htw
  have:=htw L (Gt.2 (by omega))
  rw[m3,l3,h3,h4]at this
  simp at this
 cases hM:Ja2 t with
 |nil=>exact .inl rfl
 |cons x l=>
  have hx:x∈Ja2 t:=by rw[hM]; simp
  have h1:=Gm.1 hx
  have h2:=XB.1 h1.1
  obtain ⟨i,rfl⟩:∃ i:Nat,x=i:=⟨x.toNat,by omega⟩
  have h3:(nd t (t.items.getD i 0).toNat).text=mainT:=by simpa using h1.2
  refine .inr ⟨i,by omega,?_,h3,fun j hj h4=>hno j i hj (by omega) h4 h3⟩
  cases l with
  |nil=>rfl
  |cons y l=>
   have hy:y∈Ja2 t:=by rw[hM]; simp
   have h5:=Gm.1 hy
   have h6:=XB.1 h5.1
   rw[hM]at hasc
   have h7:=(List.pairwise_cons.1 hasc).1 y (by simp)
   obtain ⟨j,rfl⟩:∃ j:Nat,y=j:=⟨y.toNat,by omega⟩
   exact (hno i j (by omega) (by omega) h3 (by simpa using h5.2)).elim
end
end
section
theorem Jdo {E:Env}{H:List CObj}{id:Nat}{l:List Int}(hl:l≠[]) (hbig:l.length≤1000000) (hH:H[id]? = some (.arr 1 (iz l))):CallsC Gb E 57 [.slc id 0 l.length none] H fun v' H'=>v'=.slc id 0 (Lib.compact l).length none∧H'=H.set id (.arr 1 (iz (Lib.compact l))):=by
 have h:=Jez (E:=E) (cap:=none) hl hbig hH
 refine h.trunc (id:=0) (z:=0) (j:=0) (els:=[]) (v:=.un) fun v H' ⟨h1,h2⟩=>.inr ⟨id,1,iz (Lib.compact l++Hf (l.length-(Lib.compact l).length) 0),(Lib.compact l).length,by rw[h2,List.getElem?_set_self (GG.1 hH).1],h1,?_⟩
 rw[h2,List.set_set]
 congr 2
 unfold iz
 rw[← List.map_take,List.take_left' rfl]
section
variable {t:Tr}{o:List Int}(g:GoodT t o) (ht:t.Fit)
include g
theorem nIsPart {of:List Int}{i d:Nat}(hi:i < t.nodes.length) (hd:d < t.nodes.length) (hk:(nd t i).k=3):Fn Gb 54 [.agg (rRw t of),.int .i64 (i:Int),.int .i64 (d:Int)] (.bool (Yh t o i d)):=by
 have hmany:=g.many
 refine Jb c54_ok rfl rfl fun N=>?_
 simp -implicitDefEqProofs only[c54,go_sem,rRw]
 refine Je (id:=0) (z:=2) (els:=[rRw t of]) rfl rfl ?_
 simp only[go_sem,JS,Kb,frz,KI,Gg,rRw]
 refine JM (nBelow g hi hd) ?_
 cases hb:XF o i d with
 |false=>
  have hne:i≠d:=by rintro rfl; rw[Kj.2 (JaD g hi)]at hb; cases hb
  have e:((i:Int) == (d:Int))=false:=beq_eq_false_iff_ne.2 (by omega)
  have hp:Yh t o i d=false:=by
   unfold Yh
   split
   ·rw[GA]
    intro h
    rw[JfH]at h
    obtain ⟨x,_,h2,_,h4⟩:=h
    rw[Kj.2 (Xp g hd h4 (Y8 g hd (Kt g hd h2).1))]at hb
    cases hb
   ·split
    ·rename_i h47
     rw[part_span g hd h47 hk]; exact hb
    ·exact hb
  rw[hp]
  simp -implicitDefEqProofs only[go_sem,Gj,e]
 |true=>
  by_cases he:i=d
  ·subst he
   have e:((i:Int) == (i:Int))=true:=by simp
   have hp:Yh t o i i=true:=by unfold Yh; rw[if_neg (by omega),if_neg (by omega)]; exact hb
   rw[hp]
   simp -implicitDefEqProofs only[go_sem,Gh,e]
  ·have e:((i:Int) == (d:Int))=false:=beq_eq_false_iff_ne.2 (by omega)
   simp -implicitDefEqProofs only[go_sem,Gh,e]
   refine JM (YS t hd) ?_
   cases h28:((nd t d).k == 28) with
   |false=>
    have hp:Yh t o i d=true:=by
     have h28':(nd t d).k≠28:=by simpa using h28
     unfold Yh
     rw[if_neg h28']
     split
     ·rename_i h47
      rw[part_span g hd h47 hk]; exact hb
     ·exact hb
    rw[hp]
    simp -implicitDefEqProofs only[go_sem,kbN,h28,Gj]
   |true=>
    have k28:(nd t d).k=28:=by simpa using h28
    have hp0:Yh t o i d=bkB t o i d (nd t d).n true:=by unfold Yh; rw[if_pos k28]
    rw[hp0]
    simp -implicitDefEqProofs only[go_sem,kbN,h28,Gh]
    refine JA (I:=fun m:Nat=>m < t.nodes.length∧blw o i m∧blw o m d∧m≠d) (inv:=fun m=>gp [(1,.int .i64 (m:Int)),(0,.int .i64 (d:Int)),(0,.rptr (rRw t of))] 44) (hp:=fun _=>[.dead]) (μ:=fun m=>t.nodes.length-m) i ⟨hi,JaD g hi,Kj.1 hb,he⟩ ?_ rfl ?_
    ·simp[forget,gp,rRw]
    ·rintro m ⟨hm,hb1,hb2,hne⟩
     obtain ⟨p,h1,h2,h3,h4,h5⟩:=Xr g hd hb2 hne
     by_cases hpd:p=d
     ·subst hpd
      have e1:((p:Int) != (p:Int))=false:=by simp
      rw[part_loop g hd k28 h5 hb1]
      simp -implicitDefEqProofs only[go_sem,rRw,tRw,KO,upz hm,h1,e1]
      refine ⟨by omega,?_⟩
      refine JM (nInside t hm) ?_
      simp -implicitDefEqProofs only[go_sem]
     ·have e1:((p:Int) != (d:Int))=true:=bne_iff_ne.2 (by omega)
      simp -implicitDefEqProofs only[go_sem,rRw,tRw,KO,upz hm,h1,e1]
      refine ⟨by omega,by omega,p,⟨by omega,Xp g (by omega) hb1 (Y8 g (by omega) h5),h4,hpd⟩,by omega,?_⟩
      simp[forget,tRw]
include ht
theorem nOutside (hE:(QF t o).2=0) {d:Nat}(hd:d < t.nodes.length) (hk:Yt (nd t d).k=true∨(nd t d).k=47):Fn Gb 18 [t.cv,.int .i64 (d:Int)] (.tup [.rslc 1 (iz (outL t o (ofL t o) d)) none,.int .i64 0]):=by
 have hmany:=g.many
 have hF:=nFind g ht [(d:Int)] (by simp)
 have hin:[(d:Int)].all (inT t)=true:=by simp only[Ld,Lf,Hq]; exact XP.2 ⟨by omega,by omega⟩
 rw[if_neg (by simp[hE]),if_pos hin,rE_ok hE]at hF
 have ho:=Jcd (t:=t) (o:=o)
 have hmean:∀ i,i < t.nodes.length→(nd t i).k=3→0≤(ofL t o).getD i 0∧(ofL t o).getD i 0 < t.nodes.length:=fun i hi h3=>by
  rw[JcX hi]
  have:=mean_name g hE hi h3
  exact ⟨this.2.1,this.2.2.1⟩
 have hol:(iz (ofL t o)).length=t.nodes.length:=by rw[Jf,ho.len]
 have hgo:∀ i,i < t.nodes.length→(iz (ofL t o)).getD i []=[.int .i64 ((ofL t o).getD i 0)]:=fun i hi=>JQ (by rw[ho.len]; exact hi)
 have hdone:=img_done (q:=outQ t o (ofL t o) d) (f:=fun i=>(ofL t o).getD i 0) (n:=t.nodes.length) (m:=t.nodes.length) fun i hi hq=>hmean i hi (by unfold outQ at hq; simp only[Gr,beq_iff_eq]at hq; exact hq.1)
 have hQ:∀ i,outQ t o (ofL t o) d i=((nd t i).k == 3 && (Yh t o i d && !XF o ((ofL t o).getD i 0).toNat d)):=fun i=>rfl
 unfold outL
 rw[← hdone]
 clear hdone
 generalize hof:ofL t o=of at *
 generalize hq0:outQ t o of d=q at hQ ⊢
 refine QR ?_ rfl rfl
 refine J8 c18_ok fun N=>?_
 simp -implicitDefEqProofs only[c18,go_sem,Tr.cv,Tr.row]
 refine Je (id:=1) (z:=1) (els:=iz [(d:Int)]) rfl rfl ?_
 simp only[go_sem,JS,Kb,frz,KI,JV,Qi,Ga,Gc,Gd,Gp,Gg,G7,He]
 refine JM hF ?_
 simp -implicitDefEqProofs only[go_sem,rRw]
 refine JM (nIsExpr t hd) ?_
 have hx2:Yt (nd t d).k=true∨(Yt (nd t d).k=false∧(nd t d).k=47):=by
  cases hx:Yt (nd t d).k with
  |true=>exact .inl rfl
  |false=>rw[hx]at hk; exact .inr ⟨rfl,by simpa using hk⟩
 rcases hx2 with hx | ⟨hx,h47⟩ <;> rw[hx]
 case' inl=>simp -implicitDefEqProofs only[go_sem,Gh,hol]
 case' inr=>
  simp -implicitDefEqProofs only[go_sem,Gj]
  refine JP (gok rfl) (YS t hd) ?_
  simp -implicitDefEqProofs only[go_sem,kbN,h47,beq_self_eq_true,Gh,hol]
 all_goals
  refine Je (id:=2) (z:=2) (els:=[rRw t of]) rfl rfl ?_
  simp only[go_sem,JS,Kb,frz,KI,Gg,Ga,Gc,rRw]
  refine Xh ?_
  simp only[go_sem,GM,GN]
  refine Jv (I:=fun i:Nat=>i≤t.nodes.length) (inv:=fun i=>gp [(1,.int .i64 (d:Int)),(2,K5 3 (iz (YO q (fun i=>of.getD i 0) i))),(1,.rptr (rRw t of)),(27,.rslc 1 (iz of) none),(0,.int .i64 (t.nodes.length:Int)),(0,.int .i64 (i:Int))] 32) (hp:=fun i=>[.arr 2 [t.row],.dead,.dead,Qm 1 (iz (YO q (fun i=>of.getD i 0) i))]) (μ:=fun i=>t.nodes.length-i) 0 [0,1,2,3] (by omega) rfl ?_ ?_ ?_
  ·simp[forget,Jy,ren,Jk,gp,rRw,K5,iz,YO]
  ·simp[J5,Jbg,iz,YO,Qm,Tr.row,Jy,ren]
  ·intro i hi
   by_cases hlt:i < t.nodes.length
   ·have d1:((i:Int) < (t.nodes.length:Int))=True:=Jo
    have hgi:=hgo i hlt
    have hst:=Jbj (q:=q) (f:=fun i=>of.getD i 0) (i:=i)
    have hpl:=YB (q:=q) (f:=fun i=>of.getD i 0) (i:=i)
    have hqi:=hQ i
    have hmi:=hmean i hlt
    generalize YO q (fun i=>of.getD i 0) i=acc at hst hpl ⊢
    generalize of.getD i 0=m at hgi hst hqi hmi
    have hno:q i=false→YO q (fun i=>of.getD i 0) (i+1)=acc:=fun h=>by rw[hst,if_neg (by rw[h]; simp),Gy]
    simp -implicitDefEqProofs only[go_sem,d1,hol,hgi,rRw]
    refine ⟨by omega,?_⟩
    refine JM (YS t hlt) ?_
    cases h3:((nd t i).k == 3) with
    |false=>
     have hn:=hno (by rw[hqi,h3,Gn])
     simp -implicitDefEqProofs only[go_sem,kbE,h3]
     refine ⟨Jj,i+1,[0,1,2,3],by omega,by omega,rfl,?_,?_⟩
     ·rw[hn]; simp only[J5,Ga,Gc,go_sem,Ke (Ja (Jc acc)),Jg,Ji]; simp[Jy,ren,Tr.row]
     ·rw[hn]; simp[forget,Jy,ren,Jk,Kr,rRw]
    |true=>
     have k3:(nd t i).k=3:=by simpa using h3
     obtain ⟨m,rfl⟩:∃ m':Nat,m=m':=⟨m.toNat,by have:=hmi k3; omega⟩
     have hmn:m < t.nodes.length:=by have:=hmi k3; omega
     rw[Gf,h3,Gq]at hqi
     simp -implicitDefEqProofs only[go_sem,kbE,h3,rRw]
     refine JP (gok rfl) (nIsPart g (of:=of) hlt hd k3) ?_
     cases hp:Yh t o i d with
     |false=>
      have hn:=hno (by rw[hqi,hp,Gn])
      simp -implicitDefEqProofs only[go_sem]
      refine ⟨Jj,i+1,[0,1,2,3],by omega,by omega,rfl,?_,?_⟩
      ·rw[hn]; simp only[J5,Ga,Gc,go_sem,Ke (Ja (Jc acc)),Jg,Ji]; simp[Jy,ren,Tr.row]
      ·rw[hn]; simp[forget,Jy,ren,Jk,Kr,rRw]
     |true=>
      rw[hp,Gq]at hqi
      simp -implicitDefEqProofs only[go_sem,rRw]
      refine JP (gok rfl) (nBelow g hmn hd) ?_
      cases hb:XF o m d with
      |true=>
       have hn:=hno (by rw[hqi,hb]; rfl)
       simp -implicitDefEqProofs only[go_sem,Gh]
       refine ⟨Jj,i+1,[0,1,2,3],by omega,by omega,rfl,?_,?_⟩
       ·rw[hn]; simp only[J5,Ga,Gc,go_sem,Ke (Ja (Jc acc)),Jg,Ji]; simp[Jy,ren,Tr.row]
       ·rw[hn]; simp[forget,Jy,ren,Jk,Kr,rRw]
      |false=>
       rw[hqi,hb,if_pos (by rfl)]at hst
       simp -implicitDefEqProofs only[go_sem,Gj,Jf,Jt]
       refine ⟨⟨by omega,by omega⟩,Jj,i+1,[0,1,2,5],by omega,by omega,rfl,?_,?_⟩
       ·rw[hst,Ka,J7]
        simp only[J5,Ga,Gc,go_sem,Ji,Jg]
        simp[Ja (Jc acc),Jy,ren,Tr.row]
       ·rw[hst,Ka,J6]
        simp[forget,Jy,ren,Jk,rRw,tRw,Jf]
   ·have d1:((i:Int) < (t.nodes.length:Int))=False:=Jn
    obtain rfl:i=t.nodes.length:=by omega
    have hpl:=YB (q:=q) (f:=fun i=>of.getD i 0) (i:=t.nodes.length)
    generalize YO q (fun i=>of.getD i 0) t.nodes.length=acc at hpl ⊢
    cases acc with
    |nil=>
     simp -implicitDefEqProofs only[go_sem,d1,Qi,QI]
     refine JM JeU ?_
     simp -implicitDefEqProofs only[go_sem]
     refine JM JbY ?_
     simp -implicitDefEqProofs only[go_sem]
     rw[show Lib.compact (([]:List Int).mergeSort fun x y=>decide (x≤y))=[] by rw[HV]; rfl]
     exact .done (JdP ⟨wk.nils,wks.refl _⟩)
    |cons x xs=>
     simp -implicitDefEqProofs only[go_sem,d1,JV,QV,XI,Jf]
     refine JY (.inl rfl) (JeT (l:=x::xs) (by simp) (by omega) rfl) fun v H' ⟨h1,h2⟩=>?_
     subst h1 h2
     simp -implicitDefEqProofs only[go_sem]
     have hsl:((x::xs).mergeSort fun x y=>decide (x≤y)).length=xs.length+1:=by rw[Hw]; rfl
     generalize ((x::xs).mergeSort fun x y=>decide (x≤y))=S at hsl ⊢
     have hSn:S≠[]:=by rintro rfl; simp at hsl
     rw[← hsl]
     refine JY (.inl rfl) (Jdo (l:=S) hSn (by simp only[Gd]at hpl; omega) rfl) fun v H' ⟨h1,h2⟩=>?_
     subst h1 h2
     simp -implicitDefEqProofs only[go_sem]
     have hcn:Lib.compact S≠[]:=by
      obtain ⟨y,hy⟩:=Ht _ hSn
      exact Hz (XR.2 hy)
     have h:=Jbq (H:=[.arr 2 [t.row],.dead,.dead,.arr 1 (iz (Lib.compact S))]) (id:=3) (l:=Lib.compact S) (ys:=[.int .i64 0]) rfl (by rw[QC (by simpa [iz]using hcn)]; rfl)
     rw[QU (by simpa [iz]using hcn),Jf]at h
     exact h
omit ht in
theorem Jeo {L:Nat}(h:t.items[KE t L]? = some (L:Int)):QE (fun y=>(L:Int) == y) t.items 0=(KE t L:Int):=by
 have hn:t.items.Nodup:=XV g.ord.ok g.olen _ _ _ g.its
 rcases Jbv (q:=fun y=>(L:Int) == y) t.items 0 with ⟨_,h2⟩ | ⟨j,h1,h2,h3⟩
 ·have:=List.find?_eq_none.1 h2 _ (GK h)
  simp at this
 ·have h4:=GQ h3
  have h5:t.items[j]? = some (L:Int):=by
   rw[Gi h1]
   rw[Gl,Gi h1]at h4
   simp only[Option.getD_some,beq_iff_eq]at h4
   rw[h4]
  have h6:=(HZ h1 hn).1 (h5.trans h.symm)
  rw[h2,GR,h6]
omit ht in
theorem nCalls (hE:(QF t o).2=0) {it:Nat}:Jb2 Gb 58 [.agg (rRw t (ofL t o)),.int .i64 (it:Int)] 1 (iz (Xv t (ofL t o) it)):=by
 have hmany:=g.many
 have hits:=g.items
 have ho:=Jcd (t:=t) (o:=o)
 have hmean:∀ i,i < t.nodes.length→(nd t i).k=26→∃ L:Nat,(ofL t o).getD i 0=L∧t.items[KE t L]? = some (L:Int):=fun i hi h3=>by
  obtain ⟨L,h1,h2,_⟩:=call_item g hE hi h3
  exact ⟨L,by rw[JcX hi]; exact h1,h2⟩
 have hol:(iz (ofL t o)).length=t.nodes.length:=by rw[Jf,ho.len]
 have hgo:∀ i,i < t.nodes.length→(iz (ofL t o)).getD i []=[.int .i64 ((ofL t o).getD i 0)]:=fun i hi=>JQ (by rw[ho.len]; exact hi)
 have hdone:=img_done (q:=callQ t it) (f:=callF t (ofL t o)) (n:=t.nodes.length) (m:=t.items.length) fun i hi hq=>by
  unfold callQ at hq
  simp only[Gr,beq_iff_eq]at hq
  obtain ⟨L,h1,h2⟩:=hmean i hi hq.1
  have:=(GG.1 h2).1
  unfold callF
  rw[h1,Gf]
  omega
 have hQ:∀ i,callQ t it i=((nd t i).k == 26 && KE t i == it):=fun i=>rfl
 have hF:∀ i,callF t (ofL t o) i=(KE t ((ofL t o).getD i 0).toNat:Int):=fun i=>rfl
 unfold Xv
 rw[← hdone]
 clear hdone
 generalize hof:ofL t o=of at *
 generalize callQ t it=q at hQ ⊢
 generalize callF t of=f at hF ⊢
 refine Jbu (J8 c58_ok fun N=>?_) rfl (Jc _)
 simp -implicitDefEqProofs only[c58,go_sem,rRw,hol]
 refine Je (id:=0) (z:=2) (els:=[rRw t of]) rfl rfl ?_
 simp only[go_sem,JS,Kb,frz,KI,Gg,rRw]
 refine Xh ?_
 simp only[go_sem,GM,GN]
 refine Jv (I:=fun i:Nat=>i≤t.nodes.length) (inv:=fun i=>gp [(1,.int .i64 (it:Int)),(0,.rptr (rRw t of)),(1,K5 1 (iz (YO q f i))),(3,.rslc 1 (iz of) none),(0,.int .i64 (t.nodes.length:Int)),(0,.int .i64 (i:Int))] 37) (hp:=fun i=>[.dead,Qm 1 (iz (YO q f i))]) (μ:=fun i=>t.nodes.length-i) 0 [0,1] (by omega) rfl ?_ rfl ?_
 ·simp[forget,Jy,ren,Jk,gp,rRw,K5,iz,YO]
 ·intro i hi
  by_cases hlt:i < t.nodes.length
  ·have d1:((i:Int) < (t.nodes.length:Int))=True:=Jo
   have hgi:=hgo i hlt
   have hst:=Jbj (q:=q) (f:=f) (i:=i)
   have hpl:=YB (q:=q) (f:=f) (i:=i)
   have hqi:=hQ i
   have hmi:=hmean i hlt
   have hfi:=hF i
   generalize YO q f i=acc at hst hpl ⊢
   generalize of.getD i 0=m at hgi hmi hfi
   have hno:q i=false→YO q f (i+1)=acc:=fun h=>by rw[hst,if_neg (by rw[h]; simp),Gy]
   simp -implicitDefEqProofs only[go_sem,d1,hol,hgi,rRw]
   refine ⟨by omega,?_⟩
   refine JM (YS t hlt) ?_
   cases h3:((nd t i).k == 26) with
   |false=>
    have hn:=hno (by rw[hqi,h3,Gn])
    simp -implicitDefEqProofs only[go_sem,kbE,h3]
    refine ⟨Jj,i+1,[0,1],by omega,by omega,rfl,?_,?_⟩
    ·rw[hn]; simp only[J5,Ga,Gc,go_sem,Ke (Ja (Jc acc)),Jg]
    ·rw[hn]; simp[forget,Jy,ren,Jk,Kr,rRw]
   |true=>
    have k3:(nd t i).k=26:=by simpa using h3
    obtain ⟨m,rfl,hm⟩:=hmi k3
    have hix:=Jeo g hm
    rw[Gf]at hfi
    rw[h3,Gq]at hqi
    have e:((KE t i:Int) == (it:Int))=(KE t i == it):=by rw[Gw,beq_iff_eq,beq_iff_eq]; omega
    cases hb:(KE t i == it) with
    |false=>
     have hn:=hno (by rw[hqi,hb])
     simp -implicitDefEqProofs only[go_sem,kbE,h3,rRw,tRw,itz_len,itz hlt,e,hb]
     refine ⟨by omega,Jj,i+1,[0,1],by omega,by omega,rfl,?_,?_⟩
     ·rw[hn]; simp only[J5,Ga,Gc,go_sem,Ke (Ja (Jc acc)),Jg]
     ·rw[hn]; simp[forget,Jy,ren,Jk,Kr,rRw,tRw]
    |true=>
     rw[hqi,hb,if_pos rfl,hfi]at hst
     have hI:=indexI t.items (m:Int) (by omega)
     rw[hix]at hI
     simp -implicitDefEqProofs only[go_sem,kbE,h3,rRw,tRw,itz_len,itz hlt,e,hb]
     refine ⟨by omega,?_⟩
     refine JM hI ?_
     simp -implicitDefEqProofs only[go_sem,Jf,Jt]
     refine ⟨⟨by omega,by omega⟩,Jj,i+1,[0,3],by omega,by omega,rfl,?_,?_⟩
     ·rw[hst,Ka,J7]
      simp only[J5,Ga,Gc,go_sem,Ji,Jg]
      simp[Ja (Jc acc),Jy,ren]
     ·rw[hst,Ka,J6]
      simp[forget,Jy,ren,Jk,rRw,tRw,Jf]
  ·have d1:((i:Int) < (t.nodes.length:Int))=False:=Jn
   obtain rfl:i=t.nodes.length:=by omega
   have hpl:=YB (q:=q) (f:=f) (i:=t.nodes.length)
   generalize YO q f t.nodes.length=acc at hpl ⊢
   cases acc with
   |nil=>
    simp -implicitDefEqProofs only[go_sem,d1,Qi,QI]
    refine JM JeU ?_
    simp -implicitDefEqProofs only[go_sem]
    refine JM JbY ?_
    simp -implicitDefEqProofs only[go_sem]
    rw[show Lib.compact (([]:List Int).mergeSort fun x y=>decide (x≤y))=[] by rw[HV]; rfl]
    exact .nil
   |cons x xs=>
    simp -implicitDefEqProofs only[go_sem,d1,JV,QV,XI,Jf]
    refine JY (.inl rfl) (JeT (l:=x::xs) (by simp) (by omega) rfl) fun v H' ⟨h1,h2⟩=>?_
    subst h1 h2
    simp -implicitDefEqProofs only[go_sem]
    have hsl:((x::xs).mergeSort fun x y=>decide (x≤y)).length=xs.length+1:=by rw[Hw]; rfl
    generalize ((x::xs).mergeSort fun x y=>decide (x≤y))=S at hsl ⊢
    have hSn:S≠[]:=by rintro rfl; simp at hsl
    rw[← hsl]
    refine JY (.inl rfl) (Jdo (l:=S) hSn (by simp only[Gd]at hpl; omega) rfl) fun v H' ⟨h1,h2⟩=>?_
    subst h1 h2
    simp -implicitDefEqProofs only[go_sem]
    have hcn:Lib.compact S≠[]:=by
     obtain ⟨y,hy⟩:=Ht _ hSn
     exact Hz (XR.2 hy)
    exact .row (id:=1) (by rw[QU (by simpa [iz]using hcn),Jf]) (by rw[QC (by simpa [iz]using hcn)]; rfl)
end
end
section
def lz (out:List Int):List (CV×CV):=out.map fun x=>(.int .i64 x,.bool true)
theorem lz_snoc {out:List Int}{x:Int}:lz (out++[x])=lz out++[(.int .i64 x,.bool true)]:=by simp[lz]
theorem keyI {x a:Int}:XO .int (.int .i64 x) (.int .i64 a)=some (x == a):=by simp only[XO,if_true]
theorem lz_new {x:Int}:∀ {out:List Int}(i:Nat),out.contains x=false→Q7 .int (.int .i64 x) (lz out) i=some none
 |[],i,_=>rfl
 |a::l,i,h=>by
  rw[HY,Gz]at h
  have e:XO .int (.int .i64 x) (.int .i64 a)=some false:=by rw[keyI,h.1]
  simp only[lz,Ga,Q7,e]
  exact lz_new (i+1) h.2
theorem lz_old {x:Int}:∀ {out:List Int}(i:Nat),out.contains x=true→∃ j,Q7 .int (.int .i64 x) (lz out) i=some (some (j,.bool true))
 |[],i,h=>by simp at h
 |a::l,i,h=>by
  cases ha:(x == a) with
  |true=>
   have e:XO .int (.int .i64 x) (.int .i64 a)=some true:=by rw[keyI,ha]
   exact ⟨i,by simp only[lz,Ga,Q7,e]⟩
  |false=>
   rw[HY,ha,GD]at h
   have e:XO .int (.int .i64 x) (.int .i64 a)=some false:=by rw[keyI,ha]
   obtain ⟨j,hj⟩:=lz_old (i+1) h
   exact ⟨j,by simp only[lz,Ga,Q7,e]; exact hj⟩
def Yr (t:Tr) (i:Nat):Bool:=(nd t (t.items.getD i 0).toNat).text == mainT
theorem mainL_eq {t:Tr}:Ja2 t=YO (Yr t) (fun i=>(i:Int)) t.items.length:=by
 unfold Ja2 upto YO
 rw[Hd]
 rfl
def deadQ (t:Tr) (of:List Int) (i:Nat):Bool:=!(liveL t of).contains (i:Int)
theorem deadL_eq {t:Tr}{of:List Int}:deadL t of=YO (deadQ t of) (fun i=>(i:Int)) t.items.length:=by
 unfold deadL upto YO
 rw[Hd]
 rfl
def todoD (id:Nat) (els:List Int) (off:Nat):CV:=match els with
 |[]=>.nils
 |_::_=>.slc id off (els.length-off) none
theorem JdU {id:Nat}{els:List Int}:todoD id els 0=K5 id (iz els):=by cases els <;> simp[todoD,iz,K5]
theorem JeP {id:Nat}{els:List Int}{off:Nat}(h:els≠[]):todoD id els off=.slc id off (els.length-off) none:=by cases els <;> simp_all [todoD]
theorem muB_le {l todo:List Int}{out:List Int}:muB l todo out≤l.length*(l.length+1)+todo.length:=by
 unfold muB
 have:=Hg (l.length+1) (YF (l:=l) (out:=out))
 omega
section
variable {t:Tr}{o:List Int}(g:GoodT t o) (ht:t.Fit)
include g ht
theorem nFind0:Fn Gb 48 [t.cv,.nils] (.tup [.agg (rE t o),.int .i64 (QF t o).2]):=by
 have h:=(nFind g ht [] (by simp)).args (args':=[t.cv,.nils]) ⟨wk.refl _,wk.nils,trivial⟩
 have e:(if (QF t o).2≠0 then (QF t o).2 else if ([]:List Int).all (inT t)=true then 0 else 7)=(QF t o).2:=by
  by_cases h:(QF t o).2=0
  ·rw[if_neg (by simp[h]),h]; rfl
  ·rw[if_pos h]
 rw[e]at h
 exact h
theorem nCallsP (c:Int):Fn Gb 19 [t.cv,.int .i64 c] (if (QF t o).2≠0 then .tup [.nils,.int .i64 (QF t o).2] else if 0≤c∧c < t.items.length then .tup [.rslc 1 (iz (Xv t (ofL t o) c.toNat)) none,.int .i64 0] else .tup [.nils,.int .i64 7]):=by
 have hmany:=g.many
 have hF:=nFind0 g ht
 have hil:(iz t.items).length=t.items.length:=Jf
 obtain ⟨l,hl⟩:=Je7 (t:=t) (o:=o)
 refine Jb c19_ok rfl (by split; rfl; split <;> rfl) fun N=>?_
 simp -implicitDefEqProofs only[c19,go_sem,Tr.cv,Tr.row]
 refine JM hF ?_
 by_cases hE:(QF t o).2=0
 ·have e0:((0:Int) != 0)=false:=rfl
  rw[if_neg (show ¬ (QF t o).2≠0 by simp[hE]),rE_ok hE,hE]
  by_cases h0:c < 0
  ·have e1:decide (c < 0)=true:=decide_eq_true h0
   rw[if_neg (by omega)]
   simp -implicitDefEqProofs only[go_sem,e0,e1,rRw]
  ·have e1:decide (c < 0)=false:=decide_eq_false h0
   by_cases h2:(t.items.length:Int)≤c
   ·have e2:decide ((t.items.length:Int)≤c)=true:=decide_eq_true h2
    rw[if_neg (by omega)]
    simp -implicitDefEqProofs only[go_sem,e0,e1,e2,rRw,tRw,hil]
   ·have e2:decide ((t.items.length:Int)≤c)=false:=decide_eq_false h2
    obtain ⟨c,rfl⟩:∃ c':Nat,c=c':=⟨c.toNat,by omega⟩
    rw[if_pos (by omega),Gf]
    simp -implicitDefEqProofs only[go_sem,e0,e1,e2,rRw,tRw,hil]
    refine JM ((nCalls g hE (it:=c)).fn rfl (Jc _)) ?_
    simp -implicitDefEqProofs only[go_sem]
 ·have e1:((QF t o).2 != 0)=true:=by simpa using hE
  rw[if_pos hE,hl]
  simp -implicitDefEqProofs only[go_sem,e1]
theorem nOutsideP (d:Int):Fn Gb 18 [t.cv,.int .i64 d] (if (QF t o).2≠0 then .tup [.nils,.int .i64 (QF t o).2] else if (inT t d && (Yt (nd t d.toNat).k || (nd t d.toNat).k == 47))=true then .tup [.rslc 1 (iz (outL t o (ofL t o) d.toNat)) none,.int .i64 0] else .tup [.nils,.int .i64 7]):=by
 have hmany:=g.many
 by_cases hgo:(QF t o).2=0∧(inT t d && (Yt (nd t d.toNat).k || (nd t d.toNat).k == 47))=true
 ·obtain ⟨hE,hx⟩:=hgo
  rw[if_neg (show ¬ (QF t o).2≠0 by simp[hE]),if_pos hx]
  rw[Gr,Bool.or_eq_true,beq_iff_eq]at hx
  have hr:=XP.1 hx.1
  obtain ⟨d,rfl⟩:∃ d':Nat,d=d':=⟨d.toNat,by omega⟩
  rw[Gf]at hx ⊢
  exact nOutside g ht hE (by omega) hx.2
 have hF:=nFind g ht [d] (by simp)
 obtain ⟨l,hl⟩:=Je7 (t:=t) (o:=o)
 refine Jb c18_ok rfl (by split; rfl; split <;> rfl) fun N=>?_
 simp -implicitDefEqProofs only[c18,go_sem,Tr.cv,Tr.row]
 refine Je (id:=1) (z:=1) (els:=iz [d]) rfl rfl ?_
 simp only[go_sem,JS,Kb,frz,KI,JV,Qi,Ga,Gc,Gd,Gp,Gg,G7,He]
 refine JM hF ?_
 by_cases hE:(QF t o).2=0
 ·have hx:(inT t d && (Yt (nd t d.toNat).k || (nd t d.toNat).k == 47))=false:=by
   rw[← Ho]; exact fun h=>hgo ⟨hE,h⟩
  rw[hx,if_neg (show ¬ (QF t o).2≠0 by simp[hE]),if_neg (show ¬ (QF t o).2≠0 by simp[hE]),rE_ok hE]
  simp only[Ld,Lf,Hq,Hl,if_false]
  cases hin:inT t d with
  |false=>simp -implicitDefEqProofs only[go_sem,rRw,Hl,if_false]
  |true=>
   rw[hin,Gq,Gz]at hx
   have hr:=XP.1 hin
   obtain ⟨d,rfl⟩:∃ d':Nat,d=d':=⟨d.toNat,by omega⟩
   rw[Gf]at hx
   simp -implicitDefEqProofs only[go_sem,rRw,if_true]
   refine JM (nIsExpr t (by omega)) ?_
   simp -implicitDefEqProofs only[go_sem,hx.1,Gj]
   refine JP (gok rfl) (YS t (by omega)) ?_
   simp -implicitDefEqProofs only[go_sem,kbN,hx.2,Gj]
 ·have e1:((QF t o).2 != 0)=true:=by simpa using hE
  rw[if_pos hE,if_pos hE,hl]
  simp -implicitDefEqProofs only[go_sem,e1]
theorem nDead (hE:(QF t o).2=0):Fn Gb 20 [t.cv] (.tup [.rslc 1 (iz (deadL t (ofL t o))) none,.int .i64 0]):=by
 have hmany:=g.many
 have hits:=g.items
 have hF:=nFind0 g ht
 rw[hE,rE_ok hE]at hF
 have hil:(iz t.items).length=t.items.length:=Jf
 have hgi:∀ i,i < t.items.length→∃ L:Nat,(iz t.items).getD i []=[.int .i64 (L:Int)]∧t.items.getD i 0=L∧L < t.nodes.length:=fun i hi=>by
  have hm:t.items.getD i 0∈t.items:=by rw[Gl,Gi hi]; exact Gs hi
  have:=g.itr hm
  refine ⟨(t.items.getD i 0).toNat,?_,by omega,by omega⟩
  rw[JQ hi]
  congr 2; omega
 have hCl:∀ it:Nat,Fn Gb 58 [.agg (rRw t (ofL t o)),.int .i64 (it:Int)] (.rslc 1 (iz (Xv t (ofL t o) it)) none):=fun it=>(nCalls g hE).fn rfl (Jc _)
 have hN:∀ it:Nat,Xv t (ofL t o) it=(fun x:Int=>Xv t (ofL t o) x.toNat) it:=fun it=>by simp only[Gf]
 have hok:∀ x∈upto t.items.length,(∀ y∈(fun x:Int=>Xv t (ofL t o) x.toNat) x,y∈upto t.items.length)∧((fun x:Int=>Xv t (ofL t o) x.toNat) x).length≤(upto t.items.length).length:=callL_ok
 have hul:(upto t.items.length).length=t.items.length:=Jcn
 have hR0:liveL t (ofL t o)=bfs (fun x=>Xv t (ofL t o) x.toNat) (upto t.items.length) (Ja2 t) []:=rfl
 rw[deadL_eq]
 have hdq:∀ i,deadQ t (ofL t o) i = !(liveL t (ofL t o)).contains (i:Int):=fun i=>rfl
 generalize deadQ t (ofL t o)=dq at hdq ⊢
 generalize liveL t (ofL t o)=R at hR0 hdq
 generalize ofL t o=of at *
 generalize (fun x:Int=>Xv t of x.toNat)=Nf at hN hok hR0
 rw[mainL_eq]at hR0
 refine QR ?_ rfl rfl
 refine J8 c20_ok fun N=>?_
 simp -implicitDefEqProofs only[c20,go_sem,Tr.cv,Tr.row]
 refine JM hF ?_
 have e0:((0:Int) != 0)=false:=rfl
 simp -implicitDefEqProofs only[go_sem,e0,rRw,tRw,hil]
 refine Je (id:=1) (z:=2) (els:=[rRw t of]) rfl rfl ?_
 simp only[go_sem,JS,Kb,frz,KI,Gg,Ga,Gc,rRw,tRw]
 refine Xh ?_
 simp only[go_sem,GM,GN]
 refine Jv (I:=fun i:Nat=>i≤t.items.length) (inv:=fun i=>gp [(2,.nils),(1,.rptr (rRw t of)),(0,.map 2),(0,K5 3 (iz (YO (Yr t) (fun i=>(i:Int)) i))),(18,.rslc 1 (iz t.items) none),(0,.int .i64 (t.items.length:Int)),(0,.int .i64 (i:Int))] 59) (hp:=fun i=>[.arr 2 [t.row],.dead,.map (lz []),Qm 1 (iz (YO (Yr t) (fun i=>(i:Int)) i))]) (μ:=fun i=>t.items.length-i) 0 [0,1,2,3] (by omega) rfl ?_ ?_ ?_
 ·simp[forget,Jy,ren,Jk,gp,rRw,tRw,K5,iz,YO]
 ·simp[J5,Jbg,iz,YO,Qm,Tr.row,Jy,ren,lz]
 ·intro i hi
  by_cases hlt:i < t.items.length
  ·have d1:((i:Int) < (t.items.length:Int))=True:=Jo
   obtain ⟨L,hL1,hL2,hL3⟩:=hgi i hlt
   have hst:=Jbj (q:=Yr t) (f:=fun i=>(i:Int)) (i:=i)
   have hpl:=YB (q:=Yr t) (f:=fun i=>(i:Int)) (i:=i)
   have hq:Yr t i=((nd t L).text == [109,97,105,110]):=by unfold Yr; rw[hL2,Gf]; rfl
   generalize YO (Yr t) (fun i=>(i:Int)) i=acc at hst hpl ⊢
   cases hb:((nd t L).text == [109,97,105,110]) with
   |false=>
    rw[hq,hb,if_neg (by simp),Gy]at hst
    simp -implicitDefEqProofs only[go_sem,d1,hil,hL1,rRw,tRw,Jd,Kh hL3,Nd.cv,S_beq,hb]
    refine ⟨by omega,by omega,Jj,i+1,[0,1,2,3],by omega,by omega,rfl,?_,?_⟩
    ·rw[hst]; simp only[J5,Ga,Gc,go_sem,Ke (Ja (Jc acc)),Jg,Ji]; simp[Jy,ren,Tr.row,lz,Jbg]
    ·rw[hst]; simp[forget,Jy,ren,Jk,Kr,rRw,tRw]
   |true=>
    rw[hq,hb,if_pos rfl]at hst
    simp -implicitDefEqProofs only[go_sem,d1,hil,hL1,rRw,tRw,Jd,Kh hL3,Nd.cv,S_beq,hb,Jf,Jt]
    refine ⟨by omega,by omega,⟨by omega,by omega⟩,Jj,i+1,[0,1,2,5],by omega,by omega,rfl,?_,?_⟩
    ·rw[hst,Ka,J7]
     simp only[J5,Ga,Gc,go_sem,Ji,Jg]
     simp[Ja (Jc acc),Jy,ren,Tr.row,lz,Jbg]
    ·rw[hst,Ka,J6]
     simp[forget,Jy,ren,Jk,rRw,tRw,Jf]
  ·have d1:((i:Int) < (t.items.length:Int))=False:=Jn
   obtain rfl:i=t.items.length:=by omega
   simp -implicitDefEqProofs only[go_sem,d1]
   have hM0:=YB (q:=Yr t) (f:=fun i=>(i:Int)) (i:=t.items.length)
   have hMr:∀ x∈YO (Yr t) (fun i=>(i:Int)) t.items.length,0≤x∧x < t.items.length:=fun x hx=>by
    rw[← mainL_eq]at hx
    exact XB.1 (Gm.1 hx).1
   have hmu0:=muB_le (l:=upto t.items.length) (todo:=YO (Yr t) (fun i=>(i:Int)) t.items.length) (out:=[])
   rw[hul]at hmu0
   have hmul:=Lg (show t.items.length≤20 by omega) (show t.items.length+1≤21 by omega)
   generalize YO (Yr t) (fun i=>(i:Int)) t.items.length=T0 at hR0 hM0 hMr hmu0 ⊢
   refine Jv (σ:=List Int×Nat×List Int) (I:=fun s'=>s'.2.1≤s'.1.length∧(∀ x∈s'.1,0≤x∧x < t.items.length)∧R=bfs Nf (upto t.items.length) (s'.1.drop s'.2.1) s'.2.2∧muB (upto t.items.length) (s'.1.drop s'.2.1) s'.2.2≤1000∧s'.2.2.length+QN (upto t.items.length) s'.2.2≤700)
    (inv:=fun s'=>gp [(2,.nils),(1,.rptr (rRw t of)),(0,.map 2),(0,todoD 3 s'.1 s'.2.1)] 80) (hp:=fun s'=>[.arr 2 [t.row],.dead,.map (lz s'.2.2),Qm 1 (iz s'.1)]) (μ:=fun s'=>muB (upto t.items.length) (s'.1.drop s'.2.1) s'.2.2) (T0,0,[]) [0,1,2,3] ⟨by simp,hMr,by simpa using hR0,by simp only[Gg]; omega,by have:=YF (l:=upto t.items.length) (out:=[]); simp only[Gp]; omega⟩ rfl ?_ ?_ ?_
   ·simp[forget,Jy,ren,Jk,gp,rRw,JdU,Kr]
   ·simp only[J5,Ga,Gc,go_sem,Ke (Ja (Jc T0)),Jg,Ji]; simp[Jy,ren,Tr.row,lz,Jbg]
   ·rintro ⟨els,off,out⟩ ⟨hoff,hP,hB,hmu,hout⟩
    dsimp only at hoff hP hB hmu hout
    have hren:∀ (ρ:List Nat) (out:List Int),Jbg ρ (.map (lz out))=.map (lz out):=fun ρ out=>by simp[Jbg,lz,ren]
    have hrow:∀ ρ:List Nat,Jbg ρ (.arr 2 [t.row])=.arr 2 [t.row]:=fun ρ=>by simp[Jbg,Jy,ren,Tr.row]
    rcases (show (off < els.length∧els≠[])∨off=els.length from by
     rcases GU off els.length with h | h
     ·exact .inl ⟨h,by rintro rfl; simp at h⟩
     ·exact .inr (by omega)) with ⟨hlt,hne⟩ | rfl
    ·have hrO:Qm 1 (iz els)=.arr 1 (iz els):=QC (by simpa [iz]using hne)
     have hel:(iz els).length=els.length:=Jf
     rw[hrO,JeP hne]
     have d2:(((els.length-off:Nat):Int) > 0)=True:=Jo
     have d1:((0:Int) < ((els.length-off:Nat):Int))=True:=Jo
     have hge:=JQ hlt
     have hdr:els.drop off=els.getD off 0::els.drop (off+1):=by
      rw[G5 hlt,Gl,Gi hlt]; rfl
     have hmem:els.getD off 0∈els:=by rw[Gl,Gi hlt]; exact Gs hlt
     have hPx:=hP _ hmem
     have hall:∀ y∈els.drop off,y∈upto t.items.length:=fun y hy=>XB.2 (hP y (GJ hy))
     rw[hdr]at hB hall hmu ⊢
     have hmu':=hmu
     simp only[muB,Gd]at hmu'
     generalize hx:els.getD off 0=x at hge hPx hB hall hmu ⊢
     obtain ⟨xn,rfl⟩:∃ x':Nat,x=x':=⟨x.toNat,by omega⟩
     have hxm:(xn:Int)∈upto t.items.length:=hall xn (by simp)
     cases hc:out.contains (xn:Int) with
     |true=>
      obtain ⟨j,hj⟩:=lz_old 0 hc
      rw[JfI hok hall hc]at hB
      simp -implicitDefEqProofs only[go_sem,d1,d2,hel,hge,GV,hj,Gh]
      refine ⟨by omega,⟨by omega,Gv _⟩,(els,off+1,out),[0,1,2,3],⟨by simp only; omega,hP,hB,by simp only[muB]; omega,hout⟩,by simp only[muB,Gd]; omega,rfl,?_,?_⟩
      ·simp only[J5,Ga,Gc,go_sem,hren,hrow,Ji,Ja (Jc els),Jg,hrO]
      ·simp[forget,Jy,ren,Jk,rRw,JeP hne]; omega
     |false=>
      have hj:=lz_new (x:=(xn:Int)) 0 hc
      rw[JfJ hok hall hc]at hB
      have hll:=Q0 hxm hc
      have hlr:=Hg ((upto t.items.length).length+1) (show QN (upto t.items.length) (out++[(xn:Int)])+1≤QN (upto t.items.length) out from hll)
      rw[Nat.add_mul,Nat.one_mul]at hlr
      have hnx:=(hok xn hxm)
      have hNf:=hCl xn
      rw[hN]at hNf
      simp -implicitDefEqProofs only[go_sem,d1,d2,hel,hge,GV,hj,Gj,← lz_snoc,rRw]
      refine ⟨by omega,⟨by omega,Gv _⟩,?_⟩
      refine JM hNf ?_
      generalize Nf (xn:Int)=M at hnx hB ⊢
      obtain ⟨hn1,hn2⟩:=hnx
      have hel2:off+1+(els.length-off-1)=els.length:=by omega
      have hel3:(off+1+(els.length-off-1)=els.length)=True:=eq_true hel2
      have hd:=H7 (i:=off+1) (l:=els)
      cases M with
      |nil=>
       simp -implicitDefEqProofs only[go_sem,Qi]
       rw[Gy]at hB
       refine ⟨(els,off+1,out++[(xn:Int)]),[0,1,2,3],⟨by simp only; omega,hP,hB,by simp only[muB]; omega,by simp only[Gx,Gd,Gp]; omega⟩,by simp only[muB,Gd]; omega,rfl,?_,?_⟩
       ·rw[hrO]; simp only[J5,Ga,Gc,go_sem,hren,hrow,Ji,Ja (Jc els),Jg]
       ·rw[JeP hne]
        simp[forget,Jy,ren,Jk,Jf,rRw]; omega
      |cons y ys=>
       simp -implicitDefEqProofs only[go_sem,JV,hel,hel3,Jf,Jt]
       simp only[Gd]at hn2
       refine ⟨⟨by omega,by omega⟩,(els.drop (off+1)++y::ys,0,out++[(xn:Int)]),[0,1,2,4],⟨by simp,fun z hz=>?_,by simpa using hB,by simp only[Gg,muB,Gx,Gd]; omega,by simp only[Gx,Gd,Gp]; omega⟩,by simp only[Gg,muB,Gx,Gd]; omega,rfl,?_,?_⟩
       ·rcases La.1 hz with h | h
        ·exact hP z (GJ h)
        ·exact XB.1 (hn1 z h)
       ·rw[Kl,JV,J7,← Y9]
        simp only[J5,Ga,Gc,go_sem,hren,hrow,Ji,Jg]
        rw[Y9]
        simp[Ja (Jc (els.drop (off+1))),Ja (Jc ys),Jy,ren]
       ·rw[JdU,Kl,JV,J6]
        simp[forget,Jy,ren,Jk,Jf,rRw]; omega
    ·have hE2:(todoD 3 els els.length=.nils∧Qm 1 (iz els)=.dead)∨(todoD 3 els els.length=.slc 3 els.length 0 none∧Qm 1 (iz els)=.arr 1 (iz els)):=by
      cases els with
      |nil=>exact .inl ⟨rfl,rfl⟩
      |cons x l=>exact .inr ⟨by simp[todoD],rfl⟩
     rw[H8,Jdt]at hB
     rw[hB]at hdq
     have hout2:out.length≤700:=by omega
     have d2:((0:Int) > 0)=False:=Jn
     have d1:((0:Int) < 0)=False:=Jn
     have hdl:∀ i,(YO dq (fun i=>(i:Int)) i).length≤i:=fun i=>YB
     rcases hE2 with ⟨h1,h2⟩ | ⟨h1,h2⟩ <;> rw[h1,h2]
     all_goals
      simp -implicitDefEqProofs only[go_sem,d1,d2,rRw,tRw,hil,Int.ofNat_zero]
      refine Xh ?_
      simp only[go_sem,GM,GN]
      refine Jv (I:=fun i:Nat=>i≤t.items.length) (inv:=fun i=>gp [(2,K5 3 (iz (YO dq (fun i=>(i:Int)) i))),(2,.map 2),(67,.int .i64 (t.items.length:Int)),(0,.int .i64 (i:Int))] 12) (hp:=fun i=>[.arr 2 [t.row],.dead,.map (lz out),Qm 1 (iz (YO dq (fun i=>(i:Int)) i))]) (μ:=fun i=>t.items.length-i) 0 [0,1,2,4] (by omega) rfl ?_ ?_ ?_
      ·simp[forget,Jy,ren,Jk,gp,K5,iz,YO]
      ·simp only[J5,Ga,Gc,go_sem,hren,hrow,Jg]; simp[Qm,iz,YO]
      ·intro i hi
       by_cases hlt:i < t.items.length
       ·have d3:((i:Int) < (t.items.length:Int))=True:=Jo
        have hst:=Jbj (q:=dq) (f:=fun i=>(i:Int)) (i:=i)
        have hpl:=hdl i
        have hq:=hdq i
        generalize YO dq (fun i=>(i:Int)) i=acc at hst hpl ⊢
        cases hc:out.contains (i:Int) with
        |true=>
         obtain ⟨j,hj⟩:=lz_old 0 hc
         rw[hq,hc,if_neg (by simp),Gy]at hst
         simp -implicitDefEqProofs only[go_sem,d3,hj,Gh]
         refine ⟨Jj,i+1,[0,1,2,3],by omega,by omega,rfl,?_,?_⟩
         ·rw[hst]; simp only[J5,Ga,Gc,go_sem,hren,hrow,Ke (Ja (Jc acc)),Jg]
         ·rw[hst]; simp[forget,Jy,ren,Jk,Kr]
        |false=>
         have hj:=lz_new (x:=(i:Int)) 0 hc
         rw[hq,hc,if_pos (by rfl)]at hst
         simp -implicitDefEqProofs only[go_sem,d3,hj,Gj,Jf,Jt]
         refine ⟨⟨by omega,by omega⟩,Jj,i+1,[0,1,2,5],by omega,by omega,rfl,?_,?_⟩
         ·rw[hst,Ka,J7]
          simp only[J5,Ga,Gc,go_sem,hren,hrow,Ji,Jg]
          simp[Ja (Jc acc),Jy,ren]
         ·rw[hst,Ka,J6]
          simp[forget,Jy,ren,Jk,Jf]
       ·have d3:((i:Int) < (t.items.length:Int))=False:=Jn
        obtain rfl:i=t.items.length:=by omega
        simp -implicitDefEqProofs only[go_sem,d3]
        exact Jbq rfl rfl
theorem nDeadP:Fn Gb 20 [t.cv] (if (QF t o).2≠0 then .tup [.nils,.int .i64 (QF t o).2] else .tup [.rslc 1 (iz (deadL t (ofL t o))) none,.int .i64 0]):=by
 by_cases hE:(QF t o).2=0
 ·rw[if_neg (by simp[hE])]; exact nDead g ht hE
 ·have hF:=nFind0 g ht
  obtain ⟨l,hl⟩:=Je7 (t:=t) (o:=o)
  have e1:((QF t o).2 != 0)=true:=by simpa using hE
  rw[if_pos hE]
  refine Jb c20_ok rfl rfl fun N=>?_
  simp -implicitDefEqProofs only[c20,go_sem,Tr.cv,Tr.row]
  refine JM hF ?_
  rw[hl]
  simp -implicitDefEqProofs only[go_sem,e1]
end
theorem nFindE0 (t:Tr) (ht:t.Fit) (h:chk t≠0):Fn Gb 48 [t.cv,.nils] (.tup [.agg [.nilp,.nils],.int .i64 (chk t)]):=(nFindE t ht [] h).args ⟨wk.refl _,wk.nils,trivial⟩
theorem nOutsideE (t:Tr) (ht:t.Fit) (h:chk t≠0) (d:Int):Fn Gb 18 [t.cv,.int .i64 d] (.tup [.nils,.int .i64 (chk t)]):=by
 have e:(chk t != 0)=true:=by simpa using h
 refine Jb c18_ok rfl rfl fun N=>?_
 simp -implicitDefEqProofs only[c18,go_sem,Tr.cv,Tr.row]
 refine Je (id:=1) (z:=1) (els:=iz [d]) rfl rfl ?_
 simp only[go_sem,JS,Kb,frz,KI,JV,Qi,Ga,Gc,Gd,Gp,Gg,G7,He]
 refine JM (nFindE t ht [d] h) ?_
 simp -implicitDefEqProofs only[go_sem,e]
theorem nCallsE (t:Tr) (ht:t.Fit) (h:chk t≠0) (d:Int):Fn Gb 19 [t.cv,.int .i64 d] (.tup [.nils,.int .i64 (chk t)]):=by
 have e:(chk t != 0)=true:=by simpa using h
 refine Jb c19_ok rfl rfl fun N=>?_
 simp -implicitDefEqProofs only[c19,go_sem,Tr.cv,Tr.row]
 refine JM (nFindE0 t ht h) ?_
 simp -implicitDefEqProofs only[go_sem,e]
theorem nDeadE (t:Tr) (ht:t.Fit) (h:chk t≠0):Fn Gb 20 [t.cv] (.tup [.nils,.int .i64 (chk t)]):=by
 have e:(chk t != 0)=true:=by simpa using h
 refine Jb c20_ok rfl rfl fun N=>?_
 simp -implicitDefEqProofs only[c20,go_sem,Tr.cv,Tr.row]
 refine JM (nFindE0 t ht h) ?_
 simp -implicitDefEqProofs only[go_sem,e]
end
section
section
variable {t:Tr}{o:List Int}(g:GoodT t o) (ht:t.Fit)
include g ht
theorem refInside {i d:Nat}(hd:d < t.nodes.length):Fn Gb 65 [t.cv,.int .i64 (i:Int),.int .i64 (d:Int)] (.bool (Yh t o i d)):=by
 have hmany:=g.many
 have hgd:=Kh hd
 refine Jb c65_ok rfl rfl fun N=>?_
 cases h28:((nd t d).k == 28) with
 |true=>
  have k28:(nd t d).k=28:=by simpa using h28
  obtain ⟨a,b,h1,h2,h3,_⟩:=XL g hd k28
  change (nd t d).n=(a:Int) at h1
  change b < (nd t d).kids.length at h3
  have hkn:=(fitN ht hd).kidn
  have hp:Yh t o i d=bkB t o i d (a:Int) true:=by unfold Yh; rw[if_pos k28,h1]
  rw[hp]
  simp -implicitDefEqProofs only[c65,go_sem,Tr.cv,Tr.row,Jd,hgd,Nd.cv,kbE,h28]
  refine ⟨by omega,?_⟩
  refine JK Jz (by decide) ?_
  simp -implicitDefEqProofs only[go_sem,Jd,hgd,Nd.cv,h1]
  refine ⟨by omega,?_⟩
  refine JO (.inl rfl) (Y2 g ht (j:=i) (m:=a) hd (by omega) true) ?_
  simp -implicitDefEqProofs only[go_sem]
 |false=>
  have k28:(nd t d).k≠28:=by simpa using h28
  cases h47:((nd t d).k == 47) with
  |true=>
   have k47:(nd t d).k=47:=by simpa using h47
   obtain ⟨h1,_⟩:=Yn g hd k47
   change (nd t d).kids.length=3 at h1
   have hl:=(Kt g hd (i:=(nd t d).kids.length-1) (by omega)).2.1
   change JI t d < d at hl
   have hp:Yh t o i d=XF o i (JI t d):=by unfold Yh; rw[if_neg k28,if_pos k47]
   rw[hp]
   simp -implicitDefEqProofs only[c65,go_sem,Tr.cv,Tr.row,Jd,hgd,Nd.cv,kbE,h28,h47]
   refine ⟨by omega,?_⟩
   refine JK Jz (by decide) ?_
   simp -implicitDefEqProofs only[go_sem,Tr.row]
   refine JO (.inl rfl) (JaZ g ht hd (by omega)) ?_
   simp -implicitDefEqProofs only[go_sem,Tr.row]
   refine JO (.inl rfl) (QG g ht (j:=i) (show JI t d < t.nodes.length by omega)) ?_
   simp -implicitDefEqProofs only[go_sem]
  |false=>
   have hp:Yh t o i d=XF o i d:=by unfold Yh; rw[if_neg k28,if_neg (by simpa using h47)]
   rw[hp]
   simp -implicitDefEqProofs only[c65,go_sem,Tr.cv,Tr.row,Jd,hgd,Nd.cv,kbE,h28,h47]
   refine ⟨by omega,?_⟩
   refine JM (QG g ht (j:=i) hd) ?_
   simp -implicitDefEqProofs only[go_sem]
theorem refOutside (hE:(QF t o).2=0) {d:Nat}(hd:d < t.nodes.length):JaT Gb 26 [t.cv,.rslc 1 (iz (ofL t o)) none,.int .i64 (d:Int)] 1 (iz (outL t o (ofL t o) d)):=by
 have hmany:=g.many
 have ho:=Jcd (t:=t) (o:=o)
 have hmean:∀ i,i < t.nodes.length→(nd t i).k=3→0≤(ofL t o).getD i 0∧(ofL t o).getD i 0 < t.nodes.length:=fun i hi h3=>by
  rw[JcX hi]
  have:=mean_name g hE hi h3
  exact ⟨this.2.1,this.2.2.1⟩
 have hol:(iz (ofL t o)).length=t.nodes.length:=by rw[Jf,ho.len]
 have hgo:∀ i,i < t.nodes.length→(iz (ofL t o)).getD i []=[.int .i64 ((ofL t o).getD i 0)]:=fun i hi=>JQ (by rw[ho.len]; exact hi)
 have hQ:∀ i,outQ t o (ofL t o) d i=((nd t i).k == 3 && (Yh t o i d && !XF o ((ofL t o).getD i 0).toNat d)):=fun i=>rfl
 unfold outL
 rw[← imgB_all]
 generalize hof:ofL t o=of at *
 have hF:∀ i,(fun i=>of.getD i 0) i=of.getD i 0:=fun _=>rfl
 generalize outQ t o of d=q at hQ ⊢
 generalize (fun i=>of.getD i 0)=f at hF ⊢
 refine Yu (J8 c26_ok fun N=>?_) rfl (Jc _)
 simp -implicitDefEqProofs only[c26,go_sem,Tr.cv,Tr.row,Jd]
 refine ⟨⟨by omega,Gv _,by omega,by omega⟩,?_⟩
 refine Je (id:=0) (z:=2) (els:=[t.row]) rfl rfl ?_
 simp only[go_sem,JS,Kb,frz,KI,Ga,Gc,Ha,Tr.row]
 rw[bb_rep,← imgB_zero (q:=q) (f:=f)]
 have hbl:∀ i,(bb (JfM q f t.nodes.length i)).length=t.nodes.length:=fun i=>by rw[YQ]; exact J4
 refine Jv (I:=fun i:Nat=>i≤t.nodes.length) (inv:=fun i=>gp [(1,.rslc 1 (iz of) none),(0,.int .i64 (d:Int)),(0,.rptr t.row),(3,.slc 1 0 t.nodes.length (some t.nodes.length)),(0,.int .i64 (i:Int))] 42) (hp:=fun i=>[.dead,.arr 1 (bb (JfM q f t.nodes.length i))]) (μ:=fun i=>t.nodes.length-i) 0 [0,1] (by omega) rfl ?_ ?_ ?_
 ·simp[forget,Jy,ren,Jk,gp,Tr.row]
 ·simp only[J5,Ga,Gc,go_sem,Ji,Jg,Ja (JW _)]
 ·intro i hi
  have hcl:=Ja (ρ:=[0,1]) (JW (JfM q f t.nodes.length i))
  by_cases hlt:i < t.nodes.length
  ·have d1:((i:Int) < (t.nodes.length:Int))=True:=Jo
   have hgi:=hgo i hlt
   have hgn:=Kh hlt
   have hqi:=hQ i
   have hmi:=hmean i hlt
   have hfi:=hF i
   have hno:=fun h=>imgB_no (q:=q) (f:=f) (m:=t.nodes.length) (i:=i) h
   generalize of.getD i 0=m at hgi hqi hmi hfi
   simp -implicitDefEqProofs only[go_sem,d1,Tr.row,Jd]
   refine JK Jz (by decide) ?_
   cases h3:((nd t i).k == 3) with
   |false=>
    have hn:=hno (by rw[hqi,h3,Gn])
    simp -implicitDefEqProofs only[go_sem,Jd,hgn,Nd.cv,kbE,h3]
    refine ⟨by omega,Jj,i+1,[0,1],by omega,by omega,rfl,?_,?_⟩
    ·rw[hn]; simp only[J5,Ga,Gc,go_sem,Ji,hcl,Jg]
    ·simp[forget,Jy,ren,Jk,Tr.row]
   |true=>
    have k3:(nd t i).k=3:=by simpa using h3
    obtain ⟨m,rfl⟩:∃ m':Nat,m=m':=⟨m.toNat,by have:=hmi k3; omega⟩
    have hmn:m < t.nodes.length:=by have:=hmi k3; omega
    rw[Gf,h3,Gq]at hqi
    simp -implicitDefEqProofs only[go_sem,Jd,hgn,Nd.cv,kbE,h3,Tr.row]
    refine ⟨by omega,?_⟩
    refine JO (gok rfl) (refInside g ht (i:=i) hd) ?_
    cases hp:Yh t o i d with
    |false=>
     have hn:=hno (by rw[hqi,hp,Gn])
     simp -implicitDefEqProofs only[go_sem]
     refine ⟨Jj,i+1,[0,1],by omega,by omega,rfl,?_,?_⟩
     ·rw[hn]; simp only[J5,Ga,Gc,go_sem,Ji,hcl,Jg]
     ·simp[forget,Jy,ren,Jk,Tr.row]
    |true=>
     rw[hp,Gq]at hqi
     simp -implicitDefEqProofs only[go_sem,hol,hgi,Tr.row]
     refine ⟨by omega,?_⟩
     refine JO (gok rfl) (QG g ht (j:=m) hd) ?_
     cases hb:XF o m d with
     |true=>
      have hn:=hno (by rw[hqi,hb]; rfl)
      simp -implicitDefEqProofs only[go_sem,Gh]
      refine ⟨Jj,i+1,[0,1],by omega,by omega,rfl,?_,?_⟩
      ·rw[hn]; simp only[J5,Ga,Gc,go_sem,Ji,hcl,Jg]
      ·simp[forget,Jy,ren,Jk,Tr.row]
     |false=>
      have hset:=imgB_yes (q:=q) (f:=f) (m:=t.nodes.length) (i:=i) (k:=m) (by rw[hqi,hb]; rfl) hfi hmn
      have hbg:=Jdw (l:=JfM q f t.nodes.length i) (i:=m) (by have:=hbl i; rw[YQ]at this; omega)
      simp -implicitDefEqProofs only[go_sem,Gj,hol,hgi,hbl,hbg,Gd,Gp,GL,Gg,JeC,hset]
      refine ⟨by omega,by omega,by omega,Jj,i+1,[0,1],by omega,by omega,rfl,?_,?_⟩
      ·simp only[J5,Ga,Gc,go_sem,Ji,Ja (JW _),Jg]
      ·simp[forget,Jy,ren,Jk,Tr.row]
  ·have d1:((i:Int) < (t.nodes.length:Int))=False:=Jn
   obtain rfl:i=t.nodes.length:=by omega
   simp -implicitDefEqProofs only[go_sem,d1,Tr.row,Jd]
   refine Je (id:=1) (z:=1) (els:=bb (JfM q f t.nodes.length t.nodes.length)) rfl (JW _) ?_
   have hft:=G6 (l:=bb (JfM q f t.nodes.length t.nodes.length)) (i:=t.nodes.length) (by rw[hbl]; omega)
   simp only[go_sem,JS,Kb,frz,KI,Ga,Gc,Gg,GR,if_true,hbl,GX,hft,G9,G8]
   refine JbI (.inl rfl) (refSet _ (by have:=hbl t.nodes.length; rw[YQ]at this; omega)) ?_
   simp -implicitDefEqProofs only[go_sem]
   exact ⟨2,rfl,rfl⟩
end
end
section
theorem Jdr {n i:Nat}{f g:Int→Bool}{v:Bool}(h:i < n) (h1:∀ j:Nat,j < n→j≠i→g j=f j) (h2:g i=v):(JN n f).set i v=JN n g:=by
 refine List.ext_getElem (by simp[JN]) fun j h3 h4=>?_
 have hj:j < n:=by rw[J4]at h4; exact h4
 have e:(JN n g)[j]=g j:=by simp[JN]
 rw[e,List.getElem_set]
 by_cases he:i=j
 ·subst he; rw[if_pos rfl,h2]
 ·have e2:(JN n f)[j]'(by rw[J4]; exact hj)=f j:=by simp[JN]
  rw[if_neg he,e2,h1 j hj (fun h=>he h.symm)]
theorem Jdf {q r:Int→Bool}(h:∀ x,q x=r x):∀ (l:List Int) (i:Nat),QE q l i=QE r l i
 |[],_=>rfl
 |x::l,i=>by unfold QE; rw[h x,Jdf h l (i+1)]
section
variable {t:Tr}{o:List Int}(g:GoodT t o) (ht:t.Fit)
include g ht
omit ht in
theorem refNumber3 {L:Nat}(h:t.items[KE t L]? = some (L:Int)):Fn Gb 67 [t.cv,.int .i64 (L:Int)] (.int .i64 (KE t L:Int)):=by
 have hits:=g.items
 have hil:(iz t.items).length=t.items.length:=Jf
 have hix:=Jeo g h
 rw[Jdf (r:=fun y=>y == (L:Int)) fun y=>by rw[Gw,beq_iff_eq,beq_iff_eq]; exact ⟨Eq.symm,Eq.symm⟩]at hix
 rw[← hix]
 refine Jb c67_ok rfl rfl fun N=>?_
 simp -implicitDefEqProofs only[c67,go_sem,Tr.cv,Tr.row]
 refine Je (id:=0) (z:=2) (els:=[t.row]) rfl rfl ?_
 simp only[go_sem,JS,Kb,frz,KI,Ga,Gc,Tr.row]
 refine JA (I:=fun i:Nat=>i≤t.items.length∧QE (fun y=>y == (L:Int)) t.items 0=QE (fun y=>y == (L:Int)) (t.items.drop i) i) (inv:=fun i=>gp [(1,.int .i64 (L:Int)),(0,.rptr t.row),(2,.int .i64 (i:Int))] 15) (hp:=fun _=>[.dead]) (μ:=fun i=>t.items.length-i) 0 ⟨by omega,rfl⟩ ?_ rfl ?_
 ·simp[forget,gp,Tr.row]
 ·rintro i ⟨hi,hinv⟩
  by_cases hlt:i < t.items.length
  ·have d1:((i:Int) < (t.items.length:Int))=True:=Jo
   have hgi:=JQ hlt
   have hge:t.items[i]? = some (t.items.getD i 0):=by rw[Gl,Gi hlt]; rfl
   rw[Qr hge]at hinv
   generalize t.items.getD i 0=y at hinv hgi
   cases he:(y == (L:Int)) with
   |true=>
    rw[he,if_pos rfl]at hinv
    simp -implicitDefEqProofs only[go_sem,d1,Tr.row,hil,hgi,he,hinv]
    omega
   |false=>
    rw[he]at hinv
    simp -implicitDefEqProofs only[go_sem,d1,Tr.row,hil,hgi,he]
    refine ⟨by omega,Jj,i+1,⟨by omega,by simpa using hinv⟩,by omega,?_⟩
    simp[forget,Tr.row]
  ·have d1:((i:Int) < (t.items.length:Int))=False:=Jn
   rw[Hu (by omega)]at hinv
   simp -implicitDefEqProofs only[go_sem,d1,Tr.row,hil,hinv,QE]
theorem refCalls (hE:(QF t o).2=0) {it:Nat}(hit:it < t.items.length):JaT Gb 27 [t.cv,.rslc 1 (iz (ofL t o)) none,.int .i64 (it:Int)] 1 (iz (Xv t (ofL t o) it)):=by
 have hmany:=g.many
 have hits:=g.items
 have ho:=Jcd (t:=t) (o:=o)
 have hil:(iz t.items).length=t.items.length:=Jf
 obtain ⟨R,hR⟩:∃ R:Nat,t.items[it]? = some (R:Int):=by
  have:=g.itr (Gs hit)
  exact ⟨(t.items[it]).toNat,by rw[Gi hit]; congr 1; omega⟩
 have hRl:=g.itr (GK hR)
 have hRz:(iz t.items).getD it []=[.int .i64 (R:Int)]:=by
  rw[JQ hit,Gl,hR]; rfl
 have hmean:∀ i,i < t.nodes.length→(nd t i).k=26→∃ L:Nat,(ofL t o).getD i 0=L∧t.items[KE t L]? = some (L:Int):=fun i hi h3=>by
  obtain ⟨L,h1,h2,_⟩:=call_item g hE hi h3
  exact ⟨L,by rw[JcX hi]; exact h1,h2⟩
 have hol:(iz (ofL t o)).length=t.nodes.length:=by rw[Jf,ho.len]
 have hgo:∀ i,i < t.nodes.length→(iz (ofL t o)).getD i []=[.int .i64 ((ofL t o).getD i 0)]:=fun i hi=>JQ (by rw[ho.len]; exact hi)
 have hQ:∀ i,callQ t it i=((nd t i).k == 26 && KE t i == it):=fun i=>rfl
 have hF:∀ i,callF t (ofL t o) i=(KE t ((ofL t o).getD i 0).toNat:Int):=fun i=>rfl
 unfold Xv
 rw[← imgB_all]
 generalize hof:ofL t o=of at *
 generalize callQ t it=q at hQ ⊢
 generalize callF t of=f at hF ⊢
 refine Yu (J8 c27_ok fun N=>?_) rfl (Jc _)
 simp -implicitDefEqProofs only[c27,go_sem,Tr.cv,Tr.row,hil]
 refine ⟨⟨by omega,Gv _,by omega,by omega⟩,?_⟩
 refine Je (id:=0) (z:=2) (els:=[t.row]) rfl rfl ?_
 simp only[go_sem,JS,Kb,frz,KI,Ga,Gc,Ha,Tr.row]
 rw[bb_rep,← imgB_zero (q:=q) (f:=f)]
 have hbl:∀ i,(bb (JfM q f t.items.length i)).length=t.items.length:=fun i=>by rw[YQ]; exact J4
 refine Jv (I:=fun i:Nat=>i≤t.nodes.length) (inv:=fun i=>gp [(1,.rslc 1 (iz of) none),(0,.int .i64 (it:Int)),(0,.rptr t.row),(3,.slc 1 0 t.items.length (some t.items.length)),(0,.int .i64 (i:Int))] 38) (hp:=fun i=>[.dead,.arr 1 (bb (JfM q f t.items.length i))]) (μ:=fun i=>t.nodes.length-i) 0 [0,1] (by omega) rfl ?_ ?_ ?_
 ·simp[forget,Jy,ren,Jk,gp,Tr.row]
 ·simp only[J5,Ga,Gc,go_sem,Ji,Jg,Ja (JW _)]
 ·intro i hi
  have hcl:=Ja (ρ:=[0,1]) (JW (JfM q f t.items.length i))
  by_cases hlt:i < t.nodes.length
  ·have d1:((i:Int) < (t.nodes.length:Int))=True:=Jo
   have hgi:=hgo i hlt
   have hgn:=Kh hlt
   have hqi:=hQ i
   have hmi:=hmean i hlt
   have hfi:=hF i
   have hno:=fun h=>imgB_no (q:=q) (f:=f) (m:=t.items.length) (i:=i) h
   generalize of.getD i 0=m at hgi hmi hfi
   simp -implicitDefEqProofs only[go_sem,d1,Tr.row,Jd]
   refine JK Jz (by decide) ?_
   cases h3:((nd t i).k == 26) with
   |false=>
    have hn:=hno (by rw[hqi,h3,Gn])
    simp -implicitDefEqProofs only[go_sem,Jd,hgn,Nd.cv,kbE,h3]
    refine ⟨by omega,Jj,i+1,[0,1],by omega,by omega,rfl,?_,?_⟩
    ·rw[hn]; simp only[J5,Ga,Gc,go_sem,Ji,hcl,Jg]
    ·simp[forget,Jy,ren,Jk,Tr.row]
   |true=>
    have k3:(nd t i).k=26:=by simpa using h3
    obtain ⟨m,rfl,hm⟩:=hmi k3
    have hml:=(GG.1 hm).1
    rw[Gf]at hfi
    have hbi:=item_in g hlt hR
    rw[h3,Gq,← hbi]at hqi
    simp -implicitDefEqProofs only[go_sem,Jd,hgn,Nd.cv,kbE,h3,Tr.row,hil,hRz]
    refine ⟨by omega,by omega,?_⟩
    refine JO (gok rfl) (QG g ht (j:=i) (show R < t.nodes.length by omega)) ?_
    cases hb:XF o i R with
    |false=>
     have hn:=hno (by rw[hqi,hb])
     simp -implicitDefEqProofs only[go_sem]
     refine ⟨Jj,i+1,[0,1],by omega,by omega,rfl,?_,?_⟩
     ·rw[hn]; simp only[J5,Ga,Gc,go_sem,Ji,hcl,Jg]
     ·simp[forget,Jy,ren,Jk,Tr.row]
    |true=>
     have hset:=imgB_yes (q:=q) (f:=f) (m:=t.items.length) (i:=i) (k:=KE t m) (by rw[hqi,hb]) hfi hml
     have hbg:=Jdw (l:=JfM q f t.items.length i) (i:=KE t m) (by have:=hbl i; rw[YQ]at this; omega)
     simp -implicitDefEqProofs only[go_sem]
     refine XA [false,false,false,false,false,false,false,true,true] Jz (by decide +kernel) ?_
     simp -implicitDefEqProofs only[go_sem,hol,hgi,Tr.row]
     refine ⟨by omega,?_⟩
     refine vh_f (refNumber3 g hm) ?_
     simp -implicitDefEqProofs only[go_sem,hbl,hbg,Gd,Gp,GL,Gg,JeC,hset]
     refine ⟨by omega,by omega,Jj,i+1,[0,1],by omega,by omega,rfl,?_,?_⟩
     ·simp only[J5,Ga,Gc,go_sem,Ji,Ja (JW _),Jg]
     ·simp[forget,Jy,ren,Jk,Tr.row]
  ·have d1:((i:Int) < (t.nodes.length:Int))=False:=Jn
   obtain rfl:i=t.nodes.length:=by omega
   simp -implicitDefEqProofs only[go_sem,d1,Tr.row,Jd]
   refine Je (id:=1) (z:=1) (els:=bb (JfM q f t.items.length t.nodes.length)) rfl (JW _) ?_
   have hft:=G6 (l:=bb (JfM q f t.items.length t.nodes.length)) (i:=t.items.length) (by rw[hbl]; omega)
   simp only[go_sem,JS,Kb,frz,KI,Ga,Gc,Gg,GR,if_true,hbl,GX,hft,G9,G8]
   refine JbI (.inl rfl) (refSet _ (by have:=hbl t.nodes.length; rw[YQ]at this; omega)) ?_
   simp -implicitDefEqProofs only[go_sem]
   exact ⟨2,rfl,rfl⟩
omit ht in
theorem refMain {r:Int}(hr:(r = -1∧∀ j,j < t.items.length→Yr t j=false)∨∃ k:Nat,r=k∧k < t.items.length∧Yr t k=true∧∀ j,j < k→Yr t j=false):Fn Gb 64 [t.cv] (.int .i64 r):=by
 have hits:=g.items
 have hil:(iz t.items).length=t.items.length:=Jf
 have hgi:∀ i,i < t.items.length→∃ L:Nat,(iz t.items).getD i []=[.int .i64 (L:Int)]∧t.items.getD i 0=L∧L < t.nodes.length:=fun i hi=>by
  have hm:t.items.getD i 0∈t.items:=by rw[Gl,Gi hi]; exact Gs hi
  have:=g.itr hm
  refine ⟨(t.items.getD i 0).toNat,?_,by omega,by omega⟩
  rw[JQ hi]
  congr 2; omega
 refine Jb c64_ok rfl rfl fun N=>?_
 simp -implicitDefEqProofs only[c64,go_sem,Tr.cv,Tr.row]
 refine Je (id:=0) (z:=2) (els:=[t.row]) rfl rfl ?_
 simp only[go_sem,JS,Kb,frz,KI,Ga,Gc,Tr.row]
 refine JA (I:=fun i:Nat=>i≤t.items.length∧∀ j,j < i→Yr t j=false) (inv:=fun i=>gp [(1,.rptr t.row),(1,.int .i64 (i:Int))] 19) (hp:=fun _=>[.dead]) (μ:=fun i=>t.items.length-i) 0 ⟨by omega,fun j h=>by omega⟩ ?_ rfl ?_
 ·simp[forget,gp,Tr.row]
 ·rintro i ⟨hi,hinv⟩
  by_cases hlt:i < t.items.length
  ·have d1:((i:Int) < (t.items.length:Int))=True:=Jo
   obtain ⟨L,hL1,hL2,hL3⟩:=hgi i hlt
   have hq:Yr t i=((nd t L).text == [109,97,105,110]):=by unfold Yr; rw[hL2,Gf]; rfl
   simp -implicitDefEqProofs only[go_sem,d1,Tr.row,hil]
   refine JK Jz (by decide) ?_
   cases hb:((nd t L).text == [109,97,105,110]) with
   |true=>
    rw[hb]at hq
    obtain rfl:r=(i:Int):=by
     rcases hr with ⟨_,h⟩ | ⟨k,rfl,h1,h2,h3⟩
     ·rw[h i hlt]at hq; cases hq
     ·rcases Nat.lt_trichotomy i k with h4 | h4 | h4
      ·rw[h3 i h4]at hq; cases hq
      ·omega
      ·rw[hinv k h4]at h2; cases h2
    simp -implicitDefEqProofs only[go_sem,hil,hL1,Jd,Kh hL3,Nd.cv,S_beq,hb]
    omega
   |false=>
    rw[hb]at hq
    simp -implicitDefEqProofs only[go_sem,hil,hL1,Jd,Kh hL3,Nd.cv,S_beq,hb]
    refine ⟨by omega,by omega,Jj,i+1,⟨by omega,fun j hj=>?_⟩,by omega,?_⟩
    ·rcases GU j i with h | h
     ·exact hinv j h
     ·obtain rfl:j=i:=by omega
      exact hq
    ·simp[forget,Tr.row]
  ·have d1:((i:Int) < (t.items.length:Int))=False:=Jn
   obtain rfl:i=t.items.length:=by omega
   obtain rfl:r = -1:=by
    rcases hr with ⟨h,_⟩ | ⟨k,rfl,h1,h2,h3⟩
    ·exact h
    ·rw[hinv k h1]at h2; cases h2
   simp -implicitDefEqProofs only[go_sem,d1,Tr.row,hil]
theorem refDead (hE:(QF t o).2=0):Fn Gb 23 [t.cv,.rslc 1 (iz (ofL t o)) none] (.rslc 1 (iz (deadL t (ofL t o))) none):=by
 have hmany:=g.many
 have hits:=g.items
 have hil:(iz t.items).length=t.items.length:=Jf
 have hCl:∀ it:Nat,it < t.items.length→Fn Gb 27 [t.cv,.rslc 1 (iz (ofL t o)) none,.int .i64 (it:Int)] (.rslc 1 (iz (Xv t (ofL t o) it)) none):=fun it h=>(refCalls g ht hE h).fn rfl (Jc _)
 have hN:∀ it:Nat,Xv t (ofL t o) it=(fun x:Int=>Xv t (ofL t o) x.toNat) it:=fun it=>by simp only[Gf]
 have hok:∀ x∈upto t.items.length,(∀ y∈(fun x:Int=>Xv t (ofL t o) x.toNat) x,y∈upto t.items.length)∧((fun x:Int=>Xv t (ofL t o) x.toNat) x).length≤(upto t.items.length).length:=callL_ok
 have hul:(upto t.items.length).length=t.items.length:=Jcn
 have hR0:liveL t (ofL t o)=bfs (fun x=>Xv t (ofL t o) x.toNat) (upto t.items.length) (Ja2 t) []:=rfl
 have hdl:deadL t (ofL t o)=setL (JN t.items.length fun x=>!(liveL t (ofL t o)).contains x):=by rw[JcH]; rfl
 have hM:∃ r:Int,((r = -1∧Ja2 t=[])∨∃ k:Nat,r=k∧k < t.items.length∧Ja2 t=[(k:Int)])∧Fn Gb 64 [t.cv] (.int .i64 r):=by
  rcases main_one g hE with h | ⟨i,h1,h2,h3,h4⟩
  ·refine ⟨-1,.inl ⟨rfl,h⟩,refMain g (.inl ⟨rfl,fun j hj=>?_⟩)⟩
   rw[GA]
   intro hq
   have:(j:Int)∈Ja2 t:=Gm.2 ⟨XB.2 ⟨by omega,by omega⟩,by rw[Gf]; exact hq⟩
   rw[h]at this; cases this
  ·exact ⟨i,.inr ⟨i,rfl,h1,h2⟩,refMain g (.inr ⟨i,rfl,h1,by unfold Yr; rw[h3]; simp,fun j hj=>by unfold Yr; simpa using h4 j hj⟩)⟩
 obtain ⟨r,hr,hM⟩:=hM
 rw[hdl]
 clear hdl
 generalize liveL t (ofL t o)=R at hR0 ⊢
 generalize hof:ofL t o=of at *
 generalize (fun x:Int=>Xv t of x.toNat)=Nf at hN hok hR0
 generalize Ja2 t=T0 at hR0 hr
 refine JaT.fn (Yu (J8 c23_ok fun N=>?_) rfl (Jc _)) rfl (Jc _)
 simp -implicitDefEqProofs only[c23,go_sem,Tr.cv,Tr.row,hil]
 refine ⟨⟨by omega,Gv _,by omega,by omega⟩,?_⟩
 refine Je (id:=0) (z:=2) (els:=[t.row]) rfl rfl ?_
 simp only[go_sem,JS,Kb,frz,KI,Ga,Gc,Ha,Tr.row]
 have hb0:Hf t.items.length false=JN t.items.length fun x=>decide (x < ((0:Nat):Int)):=by
  rw[← Yb]; exact Yc fun j _=>by simp
 rw[bb_rep,hb0]
 have hbl:∀ f,(bb (JN t.items.length f)).length=t.items.length:=fun f=>by rw[YQ]; exact J4
 refine Jv (I:=fun i:Nat=>i≤t.items.length) (inv:=fun i=>gp [(1,.rslc 1 (iz of) none),(0,.rptr t.row),(2,.slc 1 0 t.items.length (some t.items.length)),(0,.int .i64 (i:Int))] 48) (hp:=fun i=>[.dead,.arr 1 (bb (JN t.items.length fun x=>decide (x < (i:Int))))]) (μ:=fun i=>t.items.length-i) 0 [0,1] (by omega) rfl ?_ ?_ ?_
 ·simp[forget,Jy,ren,Jk,gp,Tr.row]
 ·simp only[J5,Ga,Gc,go_sem,Ji,Jg,Ja (JW _)]
 ·intro i hi
  by_cases hlt:i < t.items.length
  ·have d1:((i:Int) < (t.items.length:Int))=True:=Jo
   have hbg:=Jdw (l:=JN t.items.length fun x=>decide (x < (i:Int))) (i:=i) (by rw[J4]; exact hlt)
   have hset:=Jdr (f:=fun x=>decide (x < (i:Int))) (g:=fun x=>decide (x < ((i+1:Nat):Int))) (v:=true) hlt (fun j hj hne=>by rw[decide_eq_decide]; omega) (by simp; omega)
   simp -implicitDefEqProofs only[go_sem,d1,hbl,hbg,Gd,Gp,GL,Gg,JeC,hset]
   refine ⟨by omega,by omega,Jj,i+1,[0,1],by omega,by omega,rfl,?_,?_⟩
   ·simp only[J5,Ga,Gc,go_sem,Ji,Ja (JW _),Jg]
   ·simp[forget,Jy,ren,Jk,Tr.row]
  ·have d1:((i:Int) < (t.items.length:Int))=False:=Jn
   obtain rfl:i=t.items.length:=by omega
   have hb1:(JN t.items.length fun x=>decide (x < (t.items.length:Int)))=JN t.items.length fun x=>!([]:List Int).contains x:=Yc fun j hj=>by simpa using hj
   rw[hb1]
   simp -implicitDefEqProofs only[go_sem,d1,Tr.row]
   refine JM hM ?_
   obtain ⟨T1,hT1⟩:∃ T1:List Int,T1=T0:=⟨_,rfl⟩
   rw[← hT1]at hR0
   have hTr:(∀ x∈T1,0≤x∧x < t.items.length)∧T1.length≤1:=by
    rcases hr with ⟨_,h⟩ | ⟨k,_,hk,h⟩ <;> rw[hT1,h]
    ·exact ⟨fun x hx=>(by cases hx),by simp⟩
    ·exact ⟨fun x hx=>by rw[List.mem_singleton]at hx; omega,by simp⟩
   have hmu0:=muB_le (l:=upto t.items.length) (todo:=T1) (out:=[])
   rw[hul]at hmu0
   have hmul:=Lg (show t.items.length≤20 by omega) (show t.items.length+1≤21 by omega)
   obtain ⟨ρ1,hρ1⟩:∃ ρ1:List Nat,ρ1=if T1=[] then [0,1,2] else [0,1,4]:=⟨_,rfl⟩
   rcases hr with ⟨rfl,rfl⟩ | ⟨k,rfl,hk,rfl⟩
   case' inl=>
    have d2:((-1:Int)≥0)=False:=Jn
    simp -implicitDefEqProofs only[go_sem,d2]
    rw[hT1,if_pos rfl]at hρ1
   case' inr=>
    have d2:((k:Int)≥0)=True:=Jo
    simp -implicitDefEqProofs only[go_sem,d2,Jt]
    rw[hT1,if_neg (by simp)]at hρ1
   all_goals
    refine Jv (σ:=List Int×Nat×List Int) (I:=fun s'=>s'.2.1≤s'.1.length∧(∀ x∈s'.1,0≤x∧x < t.items.length)∧R=bfs Nf (upto t.items.length) (s'.1.drop s'.2.1) s'.2.2∧muB (upto t.items.length) (s'.1.drop s'.2.1) s'.2.2≤1000)
     (inv:=fun s'=>gp [(1,.rslc 1 (iz of) none),(0,.rptr t.row),(2,.slc 1 0 t.items.length (some t.items.length)),(1,JdF s'.1 s'.2.1)] 47) (hp:=fun s'=>[.dead,.arr 1 (bb (JN t.items.length fun x=>!s'.2.2.contains x)),.arr 1 (iz s'.1)]) (μ:=fun s'=>muB (upto t.items.length) (s'.1.drop s'.2.1) s'.2.2) (T1,0,[]) ρ1 ⟨by simp,hTr.1,by simpa using hR0,by simp only[Gg]; omega⟩ ?_ ?_ ?_ ?_
    ·rw[hρ1]; rfl
    ·rw[hT1,hρ1]; simp[forget,Jy,ren,Jk,gp,JdF,Tr.row,iz,JeB]
    ·rw[hT1,hρ1]
     simp only[J5,Ga,Gc,go_sem,Ji,Ja (JW _),Jg]
     simp[Jbg,iz,Jy,ren]
    ·rintro ⟨els,off,out⟩ ⟨hoff,hP,hB,hmu⟩
     dsimp only at hoff hP hB hmu
     have hel:(iz els).length=els.length:=Jf
     by_cases hlt:off < els.length
     ·have hne:els≠[]:=by rintro rfl; simp at hlt
      have d1:((0:Int) < ((els.length-off:Nat):Int))=True:=Jo
      have d2:(((els.length-off:Nat):Int) > 0)=True:=Jo
      have hgi:=JQ hlt
      have hdr:els.drop off=els.getD off 0::els.drop (off+1):=by
       rw[G5 hlt,Gl,Gi hlt]; rfl
      have hmem:els.getD off 0∈els:=by rw[Gl,Gi hlt]; exact Gs hlt
      have hPx:=hP _ hmem
      have hall:∀ y∈els.drop off,y∈upto t.items.length:=fun y hy=>XB.2 (hP y (GJ hy))
      rw[hdr]at hB hall hmu ⊢
      have hmu':=hmu
      simp only[muB,Gd]at hmu'
      generalize hx:els.getD off 0=x at hgi hPx hB hall hmu ⊢
      obtain ⟨xn,rfl⟩:∃ x':Nat,x=x':=⟨x.toNat,by omega⟩
      have hxm:(xn:Int)∈upto t.items.length:=hall xn (by simp)
      have hxn:xn < t.items.length:=by omega
      have hbg:=Jdw (l:=JN t.items.length fun x=>!out.contains x) (i:=xn) (by rw[J4]; exact hxn)
      rw[JaC hxn]at hbg
      cases hc:out.contains (xn:Int) with
      |true=>
       rw[hc]at hbg
       rw[JfI hok hall hc]at hB
       simp -implicitDefEqProofs only[go_sem,JdF,Yj hne,d1,d2,hel,hgi,GV,hbl,hbg,Gh]
       refine ⟨by omega,⟨by omega,Gv _⟩,by omega,by omega,(els,off+1,out),[0,1,2],⟨by simp only; omega,hP,hB,by simp only[muB]; omega⟩,by simp only[muB,Gd]; omega,rfl,?_,?_⟩
       ·simp only[J5,Ga,Gc,go_sem,Ji,Ja (Jc els),Ja (JW _),Jg]
       ·simp[forget,Jy,ren,Jk,Yj hne]; omega
      |false=>
       rw[hc]at hbg
       rw[JfJ hok hall hc]at hB
       have hll:=Q0 hxm hc
       have hlr:=Hg ((upto t.items.length).length+1) (show QN (upto t.items.length) (out++[(xn:Int)])+1≤QN (upto t.items.length) out from hll)
       rw[Nat.add_mul,Nat.one_mul]at hlr
       have hnx:=hok xn hxm
       have hNf:=hCl xn hxn
       rw[hN]at hNf
       have hset2:(JN t.items.length fun x=>!out.contains x).set xn false=JN t.items.length fun x=>!(out++[(xn:Int)]).contains x:=by
        refine Jdr hxn (fun j hj hne=>?_) (by simp)
        have:((j:Int) == (xn:Int))=false:=beq_eq_false_iff_ne.2 (by omega)
        simp[List.contains_eq_any_beq,Lb,this]
        omega
       simp -implicitDefEqProofs only[go_sem,JdF,Yj hne,d1,d2,hel,hgi,GV,hbl,hbg,Gj,Gd,Gp,GL,Gg,JeC,hset2,Tr.row]
       refine ⟨by omega,⟨by omega,Gv _⟩,by omega,by omega,by omega,by omega,?_⟩
       refine JM hNf ?_
       generalize Nf (xn:Int)=M at hnx hB ⊢
       obtain ⟨hn1,hn2⟩:=hnx
       have hel2:off+1+(els.length-off-1)=els.length:=by omega
       have hel3:(off+1+(els.length-off-1)=els.length)=True:=eq_true hel2
       have hd:=H7 (i:=off+1) (l:=els)
       cases M with
       |nil=>
        simp -implicitDefEqProofs only[go_sem,Qi]
        rw[Gy]at hB
        refine ⟨(els,off+1,out++[(xn:Int)]),[0,1,2],⟨by simp only; omega,hP,hB,by simp only[muB]; omega⟩,by simp only[muB,Gd]; omega,rfl,?_,?_⟩
        ·simp only[J5,Ga,Gc,go_sem,Ji,Ja (Jc els),Ja (JW _),Jg]
        ·simp[forget,Jy,ren,Jk,Yj hne]; omega
       |cons y ys=>
        simp -implicitDefEqProofs only[go_sem,JV,hel,hel3,Jf,Jt]
        simp only[Gd]at hn2
        refine ⟨⟨by omega,by omega⟩,(els.drop (off+1)++y::ys,0,out++[(xn:Int)]),[0,1,3],⟨by simp,fun z hz=>?_,by simpa using hB,by simp only[Gg,muB,Gx,Gd]; omega⟩,by simp only[Gg,muB,Gx,Gd]; omega,rfl,?_,?_⟩
        ·rcases La.1 hz with h | h
         ·exact hP z (GJ h)
         ·exact XB.1 (hn1 z h)
        ·rw[Kl,JV,← Y9]
         simp only[J5,Ga,Gc,go_sem,Ji,Jg,Ja (JW _)]
         rw[Y9]
         simp[Ja (Jc (els.drop (off+1))),Ja (Jc ys),Jy,ren]
        ·rw[Yj (show els.drop (off+1)++y::ys≠[] by simp)]
         simp[forget,Jy,ren,Jk,Jf]; omega
     ·obtain rfl:off=els.length:=by omega
      rw[H8,Jdt]at hB
      have d1:((0:Int) < ((els.length-els.length:Nat):Int))=False:=Jn
      have d2:(((els.length-els.length:Nat):Int) > 0)=False:=Jn
      simp -implicitDefEqProofs only[go_sem,JdF,d1,d2]
      refine Je (id:=1) (z:=1) (els:=bb (JN t.items.length fun x=>!out.contains x)) rfl (JW _) ?_
      have hft:=G6 (l:=bb (JN t.items.length fun x=>!out.contains x)) (i:=t.items.length) (by rw[hbl]; omega)
      simp only[go_sem,JS,Kb,frz,KI,Ga,Gc,Gg,GR,if_true,hbl,GX,hft,G9,G8,KG (Jc _)]
      refine JbI (.inl rfl) (refSet _ (by rw[J4]; omega)) ?_
      rw[hB]
      simp -implicitDefEqProofs only[go_sem]
      exact ⟨3,rfl,rfl⟩
end
end
theorem Jec (t:Tr) (ht:t.Fit) (hv:JaN t=false) (a b e:Int) (he:e≠0) {l x:CV}(h1:Fn Gb 18 [t.cv,.int .i64 a] (.tup [.nils,.int .i64 e])) (h2:Fn Gb 19 [t.cv,.int .i64 b] (.tup [.nils,.int .i64 e])) (h3:Fn Gb 20 [t.cv] (.tup [.nils,.int .i64 e])) (hR:Fn Gb 21 [t.cv] (.tup [l,x,.int .i64 e])):Fn Gb 5 [t.cv,.int .i64 a,.int .i64 b] (.bool true):=by
 have hV:=Jfg t
 rw[hv]at hV
 have e1:(e == e)=true:=by simp
 have e2:(e != 0)=true:=by simpa using he
 have e4:(e != e)=false:=by simp
 have e3:((0+0:Int) == 0)=true:=rfl
 have e5:((0+0+0:Int) == 0)=true:=rfl
 refine Jb c5_ok rfl rfl fun N=>?_
 simp -implicitDefEqProofs only[c5,go_sem,Tr.cv,Tr.row]
 refine JM hV ?_
 simp -implicitDefEqProofs only[go_sem,Tr.row]
 refine JM (refCopy t ht) ?_
 simp -implicitDefEqProofs only[go_sem,Tr.cv,Tr.row]
 refine JM h1 ?_
 simp -implicitDefEqProofs only[go_sem,Tr.cv,Tr.row]
 refine JM h2 ?_
 simp -implicitDefEqProofs only[go_sem,Tr.cv,Tr.row]
 refine JM h3 ?_
 simp -implicitDefEqProofs only[go_sem,Tr.cv,Tr.row]
 refine JM hR ?_
 simp -implicitDefEqProofs only[go_sem,Tr.cv,Tr.row]
 refine JM (refAlike t ht) ?_
 simp -implicitDefEqProofs only[go_sem,e1,e2,e3,e4,e5,Gh,Gj]
 refine ⟨Jj,Jj,?_⟩
 refine JP (gok rfl) Jfs ?_
 simp -implicitDefEqProofs only[go_sem]
theorem lenOk {t:Tr}{l:List Int}(hm:t.nodes.length≤700) (h:l.length≤t.nodes.length∨l.length≤20):l.length≤100000:=by omega
theorem outsideGood {t : Tr} {o : List Int} (g : GoodT t o) (ht : t.Fit) (hv : JaN t = false) (a c : Int) : Fn Gb 5 [t.cv, .int .i64 a, .int .i64 c] (.bool true) := by
  have hmany := g.many
  have hits := g.items
  have hV := Jfg t
  rw [hv] at hV
  have hO := nOutsideP g ht a
  have hC := nCallsP g ht c
  have hD := nDeadP g ht
  have hR := refResolve g ht
  rw [← res_eq g] at hR
  by_cases he : (QF t o).2 = 0
  · rw [if_pos he] at hR
    rw [if_neg (show ¬ (QF t o).2 ≠ 0 by simp [he])] at hO hC hD
    have e00 : ((0 : Int) == 0) = true := rfl
    have e01 : ((0 : Int) != 0) = false := rfl
    have e77 : ((7 : Int) == 7) = true := rfl
    have e7n : ((7 : Int) != 7) = false := rfl
    have hil : (iz t.items).length = t.items.length := Jf
    have hT0 : Fn Gb 24 [t.cv, .int .i64 a, .int .u8 0] (.bool (inT t a)) := by
      have h := lawThere t (by omega) a 0
      rw [show (inT t a && ((0 == 0) || (nd t a.toNat).k == 0)) = inT t a by simp] at h
      exact h
    have hSame : ∀ l : List Int, l.length ≤ 100000 → Fn Gb 16 [.rslc 1 (iz l) none, .rslc 1 (iz l) none] (.bool true) := fun l hl => by
      have h := lawSame l l hl
      rw [show (l == l) = true by simp] at h
      exact h
    have hRD := refDead g ht he
    have hSD := hSame (deadL t (ofL t o)) (by have h1 : (deadL t (ofL t o)).length ≤ (upto t.items.length).length := GI _ _; rw [Jcn] at h1; omega)
    have hIs : inT t a = false ∨ ∃ d : Nat, a = d ∧ inT t a = true ∧ d < t.nodes.length := by
      cases h : inT t a with
      | false => exact .inl rfl
      | true => have := XP.1 h; exact .inr ⟨a.toNat, by omega, rfl, by omega⟩
    obtain ⟨cv, ce, b1, b2, hct, d1, d2, hcs⟩ : ∃ cv ce b1 b2, Fn Gb 19 [t.cv, .int .i64 c] (.tup [cv, .int .i64 ce]) ∧ decide (c < 0) = b1 ∧ decide ((t.items.length : Int) ≤ c) = b2 ∧ (((cv = .nils ∧ ce = 7) ∧ (b1 = true ∧ b2 = false ∨ b1 = false ∧ b2 = true)) ∨ ∃ x : Nat, c = x ∧ x < t.items.length ∧ cv = .rslc 1 (iz (Xv t (ofL t o) x)) none ∧ ce = 0 ∧ b1 = false ∧ b2 = false) := by
      by_cases h : 0 ≤ c ∧ c < t.items.length
      · rw [if_pos h] at hC
        exact ⟨_, _, _, _, hC, rfl, rfl, .inr ⟨c.toNat, by omega, by omega, rfl, rfl, decide_eq_false (by omega), decide_eq_false (by omega)⟩⟩
      · rw [if_neg h] at hC
        refine ⟨_, _, _, _, hC, rfl, rfl, .inl ⟨⟨rfl, rfl⟩, ?_⟩⟩
        by_cases h0 : c < 0
        · exact .inl ⟨decide_eq_true h0, decide_eq_false (by omega)⟩
        · exact .inr ⟨decide_eq_false h0, decide_eq_true (by omega)⟩
    have hCS := fun (x : Nat) (h : x < t.items.length) => (refCalls g ht he h).fn rfl (Jc _)
    have hCL := fun (x : Nat) => hSame (Xv t (ofL t o) x) (lenOk hmany (.inr (by have h : (Xv t (ofL t o) x).length ≤ t.items.length := img_le; omega)))
    clear hC
    obtain ⟨ov, oe, hot, hos⟩ : ∃ ov oe, Fn Gb 18 [t.cv, .int .i64 a] (.tup [ov, .int .i64 oe]) ∧ ((inT t a && (Yt (nd t a.toNat).k || (nd t a.toNat).k == 47)) = true ∧ ov = .rslc 1 (iz (outL t o (ofL t o) a.toNat)) none ∧ oe = 0 ∨ (inT t a && (Yt (nd t a.toNat).k || (nd t a.toNat).k == 47)) = false ∧ ov = .nils ∧ oe = 7) := by
      cases h : (inT t a && (Yt (nd t a.toNat).k || (nd t a.toNat).k == 47)) with
      | true => rw [h, if_pos rfl] at hO; exact ⟨_, _, hO, .inl ⟨rfl, rfl, rfl⟩⟩
      | false => rw [h, if_neg (by simp)] at hO; exact ⟨_, _, hO, .inr ⟨rfl, rfl, rfl⟩⟩
    rcases hcs with ⟨⟨rfl, rfl⟩, ⟨rfl, rfl⟩ | ⟨rfl, rfl⟩⟩ | ⟨x, rfl, hx, rfl, rfl, rfl, rfl⟩
    all_goals
      refine Jb c5_ok rfl rfl fun N => ?_
      simp (config := {implicitDefEqProofs := false}) only [c5, go_sem, Tr.cv, Tr.row]
      refine JM hV ?_
      simp (config := {implicitDefEqProofs := false}) only [go_sem, Tr.row]
      refine JM (refCopy t ht) ?_
      simp (config := {implicitDefEqProofs := false}) only [go_sem, Tr.cv, Tr.row]
      refine JM hot ?_
      simp (config := {implicitDefEqProofs := false}) only [go_sem, Tr.cv, Tr.row]
      refine JM hct ?_
      simp (config := {implicitDefEqProofs := false}) only [go_sem, Tr.cv, Tr.row]
      refine JM hD ?_
      simp (config := {implicitDefEqProofs := false}) only [go_sem, Tr.cv, Tr.row]
      refine JM hR ?_
      simp (config := {implicitDefEqProofs := false}) only [go_sem, Tr.cv, Tr.row]
      refine JM (refAlike t ht) ?_
      simp (config := {implicitDefEqProofs := false}) only [go_sem, e01, Gh, Tr.row]
      refine JM hRD ?_
      simp (config := {implicitDefEqProofs := false}) only [go_sem]
      refine JM hSD ?_
      simp (config := {implicitDefEqProofs := false}) only [go_sem, Gh, Tr.row]
      refine JM hT0 ?_
      rcases hIs with hin | ⟨d, rfl, hin, hd⟩
      case' inl =>
        rw [hin, Gn] at hos
        obtain ⟨_, rfl, rfl⟩ : (false = false) ∧ ov = .nils ∧ oe = 7 := by rcases hos with ⟨h, _⟩ | h; cases h; exact h
        rw [hin]
        simp (config := {implicitDefEqProofs := false}) only [go_sem, Gj, e7n, e01, d1, d2, hil, e77, e00, Tr.row]
      case' inr =>
        rw [hin, Gq, Gf] at hos
        rw [hin]
        have hgd := Kh hd
        have hIx := refIsExpr (nd t d).k
        rw [show inN 1 29 (nd t d).k = Yt (nd t d).k from rfl] at hIx
        simp (config := {implicitDefEqProofs := false}) only [go_sem, Jd, hgd, Nd.cv]
        refine ⟨by omega, ?_⟩
        refine JP (gok rfl) hIx ?_
        have hk : Yt (nd t d).k = true ∨ (Yt (nd t d).k = false ∧ ((nd t d).k == 47) = true) ∨ (Yt (nd t d).k = false ∧ ((nd t d).k == 47) = false) := by
          cases Yt (nd t d).k <;> cases ((nd t d).k == 47) <;> simp
        have hRO := (refOutside g ht he hd).fn rfl (Jc _)
        have hSO := hSame (outL t o (ofL t o) d) (lenOk hmany (.inl img_le))
        rcases hk with h1 | ⟨h1, h2⟩ | ⟨h1, h2⟩
        rw [h1, GH] at hos
        obtain ⟨_, rfl, rfl⟩ : (true = true) ∧ ov = .rslc 1 (iz (outL t o (ofL t o) d)) none ∧ oe = 0 := by rcases hos with h | ⟨h, _⟩; exact h; cases h
        rw [h1]
        simp (config := {implicitDefEqProofs := false}) only [go_sem, e01, Tr.row]
        refine JP (gok rfl) hRO ?_
        simp (config := {implicitDefEqProofs := false}) only [go_sem]
        refine JP (gok rfl) hSO ?_
        simp (config := {implicitDefEqProofs := false}) only [go_sem, Gh, d1, d2, hil, e77, e00, Tr.row]
        rotate_left
        rw [h1, h2, GD] at hos
        obtain ⟨_, rfl, rfl⟩ : (true = true) ∧ ov = .rslc 1 (iz (outL t o (ofL t o) d)) none ∧ oe = 0 := by rcases hos with h | ⟨h, _⟩; exact h; cases h
        rw [h1]
        simp (config := {implicitDefEqProofs := false}) only [go_sem, Jd, hgd, Nd.cv, kbE, h2, e01, Tr.row]
        refine ⟨by omega, ?_⟩
        refine JP (gok rfl) hRO ?_
        simp (config := {implicitDefEqProofs := false}) only [go_sem]
        refine JP (gok rfl) hSO ?_
        simp (config := {implicitDefEqProofs := false}) only [go_sem, Gh, d1, d2, hil, e77, e00, Tr.row]
        rotate_left
        rw [h1, h2, GD] at hos
        obtain ⟨_, rfl, rfl⟩ : (false = false) ∧ ov = .nils ∧ oe = 7 := by rcases hos with ⟨h, _⟩ | h; cases h; exact h
        rw [h1]
        simp (config := {implicitDefEqProofs := false}) only [go_sem, Jd, hgd, Nd.cv, kbE, h2, Gj, e7n, e01, d1, d2, hil, e77, e00, Tr.row]
        refine ⟨by omega, ?_⟩
        rotate_left
      all_goals
        first
          | (refine JP (gok rfl) Jfs ?_
             simp (config := {implicitDefEqProofs := false}) only [go_sem])
          | (refine JP (gok rfl) (hCS _ hx) ?_
             simp (config := {implicitDefEqProofs := false}) only [go_sem]
             refine JP (gok rfl) (hCL _) ?_
             simp (config := {implicitDefEqProofs := false}) only [go_sem]
             refine JP (gok rfl) Jfs ?_
             simp (config := {implicitDefEqProofs := false}) only [go_sem])
  · rw [if_pos he] at hO hC hD
    rw [if_neg he] at hR
    exact Jec t ht hv a c _ he hO hC hD hR
theorem outsideAll (t:Tr) (ty:t.Ty) (a:Int) (_:InR .i64 a) (b:Int) (_:InR .i64 b):Fn Gb 5 [t.cv,.int .i64 a,.int .i64 b] (.bool true):=by
 cases hv:JaN t with
 |true=>
  have hV:=Jfg t
  rw[hv]at hV
  refine Jb c5_ok rfl rfl fun N=>?_
  simp -implicitDefEqProofs only[c5,go_sem,Tr.cv,Tr.row]
  refine JM hV ?_
  simp -implicitDefEqProofs only[go_sem,Tr.row]
  refine JM Jfs ?_
  simp -implicitDefEqProofs only[go_sem]
 |false=>
  have ht:=ty.fit3 hv
  by_cases h:chk t=0
  ·obtain ⟨o,g⟩:=(Jcw t).1 h
   exact outsideGood g ht hv a b
  ·exact Jec t ht hv a b _ h (nOutsideE t ht h a) (nCallsE t ht h b) (nDeadE t ht h) (refResolveE t ht h)
end Go.Cm
end
end
