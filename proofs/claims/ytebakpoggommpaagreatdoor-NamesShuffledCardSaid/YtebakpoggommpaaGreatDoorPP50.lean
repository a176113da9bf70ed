/-
  A part of the proof. Conditions: none.
-/
import Derived.Test.YtebakpoggommpaaGreatDoorPP13
import Derived.Test.YtebakpoggommpaaGreatDoorPP43
set_option linter.unusedSimpArgs false
set_option linter.unusedVariables false
open Go.Proofs.Tryz renaming prog→Ga
open Bool renaming not_false→Gf,and_eq_true→Gl,not_true→Gg,or_eq_false_iff→Gn,false_eq_true→Gp,eq_iff_iff→Gq,and_eq_false_iff→Gt,true_and→Gr,false_and→Gu,and_true→Gv,not_eq_true'→GG,eq_false_iff→GH,not_eq_true→GI,or_false→GJ,true_or→GK
open List renaming mem_filter→Gh,map_cons→Gb,mem_range→Gi,map_nil→Gc,getElem?_eq_some_iff→Gw,drop_zero→Gm,range→Gj,length_cons→Gs,take_succ_cons→Gx,length_nil→Gy,take_zero→Gz,all_cons→GA,length_filter_le→GL,all_nil→GD,mem_of_getElem?→GM,filter_congr→GN,any_eq_false→GQ,getElem_mem→GR,range_succ→GU,find?_some→GV,replicate→GX,any_cons→GY,mem_map→GZ
open Int renaming toNat_natCast→Gd
noncomputable section
section
set_option maxRecDepth 100000
set_option maxHeartbeats 4000000
open Go.Proofs
namespace Go.Cm
theorem JfA (a b:List Int) (ha:a.length≤100000):Fn Ga 16 [.rslc 1 (iz a) none,.rslc 1 (iz b) none] (.bool (a == b)):=by
 refine Jc c16_ok rfl rfl fun N=>?_
 simp -implicitDefEqProofs only[c16,go_sem]
 refine JX (Jc4 a b ha) ?_
 simp -implicitDefEqProofs only[go_sem]
theorem lawTree {l:List UInt8}{t:Tr}(h:Yh l=some t):Fn Ga 34 [S l] t.cv:=by
 refine Jc c34_ok rfl rfl fun N=>?_
 simp -implicitDefEqProofs only[c34,go_sem]
 refine JX (refTreeK h).1 ?_
 simp -implicitDefEqProofs only[go_sem,Tr.cv,Tr.row,splice]
theorem getK {l:List UInt8}(h:(Yh l).isSome=true):Yh l=some ((Yh l).getD ⟨[],[]⟩):=by
 cases hx:Yh l with
 |none=>rw[hx]at h; cases h
 |some t=>rfl
def kx0:List UInt8:=[100,101,102,32,109,97,105,110,40,41,32,45,62,32,105,110,116,32,123,32,120,32,61,32,121,32,43,32,49,59,32,121,32,61,32,104,101,97,100,40,115,41,59,32,115,32,61,32,50,32,58,58,32,114,59,32,114,32,61,32,51,32,58,58,32,115,59,32,103,105,118,101,32,120,32,125]
def Jd2:Tr:=(Yh kx0).getD ⟨[],[]⟩
def ko0:List Int:=(Jt (Jw Jd2.nodes) []).getD []
theorem kf0:((Yh kx0).isSome && chk Jd2 == 0 && (Jt (Jw Jd2.nodes) []).isSome && Q0 Jd2 ko0 == (0,0))=true:=by decide +kernel
def kx1:List UInt8:=[100,101,102,32,102,40,41,32,45,62,32,105,110,116,32,123,32,120,32,61,32,120,32,43,32,49,59,32,103,105,118,101,32,120,32,125]
def kt1t:Tr:=(Yh kx1).getD ⟨[],[]⟩
def ko1:List Int:=(Jt (Jw kt1t.nodes) []).getD []
theorem kf1:((Yh kx1).isSome && chk kt1t == 0 && (Jt (Jw kt1t.nodes) []).isSome && Q0 kt1t ko1 == (5,9))=true:=by decide +kernel
def kx2:List UInt8:=[100,101,102,32,102,40,41,32,45,62,32,115,116,114,101,97,109,32,105,110,116,32,123,32,115,32,61,32,108,111,111,112,40,105,32,58,61,32,48,41,32,119,104,105,108,101,32,105,32,60,32,50,32,100,111,32,123,32,110,101,120,116,32,105,32,61,32,104,101,97,100,40,115,41,59,32,125,32,103,105,118,101,40,49,32,58,58,32,115,41,59,32,103,105,118,101,32,115,32,125]
def kt2t:Tr:=(Yh kx2).getD ⟨[],[]⟩
def ko2:List Int:=(Jt (Jw kt2t.nodes) []).getD []
theorem kf2:((Yh kx2).isSome && chk kt2t == 0 && (Jt (Jw kt2t.nodes) []).isSome && Q0 kt2t ko2 == (16,9))=true:=by decide +kernel
def kx3:List UInt8:=[100,101,102,32,102,40,41,32,45,62,32,115,116,114,101,97,109,32,105,110,116,32,123,32,115,32,61,32,108,111,111,112,40,114,32,58,61,32,49,32,58,58,32,115,41,32,119,104,105,108,101,32,102,97,108,115,101,32,100,111,32,123,32,125,32,103,105,118,101,40,114,41,59,32,103,105,118,101,32,115,32,125]
def kt3t:Tr:=(Yh kx3).getD ⟨[],[]⟩
def ko3:List Int:=(Jt (Jw kt3t.nodes) []).getD []
theorem kf3:((Yh kx3).isSome && chk kt3t == 0 && (Jt (Jw kt3t.nodes) []).isSome && Q0 kt3t ko3 == (0,0))=true:=by decide +kernel
def kx4:List UInt8:=[100,101,102,32,102,40,97,58,32,105,110,116,41,32,45,62,32,105,110,116,32,123,32,97,32,61,32,49,59,32,103,105,118,101,32,97,32,125]
def kt4t:Tr:=(Yh kx4).getD ⟨[],[]⟩
def ko4:List Int:=(Jt (Jw kt4t.nodes) []).getD []
theorem kf4:((Yh kx4).isSome && chk kt4t == 0 && (Jt (Jw kt4t.nodes) []).isSome && Q0 kt4t ko4 == (3,6))=true:=by decide +kernel
def kx5:List UInt8:=[100,101,102,32,102,40,41,32,45,62,32,105,110,116,32,123,32,103,105,118,101,32,103,40,49,41,32,125]
def kt5t:Tr:=(Yh kx5).getD ⟨[],[]⟩
def ko5:List Int:=(Jt (Jw kt5t.nodes) []).getD []
theorem kf5:((Yh kx5).isSome && chk kt5t == 0 && (Jt (Jw kt5t.nodes) []).isSome && Q0 kt5t ko5 == (2,10))=true:=by decide +kernel
theorem kRes {x:List UInt8}{t:Tr}{o:List Int}{a:Nat}{b:Int}(ht:t=(Yh x).getD ⟨[],[]⟩) (ho:o=(Jt (Jw t.nodes) []).getD []) (h:((Yh x).isSome && chk t == 0 && (Jt (Jw t.nodes) []).isSome && Q0 t o == (a,b))=true) :
  Fn Ga 34 [S x] t.cv∧t.Fit∧GoodT t o∧Q0 t o=(a,b)∧Fn Ga 9 [t.cv] (if b=0 then .tup [.agg [.rslc 1 (iz (ofL t o)) none],.int .i64 0,.int .i64 0] else .tup [.agg [.nils],.int .i64 (a:Int),.int .i64 b]):=by
 simp only[Gl,beq_iff_eq]at h
 obtain ⟨⟨⟨h1,h2⟩,h3⟩,h4⟩:=h
 have hk:=getK h1
 rw[← ht]at hk
 have hfit:=okT_fit (refTreeK hk).2
 have hg:GoodT t o:=by
  obtain ⟨o',g⟩:=(JbI t).1 h2
  have hh:=g.ord.h
  rw[hh]at ho
  rw[ho]; exact g
 have hr:=Jbx hg hfit
 rw[h4]at hr
 exact ⟨lawTree hk,hfit,hg,h4,hr⟩
theorem kN:((nd Jd2 5).k == 41 && (nd Jd2 9).k == 41 && (nd Jd2 21).k == 40 && Jd2.nodes.length == 23 && Ke Jd2 ko0 (ofL Jd2 ko0) 5 == [9] && Ke Jd2 ko0 (ofL Jd2 ko0) 9 == [14] && ordL Jd2 ko0 (ofL Jd2 ko0) 21 == [14,9,5,19] && (ofL Jd2 ko0).length == 23 && (ofL Jd2 ko0).getD 2 0 == 6)=true:=by decide +kernel
theorem JdC:Fn Ga 7 [] (.bool true):=by
 obtain ⟨a0,f0,g0,e0,r0⟩:=kRes (x:=kx0) (t:=Jd2) (o:=ko0) rfl rfl kf0
 obtain ⟨a1,f1,g1,e1,r1⟩:=kRes (x:=kx1) (t:=kt1t) (o:=ko1) rfl rfl kf1
 obtain ⟨a2,f2,g2,e2,r2⟩:=kRes (x:=kx2) (t:=kt2t) (o:=ko2) rfl rfl kf2
 obtain ⟨a3,f3,g3,e3,r3⟩:=kRes (x:=kx3) (t:=kt3t) (o:=ko3) rfl rfl kf3
 obtain ⟨a4,f4,g4,e4,r4⟩:=kRes (x:=kx4) (t:=kt4t) (o:=ko4) rfl rfl kf4
 obtain ⟨a5,f5,g5,e5,r5⟩:=kRes (x:=kx5) (t:=kt5t) (o:=ko5) rfl rfl kf5
 have hN:=kN
 simp only[Gl,beq_iff_eq]at hN
 obtain ⟨⟨⟨⟨⟨⟨⟨⟨n1,n2⟩,n3⟩,n4⟩,n5⟩,n6⟩,n7⟩,n8⟩,n9⟩:=hN
 have hE:(Q0 Jd2 ko0).2=0:=congrArg Prod.snd e0
 have N5:=nNeedsF g0 f0 hE 5 (by rw[n4]; decide) n1
 have N9:=nNeedsF g0 f0 hE 9 (by rw[n4]; decide) n2
 have O21:=nOrderF g0 f0 hE (b:=21) (by rw[n4]; decide) (.inl n3)
 rw[n5]at N5
 rw[n6]at N9
 rw[n7]at O21
 rw[if_pos rfl]at r0 r3
 rw[if_neg (by decide)]at r1 r2 r4 r5
 have hl1:(iz (ofL Jd2 ko0)).length=23:=by rw[Jd,n8]
 have hl2:(ndz Jd2.nodes).length=23:=by rw[Jf,n4]
 have hg2:(iz (ofL Jd2 ko0)).getD 2 []=[.int .i64 6]:=by rw[← n9]; exact JN (by rw[n8]; decide)
 refine Jc c7_ok rfl rfl fun N=>?_
 simp -implicitDefEqProofs only[c7,go_sem]
 refine JX a0 ?_
 simp -implicitDefEqProofs only[go_sem,Tr.cv,Tr.row,splice]
 refine JX r0 ?_
 simp -implicitDefEqProofs only[go_sem,Tr.cv,Tr.row,splice]
 refine JX N5 ?_
 simp -implicitDefEqProofs only[go_sem]
 refine JX N9 ?_
 simp -implicitDefEqProofs only[go_sem]
 refine JX O21 ?_
 simp -implicitDefEqProofs only[go_sem]
 refine JX a1 ?_
 simp -implicitDefEqProofs only[go_sem,Tr.cv,Tr.row,splice]
 refine JX r1 ?_
 simp -implicitDefEqProofs only[go_sem,Tr.cv,Tr.row,splice]
 refine JX a2 ?_
 simp -implicitDefEqProofs only[go_sem,Tr.cv,Tr.row,splice]
 refine JX r2 ?_
 simp -implicitDefEqProofs only[go_sem,Tr.cv,Tr.row,splice]
 refine JX a3 ?_
 simp -implicitDefEqProofs only[go_sem,Tr.cv,Tr.row,splice]
 refine JX r3 ?_
 simp -implicitDefEqProofs only[go_sem,Tr.cv,Tr.row,splice]
 refine JX a4 ?_
 simp -implicitDefEqProofs only[go_sem,Tr.cv,Tr.row,splice]
 refine JX r4 ?_
 simp -implicitDefEqProofs only[go_sem,Tr.cv,Tr.row,splice]
 refine JX a5 ?_
 simp -implicitDefEqProofs only[go_sem,Tr.cv,Tr.row,splice]
 refine JX r5 ?_
 simp -implicitDefEqProofs only[go_sem,Tr.cv,Tr.row,splice,hl1,hl2]
 have h9:Fn Ga 16 [.rslc 1 (iz [9]) none,.rslc 1 [[.int .i64 9]] none] (.bool true):=JfA [9] [9] (by decide)
 have h14:Fn Ga 16 [.rslc 1 (iz [14]) none,.rslc 1 [[.int .i64 14]] none] (.bool true):=JfA [14] [14] (by decide)
 have hO:Fn Ga 16 [.rslc 1 (iz [14,9,5,19]) none,.rslc 1 [[.int .i64 14],[.int .i64 9],[.int .i64 5],[.int .i64 19]] none] (.bool true):=JfA [14,9,5,19] [14,9,5,19] (by decide)
 refine Je (id:=7) (z:=1) (els:=[[.int .i64 9]]) rfl rfl ?_
 simp -implicitDefEqProofs only[go_sem,J4,frz,Ky,JZ,JM]
 refine JX h9 ?_
 simp -implicitDefEqProofs only[go_sem]
 refine Je (id:=8) (z:=1) (els:=[[.int .i64 14]]) rfl rfl ?_
 simp -implicitDefEqProofs only[go_sem,J4,frz,Ky,JZ,JM]
 refine JW (.inr ⟨124,true,rfl,rfl⟩) h14 ?_
 simp -implicitDefEqProofs only[go_sem]
 refine Je (id:=9) (z:=1) (els:=[[.int .i64 14],[.int .i64 9],[.int .i64 5],[.int .i64 19]]) rfl rfl ?_
 simp -implicitDefEqProofs only[go_sem,J4,frz,Ky,JZ,JM]
 refine JW (.inr ⟨129,true,rfl,rfl⟩) hO ?_
 simp -implicitDefEqProofs only[go_sem,hl1,hg2,show (((5:Nat):Int) == 5)=true from rfl,show (((3:Nat):Int) == 3)=true from rfl,show (((2:Nat):Int) == 2)=true from rfl]
 decide
def Jd9 (t:Tr):Bool:=(decide (160 < t.nodes.length) && decide (t.nodes.length≤700)) || decide (1400 < t.nodes.length) || decide (40 < t.items.length)
def Y1 (t:Tr):Bool:=Jd9 t || t.nodes.any JbR
theorem JcI (t:Tr):Fn Ga 10 [t.cv] (.bool (Y1 t)):=by
 refine Jc c10_ok rfl rfl fun N=>?_
 have hil:(iz t.items).length=t.items.length:=Jd
 cases hH:Jd9 t with
 |true=>
  have hv:Y1 t=true:=by unfold Y1; rw[hH]; rfl
  rw[hv]
  unfold Jd9 at hH
  have e1:((160:Int) < (t.nodes.length:Int))=(160 < t.nodes.length):=propext (by omega)
  have e2:((t.nodes.length:Int)≤700)=(t.nodes.length≤700):=propext (by omega)
  have e3:((1400:Int) < (t.nodes.length:Int))=(1400 < t.nodes.length):=propext (by omega)
  have e4:((40:Int) < (t.items.length:Int))=(40 < t.items.length):=propext (by omega)
  by_cases g1:160 < t.nodes.length <;> by_cases g2:t.nodes.length≤700 <;> by_cases g3:1400 < t.nodes.length <;> by_cases g4:40 < t.items.length <;> first | (exfalso; omega) | (exfalso; simp[g1,g2,g3,g4]at hH; done) | (simp -implicitDefEqProofs only[c10,go_sem,Tr.cv,Tr.row,Jf,hil,e1,e2,e3,e4,g1,g2,g3,g4])
 |false=>
  unfold Jd9 at hH
  simp only[Gn,Gt,decide_eq_false_iff_not]at hH
  obtain ⟨⟨h1,h2⟩,h3⟩:=hH
  have e3:((1400:Int) < (t.nodes.length:Int))=False:=Jq
  have e4:((40:Int) < (t.items.length:Int))=False:=Jq
  have hv:Y1 t=t.nodes.any JbR:=by
   unfold Y1 Jd9
   have:(decide (160 < t.nodes.length) && decide (t.nodes.length≤700))=false:=by
    simp only[Gt,decide_eq_false_iff_not]; exact h1
   rw[this,decide_eq_false h2,decide_eq_false h3]; rfl
  rw[hv]
  by_cases g1:160 < t.nodes.length
  case' pos=>
   have e1:((160:Int) < (t.nodes.length:Int))=True:=Ju
   have e2:((t.nodes.length:Int)≤700)=False:=Jq
   simp -implicitDefEqProofs only[c10,go_sem,Tr.cv,Tr.row,Jf,hil,e1,e2,e3,e4]
  case' neg=>
   have e1:((160:Int) < (t.nodes.length:Int))=False:=Jq
   simp -implicitDefEqProofs only[c10,go_sem,Tr.cv,Tr.row,Jf,hil,e1,e3,e4]
  all_goals (
   refine Je (id:=0) (z:=2) (els:=[t.row]) rfl rfl ?_
   simp only[go_sem,J4,Ky,frz,Qy,Tr.row]
   refine JE (I:=fun i:Nat=>i≤t.nodes.length∧t.nodes.any JbR=(t.nodes.drop i).any JbR) (inv:=fun i=>gp [(1,.rptr t.row),(1,.int .i64 (i:Int))] 47) (hp:=fun _=>[.dead]) (μ:=fun i=>t.nodes.length-i) 0 ⟨by omega,rfl⟩ ?_ rfl ?_
   ·simp[forget,gp,Tr.row]
   ·rintro i ⟨hi,hinv⟩
    by_cases hlt:i < t.nodes.length
    ·have d1:((i:Int) < (t.nodes.length:Int))=True:=Ju
     have hg:=QL hlt
     rw[List.drop_eq_getElem_cons hlt,GY,← rowg hlt]at hinv
     generalize t.nodes.getD i default=x at hg hinv
     have hxl:(iz x.kids).length=x.kids.length:=Jd
     by_cases g5:30 < x.kids.length
     ·have e5:((30:Int) < (x.kids.length:Int))=True:=Ju
      rw[show JbR x=true by simp[JbR,g5],GK]at hinv
      simp -implicitDefEqProofs only[go_sem,Tr.row,Jf,d1,hg,Nd.cv,hxl,e5,hinv]
      omega
     ·have e5:((30:Int) < (x.kids.length:Int))=False:=Jq
      by_cases g6:60 < x.text.length
      ·have e6:((60:Int) < (x.text.length:Int))=True:=Ju
       rw[show JbR x=true by simp[JbR,g6],GK]at hinv
       simp -implicitDefEqProofs only[go_sem,Tr.row,Jf,d1,hg,Nd.cv,hxl,e5,e6,hinv]
       omega
      ·have e6:((60:Int) < (x.text.length:Int))=False:=Jq
       rw[show JbR x=false by simp[JbR,g5,g6],Bool.false_or]at hinv
       simp -implicitDefEqProofs only[go_sem,Tr.row,Jf,d1,hg,Nd.cv,hxl,e5,e6]
       refine ⟨by omega,by omega,Jl,i+1,⟨by omega,hinv⟩,by omega,?_⟩
       simp[forget,Tr.row]
    ·have d1:((i:Int) < (t.nodes.length:Int))=False:=Jq
     rw[List.drop_eq_nil_of_le (by omega)]at hinv
     simp -implicitDefEqProofs only[go_sem,Tr.row,Jf,d1,hinv]
     simp
   )
theorem Tr.Ty.fit3 {t:Tr}(h:t.Ty) (hv:Y1 t=false):t.Fit:=by
 unfold Y1 Jd9 at hv
 simp only[Gn,Gt,decide_eq_false_iff_not,GQ]at hv
 obtain ⟨⟨⟨_,h2⟩,h3⟩,h4⟩:=hv
 refine ⟨by omega,by omega,fun x hx=>?_,h.items⟩
 have hn:=h4 x hx
 unfold JbR at hn
 simp only[GI,Gn,decide_eq_false_iff_not]at hn
 have ty:=h.nodes x hx
 exact ⟨ty.k,by omega,ty.n,by omega,ty.kids,ty.pl⟩
theorem lawSame (a b:List Int) (ha:a.length≤100000):Fn Ga 16 [.rslc 1 (iz a) none,.rslc 1 (iz b) none] (.bool (a == b)):=by
 refine Jc c16_ok rfl rfl fun N=>?_
 simp -implicitDefEqProofs only[c16,go_sem]
 refine JX (Jc4 a b ha) ?_
 simp -implicitDefEqProofs only[go_sem]
section
section
variable {t:Tr}{o:List Int}(g:GoodT t o) (ht:t.Fit)
include g ht
end
end
section
section
variable {t:Tr}{o:List Int}(g:GoodT t o) (ht:t.Fit)
include g ht
end
end
section
section
variable {t:Tr}{o:List Int}(g:GoodT t o)
include g
theorem XG {j u:Nat}(hu:u < t.nodes.length) (h:blw o j u):Qi t j=Qi t u:=by
 unfold Qi
 congr 1
 refine GN fun L hL=>?_
 rw[items_all g]at hL
 have h1:=JY.1 (Gh.1 hL).1
 have h2:(nd t L.toNat).k=65:=by simpa using (Gh.1 hL).2
 obtain ⟨L,rfl⟩:∃ L':Nat,L=L':=⟨L.toNat,by omega⟩
 rw[Gd]at h2
 have hj:=h.1
 rw[Gq,decide_eq_true_eq,decide_eq_true_eq]
 constructor
 ·intro h3; omega
 ·intro h3
  rcases Nat.lt_or_ge L j with h4 | h4
  ·omega
  ·have hb:blw o L u:=⟨by omega,by have:=h.2; omega⟩
   obtain ⟨m,hm,_⟩:=XP g hu hb (by omega)
   have:=(JbF g (d:=L) (by omega) h2).1
   omega
theorem sight_top {d j:Nat}(hj:j < t.nodes.length) (h:(d:Int)∈K7 t j):∃ u:Nat,u < t.nodes.length∧blw o j u∧blw o d u:=by
 have h1:=(Gh.1 h).2
 rw[List.contains_iff_mem,JdO g _ _ _ hj (by omega)]at h1
 obtain ⟨u,a,hu,ha,hb,hd⟩:=h1
 refine ⟨u,hu,Kr g hu hb (KC g hu ha),?_⟩
 rw[KV g hu]at hd
 rcases hd with ⟨_,s,hs,_,hk,_⟩ | ⟨_,hk,_⟩ | ⟨_,_,rfl⟩ | ⟨_,_,⟨hk,_⟩ | ⟨_,s,hs,_,hk,_⟩⟩
 ·have hsl:=(JJ g hu hs).2
  exact Kr g hu (KC g (by omega) hk) (KC g hu hs)
 ·exact KC g hu hk
 ·exact QH g hu
 ·exact KC g hu hk
 ·have hsl:=(JJ g hu hs).2
  exact Kr g hu (KC g (by omega) hk) (KC g hu hs)
theorem Jef {d j:Nat}(hj:j < t.nodes.length) (h:(d:Int)∈K7 t j):Qi t d=Qi t j:=by
 obtain ⟨u,hu,h1,h2⟩:=sight_top g hj h
 rw[XG g hu h1,XG g hu h2]
theorem JaB {d j:Nat}(hj:j < t.nodes.length) (hje:1≤(nd t j).k∧(nd t j).k≤29) (h:(d:Int)∈K7 t j):d < t.nodes.length∧QN (nd t d).k=true∧(nd t d).k≠65∧inB t o d j=true:=by
 obtain ⟨h1,h2⟩:=Gh.1 h
 have hd:=JY.1 h1
 rw[sight_mem g (d:=d) (by omega) hj hje]at h2
 simp only[Gl,GG,beq_eq_false_iff_ne]at h2
 exact ⟨by omega,h2.1,h2.2.1,h2.2.2⟩
theorem Jbo {d e j:Nat}(hj:j < t.nodes.length) (hje:1≤(nd t j).k∧(nd t j).k≤29) (htw:∀ i,i < t.nodes.length→twN t i=false) (hd:(d:Int)∈K7 t j) (he:(e:Int)∈K7 t j) (hx:(nd t d).text=(nd t e).text):¬ d < e:=by
 intro hlt
 obtain ⟨d1,d2,d3,_⟩:=JaB g hj hje hd
 obtain ⟨e1,e2,e3,_⟩:=JaB g hj hje he
 have hit:Qi t d=Qi t e:=(Jef g hj hd).trans (Jef g hj he).symm
 have h:=htw e e1
 have e44:(nd t e).k≠44:=by intro h4; rw[h4]at e2; exact absurd e2 (by decide)
 unfold twN at h
 rw[if_neg (by rw[e2]; simp),GQ]at h
 have:=h d (Gi.2 hlt)
 rw[if_neg e44,if_neg e3,hx,hit,d2]at this
 simp at this
 exact d3 this
end
theorem scan_none {t:Tr}{o:List Int}{a b:Int}:∀ {l:List Nat},Xo t o a b l=none→∀ i∈l,twN t i=false∧(Kh t i=true→J6 t o i≠-1)
 |[],_,i,hi=>by simp at hi
 |x::l,h,i,hi=>by
  unfold Xo at h
  split at h
  ·cases h
  ·rename_i h1
   split at h
   ·cases h
   ·rename_i h2
    rcases List.mem_cons.1 hi with rfl | hi
    ·refine ⟨by simpa using h1,fun hs hm=>h2 (by rw[hs,hm]; rfl)⟩
    ·exact scan_none h i hi
theorem scan_err {t:Tr}{o:List Int}{r:Nat×Int}:∀ {l:List Nat},Xo t o 6 10 l=some r→r.2=6∨r.2=10
 |[],h=>by cases h
 |x::l,h=>by
  unfold Xo at h
  split at h
  ·cases h; exact .inl rfl
  ·split at h
   ·cases h; exact .inr rfl
   ·exact scan_err h
theorem Jfh {t:Tr}{o:List Int}(hE:(Q0 t o).2=0) {i:Nat}(hi:i < t.nodes.length):twN t i=false∧(Kh t i=true→J6 t o i≠-1):=by
 unfold Q0 at hE
 cases hs:Xo t o 6 10 (Gj t.nodes.length) with
 |some r=>rw[hs]at hE; have:=scan_err hs; simp only at hE; omega
 |none=>exact scan_none hs i (Gi.2 hi)
section
variable {t:Tr}{o:List Int}(g:GoodT t o)
include g
theorem mean_name (hE:(Q0 t o).2=0) {j:Nat}(hj:j < t.nodes.length) (hk:(nd t j).k=3):J6 t o j∈K7 t j∧0≤J6 t o j∧J6 t o j < t.nodes.length∧(nd t (J6 t o j).toNat).text=(nd t j).text∧QN (nd t (J6 t o j).toNat).k=true:=by
 have h1:=(Jfh hE hj).2 (by unfold Kh; rw[hk]; rfl)
 have hm:J6 t o j=Ya t (K7 t j) (nd t j).text:=by
  unfold J6; rw[if_pos hk,YH g hj (by omega)]
 rw[hm]at h1 ⊢
 unfold Ya at h1 ⊢
 cases hf:(K7 t j).find? fun d=>(nd t d.toNat).text == (nd t j).text with
 |none=>rw[hf]at h1; exact absurd rfl h1
 |some d=>
  simp only
  have h2:=List.mem_of_find?_eq_some hf
  have h3:=GV hf
  have h4:=JY.1 (Gh.1 h2).1
  obtain ⟨d,rfl⟩:∃ d':Nat,d=d':=⟨d.toNat,by omega⟩
  exact ⟨h2,h4.1,h4.2,by simpa using h3,by rw[Gd]; exact (JaB g hj (by omega) h2).2.1⟩
end
end
section
def preF (q:Nat→Bool) (f:Nat→Int) (i:Nat):List Int:=((Gj i).filter q).map f
theorem preF_succ {q:Nat→Bool}{f:Nat→Int}{i:Nat}:preF q f (i+1)=preF q f i++if q i=true then [f i] else []:=by
 unfold preF
 rw[GU,List.filter_append,List.map_append,List.filter_cons,List.filter_nil]
 split <;> rfl
theorem preF_len {q:Nat→Bool}{f:Nat→Int}{i:Nat}:(preF q f i).length≤i:=by
 unfold preF
 rw[List.length_map]
 exact Nat.le_trans (GL _ _) (by simp)
def upto (m:Nat):List Int:=(Gj m).map fun i:Nat=>(i:Int)
theorem mem_upto {m:Nat}{x:Int}:x∈upto m↔0≤x∧x < m:=by
 unfold upto
 rw[GZ]
 constructor
 ·rintro ⟨a,h,rfl⟩; have:=Gi.1 h; omega
 ·intro h; exact ⟨x.toNat,Gi.2 (by omega),by omega⟩
theorem upto_len {m:Nat}:(upto m).length=m:=by simp[upto]
theorem upto_asc {m:Nat}:(upto m).Pairwise (· < ·):=by
 unfold upto
 rw[List.pairwise_map]
 exact List.pairwise_lt_range.imp fun h=>by omega
def imgQ (q:Nat→Bool) (f:Nat→Int) (x:Int) (i:Nat):Bool:=q i && f i == x
def imgL (q:Nat→Bool) (f:Nat→Int) (n m:Nat):List Int:=(upto m).filter fun x=>(Gj n).any (imgQ q f x)
theorem img_asc {q:Nat→Bool}{f:Nat→Int}{n m:Nat}:(imgL q f n m).Pairwise (· < ·):=upto_asc.filter _
theorem img_le {q:Nat→Bool}{f:Nat→Int}{n m:Nat}:(imgL q f n m).length≤m:=Nat.le_trans (GL _ _) (by rw[upto_len]; exact Nat.le_refl _)
theorem mem_img {q:Nat→Bool}{f:Nat→Int}{n m:Nat}{x:Int}:x∈imgL q f n m↔(0≤x∧x < m)∧∃ i,i < n∧q i=true∧f i=x:=by
 unfold imgL imgQ
 rw[Gh,mem_upto,List.any_eq_true]
 simp only[Gi,Gl,beq_iff_eq]
theorem img_done {q:Nat→Bool}{f:Nat→Int}{n m:Nat}(h:∀ i,i < n→q i=true→0≤f i∧f i < m):Lib.compact ((preF q f n).mergeSort fun x y=>decide (x≤y))=imgL q f n m:=by
 refine JbN (JdM (Je7 _)) img_asc fun x=>?_
 rw[YP,Je6,mem_img]
 unfold preF
 simp only[GZ,Gh,Gi]
 constructor
 ·rintro ⟨i,⟨h1,h2⟩,rfl⟩
  exact ⟨h i h1 h2,i,h1,h2,rfl⟩
 ·rintro ⟨_,i,h1,h2,rfl⟩
  exact ⟨i,⟨h1,h2⟩,rfl⟩
def imgB (q:Nat→Bool) (f:Nat→Int) (m i:Nat):List Bool:=YA m fun x=>(Gj i).any (imgQ q f x)
theorem any_snoc {p:Nat→Bool}{i:Nat}:(Gj (i+1)).any p=((Gj i).any p || p i):=by
 rw[GU,List.any_append,GY,List.any_nil,GJ]
theorem imgB_yes {q:Nat→Bool}{f:Nat→Int}{m i k:Nat}(h:q i=true) (hf:f i=(k:Int)) (hk:k < m):(imgB q f m i).set k true=imgB q f m (i+1):=by
 refine boolsN_set hk (fun j _ hne=>?_) ?_
 ·rw[any_snoc,imgQ,hf,beq_eq_false_iff_ne.2 (show (k:Int)≠(j:Int) by omega),Bool.and_false,GJ]
 ·rw[any_snoc,imgQ,h,hf]; simp
theorem imgB_zero {q:Nat→Bool}{f:Nat→Int}{m:Nat}:imgB q f m 0=GX m false:=by
 rw[← boolsN_false]; rfl
theorem setL_boolsN {m:Nat}{f:Int→Bool}:setL (YA m f)=(upto m).filter f:=by
 unfold setL upto
 rw[Jb8,List.filter_map]
 refine congrArg _ (GN fun i hi=>?_)
 rw[boolsN_get (Gi.1 hi)]; rfl
theorem imgB_all {q:Nat→Bool}{f:Nat→Int}{m n:Nat}:setL (imgB q f m n)=imgL q f n m:=setL_boolsN
def XZ (t:Tr) (o:List Int) (i d:Nat):Bool:=if (nd t d).k=28 then bkB t o i d (nd t d).n true else if (nd t d).k=47 then Jbi o i (J8 t d) else Jbi o i d
def outQ (t:Tr) (o of:List Int) (d i:Nat):Bool:=(nd t i).k == 3 && (XZ t o i d && !Jbi o (of.getD i 0).toNat d)
def Jf0 (t:Tr) (o of:List Int) (d:Nat):List Int:=imgL (outQ t o of d) (fun i=>of.getD i 0) t.nodes.length t.nodes.length
section
variable {t:Tr}{o:List Int}(g:GoodT t o)
include g
theorem Jc9 {d m i:Nat}(hd:d < t.nodes.length) (hk:(nd t d).k=28) (hm:(m:Int)∈(nd t d).kids) (hb:blw o i m):bkB t o i d (nd t d).n true = !((nd t m).k == 43):=by
 obtain ⟨a,b,h1,h2,h3,h4,h5,h6,h7,h8⟩:=Jbz g hd hk
 change (nd t d).n=(a:Int) at h1
 obtain ⟨x,hx1,hx2,hx3⟩:=Jdo hm
 have hkx:=(Kq g hd hx1).2.2
 rw[hx2]at hkx
 change (∀ i,i < a→Jn t.nodes ((nd t d).kids.getD i 0)=43) at h4
 have hone:∀ j,j < (nd t d).kids.length→blw o i (JbA t d j)→JbA t d j=m:=fun j hj hbj=>JfC g hd (Kq g hd hj).1 hm hbj hb
 rw[Gq,JdQ,GG,beq_eq_false_iff_ne,h1]
 have hnot:∀ j,a≤j→j < (nd t d).kids.length→Jn t.nodes ((nd t d).kids.getD j 0)≠43:=fun j h9 h10=>by
  change b < (nd t d).kids.length at h3
  change _∧Jn t.nodes ((nd t d).kids.getD a 0)≤29 at h5
  change (∀ i,a+1≤i→i < b→Jn t.nodes ((nd t d).kids.getD i 0)=41) at h6
  change (∀ i,b≤i→i+1 < (nd t d).kids.length→Jn t.nodes ((nd t d).kids.getD i 0)=44) at h7
  change Jn t.nodes ((nd t d).kids.getD ((nd t d).kids.length-1) 0)=45 at h8
  by_cases j1:j=a
  ·subst j1; omega
  ·by_cases j2:j < b
   ·rw[h6 j (by omega) j2]; decide
   ·by_cases j3:j+1 < (nd t d).kids.length
    ·rw[h7 j (by omega) j3]; decide
    ·obtain rfl:j=(nd t d).kids.length-1:=by omega
     rw[h8]; decide
 constructor
 ·rintro ⟨j,h9,h10,_,h12⟩ h13
  have h14:=hone j h10 h12
  have h15:=(Kq g hd h10).2.2
  rw[h14,h13]at h15
  exact hnot j (by omega) h10 h15.symm
 ·intro h9
  refine ⟨x,?_,hx1,.inl rfl,by rw[hx2]; exact hb⟩
  rcases Nat.lt_or_ge x a with h10 | h10
  ·exact absurd (hkx.trans (h4 x h10)) h9
  ·omega
theorem part_span {d i:Nat}(hd:d < t.nodes.length) (hk:(nd t d).k=47) (hi:(nd t i).k=3):Jbi o i (J8 t d)=Jbi o i d:=by
 obtain ⟨h1,_,_⟩:=Y3 g hd hk
 change (nd t d).kids.length=3 at h1
 have hl:=Kq g hd (i:=(nd t d).kids.length-1) (by omega)
 change ((J8 t d:Nat):Int)∈_∧_ at hl
 rw[Gq,JP,JP]
 constructor
 ·intro h; exact Kr g hd h (KC g hd hl.1)
 ·intro h
  rcases Jar g hd h with rfl | ⟨c,hc,hb⟩
  ·omega
  ·rw[← cell_last g hd (.inr hk) hc hb (by omega)]; exact hb
theorem Jb3 {k L:Nat}(h:t.items[k]? = some (L:Int)):Qi t L=k:=by
 have hk:k < t.items.length:=(Gw.1 h).1
 have hr:=g.itr (GM h)
 obtain ⟨b,B,b1,b2,b3,b4,b5,b6⟩:=Jb4 g (i:=L) (by omega)
 have hn:t.items.Nodup:=Xk g.ord.ok g.olen _ _ _ g.its
 have hself:itemOf t o L=L:=by
  unfold itemOf
  have hasc:=Yz g.ord.ok g.olen _ _ _ g.its
  have hno:∀ y∈t.items.take k,Jbi o L y.toNat=false:=fun y hy=>by
   obtain ⟨j,hj,rfl⟩:=List.getElem_of_mem hy
   rw[List.getElem_take]
   rw[List.length_take]at hj
   have h2:=List.pairwise_iff_getElem.1 hasc j k (by omega) hk (by omega)
   rw[(Gw.1 h).2]at h2
   rw[GH]
   intro hb
   have:=(JP.1 hb).1
   have:=g.itr (GR (l:=t.items) (show j < t.items.length by omega))
   omega
  rw[JfO (q:=fun M:Int=>Jbi o L M.toNat) h (by rw[JP,Gd]; exact QH g (by omega)) hno]
 rw[b4]at hself
 have:B=L:=by omega
 subst this
 rw[b3]
 exact (List.getElem?_inj b1 hn).1 (b2.trans h.symm)
theorem Jdq {i it L:Nat}(hi:i < t.nodes.length) (h:t.items[it]? = some (L:Int)):Jbi o i L=(Qi t i == it):=by
 have hr:=g.itr (GM h)
 rw[Gq,JP,beq_iff_eq]
 constructor
 ·intro hb
  rw[XG g (by omega) hb,Jb3 g h]
 ·rintro rfl
  obtain ⟨b,B,b1,b2,b3,b4,b5,b6⟩:=Jb4 g hi
  rw[b3]at h
  rw[b2]at h
  have:B=L:=by have:=Option.some.inj h; omega
  subst this
  unfold itemOf at b4
  split at b4
  ·rename_i x hx
   have:=GV hx
   subst b4
   rw[Gd]at this
   exact JP.1 this
  ·omega
end
end
section
theorem compactRowT {E:Env}{H:List CObj}{id:Nat}{l:List Int}(hl:l≠[]) (hbig:l.length≤1000000) (hH:H[id]? = some (.arr 1 (iz l))):CallsC Ga E 57 [.slc id 0 l.length none] H fun v' H'=>v'=.slc id 0 (Lib.compact l).length none∧H'=H.set id (.arr 1 (iz (Lib.compact l))):=by
 have h:=JeR (E:=E) (cap:=none) hl hbig hH
 refine h.trunc (id:=0) (z:=0) (j:=0) (els:=[]) (v:=.un) fun v H' ⟨h1,h2⟩=>.inr ⟨id,1,iz (Lib.compact l++GX (l.length-(Lib.compact l).length) 0),(Lib.compact l).length,by rw[h2,List.getElem?_set_self (Gw.1 hH).1],h1,?_⟩
 rw[h2,List.set_set]
 congr 2
 unfold iz
 rw[← List.map_take,List.take_left' rfl]
section
variable {t:Tr}{o:List Int}(g:GoodT t o) (ht:t.Fit)
include g
theorem nIsPart {of:List Int}{i d:Nat}(hi:i < t.nodes.length) (hd:d < t.nodes.length) (hk:(nd t i).k=3):Fn Ga 54 [.agg (rRw t of),.int .i64 (i:Int),.int .i64 (d:Int)] (.bool (XZ t o i d)):=by
 have hmany:=g.many
 refine Jc c54_ok rfl rfl fun N=>?_
 simp -implicitDefEqProofs only[c54,go_sem,rRw]
 refine Je (id:=0) (z:=2) (els:=[rRw t of]) rfl rfl ?_
 simp only[go_sem,J4,Ky,frz,Qy,Gm,rRw]
 refine JX (nBelow g hi hd) ?_
 cases hb:Jbi o i d with
 |false=>
  have hne:i≠d:=by rintro rfl; rw[JP.2 (QH g hi)]at hb; cases hb
  have e:((i:Int) == (d:Int))=false:=beq_eq_false_iff_ne.2 (by omega)
  have hp:XZ t o i d=false:=by
   unfold XZ
   split
   ·rw[GH]
    intro h
    rw[JdQ]at h
    obtain ⟨x,_,h2,_,h4⟩:=h
    rw[JP.2 (Kr g hd h4 (KC g hd (Kq g hd h2).1))]at hb
    cases hb
   ·split
    ·rename_i h47
     rw[part_span g hd h47 hk]; exact hb
    ·exact hb
  rw[hp]
  simp -implicitDefEqProofs only[go_sem,Gf,e]
 |true=>
  by_cases he:i=d
  ·subst he
   have e:((i:Int) == (i:Int))=true:=by simp
   have hp:XZ t o i i=true:=by unfold XZ; rw[if_neg (by omega),if_neg (by omega)]; exact hb
   rw[hp]
   simp -implicitDefEqProofs only[go_sem,Gg,e]
  ·have e:((i:Int) == (d:Int))=false:=beq_eq_false_iff_ne.2 (by omega)
   simp -implicitDefEqProofs only[go_sem,Gg,e]
   refine JX (YV t hd) ?_
   cases h28:((nd t d).k == 28) with
   |false=>
    have hp:XZ t o i d=true:=by
     have h28':(nd t d).k≠28:=by simpa using h28
     unfold XZ
     rw[if_neg h28']
     split
     ·rename_i h47
      rw[part_span g hd h47 hk]; exact hb
     ·exact hb
    rw[hp]
    simp -implicitDefEqProofs only[go_sem,kbN,h28,Gf]
   |true=>
    have k28:(nd t d).k=28:=by simpa using h28
    have hp0:XZ t o i d=bkB t o i d (nd t d).n true:=by unfold XZ; rw[if_pos k28]
    rw[hp0]
    simp -implicitDefEqProofs only[go_sem,kbN,h28,Gg]
    refine JE (I:=fun m:Nat=>m < t.nodes.length∧blw o i m∧blw o m d∧m≠d) (inv:=fun m=>gp [(1,.int .i64 (m:Int)),(0,.int .i64 (d:Int)),(0,.rptr (rRw t of))] 44) (hp:=fun _=>[.dead]) (μ:=fun m=>t.nodes.length-m) i ⟨hi,QH g hi,JP.1 hb,he⟩ ?_ rfl ?_
    ·simp[forget,gp,rRw]
    ·rintro m ⟨hm,hb1,hb2,hne⟩
     obtain ⟨p,h1,h2,h3,h4,h5⟩:=XP g hd hb2 hne
     by_cases hpd:p=d
     ·subst hpd
      have e1:((p:Int) != (p:Int))=false:=by simp
      rw[Jc9 g hd k28 h5 hb1]
      simp -implicitDefEqProofs only[go_sem,rRw,tRw,KW,upz hm,h1,e1]
      refine ⟨by omega,?_⟩
      refine JX (nInside t hm) ?_
      simp -implicitDefEqProofs only[go_sem]
     ·have e1:((p:Int) != (d:Int))=true:=bne_iff_ne.2 (by omega)
      simp -implicitDefEqProofs only[go_sem,rRw,tRw,KW,upz hm,h1,e1]
      refine ⟨by omega,by omega,p,⟨by omega,Kr g (by omega) hb1 (KC g (by omega) h5),h4,hpd⟩,by omega,?_⟩
      simp[forget,tRw]
include ht
theorem nOutside (hE:(Q0 t o).2=0) {d:Nat}(hd:d < t.nodes.length) (hk:Jcw (nd t d).k=true∨(nd t d).k=47):Fn Ga 18 [t.cv,.int .i64 (d:Int)] (.tup [.rslc 1 (iz (Jf0 t o (ofL t o) d)) none,.int .i64 0]):=by
 have hmany:=g.many
 have hF:=nFind g ht [(d:Int)] (by simp)
 have hin:[(d:Int)].all (inT t)=true:=by simp only[GA,GD,Gv]; exact Yj.2 ⟨by omega,by omega⟩
 rw[if_neg (by simp[hE]),if_pos hin,rE_ok hE]at hF
 have ho:=Jev (t:=t) (o:=o)
 have hmean:∀ i,i < t.nodes.length→(nd t i).k=3→0≤(ofL t o).getD i 0∧(ofL t o).getD i 0 < t.nodes.length:=fun i hi h3=>by
  rw[Jab hi]
  have:=mean_name g hE hi h3
  exact ⟨this.2.1,this.2.2.1⟩
 have hol:(iz (ofL t o)).length=t.nodes.length:=by rw[Jd,ho.len]
 have hgo:∀ i,i < t.nodes.length→(iz (ofL t o)).getD i []=[.int .i64 ((ofL t o).getD i 0)]:=fun i hi=>JN (by rw[ho.len]; exact hi)
 have hdone:=img_done (q:=outQ t o (ofL t o) d) (f:=fun i=>(ofL t o).getD i 0) (n:=t.nodes.length) (m:=t.nodes.length) fun i hi hq=>hmean i hi (by unfold outQ at hq; simp only[Gl,beq_iff_eq]at hq; exact hq.1)
 have hQ:∀ i,outQ t o (ofL t o) d i=((nd t i).k == 3 && (XZ t o i d && !Jbi o ((ofL t o).getD i 0).toNat d)):=fun i=>rfl
 unfold Jf0
 rw[← hdone]
 clear hdone
 generalize hof:ofL t o=of at *
 generalize hq0:outQ t o of d=q at hQ ⊢
 refine Yu ?_ rfl rfl
 refine Kg c18_ok fun N=>?_
 simp -implicitDefEqProofs only[c18,go_sem,Tr.cv,Tr.row]
 refine Je (id:=1) (z:=1) (els:=iz [(d:Int)]) rfl rfl ?_
 simp only[go_sem,J4,Ky,frz,Qy,Ko,QW,Gb,Gc,Gs,Gy,Gm,Gx,Gz]
 refine JX hF ?_
 simp -implicitDefEqProofs only[go_sem,rRw]
 refine JX (nIsExpr t hd) ?_
 have hx2:Jcw (nd t d).k=true∨(Jcw (nd t d).k=false∧(nd t d).k=47):=by
  cases hx:Jcw (nd t d).k with
  |true=>exact .inl rfl
  |false=>rw[hx]at hk; exact .inr ⟨rfl,by simpa using hk⟩
 rcases hx2 with hx | ⟨hx,h47⟩ <;> rw[hx]
 case' inl=>simp -implicitDefEqProofs only[go_sem,Gg,hol]
 case' inr=>
  simp -implicitDefEqProofs only[go_sem,Gf]
  refine JW (gok rfl) (YV t hd) ?_
  simp -implicitDefEqProofs only[go_sem,kbN,h47,beq_self_eq_true,Gg,hol]
 all_goals
  refine Je (id:=2) (z:=2) (els:=[rRw t of]) rfl rfl ?_
  simp only[go_sem,J4,Ky,frz,Qy,Gm,Gb,Gc,rRw]
  refine Xy ?_
  simp only[go_sem,List.cons_append,List.nil_append]
  refine JG (I:=fun i:Nat=>i≤t.nodes.length) (inv:=fun i=>gp [(1,.int .i64 (d:Int)),(2,JV 3 (iz (preF q (fun i=>of.getD i 0) i))),(1,.rptr (rRw t of)),(27,.rslc 1 (iz of) none),(0,.int .i64 (t.nodes.length:Int)),(0,.int .i64 (i:Int))] 32) (hp:=fun i=>[.arr 2 [t.row],.dead,.dead,KP 1 (iz (preF q (fun i=>of.getD i 0) i))]) (μ:=fun i=>t.nodes.length-i) 0 [0,1,2,3] (by omega) rfl ?_ ?_ ?_
  ·simp[forget,JL,ren,Jm,gp,rRw,JV,iz,preF]
  ·simp[Km,Jfk,iz,preF,KP,Tr.row,JL,ren]
  ·intro i hi
   by_cases hlt:i < t.nodes.length
   ·have d1:((i:Int) < (t.nodes.length:Int))=True:=Ju
    have hgi:=hgo i hlt
    have hst:=preF_succ (q:=q) (f:=fun i=>of.getD i 0) (i:=i)
    have hpl:=preF_len (q:=q) (f:=fun i=>of.getD i 0) (i:=i)
    have hqi:=hQ i
    have hmi:=hmean i hlt
    generalize preF q (fun i=>of.getD i 0) i=acc at hst hpl ⊢
    generalize of.getD i 0=m at hgi hst hqi hmi
    have hno:q i=false→preF q (fun i=>of.getD i 0) (i+1)=acc:=fun h=>by rw[hst,if_neg (by rw[h]; simp),List.append_nil]
    simp -implicitDefEqProofs only[go_sem,d1,hol,hgi,rRw]
    refine ⟨by omega,?_⟩
    refine JX (YV t hlt) ?_
    cases h3:((nd t i).k == 3) with
    |false=>
     have hn:=hno (by rw[hqi,h3,Gu])
     simp -implicitDefEqProofs only[go_sem,kbE,h3]
     refine ⟨Jl,i+1,[0,1,2,3],by omega,by omega,rfl,?_,?_⟩
     ·rw[hn]; simp only[Km,Gb,Gc,go_sem,Jy (Ja (Jb acc)),Jh,Jk]; simp[JL,ren,Tr.row]
     ·rw[hn]; simp[forget,JL,ren,Jm,JH,rRw]
    |true=>
     have k3:(nd t i).k=3:=by simpa using h3
     obtain ⟨m,rfl⟩:∃ m':Nat,m=m':=⟨m.toNat,by have:=hmi k3; omega⟩
     have hmn:m < t.nodes.length:=by have:=hmi k3; omega
     rw[Gd,h3,Gr]at hqi
     simp -implicitDefEqProofs only[go_sem,kbE,h3,rRw]
     refine JW (gok rfl) (nIsPart g (of:=of) hlt hd k3) ?_
     cases hp:XZ t o i d with
     |false=>
      have hn:=hno (by rw[hqi,hp,Gu])
      simp -implicitDefEqProofs only[go_sem]
      refine ⟨Jl,i+1,[0,1,2,3],by omega,by omega,rfl,?_,?_⟩
      ·rw[hn]; simp only[Km,Gb,Gc,go_sem,Jy (Ja (Jb acc)),Jh,Jk]; simp[JL,ren,Tr.row]
      ·rw[hn]; simp[forget,JL,ren,Jm,JH,rRw]
     |true=>
      rw[hp,Gr]at hqi
      simp -implicitDefEqProofs only[go_sem,rRw]
      refine JW (gok rfl) (nBelow g hmn hd) ?_
      cases hb:Jbi o m d with
      |true=>
       have hn:=hno (by rw[hqi,hb]; rfl)
       simp -implicitDefEqProofs only[go_sem,Gg]
       refine ⟨Jl,i+1,[0,1,2,3],by omega,by omega,rfl,?_,?_⟩
       ·rw[hn]; simp only[Km,Gb,Gc,go_sem,Jy (Ja (Jb acc)),Jh,Jk]; simp[JL,ren,Tr.row]
       ·rw[hn]; simp[forget,JL,ren,Jm,JH,rRw]
      |false=>
       rw[hqi,hb,if_pos (by rfl)]at hst
       simp -implicitDefEqProofs only[go_sem,Gf,Jd,Jv]
       refine ⟨⟨by omega,by omega⟩,Jl,i+1,[0,1,2,5],by omega,by omega,rfl,?_,?_⟩
       ·rw[hst,Kt,Kc]
        simp only[Km,Gb,Gc,go_sem,Jk,Jh]
        simp[Ja (Jb acc),JL,ren,Tr.row]
       ·rw[hst,Kt,Kb]
        simp[forget,JL,ren,Jm,rRw,tRw,Jd]
   ·have d1:((i:Int) < (t.nodes.length:Int))=False:=Jq
    obtain rfl:i=t.nodes.length:=by omega
    have hpl:=preF_len (q:=q) (f:=fun i=>of.getD i 0) (i:=t.nodes.length)
    generalize preF q (fun i=>of.getD i 0) t.nodes.length=acc at hpl ⊢
    cases acc with
    |nil=>
     simp -implicitDefEqProofs only[go_sem,d1,QW,Q3]
     refine JX sortNil ?_
     simp -implicitDefEqProofs only[go_sem]
     refine JX JeS ?_
     simp -implicitDefEqProofs only[go_sem]
     rw[show Lib.compact (([]:List Int).mergeSort fun x y=>decide (x≤y))=[] by rw[List.mergeSort_nil]; rfl]
     exact .done (Jcb ⟨wk.nils,wks.refl _⟩)
    |cons x xs=>
     simp -implicitDefEqProofs only[go_sem,d1,Ko,Q4,Yo,Jd]
     refine J2 (.inl rfl) (sortRow (l:=x::xs) (by simp) (by omega) rfl) fun v H' ⟨h1,h2⟩=>?_
     subst h1 h2
     simp -implicitDefEqProofs only[go_sem]
     have hsl:((x::xs).mergeSort fun x y=>decide (x≤y)).length=xs.length+1:=by rw[List.length_mergeSort]; rfl
     generalize ((x::xs).mergeSort fun x y=>decide (x≤y))=S at hsl ⊢
     have hSn:S≠[]:=by rintro rfl; simp at hsl
     rw[← hsl]
     refine J2 (.inl rfl) (compactRowT (l:=S) hSn (by simp only[Gs]at hpl; omega) rfl) fun v H' ⟨h1,h2⟩=>?_
     subst h1 h2
     simp -implicitDefEqProofs only[go_sem]
     have hcn:Lib.compact S≠[]:=by
      obtain ⟨y,hy⟩:=List.exists_mem_of_ne_nil _ hSn
      exact List.ne_nil_of_mem (YP.2 hy)
     have h:=Jdx (H:=[.arr 2 [t.row],.dead,.dead,.arr 1 (iz (Lib.compact S))]) (id:=3) (l:=Lib.compact S) (ys:=[.int .i64 0]) rfl (by rw[Qo (by simpa [iz]using hcn)]; rfl)
     rw[Qt (by simpa [iz]using hcn),Jd]at h
     exact h
end
end
section
section
variable {t:Tr}{o:List Int}(g:GoodT t o) (ht:t.Fit)
include g ht
theorem nOutsideP (d:Int):Fn Ga 18 [t.cv,.int .i64 d] (if (Q0 t o).2≠0 then .tup [.nils,.int .i64 (Q0 t o).2] else if (inT t d && (Jcw (nd t d.toNat).k || (nd t d.toNat).k == 47))=true then .tup [.rslc 1 (iz (Jf0 t o (ofL t o) d.toNat)) none,.int .i64 0] else .tup [.nils,.int .i64 7]):=by
 have hmany:=g.many
 by_cases hgo:(Q0 t o).2=0∧(inT t d && (Jcw (nd t d.toNat).k || (nd t d.toNat).k == 47))=true
 ·obtain ⟨hE,hx⟩:=hgo
  rw[if_neg (show ¬ (Q0 t o).2≠0 by simp[hE]),if_pos hx]
  rw[Gl,Bool.or_eq_true,beq_iff_eq]at hx
  have hr:=Yj.1 hx.1
  obtain ⟨d,rfl⟩:∃ d':Nat,d=d':=⟨d.toNat,by omega⟩
  rw[Gd]at hx ⊢
  exact nOutside g ht hE (by omega) hx.2
 have hF:=nFind g ht [d] (by simp)
 obtain ⟨l,hl⟩:=rE_head (t:=t) (o:=o)
 refine Jc c18_ok rfl (by split; rfl; split <;> rfl) fun N=>?_
 simp -implicitDefEqProofs only[c18,go_sem,Tr.cv,Tr.row]
 refine Je (id:=1) (z:=1) (els:=iz [d]) rfl rfl ?_
 simp only[go_sem,J4,Ky,frz,Qy,Ko,QW,Gb,Gc,Gs,Gy,Gm,Gx,Gz]
 refine JX hF ?_
 by_cases hE:(Q0 t o).2=0
 ·have hx:(inT t d && (Jcw (nd t d.toNat).k || (nd t d.toNat).k == 47))=false:=by
   rw[← GI]; exact fun h=>hgo ⟨hE,h⟩
  rw[hx,if_neg (show ¬ (Q0 t o).2≠0 by simp[hE]),if_neg (show ¬ (Q0 t o).2≠0 by simp[hE]),rE_ok hE]
  simp only[GA,GD,Gv,Gp,if_false]
  cases hin:inT t d with
  |false=>simp -implicitDefEqProofs only[go_sem,rRw,Gp,if_false]
  |true=>
   rw[hin,Gr,Gn]at hx
   have hr:=Yj.1 hin
   obtain ⟨d,rfl⟩:∃ d':Nat,d=d':=⟨d.toNat,by omega⟩
   rw[Gd]at hx
   simp -implicitDefEqProofs only[go_sem,rRw,if_true]
   refine JX (nIsExpr t (by omega)) ?_
   simp -implicitDefEqProofs only[go_sem,hx.1,Gf]
   refine JW (gok rfl) (YV t (by omega)) ?_
   simp -implicitDefEqProofs only[go_sem,kbN,hx.2,Gf]
 ·have e1:((Q0 t o).2 != 0)=true:=by simpa using hE
  rw[if_pos hE,if_pos hE,hl]
  simp -implicitDefEqProofs only[go_sem,e1]
end
end
section
section
variable {t:Tr}{o:List Int}(g:GoodT t o) (ht:t.Fit)
include g ht
theorem nNeedsP (d:Int):Fn Ga 14 [t.cv,.int .i64 d] (if (Q0 t o).2≠0 then .tup [.nils,.int .i64 (Q0 t o).2] else if (inT t d && (nd t d.toNat).k == 41)=true then .tup [.rslc 1 (iz (Ke t o (ofL t o) d.toNat)) none,.int .i64 0] else .tup [.nils,.int .i64 7]):=by
 have hmany:=g.many
 have hF:=nFind g ht [d] (by simp)
 obtain ⟨l,hl⟩:=rE_head (t:=t) (o:=o)
 refine Jc c14_ok rfl (by split; rfl; split <;> rfl) fun N=>?_
 simp -implicitDefEqProofs only[c14,go_sem,Tr.cv,Tr.row]
 refine Je (id:=1) (z:=1) (els:=iz [d]) rfl rfl ?_
 simp only[go_sem,J4,Ky,frz,Qy,Ko,QW,Gb,Gc,Gs,Gy,Gm,Gx,Gz]
 refine JX hF ?_
 by_cases hE:(Q0 t o).2=0
 ·rw[if_neg (show ¬ (Q0 t o).2≠0 by simp[hE]),if_neg (show ¬ (Q0 t o).2≠0 by simp[hE]),rE_ok hE]
  simp only[GA,GD,Gv]
  have e70:((7:Int) != 0)=true:=rfl
  cases hin:inT t d with
  |false=>
   simp only[Gu,Gp,if_false]
   simp -implicitDefEqProofs only[go_sem,rRw,e70]
  |true=>
   have hr:=Yj.1 hin
   obtain ⟨d,rfl⟩:∃ d':Nat,d=d':=⟨d.toNat,by omega⟩
   simp only[Gd,if_true,Gr]
   simp -implicitDefEqProofs only[go_sem,rRw]
   refine JX (YV t (by omega)) ?_
   cases h41:((nd t d).k == 41) with
   |true=>
    simp -implicitDefEqProofs only[go_sem,kbN,h41,Gg]
    refine JX ((nNeeds g ht (Jev (o:=o)) (by omega) (by simpa using h41)).fn rfl (Jb _)) ?_
    simp -implicitDefEqProofs only[go_sem,if_true]
   |false=>
    simp -implicitDefEqProofs only[go_sem,kbN,h41,Gf,Gp,if_false]
 ·have e1:((Q0 t o).2 != 0)=true:=by simpa using hE
  rw[if_pos hE,if_pos hE,hl]
  simp -implicitDefEqProofs only[go_sem,e1]
end
end
section
theorem lawWithin (l:List Int) (n:Nat) (hl:l.length≤100000) (h:∀ x∈l,0≤x∧x < n):Fn Ga 15 [.rslc 1 (iz l) none,.int .i64 (n:Int)] (.bool true):=by
 have hil:(iz l).length=l.length:=Jd
 refine Jc c15_ok rfl rfl fun N=>?_
 simp -implicitDefEqProofs only[c15,go_sem]
 refine JE (I:=fun i:Nat=>i≤l.length) (inv:=fun i=>gp [(0,.rslc 1 (iz l) none),(0,.int .i64 (n:Int)),(3,.int .i64 (i:Int))] 19) (hp:=fun _=>[]) (μ:=fun i=>l.length-i) 0 (by omega) ?_ rfl ?_
 ·simp[forget,gp]
 ·intro i hi
  by_cases hlt:i < l.length
  ·have d1:((i:Int) < (l.length:Int))=True:=Ju
   have hgi:=JN hlt
   have hx:=h (l.getD i 0) (by rw[List.getD_eq_getElem?_getD,List.getElem?_eq_getElem hlt]; exact GR hlt)
   generalize l.getD i 0=x at hgi hx
   have e1:decide (x < 0)=false:=decide_eq_false (by omega)
   have e2:decide ((n:Int)≤x)=false:=decide_eq_false (by omega)
   simp -implicitDefEqProofs only[go_sem,d1,hil,hgi,e1,e2]
   refine ⟨by omega,by omega,Jl,i+1,by omega,by omega,?_⟩
   simp[forget]
  ·have d1:((i:Int) < (l.length:Int))=False:=Jq
   simp -implicitDefEqProofs only[go_sem,d1,hil]
section
variable {t:Tr}{o:List Int}(g:GoodT t o) (ht:t.Fit)
include g ht
end
end
end Go.Cm
end
end
