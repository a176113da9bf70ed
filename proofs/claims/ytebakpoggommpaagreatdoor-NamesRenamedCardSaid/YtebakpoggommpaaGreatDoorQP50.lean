/-
  A part of the proof. Conditions: none.
-/
import Derived.Test.YtebakpoggommpaaGreatDoorQP13
import Derived.Test.YtebakpoggommpaaGreatDoorQP43
set_option linter.unusedSimpArgs false
set_option linter.unusedVariables false
open Go.Proofs.Tryz renaming prog→Ga
open Bool renaming and_eq_true→Gi,or_eq_false_iff→Gq,and_eq_false_iff→Gw,eq_iff_iff→Gx,not_false→Gy,not_true→Gz,false_or→GI,true_or→GJ
open List renaming map_cons→Gb,map_nil→Gc,getElem?_eq_getElem→Gh,length_cons→Gd,getD_eq_getElem?_getD→Gl,mem_filter→Gf,getElem?_eq_some_iff→Gr,mem_range→Gj,append_nil→Gm,length_append→Gs,drop_zero→Gn,getElem_mem→Gt,cons_append→Gu,nil_append→Gv,length_filter_le→GA,mem_of_getElem?→GD,range→Gp,length_nil→GG,find?_some→GH,drop_eq_getElem_cons→GK,mem_of_mem_drop→GL,getElem_of_mem→GM,filter_append→GN,contains_cons→GQ,getElem?_inj→GR,any_eq_false→GU,filter_cons→GV,range_succ→GX,map_append→GY,length_map→GZ,filter_nil→G5,filter_map→G6,mem_map→G7
open Int renaming toNat_natCast→Gg
noncomputable section
section
set_option maxRecDepth 100000
set_option maxHeartbeats 4000000
open Go.Proofs
namespace Go.Cm
theorem Jf9 (a b:List Int) (ha:a.length≤100000):Fn Ga 16 [.rslc 1 (iz a) none,.rslc 1 (iz b) none] (.bool (a == b)):=by
 refine Jb c16_ok rfl rfl fun N=>?_
 simp -implicitDefEqProofs only[c16,go_sem]
 refine JR (YP a b ha) ?_
 simp -implicitDefEqProofs only[go_sem]
theorem lawTree {l:List UInt8}{t:Tr}(h:Yq l=some t):Fn Ga 34 [S l] t.cv:=by
 refine Jb c34_ok rfl rfl fun N=>?_
 simp -implicitDefEqProofs only[c34,go_sem]
 refine JR (refTreeK h).1 ?_
 simp -implicitDefEqProofs only[go_sem,Tr.cv,Tr.row,splice]
theorem getK {l:List UInt8}(h:(Yq l).isSome=true):Yq l=some ((Yq l).getD ⟨[],[]⟩):=by
 cases hx:Yq l with
 |none=>rw[hx]at h; cases h
 |some t=>rfl
def kx0:List UInt8:=[100,101,102,32,109,97,105,110,40,41,32,45,62,32,105,110,116,32,123,32,120,32,61,32,121,32,43,32,49,59,32,121,32,61,32,104,101,97,100,40,115,41,59,32,115,32,61,32,50,32,58,58,32,114,59,32,114,32,61,32,51,32,58,58,32,115,59,32,103,105,118,101,32,120,32,125]
def Jez:Tr:=(Yq kx0).getD ⟨[],[]⟩
def ko0:List Int:=(Jt (Js Jez.nodes) []).getD []
theorem kf0:((Yq kx0).isSome && chk Jez == 0 && (Jt (Js Jez.nodes) []).isSome && Xa Jez ko0 == (0,0))=true:=by decide +kernel
def kx1:List UInt8:=[100,101,102,32,102,40,41,32,45,62,32,105,110,116,32,123,32,120,32,61,32,120,32,43,32,49,59,32,103,105,118,101,32,120,32,125]
def kt1t:Tr:=(Yq kx1).getD ⟨[],[]⟩
def ko1:List Int:=(Jt (Js kt1t.nodes) []).getD []
theorem kf1:((Yq kx1).isSome && chk kt1t == 0 && (Jt (Js kt1t.nodes) []).isSome && Xa kt1t ko1 == (5,9))=true:=by decide +kernel
def kx2:List UInt8:=[100,101,102,32,102,40,41,32,45,62,32,115,116,114,101,97,109,32,105,110,116,32,123,32,115,32,61,32,108,111,111,112,40,105,32,58,61,32,48,41,32,119,104,105,108,101,32,105,32,60,32,50,32,100,111,32,123,32,110,101,120,116,32,105,32,61,32,104,101,97,100,40,115,41,59,32,125,32,103,105,118,101,40,49,32,58,58,32,115,41,59,32,103,105,118,101,32,115,32,125]
def kt2t:Tr:=(Yq kx2).getD ⟨[],[]⟩
def ko2:List Int:=(Jt (Js kt2t.nodes) []).getD []
theorem kf2:((Yq kx2).isSome && chk kt2t == 0 && (Jt (Js kt2t.nodes) []).isSome && Xa kt2t ko2 == (16,9))=true:=by decide +kernel
def kx3:List UInt8:=[100,101,102,32,102,40,41,32,45,62,32,115,116,114,101,97,109,32,105,110,116,32,123,32,115,32,61,32,108,111,111,112,40,114,32,58,61,32,49,32,58,58,32,115,41,32,119,104,105,108,101,32,102,97,108,115,101,32,100,111,32,123,32,125,32,103,105,118,101,40,114,41,59,32,103,105,118,101,32,115,32,125]
def kt3t:Tr:=(Yq kx3).getD ⟨[],[]⟩
def ko3:List Int:=(Jt (Js kt3t.nodes) []).getD []
theorem kf3:((Yq kx3).isSome && chk kt3t == 0 && (Jt (Js kt3t.nodes) []).isSome && Xa kt3t ko3 == (0,0))=true:=by decide +kernel
def kx4:List UInt8:=[100,101,102,32,102,40,97,58,32,105,110,116,41,32,45,62,32,105,110,116,32,123,32,97,32,61,32,49,59,32,103,105,118,101,32,97,32,125]
def kt4t:Tr:=(Yq kx4).getD ⟨[],[]⟩
def ko4:List Int:=(Jt (Js kt4t.nodes) []).getD []
theorem kf4:((Yq kx4).isSome && chk kt4t == 0 && (Jt (Js kt4t.nodes) []).isSome && Xa kt4t ko4 == (3,6))=true:=by decide +kernel
def kx5:List UInt8:=[100,101,102,32,102,40,41,32,45,62,32,105,110,116,32,123,32,103,105,118,101,32,103,40,49,41,32,125]
def kt5t:Tr:=(Yq kx5).getD ⟨[],[]⟩
def ko5:List Int:=(Jt (Js kt5t.nodes) []).getD []
theorem kf5:((Yq kx5).isSome && chk kt5t == 0 && (Jt (Js kt5t.nodes) []).isSome && Xa kt5t ko5 == (2,10))=true:=by decide +kernel
theorem kRes {x:List UInt8}{t:Tr}{o:List Int}{a:Nat}{b:Int}(ht:t=(Yq x).getD ⟨[],[]⟩) (ho:o=(Jt (Js t.nodes) []).getD []) (h:((Yq x).isSome && chk t == 0 && (Jt (Js t.nodes) []).isSome && Xa t o == (a,b))=true) :
  Fn Ga 34 [S x] t.cv∧t.Fit∧GoodT t o∧Xa t o=(a,b)∧Fn Ga 9 [t.cv] (if b=0 then .tup [.agg [.rslc 1 (iz (ofL t o)) none],.int .i64 0,.int .i64 0] else .tup [.agg [.nils],.int .i64 (a:Int),.int .i64 b]):=by
 simp only[Gi,beq_iff_eq]at h
 obtain ⟨⟨⟨h1,h2⟩,h3⟩,h4⟩:=h
 have hk:=getK h1
 rw[← ht]at hk
 have hfit:=okT_fit (refTreeK hk).2
 have hg:GoodT t o:=by
  obtain ⟨o',g⟩:=(Jb8 t).1 h2
  have hh:=g.ord.h
  rw[hh]at ho
  rw[ho]; exact g
 have hr:=Jc5 hg hfit
 rw[h4]at hr
 exact ⟨lawTree hk,hfit,hg,h4,hr⟩
theorem kN:((nd Jez 5).k == 41 && (nd Jez 9).k == 41 && (nd Jez 21).k == 40 && Jez.nodes.length == 23 && KD Jez ko0 (ofL Jez ko0) 5 == [9] && KD Jez ko0 (ofL Jez ko0) 9 == [14] && ordL Jez ko0 (ofL Jez ko0) 21 == [14,9,5,19] && (ofL Jez ko0).length == 23 && (ofL Jez ko0).getD 2 0 == 6)=true:=by decide +kernel
theorem Jgj:Fn Ga 7 [] (.bool true):=by
 obtain ⟨a0,f0,g0,e0,r0⟩:=kRes (x:=kx0) (t:=Jez) (o:=ko0) rfl rfl kf0
 obtain ⟨a1,f1,g1,e1,r1⟩:=kRes (x:=kx1) (t:=kt1t) (o:=ko1) rfl rfl kf1
 obtain ⟨a2,f2,g2,e2,r2⟩:=kRes (x:=kx2) (t:=kt2t) (o:=ko2) rfl rfl kf2
 obtain ⟨a3,f3,g3,e3,r3⟩:=kRes (x:=kx3) (t:=kt3t) (o:=ko3) rfl rfl kf3
 obtain ⟨a4,f4,g4,e4,r4⟩:=kRes (x:=kx4) (t:=kt4t) (o:=ko4) rfl rfl kf4
 obtain ⟨a5,f5,g5,e5,r5⟩:=kRes (x:=kx5) (t:=kt5t) (o:=ko5) rfl rfl kf5
 have hN:=kN
 simp only[Gi,beq_iff_eq]at hN
 obtain ⟨⟨⟨⟨⟨⟨⟨⟨n1,n2⟩,n3⟩,n4⟩,n5⟩,n6⟩,n7⟩,n8⟩,n9⟩:=hN
 have hE:(Xa Jez ko0).2=0:=congrArg Prod.snd e0
 have N5:=nNeedsF g0 f0 hE 5 (by rw[n4]; decide) n1
 have N9:=nNeedsF g0 f0 hE 9 (by rw[n4]; decide) n2
 have O21:=nOrderF g0 f0 hE (b:=21) (by rw[n4]; decide) (.inl n3)
 rw[n5]at N5
 rw[n6]at N9
 rw[n7]at O21
 rw[if_pos rfl]at r0 r3
 rw[if_neg (by decide)]at r1 r2 r4 r5
 have hl1:(iz (ofL Jez ko0)).length=23:=by rw[Jf,n8]
 have hl2:(ndz Jez.nodes).length=23:=by rw[Jc,n4]
 have hg2:(iz (ofL Jez ko0)).getD 2 []=[.int .i64 6]:=by rw[← n9]; exact JP (by rw[n8]; decide)
 refine Jb c7_ok rfl rfl fun N=>?_
 simp -implicitDefEqProofs only[c7,go_sem]
 refine JR a0 ?_
 simp -implicitDefEqProofs only[go_sem,Tr.cv,Tr.row,splice]
 refine JR r0 ?_
 simp -implicitDefEqProofs only[go_sem,Tr.cv,Tr.row,splice]
 refine JR N5 ?_
 simp -implicitDefEqProofs only[go_sem]
 refine JR N9 ?_
 simp -implicitDefEqProofs only[go_sem]
 refine JR O21 ?_
 simp -implicitDefEqProofs only[go_sem]
 refine JR a1 ?_
 simp -implicitDefEqProofs only[go_sem,Tr.cv,Tr.row,splice]
 refine JR r1 ?_
 simp -implicitDefEqProofs only[go_sem,Tr.cv,Tr.row,splice]
 refine JR a2 ?_
 simp -implicitDefEqProofs only[go_sem,Tr.cv,Tr.row,splice]
 refine JR r2 ?_
 simp -implicitDefEqProofs only[go_sem,Tr.cv,Tr.row,splice]
 refine JR a3 ?_
 simp -implicitDefEqProofs only[go_sem,Tr.cv,Tr.row,splice]
 refine JR r3 ?_
 simp -implicitDefEqProofs only[go_sem,Tr.cv,Tr.row,splice]
 refine JR a4 ?_
 simp -implicitDefEqProofs only[go_sem,Tr.cv,Tr.row,splice]
 refine JR r4 ?_
 simp -implicitDefEqProofs only[go_sem,Tr.cv,Tr.row,splice]
 refine JR a5 ?_
 simp -implicitDefEqProofs only[go_sem,Tr.cv,Tr.row,splice]
 refine JR r5 ?_
 simp -implicitDefEqProofs only[go_sem,Tr.cv,Tr.row,splice,hl1,hl2]
 have h9:Fn Ga 16 [.rslc 1 (iz [9]) none,.rslc 1 [[.int .i64 9]] none] (.bool true):=Jf9 [9] [9] (by decide)
 have h14:Fn Ga 16 [.rslc 1 (iz [14]) none,.rslc 1 [[.int .i64 14]] none] (.bool true):=Jf9 [14] [14] (by decide)
 have hO:Fn Ga 16 [.rslc 1 (iz [14,9,5,19]) none,.rslc 1 [[.int .i64 14],[.int .i64 9],[.int .i64 5],[.int .i64 19]] none] (.bool true):=Jf9 [14,9,5,19] [14,9,5,19] (by decide)
 refine Je (id:=7) (z:=1) (els:=[[.int .i64 9]]) rfl rfl ?_
 simp -implicitDefEqProofs only[go_sem,JS,frz,Ki,J6,JN]
 refine JR h9 ?_
 simp -implicitDefEqProofs only[go_sem]
 refine Je (id:=8) (z:=1) (els:=[[.int .i64 14]]) rfl rfl ?_
 simp -implicitDefEqProofs only[go_sem,JS,frz,Ki,J6,JN]
 refine JV (.inr ⟨124,true,rfl,rfl⟩) h14 ?_
 simp -implicitDefEqProofs only[go_sem]
 refine Je (id:=9) (z:=1) (els:=[[.int .i64 14],[.int .i64 9],[.int .i64 5],[.int .i64 19]]) rfl rfl ?_
 simp -implicitDefEqProofs only[go_sem,JS,frz,Ki,J6,JN]
 refine JV (.inr ⟨129,true,rfl,rfl⟩) hO ?_
 simp -implicitDefEqProofs only[go_sem,hl1,hg2,show (((5:Nat):Int) == 5)=true from rfl,show (((3:Nat):Int) == 3)=true from rfl,show (((2:Nat):Int) == 2)=true from rfl]
 decide
def JeF (t:Tr):Bool:=(decide (160 < t.nodes.length) && decide (t.nodes.length≤700)) || decide (1400 < t.nodes.length) || decide (40 < t.items.length)
def Y5 (t:Tr):Bool:=JeF t || t.nodes.any Jcg
theorem lawVast3 (t:Tr):Fn Ga 10 [t.cv] (.bool (Y5 t)):=by
 refine Jb c10_ok rfl rfl fun N=>?_
 have hil:(iz t.items).length=t.items.length:=Jf
 cases hH:JeF t with
 |true=>
  have hv:Y5 t=true:=by unfold Y5; rw[hH]; rfl
  rw[hv]
  unfold JeF at hH
  have e1:((160:Int) < (t.nodes.length:Int))=(160 < t.nodes.length):=propext (by omega)
  have e2:((t.nodes.length:Int)≤700)=(t.nodes.length≤700):=propext (by omega)
  have e3:((1400:Int) < (t.nodes.length:Int))=(1400 < t.nodes.length):=propext (by omega)
  have e4:((40:Int) < (t.items.length:Int))=(40 < t.items.length):=propext (by omega)
  by_cases g1:160 < t.nodes.length <;> by_cases g2:t.nodes.length≤700 <;> by_cases g3:1400 < t.nodes.length <;> by_cases g4:40 < t.items.length <;> first | (exfalso; omega) | (exfalso; simp[g1,g2,g3,g4]at hH; done) | (simp -implicitDefEqProofs only[c10,go_sem,Tr.cv,Tr.row,Jc,hil,e1,e2,e3,e4,g1,g2,g3,g4])
 |false=>
  unfold JeF at hH
  simp only[Gq,Gw,decide_eq_false_iff_not]at hH
  obtain ⟨⟨h1,h2⟩,h3⟩:=hH
  have e3:((1400:Int) < (t.nodes.length:Int))=False:=Jn
  have e4:((40:Int) < (t.items.length:Int))=False:=Jn
  have hv:Y5 t=t.nodes.any Jcg:=by
   unfold Y5 JeF
   have:(decide (160 < t.nodes.length) && decide (t.nodes.length≤700))=false:=by
    simp only[Gw,decide_eq_false_iff_not]; exact h1
   rw[this,decide_eq_false h2,decide_eq_false h3]; rfl
  rw[hv]
  by_cases g1:160 < t.nodes.length
  case' pos=>
   have e1:((160:Int) < (t.nodes.length:Int))=True:=Jo
   have e2:((t.nodes.length:Int)≤700)=False:=Jn
   simp -implicitDefEqProofs only[c10,go_sem,Tr.cv,Tr.row,Jc,hil,e1,e2,e3,e4]
  case' neg=>
   have e1:((160:Int) < (t.nodes.length:Int))=False:=Jn
   simp -implicitDefEqProofs only[c10,go_sem,Tr.cv,Tr.row,Jc,hil,e1,e3,e4]
  all_goals (
   refine Je (id:=0) (z:=2) (els:=[t.row]) rfl rfl ?_
   simp only[go_sem,JS,Ki,frz,KP,Tr.row]
   refine JC (I:=fun i:Nat=>i≤t.nodes.length∧t.nodes.any Jcg=(t.nodes.drop i).any Jcg) (inv:=fun i=>gp [(1,.rptr t.row),(1,.int .i64 (i:Int))] 47) (hp:=fun _=>[.dead]) (μ:=fun i=>t.nodes.length-i) 0 ⟨by omega,rfl⟩ ?_ rfl ?_
   ·simp[forget,gp,Tr.row]
   ·rintro i ⟨hi,hinv⟩
    by_cases hlt:i < t.nodes.length
    ·have d1:((i:Int) < (t.nodes.length:Int))=True:=Jo
     have hg:=KQ hlt
     rw[GK hlt,List.any_cons,← rowg hlt]at hinv
     generalize t.nodes.getD i default=x at hg hinv
     have hxl:(iz x.kids).length=x.kids.length:=Jf
     by_cases g5:30 < x.kids.length
     ·have e5:((30:Int) < (x.kids.length:Int))=True:=Jo
      rw[show Jcg x=true by simp[Jcg,g5],GJ]at hinv
      simp -implicitDefEqProofs only[go_sem,Tr.row,Jc,d1,hg,Nd.cv,hxl,e5,hinv]
      omega
     ·have e5:((30:Int) < (x.kids.length:Int))=False:=Jn
      by_cases g6:60 < x.text.length
      ·have e6:((60:Int) < (x.text.length:Int))=True:=Jo
       rw[show Jcg x=true by simp[Jcg,g6],GJ]at hinv
       simp -implicitDefEqProofs only[go_sem,Tr.row,Jc,d1,hg,Nd.cv,hxl,e5,e6,hinv]
       omega
      ·have e6:((60:Int) < (x.text.length:Int))=False:=Jn
       rw[show Jcg x=false by simp[Jcg,g5,g6],GI]at hinv
       simp -implicitDefEqProofs only[go_sem,Tr.row,Jc,d1,hg,Nd.cv,hxl,e5,e6]
       refine ⟨by omega,by omega,Jj,i+1,⟨by omega,hinv⟩,by omega,?_⟩
       simp[forget,Tr.row]
    ·have d1:((i:Int) < (t.nodes.length:Int))=False:=Jn
     rw[List.drop_eq_nil_of_le (by omega)]at hinv
     simp -implicitDefEqProofs only[go_sem,Tr.row,Jc,d1,hinv]
     simp
   )
theorem Tr.Ty.fit3 {t:Tr}(h:t.Ty) (hv:Y5 t=false):t.Fit:=by
 unfold Y5 JeF at hv
 simp only[Gq,Gw,decide_eq_false_iff_not,GU]at hv
 obtain ⟨⟨⟨_,h2⟩,h3⟩,h4⟩:=hv
 refine ⟨by omega,by omega,fun x hx=>?_,h.items⟩
 have hn:=h4 x hx
 unfold Jcg at hn
 simp only[Bool.not_eq_true,Gq,decide_eq_false_iff_not]at hn
 have ty:=h.nodes x hx
 exact ⟨ty.k,by omega,ty.n,by omega,ty.kids,ty.pl⟩
theorem lawSame (a b:List Int) (ha:a.length≤100000):Fn Ga 16 [.rslc 1 (iz a) none,.rslc 1 (iz b) none] (.bool (a == b)):=by
 refine Jb c16_ok rfl rfl fun N=>?_
 simp -implicitDefEqProofs only[c16,go_sem]
 refine JR (YP a b ha) ?_
 simp -implicitDefEqProofs only[go_sem]
section
def Y6 (of:List Int) (d:Int) (i:Nat):List Int:=((Gp i).filter fun j=>of.getD j 0 == d).map fun j:Nat=>(j:Int)
def usesL (of:List Int) (d:Int):List Int:=Y6 of d of.length
theorem usesTo_succ {of:List Int}{d:Int}{i:Nat}:Y6 of d (i+1)=Y6 of d i++if (of.getD i 0 == d)=true then [(i:Int)] else []:=by
 unfold Y6
 rw[GX,GN,GY,GV,G5]
 split <;> rfl
theorem JeG {of:List Int}{d:Int}{i:Nat}:(Y6 of d i).length≤i:=by
 unfold Y6
 rw[GZ]
 exact Nat.le_trans (GA _ _) (by simp)
theorem nUses0 (t:Tr) (of:List Int) (hl:of.length≤100000) (d:Int):Jbi Ga 73 [.agg (rRw t of),.int .i64 d] 1 (iz (usesL of d)):=by
 have hol:(iz of).length=of.length:=Jf
 refine Ja4 (J7 c73_ok fun N=>?_) rfl (Jd _)
 simp -implicitDefEqProofs only[c73,go_sem,rRw,hol]
 refine Q3 ?_
 simp only[go_sem,Gu,Gv]
 refine Jy (I:=fun i:Nat=>i≤of.length) (inv:=fun i=>gp [(1,.int .i64 d),(2,KN 0 (iz (Y6 of d i))),(3,.rslc 1 (iz of) none),(0,.int .i64 (of.length:Int)),(0,.int .i64 (i:Int))] 13) (hp:=fun i=>[Qi 1 (iz (Y6 of d i))]) (μ:=fun i=>of.length-i) 0 [1] (by omega) rfl ?_ ?_ ?_
 ·simp[forget,JA,ren,Jl,gp,Y6,QN,Qu]
 ·simp[Ke,Jcd,Y6,QN,Xc]
 ·intro i hi
  by_cases hlt:i < of.length
  ·have d1:((i:Int) < (of.length:Int))=True:=Jo
   have hgi:=JP hlt
   have hst:=usesTo_succ (of:=of) (d:=d) (i:=i)
   have hul:=JeG (of:=of) (d:=d) (i:=i)
   generalize Y6 of d i=acc at hst hul ⊢
   cases hb:(of.getD i 0 == d) with
   |false=>
    rw[hb,if_neg (by simp),Gm]at hst
    simp -implicitDefEqProofs only[go_sem,hol,d1,hgi,hb]
    refine ⟨by omega,Jj,i+1,[0],by omega,by omega,rfl,?_,?_⟩
    ·rw[hst]; simp only[Ke,Gb,Gc,go_sem,Kk (Ja (Jd acc))]
    ·rw[hst]; simp[forget,JA,ren,Jl,KC]
   |true=>
    rw[hb,if_pos rfl]at hst
    simp -implicitDefEqProofs only[go_sem,hol,d1,hgi,hb,Jr,Jf]
    refine ⟨by omega,⟨by omega,by omega⟩,Jj,i+1,[2],by omega,by omega,rfl,?_,?_⟩
    ·rw[hst,Ka,JZ]
     simp only[Ke,Gb,Gc,go_sem,Ji]
     simp[Ja (Jd acc),JA,ren]
    ·rw[hst,Ka,JY]
     simp[forget,JA,ren,Jl,Jf]
  ·have d1:((i:Int) < (of.length:Int))=False:=Jn
   obtain rfl:i=of.length:=by omega
   simp -implicitDefEqProofs only[go_sem,hol,d1]
   exact ⟨0,rfl,rfl⟩
section
variable {t:Tr}{o:List Int}(g:GoodT t o) (ht:t.Fit)
include g ht
end
end
section
section
variable {t:Tr}{o:List Int}(g:GoodT t o) (ht:t.Fit)
include g ht
end
end
section
section
variable {t:Tr}{o:List Int}(g:GoodT t o)
include g
theorem XW {j u:Nat}(hu:u < t.nodes.length) (h:blw o j u):J5 t j=J5 t u:=by
 unfold J5
 congr 1
 refine List.filter_congr fun L hL=>?_
 rw[items_all g]at hL
 have h1:=J2.1 (Gf.1 hL).1
 have h2:(nd t L.toNat).k=65:=by simpa using (Gf.1 hL).2
 obtain ⟨L,rfl⟩:∃ L':Nat,L=L':=⟨L.toNat,by omega⟩
 rw[Gg]at h2
 have hj:=h.1
 rw[Gx,decide_eq_true_eq,decide_eq_true_eq]
 constructor
 ·intro h3; omega
 ·intro h3
  rcases Nat.lt_or_ge L j with h4 | h4
  ·omega
  ·have hb:blw o L u:=⟨by omega,by have:=h.2; omega⟩
   obtain ⟨m,hm,_⟩:=Xf g hu hb (by omega)
   have:=(Y0 g (d:=L) (by omega) h2).1
   omega
theorem sight_top {d j:Nat}(hj:j < t.nodes.length) (h:(d:Int)∈Qj t j):∃ u:Nat,u < t.nodes.length∧blw o j u∧blw o d u:=by
 have h1:=(Gf.1 h).2
 rw[List.contains_iff_mem,Jea g _ _ _ hj (by omega)]at h1
 obtain ⟨u,a,hu,ha,hb,hd⟩:=h1
 refine ⟨u,hu,QT g hu hb (Qm g hu ha),?_⟩
 rw[KX g hu]at hd
 rcases hd with ⟨_,s,hs,_,hk,_⟩ | ⟨_,hk,_⟩ | ⟨_,_,rfl⟩ | ⟨_,_,⟨hk,_⟩ | ⟨_,s,hs,_,hk,_⟩⟩
 ·have hsl:=(JW g hu hs).2
  exact QT g hu (Qm g (by omega) hk) (Qm g hu hs)
 ·exact Qm g hu hk
 ·exact Yn g hu
 ·exact Qm g hu hk
 ·have hsl:=(JW g hu hs).2
  exact QT g hu (Qm g (by omega) hk) (Qm g hu hs)
theorem JeM {d j:Nat}(hj:j < t.nodes.length) (h:(d:Int)∈Qj t j):J5 t d=J5 t j:=by
 obtain ⟨u,hu,h1,h2⟩:=sight_top g hj h
 rw[XW g hu h1,XW g hu h2]
theorem Jck {d j:Nat}(hj:j < t.nodes.length) (hje:1≤(nd t j).k∧(nd t j).k≤29) (h:(d:Int)∈Qj t j):d < t.nodes.length∧Kh (nd t d).k=true∧(nd t d).k≠65∧inB t o d j=true:=by
 obtain ⟨h1,h2⟩:=Gf.1 h
 have hd:=J2.1 h1
 rw[sight_mem g (d:=d) (by omega) hj hje]at h2
 simp only[Gi,Bool.not_eq_true',beq_eq_false_iff_ne]at h2
 exact ⟨by omega,h2.1,h2.2.1,h2.2.2⟩
theorem JbM {d e j:Nat}(hj:j < t.nodes.length) (hje:1≤(nd t j).k∧(nd t j).k≤29) (htw:∀ i,i < t.nodes.length→twN t i=false) (hd:(d:Int)∈Qj t j) (he:(e:Int)∈Qj t j) (hx:(nd t d).text=(nd t e).text):¬ d < e:=by
 intro hlt
 obtain ⟨d1,d2,d3,_⟩:=Jck g hj hje hd
 obtain ⟨e1,e2,e3,_⟩:=Jck g hj hje he
 have hit:J5 t d=J5 t e:=(JeM g hj hd).trans (JeM g hj he).symm
 have h:=htw e e1
 have e44:(nd t e).k≠44:=by intro h4; rw[h4]at e2; exact absurd e2 (by decide)
 unfold twN at h
 rw[if_neg (by rw[e2]; simp),GU]at h
 have:=h d (Gj.2 hlt)
 rw[if_neg e44,if_neg e3,hx,hit,d2]at this
 simp at this
 exact d3 this
end
theorem scan_none {t:Tr}{o:List Int}{a b:Int}:∀ {l:List Nat},Xn t o a b l=none→∀ i∈l,twN t i=false∧(JJ t i=true→JO t o i≠-1)
 |[],_,i,hi=>by simp at hi
 |x::l,h,i,hi=>by
  unfold Xn at h
  split at h
  ·cases h
  ·rename_i h1
   split at h
   ·cases h
   ·rename_i h2
    rcases List.mem_cons.1 hi with rfl | hi
    ·refine ⟨by simpa using h1,fun hs hm=>h2 (by rw[hs,hm]; rfl)⟩
    ·exact scan_none h i hi
theorem scan_err {t:Tr}{o:List Int}{r:Nat×Int}:∀ {l:List Nat},Xn t o 6 10 l=some r→r.2=6∨r.2=10
 |[],h=>by cases h
 |x::l,h=>by
  unfold Xn at h
  split at h
  ·cases h; exact .inl rfl
  ·split at h
   ·cases h; exact .inr rfl
   ·exact scan_err h
theorem JfS {t:Tr}{o:List Int}(hE:(Xa t o).2=0) {i:Nat}(hi:i < t.nodes.length):twN t i=false∧(JJ t i=true→JO t o i≠-1):=by
 unfold Xa at hE
 cases hs:Xn t o 6 10 (Gp t.nodes.length) with
 |some r=>rw[hs]at hE; have:=scan_err hs; simp only at hE; omega
 |none=>exact scan_none hs i (Gj.2 hi)
section
variable {t:Tr}{o:List Int}(g:GoodT t o)
include g
end
end
section
def Jbs (q:Nat→Bool) (f:Nat→Int) (i:Nat):List Int:=((Gp i).filter q).map f
theorem Jdy {q:Nat→Bool}{f:Nat→Int}{i:Nat}:Jbs q f (i+1)=Jbs q f i++if q i=true then [f i] else []:=by
 unfold Jbs
 rw[GX,GN,GY,GV,G5]
 split <;> rfl
theorem JbT {q:Nat→Bool}{f:Nat→Int}{i:Nat}:(Jbs q f i).length≤i:=by
 unfold Jbs
 rw[GZ]
 exact Nat.le_trans (GA _ _) (by simp)
def upto (m:Nat):List Int:=(Gp m).map fun i:Nat=>(i:Int)
theorem XE {m:Nat}{x:Int}:x∈upto m↔0≤x∧x < m:=by
 unfold upto
 rw[G7]
 constructor
 ·rintro ⟨a,h,rfl⟩; have:=Gj.1 h; omega
 ·intro h; exact ⟨x.toNat,Gj.2 (by omega),by omega⟩
theorem upto_len {m:Nat}:(upto m).length=m:=by simp[upto]
theorem upto_asc {m:Nat}:(upto m).Pairwise (· < ·):=by
 unfold upto
 rw[List.pairwise_map]
 exact List.pairwise_lt_range.imp fun h=>by omega
def imgQ (q:Nat→Bool) (f:Nat→Int) (x:Int) (i:Nat):Bool:=q i && f i == x
def imgL (q:Nat→Bool) (f:Nat→Int) (n m:Nat):List Int:=(upto m).filter fun x=>(Gp n).any (imgQ q f x)
theorem img_asc {q:Nat→Bool}{f:Nat→Int}{n m:Nat}:(imgL q f n m).Pairwise (· < ·):=upto_asc.filter _
theorem mem_img {q:Nat→Bool}{f:Nat→Int}{n m:Nat}{x:Int}:x∈imgL q f n m↔(0≤x∧x < m)∧∃ i,i < n∧q i=true∧f i=x:=by
 unfold imgL imgQ
 rw[Gf,XE,List.any_eq_true]
 simp only[Gj,Gi,beq_iff_eq]
theorem img_done {q:Nat→Bool}{f:Nat→Int}{n m:Nat}(h:∀ i,i < n→q i=true→0≤f i∧f i < m):Lib.compact ((Jbs q f n).mergeSort fun x y=>decide (x≤y))=imgL q f n m:=by
 refine Jel (Jd8 (JfI _)) img_asc fun x=>?_
 rw[Y1,JfH,mem_img]
 unfold Jbs
 simp only[G7,Gf,Gj]
 constructor
 ·rintro ⟨i,⟨h1,h2⟩,rfl⟩
  exact ⟨h i h1 h2,i,h1,h2,rfl⟩
 ·rintro ⟨_,i,h1,h2,rfl⟩
  exact ⟨i,⟨h1,h2⟩,rfl⟩
def callQ (t:Tr) (it i:Nat):Bool:=(nd t i).k == 26 && J5 t i == it
def callF (t:Tr) (of:List Int) (i:Nat):Int:=(J5 t (of.getD i 0).toNat:Int)
def JaN (t:Tr) (of:List Int) (it:Nat):List Int:=imgL (callQ t it) (callF t of) t.nodes.length t.items.length
def mainT:List UInt8:=[109,97,105,110]
def Jf5 (t:Tr):List Int:=(upto t.items.length).filter fun i=>(nd t (t.items.getD i.toNat 0).toNat).text == mainT
def JdJ (t:Tr) (of:List Int):List Int:=bfs (fun x=>JaN t of x.toNat) (upto t.items.length) (Jf5 t) []
def XL (t:Tr) (of:List Int):List Int:=(upto t.items.length).filter fun i=>!(JdJ t of).contains i
theorem callL_ok {t:Tr}{of:List Int}:∀ x∈upto t.items.length,(∀ y∈JaN t of x.toNat,y∈upto t.items.length)∧(JaN t of x.toNat).length≤(upto t.items.length).length:=
 fun _ _=>⟨fun _ hy=>(Gf.1 hy).1,GA _ _⟩
section
variable {t:Tr}{o:List Int}(g:GoodT t o)
include g
theorem Xt {k L:Nat}(h:t.items[k]? = some (L:Int)):J5 t L=k:=by
 have hk:k < t.items.length:=(Gr.1 h).1
 have hr:=g.itr (GD h)
 obtain ⟨b,B,b1,b2,b3,b4,b5,b6⟩:=YV g (i:=L) (by omega)
 have hn:t.items.Nodup:=XA g.ord.ok g.olen _ _ _ g.its
 have hself:XI t o L=L:=by
  unfold XI
  have hasc:=YH g.ord.ok g.olen _ _ _ g.its
  have hno:∀ y∈t.items.take k,Jae o L y.toNat=false:=fun y hy=>by
   obtain ⟨j,hj,rfl⟩:=GM hy
   rw[List.getElem_take]
   rw[List.length_take]at hj
   have h2:=List.pairwise_iff_getElem.1 hasc j k (by omega) hk (by omega)
   rw[(Gr.1 h).2]at h2
   rw[Bool.eq_false_iff]
   intro hb
   have:=(Kr.1 hb).1
   have:=g.itr (Gt (l:=t.items) (show j < t.items.length by omega))
   omega
  rw[Jgm (q:=fun M:Int=>Jae o L M.toNat) h (by rw[Kr,Gg]; exact Yn g (by omega)) hno]
 rw[b4]at hself
 have:B=L:=by omega
 subst this
 rw[b3]
 exact (GR b1 hn).1 (b2.trans h.symm)
theorem item_in {i it L:Nat}(hi:i < t.nodes.length) (h:t.items[it]? = some (L:Int)):Jae o i L=(J5 t i == it):=by
 have hr:=g.itr (GD h)
 rw[Gx,Kr,beq_iff_eq]
 constructor
 ·intro hb
  rw[XW g (by omega) hb,Xt g h]
 ·rintro rfl
  obtain ⟨b,B,b1,b2,b3,b4,b5,b6⟩:=YV g hi
  rw[b3]at h
  rw[b2]at h
  have:B=L:=by have:=Option.some.inj h; omega
  subst this
  unfold XI at b4
  split at b4
  ·rename_i x hx
   have:=GH hx
   subst b4
   rw[Gg]at this
   exact Kr.1 this
  ·omega
theorem Jef (hE:(Xa t o).2=0) {i:Nat}(hi:i < t.nodes.length) (hk:(nd t i).k=26):∃ L:Nat,JO t o i=L∧t.items[J5 t L]? = some (L:Int)∧L < t.nodes.length:=by
 have h1:=(JfS hE hi).2 (by unfold JJ; rw[hk]; rfl)
 have hm:JO t o i=Jaa t i:=by unfold JO; rw[if_neg (by omega),if_pos hk]
 have hr:=Jc7 (t:=t) (o:=o) (i:=i)
 have h2:(nd t (JO t o i).toNat).k=65:=by
  rw[hm]at h1 ⊢
  unfold Jaa at h1 ⊢
  generalize hf:(Kq t).find? _=r at h1 ⊢
  cases r with
  |none=>exact absurd rfl h1
  |some d=>
   have:=GH hf
   simp only[Gi,beq_iff_eq]at this
   exact this.2.2
 obtain ⟨L,hL⟩:∃ L:Nat,JO t o i=L:=⟨(JO t o i).toNat,by omega⟩
 rw[hL,Gg]at h2
 rw[hL]at hr
 have h3:=(Y0 g (by omega) h2).2
 obtain ⟨k,hk,hkL⟩:=GM h3
 have h4:t.items[k]? = some (L:Int):=by rw[Gh hk,hkL]
 exact ⟨L,hL,by rw[Xt g h4]; exact h4,by omega⟩
end
end
section
theorem compactRowT {E:Env}{H:List CObj}{id:Nat}{l:List Int}(hl:l≠[]) (hbig:l.length≤1000000) (hH:H[id]? = some (.arr 1 (iz l))):CallsC Ga E 57 [.slc id 0 l.length none] H fun v' H'=>v'=.slc id 0 (Lib.compact l).length none∧H'=H.set id (.arr 1 (iz (Lib.compact l))):=by
 have h:=Jfo (E:=E) (cap:=none) hl hbig hH
 refine h.trunc (id:=0) (z:=0) (j:=0) (els:=[]) (v:=.un) fun v H' ⟨h1,h2⟩=>.inr ⟨id,1,iz (Lib.compact l++List.replicate (l.length-(Lib.compact l).length) 0),(Lib.compact l).length,by rw[h2,List.getElem?_set_self (Gr.1 hH).1],h1,?_⟩
 rw[h2,List.set_set]
 congr 2
 unfold iz
 rw[← List.map_take,List.take_left' rfl]
section
variable {t:Tr}{o:List Int}(g:GoodT t o) (ht:t.Fit)
include g
include ht
omit ht in
theorem index_item {L:Nat}(h:t.items[J5 t L]? = some (L:Int)):Q8 (fun y=>(L:Int) == y) t.items 0=(J5 t L:Int):=by
 have hn:t.items.Nodup:=XA g.ord.ok g.olen _ _ _ g.its
 rcases Jb1 (q:=fun y=>(L:Int) == y) t.items 0 with ⟨_,h2⟩ | ⟨j,h1,h2,h3⟩
 ·have:=List.find?_eq_none.1 h2 _ (GD h)
  simp at this
 ·have h4:=GH h3
  have h5:t.items[j]? = some (L:Int):=by
   rw[Gh h1]
   rw[Gl,Gh h1]at h4
   simp only[Option.getD_some,beq_iff_eq]at h4
   rw[h4]
  have h6:=(GR h1 hn).1 (h5.trans h.symm)
  rw[h2,Nat.zero_add,h6]
omit ht in
theorem nCalls (hE:(Xa t o).2=0) {it:Nat}:Jbi Ga 58 [.agg (rRw t (ofL t o)),.int .i64 (it:Int)] 1 (iz (JaN t (ofL t o) it)):=by
 have hmany:=g.many
 have hits:=g.items
 have ho:=Je4 (t:=t) (o:=o)
 have hmean:∀ i,i < t.nodes.length→(nd t i).k=26→∃ L:Nat,(ofL t o).getD i 0=L∧t.items[J5 t L]? = some (L:Int):=fun i hi h3=>by
  obtain ⟨L,h1,h2,_⟩:=Jef g hE hi h3
  exact ⟨L,by rw[Jcu hi]; exact h1,h2⟩
 have hol:(iz (ofL t o)).length=t.nodes.length:=by rw[Jf,ho.len]
 have hgo:∀ i,i < t.nodes.length→(iz (ofL t o)).getD i []=[.int .i64 ((ofL t o).getD i 0)]:=fun i hi=>JP (by rw[ho.len]; exact hi)
 have hdone:=img_done (q:=callQ t it) (f:=callF t (ofL t o)) (n:=t.nodes.length) (m:=t.items.length) fun i hi hq=>by
  unfold callQ at hq
  simp only[Gi,beq_iff_eq]at hq
  obtain ⟨L,h1,h2⟩:=hmean i hi hq.1
  have:=(Gr.1 h2).1
  unfold callF
  rw[h1,Gg]
  omega
 have hQ:∀ i,callQ t it i=((nd t i).k == 26 && J5 t i == it):=fun i=>rfl
 have hF:∀ i,callF t (ofL t o) i=(J5 t ((ofL t o).getD i 0).toNat:Int):=fun i=>rfl
 unfold JaN
 rw[← hdone]
 clear hdone
 generalize hof:ofL t o=of at *
 generalize callQ t it=q at hQ ⊢
 generalize callF t of=f at hF ⊢
 refine Jb0 (J7 c58_ok fun N=>?_) rfl (Jd _)
 simp -implicitDefEqProofs only[c58,go_sem,rRw,hol]
 refine Je (id:=0) (z:=2) (els:=[rRw t of]) rfl rfl ?_
 simp only[go_sem,JS,Ki,frz,KP,Gn,rRw]
 refine Q3 ?_
 simp only[go_sem,Gu,Gv]
 refine Jy (I:=fun i:Nat=>i≤t.nodes.length) (inv:=fun i=>gp [(1,.int .i64 (it:Int)),(0,.rptr (rRw t of)),(1,KN 1 (iz (Jbs q f i))),(3,.rslc 1 (iz of) none),(0,.int .i64 (t.nodes.length:Int)),(0,.int .i64 (i:Int))] 37) (hp:=fun i=>[.dead,Qi 1 (iz (Jbs q f i))]) (μ:=fun i=>t.nodes.length-i) 0 [0,1] (by omega) rfl ?_ rfl ?_
 ·simp[forget,JA,ren,Jl,gp,rRw,KN,iz,Jbs]
 ·intro i hi
  by_cases hlt:i < t.nodes.length
  ·have d1:((i:Int) < (t.nodes.length:Int))=True:=Jo
   have hgi:=hgo i hlt
   have hst:=Jdy (q:=q) (f:=f) (i:=i)
   have hpl:=JbT (q:=q) (f:=f) (i:=i)
   have hqi:=hQ i
   have hmi:=hmean i hlt
   have hfi:=hF i
   generalize Jbs q f i=acc at hst hpl ⊢
   generalize of.getD i 0=m at hgi hmi hfi
   have hno:q i=false→Jbs q f (i+1)=acc:=fun h=>by rw[hst,if_neg (by rw[h]; simp),Gm]
   simp -implicitDefEqProofs only[go_sem,d1,hol,hgi,rRw]
   refine ⟨by omega,?_⟩
   refine JR (Jcv t hlt) ?_
   cases h3:((nd t i).k == 26) with
   |false=>
    have hn:=hno (by rw[hqi,h3,Bool.false_and])
    simp -implicitDefEqProofs only[go_sem,kbE,h3]
    refine ⟨Jj,i+1,[0,1],by omega,by omega,rfl,?_,?_⟩
    ·rw[hn]; simp only[Ke,Gb,Gc,go_sem,Kk (Ja (Jd acc)),Jh]
    ·rw[hn]; simp[forget,JA,ren,Jl,KC,rRw]
   |true=>
    have k3:(nd t i).k=26:=by simpa using h3
    obtain ⟨m,rfl,hm⟩:=hmi k3
    have hix:=index_item g hm
    rw[Gg]at hfi
    rw[h3,Bool.true_and]at hqi
    have e:((J5 t i:Int) == (it:Int))=(J5 t i == it):=by rw[Gx,beq_iff_eq,beq_iff_eq]; omega
    cases hb:(J5 t i == it) with
    |false=>
     have hn:=hno (by rw[hqi,hb])
     simp -implicitDefEqProofs only[go_sem,kbE,h3,rRw,tRw,itz_len,itz hlt,e,hb]
     refine ⟨by omega,Jj,i+1,[0,1],by omega,by omega,rfl,?_,?_⟩
     ·rw[hn]; simp only[Ke,Gb,Gc,go_sem,Kk (Ja (Jd acc)),Jh]
     ·rw[hn]; simp[forget,JA,ren,Jl,KC,rRw,tRw]
    |true=>
     rw[hqi,hb,if_pos rfl,hfi]at hst
     have hI:=indexI t.items (m:Int) (by omega)
     rw[hix]at hI
     simp -implicitDefEqProofs only[go_sem,kbE,h3,rRw,tRw,itz_len,itz hlt,e,hb]
     refine ⟨by omega,?_⟩
     refine JR hI ?_
     simp -implicitDefEqProofs only[go_sem,Jf,Jr]
     refine ⟨⟨by omega,by omega⟩,Jj,i+1,[0,3],by omega,by omega,rfl,?_,?_⟩
     ·rw[hst,Ka,JZ]
      simp only[Ke,Gb,Gc,go_sem,Ji,Jh]
      simp[Ja (Jd acc),JA,ren]
     ·rw[hst,Ka,JY]
      simp[forget,JA,ren,Jl,rRw,tRw,Jf]
  ·have d1:((i:Int) < (t.nodes.length:Int))=False:=Jn
   obtain rfl:i=t.nodes.length:=by omega
   have hpl:=JbT (q:=q) (f:=f) (i:=t.nodes.length)
   generalize Jbs q f t.nodes.length=acc at hpl ⊢
   cases acc with
   |nil=>
    simp -implicitDefEqProofs only[go_sem,d1,QN,Qu]
    refine JR sortNil ?_
    simp -implicitDefEqProofs only[go_sem]
    refine JR Jfp ?_
    simp -implicitDefEqProofs only[go_sem]
    rw[show Lib.compact (([]:List Int).mergeSort fun x y=>decide (x≤y))=[] by rw[List.mergeSort_nil]; rfl]
    exact .nil
   |cons x xs=>
    simp -implicitDefEqProofs only[go_sem,d1,Kg,QQ,Yx,Jf]
    refine J8 (.inl rfl) (sortRow (l:=x::xs) (by simp) (by omega) rfl) fun v H' ⟨h1,h2⟩=>?_
    subst h1 h2
    simp -implicitDefEqProofs only[go_sem]
    have hsl:((x::xs).mergeSort fun x y=>decide (x≤y)).length=xs.length+1:=by rw[List.length_mergeSort]; rfl
    generalize ((x::xs).mergeSort fun x y=>decide (x≤y))=S at hsl ⊢
    have hSn:S≠[]:=by rintro rfl; simp at hsl
    rw[← hsl]
    refine J8 (.inl rfl) (compactRowT (l:=S) hSn (by simp only[Gd]at hpl; omega) rfl) fun v H' ⟨h1,h2⟩=>?_
    subst h1 h2
    simp -implicitDefEqProofs only[go_sem]
    have hcn:Lib.compact S≠[]:=by
     obtain ⟨y,hy⟩:=List.exists_mem_of_ne_nil _ hSn
     exact List.ne_nil_of_mem (Y1.2 hy)
    exact .row (id:=1) (by rw[QA (by simpa [iz]using hcn),Jf]) (by rw[Qk (by simpa [iz]using hcn)]; rfl)
end
end
section
def lz (out:List Int):List (CV×CV):=out.map fun x=>(.int .i64 x,.bool true)
theorem lz_snoc {out:List Int}{x:Int}:lz (out++[x])=lz out++[(.int .i64 x,.bool true)]:=by simp[lz]
theorem keyI {x a:Int}:X6 .int (.int .i64 x) (.int .i64 a)=some (x == a):=by simp only[X6,if_true]
theorem lz_new {x:Int}:∀ {out:List Int}(i:Nat),out.contains x=false→Xo .int (.int .i64 x) (lz out) i=some none
 |[],i,_=>rfl
 |a::l,i,h=>by
  rw[GQ,Gq]at h
  have e:X6 .int (.int .i64 x) (.int .i64 a)=some false:=by rw[keyI,h.1]
  simp only[lz,Gb,Xo,e]
  exact lz_new (i+1) h.2
theorem lz_old {x:Int}:∀ {out:List Int}(i:Nat),out.contains x=true→∃ j,Xo .int (.int .i64 x) (lz out) i=some (some (j,.bool true))
 |[],i,h=>by simp at h
 |a::l,i,h=>by
  cases ha:(x == a) with
  |true=>
   have e:X6 .int (.int .i64 x) (.int .i64 a)=some true:=by rw[keyI,ha]
   exact ⟨i,by simp only[lz,Gb,Xo,e]⟩
  |false=>
   rw[GQ,ha,GI]at h
   have e:X6 .int (.int .i64 x) (.int .i64 a)=some false:=by rw[keyI,ha]
   obtain ⟨j,hj⟩:=lz_old (i+1) h
   exact ⟨j,by simp only[lz,Gb,Xo,e]; exact hj⟩
def JcW (t:Tr) (i:Nat):Bool:=(nd t (t.items.getD i 0).toNat).text == mainT
theorem mainL_eq {t:Tr}:Jf5 t=Jbs (JcW t) (fun i=>(i:Int)) t.items.length:=by
 unfold Jf5 upto Jbs
 rw[G6]
 rfl
def deadQ (t:Tr) (of:List Int) (i:Nat):Bool:=!(JdJ t of).contains (i:Int)
theorem deadL_eq {t:Tr}{of:List Int}:XL t of=Jbs (deadQ t of) (fun i=>(i:Int)) t.items.length:=by
 unfold XL upto Jbs
 rw[G6]
 rfl
def todoD (id:Nat) (els:List Int) (off:Nat):CV:=match els with
 |[]=>.nils
 |_::_=>.slc id off (els.length-off) none
theorem JeI {id:Nat}{els:List Int}:todoD id els 0=KN id (iz els):=by cases els <;> simp[todoD,iz,KN]
theorem JfF {id:Nat}{els:List Int}{off:Nat}(h:els≠[]):todoD id els off=.slc id off (els.length-off) none:=by cases els <;> simp_all [todoD]
theorem muB_le {l todo:List Int}{out:List Int}:muB l todo out≤l.length*(l.length+1)+todo.length:=by
 unfold muB
 have:=Nat.mul_le_mul_right (l.length+1) (YU (l:=l) (out:=out))
 omega
section
variable {t:Tr}{o:List Int}(g:GoodT t o) (ht:t.Fit)
include g ht
theorem nFind0:Fn Ga 48 [t.cv,.nils] (.tup [.agg (rE t o),.int .i64 (Xa t o).2]):=by
 have h:=(nFind g ht [] (by simp)).args (args':=[t.cv,.nils]) ⟨wk.refl _,wk.nils,trivial⟩
 have e:(if (Xa t o).2≠0 then (Xa t o).2 else if ([]:List Int).all (inT t)=true then 0 else 7)=(Xa t o).2:=by
  by_cases h:(Xa t o).2=0
  ·rw[if_neg (by simp[h]),h]; rfl
  ·rw[if_pos h]
 rw[e]at h
 exact h
theorem nDead (hE:(Xa t o).2=0):Fn Ga 20 [t.cv] (.tup [.rslc 1 (iz (XL t (ofL t o))) none,.int .i64 0]):=by
 have hmany:=g.many
 have hits:=g.items
 have hF:=nFind0 g ht
 rw[hE,rE_ok hE]at hF
 have hil:(iz t.items).length=t.items.length:=Jf
 have hgi:∀ i,i < t.items.length→∃ L:Nat,(iz t.items).getD i []=[.int .i64 (L:Int)]∧t.items.getD i 0=L∧L < t.nodes.length:=fun i hi=>by
  have hm:t.items.getD i 0∈t.items:=by rw[Gl,Gh hi]; exact Gt hi
  have:=g.itr hm
  refine ⟨(t.items.getD i 0).toNat,?_,by omega,by omega⟩
  rw[JP hi]
  congr 2; omega
 have hCl:∀ it:Nat,Fn Ga 58 [.agg (rRw t (ofL t o)),.int .i64 (it:Int)] (.rslc 1 (iz (JaN t (ofL t o) it)) none):=fun it=>(nCalls g hE).fn rfl (Jd _)
 have hN:∀ it:Nat,JaN t (ofL t o) it=(fun x:Int=>JaN t (ofL t o) x.toNat) it:=fun it=>by simp only[Gg]
 have hok:∀ x∈upto t.items.length,(∀ y∈(fun x:Int=>JaN t (ofL t o) x.toNat) x,y∈upto t.items.length)∧((fun x:Int=>JaN t (ofL t o) x.toNat) x).length≤(upto t.items.length).length:=callL_ok
 have hul:(upto t.items.length).length=t.items.length:=upto_len
 have hR0:JdJ t (ofL t o)=bfs (fun x=>JaN t (ofL t o) x.toNat) (upto t.items.length) (Jf5 t) []:=rfl
 rw[deadL_eq]
 have hdq:∀ i,deadQ t (ofL t o) i = !(JdJ t (ofL t o)).contains (i:Int):=fun i=>rfl
 generalize deadQ t (ofL t o)=dq at hdq ⊢
 generalize JdJ t (ofL t o)=R at hR0 hdq
 generalize ofL t o=of at *
 generalize (fun x:Int=>JaN t of x.toNat)=Nf at hN hok hR0
 rw[mainL_eq]at hR0
 refine Q6 ?_ rfl rfl
 refine J7 c20_ok fun N=>?_
 simp -implicitDefEqProofs only[c20,go_sem,Tr.cv,Tr.row]
 refine JR hF ?_
 have e0:((0:Int) != 0)=false:=rfl
 simp -implicitDefEqProofs only[go_sem,e0,rRw,tRw,hil]
 refine Je (id:=1) (z:=2) (els:=[rRw t of]) rfl rfl ?_
 simp only[go_sem,JS,Ki,frz,KP,Gn,Gb,Gc,rRw,tRw]
 refine Q3 ?_
 simp only[go_sem,Gu,Gv]
 refine Jy (I:=fun i:Nat=>i≤t.items.length) (inv:=fun i=>gp [(2,.nils),(1,.rptr (rRw t of)),(0,.map 2),(0,KN 3 (iz (Jbs (JcW t) (fun i=>(i:Int)) i))),(18,.rslc 1 (iz t.items) none),(0,.int .i64 (t.items.length:Int)),(0,.int .i64 (i:Int))] 59) (hp:=fun i=>[.arr 2 [t.row],.dead,.map (lz []),Qi 1 (iz (Jbs (JcW t) (fun i=>(i:Int)) i))]) (μ:=fun i=>t.items.length-i) 0 [0,1,2,3] (by omega) rfl ?_ ?_ ?_
 ·simp[forget,JA,ren,Jl,gp,rRw,tRw,KN,iz,Jbs]
 ·simp[Ke,Jcd,iz,Jbs,Qi,Tr.row,JA,ren,lz]
 ·intro i hi
  by_cases hlt:i < t.items.length
  ·have d1:((i:Int) < (t.items.length:Int))=True:=Jo
   obtain ⟨L,hL1,hL2,hL3⟩:=hgi i hlt
   have hst:=Jdy (q:=JcW t) (f:=fun i=>(i:Int)) (i:=i)
   have hpl:=JbT (q:=JcW t) (f:=fun i=>(i:Int)) (i:=i)
   have hq:JcW t i=((nd t L).text == [109,97,105,110]):=by unfold JcW; rw[hL2,Gg]; rfl
   generalize Jbs (JcW t) (fun i=>(i:Int)) i=acc at hst hpl ⊢
   cases hb:((nd t L).text == [109,97,105,110]) with
   |false=>
    rw[hq,hb,if_neg (by simp),Gm]at hst
    simp -implicitDefEqProofs only[go_sem,d1,hil,hL1,rRw,tRw,Jc,Kt hL3,Nd.cv,S_beq,hb]
    refine ⟨by omega,by omega,Jj,i+1,[0,1,2,3],by omega,by omega,rfl,?_,?_⟩
    ·rw[hst]; simp only[Ke,Gb,Gc,go_sem,Kk (Ja (Jd acc)),Jh,Ji]; simp[JA,ren,Tr.row,lz,Jcd]
    ·rw[hst]; simp[forget,JA,ren,Jl,KC,rRw,tRw]
   |true=>
    rw[hq,hb,if_pos rfl]at hst
    simp -implicitDefEqProofs only[go_sem,d1,hil,hL1,rRw,tRw,Jc,Kt hL3,Nd.cv,S_beq,hb,Jf,Jr]
    refine ⟨by omega,by omega,⟨by omega,by omega⟩,Jj,i+1,[0,1,2,5],by omega,by omega,rfl,?_,?_⟩
    ·rw[hst,Ka,JZ]
     simp only[Ke,Gb,Gc,go_sem,Ji,Jh]
     simp[Ja (Jd acc),JA,ren,Tr.row,lz,Jcd]
    ·rw[hst,Ka,JY]
     simp[forget,JA,ren,Jl,rRw,tRw,Jf]
  ·have d1:((i:Int) < (t.items.length:Int))=False:=Jn
   obtain rfl:i=t.items.length:=by omega
   simp -implicitDefEqProofs only[go_sem,d1]
   have hM0:=JbT (q:=JcW t) (f:=fun i=>(i:Int)) (i:=t.items.length)
   have hMr:∀ x∈Jbs (JcW t) (fun i=>(i:Int)) t.items.length,0≤x∧x < t.items.length:=fun x hx=>by
    rw[← mainL_eq]at hx
    exact XE.1 (Gf.1 hx).1
   have hmu0:=muB_le (l:=upto t.items.length) (todo:=Jbs (JcW t) (fun i=>(i:Int)) t.items.length) (out:=[])
   rw[hul]at hmu0
   have hmul:=Nat.mul_le_mul (show t.items.length≤20 by omega) (show t.items.length+1≤21 by omega)
   generalize Jbs (JcW t) (fun i=>(i:Int)) t.items.length=T0 at hR0 hM0 hMr hmu0 ⊢
   refine Jy (σ:=List Int×Nat×List Int) (I:=fun s'=>s'.2.1≤s'.1.length∧(∀ x∈s'.1,0≤x∧x < t.items.length)∧R=bfs Nf (upto t.items.length) (s'.1.drop s'.2.1) s'.2.2∧muB (upto t.items.length) (s'.1.drop s'.2.1) s'.2.2≤1000∧s'.2.2.length+Xh (upto t.items.length) s'.2.2≤700)
    (inv:=fun s'=>gp [(2,.nils),(1,.rptr (rRw t of)),(0,.map 2),(0,todoD 3 s'.1 s'.2.1)] 80) (hp:=fun s'=>[.arr 2 [t.row],.dead,.map (lz s'.2.2),Qi 1 (iz s'.1)]) (μ:=fun s'=>muB (upto t.items.length) (s'.1.drop s'.2.1) s'.2.2) (T0,0,[]) [0,1,2,3] ⟨by simp,hMr,by simpa using hR0,by simp only[Gn]; omega,by have:=YU (l:=upto t.items.length) (out:=[]); simp only[GG]; omega⟩ rfl ?_ ?_ ?_
   ·simp[forget,JA,ren,Jl,gp,rRw,JeI,KC]
   ·simp only[Ke,Gb,Gc,go_sem,Kk (Ja (Jd T0)),Jh,Ji]; simp[JA,ren,Tr.row,lz,Jcd]
   ·rintro ⟨els,off,out⟩ ⟨hoff,hP,hB,hmu,hout⟩
    dsimp only at hoff hP hB hmu hout
    have hren:∀ (ρ:List Nat) (out:List Int),Jcd ρ (.map (lz out))=.map (lz out):=fun ρ out=>by simp[Jcd,lz,ren]
    have hrow:∀ ρ:List Nat,Jcd ρ (.arr 2 [t.row])=.arr 2 [t.row]:=fun ρ=>by simp[Jcd,JA,ren,Tr.row]
    rcases (show (off < els.length∧els≠[])∨off=els.length from by
     rcases Nat.lt_or_ge off els.length with h | h
     ·exact .inl ⟨h,by rintro rfl; simp at h⟩
     ·exact .inr (by omega)) with ⟨hlt,hne⟩ | rfl
    ·have hrO:Qi 1 (iz els)=.arr 1 (iz els):=Qk (by simpa [iz]using hne)
     have hel:(iz els).length=els.length:=Jf
     rw[hrO,JfF hne]
     have d2:(((els.length-off:Nat):Int) > 0)=True:=Jo
     have d1:((0:Int) < ((els.length-off:Nat):Int))=True:=Jo
     have hge:=JP hlt
     have hdr:els.drop off=els.getD off 0::els.drop (off+1):=by
      rw[GK hlt,Gl,Gh hlt]; rfl
     have hmem:els.getD off 0∈els:=by rw[Gl,Gh hlt]; exact Gt hlt
     have hPx:=hP _ hmem
     have hall:∀ y∈els.drop off,y∈upto t.items.length:=fun y hy=>XE.2 (hP y (GL hy))
     rw[hdr]at hB hall hmu ⊢
     have hmu':=hmu
     simp only[muB,Gd]at hmu'
     generalize hx:els.getD off 0=x at hge hPx hB hall hmu ⊢
     obtain ⟨xn,rfl⟩:∃ x':Nat,x=x':=⟨x.toNat,by omega⟩
     have hxm:(xn:Int)∈upto t.items.length:=hall xn (by simp)
     cases hc:out.contains (xn:Int) with
     |true=>
      obtain ⟨j,hj⟩:=lz_old 0 hc
      rw[bfs_old hok hall hc]at hB
      simp -implicitDefEqProofs only[go_sem,d1,d2,hel,hge,Nat.add_zero,hj,Gz]
      refine ⟨by omega,⟨by omega,Int.le_refl _⟩,(els,off+1,out),[0,1,2,3],⟨by simp only; omega,hP,hB,by simp only[muB]; omega,hout⟩,by simp only[muB,Gd]; omega,rfl,?_,?_⟩
      ·simp only[Ke,Gb,Gc,go_sem,hren,hrow,Ji,Ja (Jd els),Jh,hrO]
      ·simp[forget,JA,ren,Jl,rRw,JfF hne]; omega
     |false=>
      have hj:=lz_new (x:=(xn:Int)) 0 hc
      rw[bfs_new hok hall hc]at hB
      have hll:=XF hxm hc
      have hlr:=Nat.mul_le_mul_right ((upto t.items.length).length+1) (show Xh (upto t.items.length) (out++[(xn:Int)])+1≤Xh (upto t.items.length) out from hll)
      rw[Nat.add_mul,Nat.one_mul]at hlr
      have hnx:=(hok xn hxm)
      have hNf:=hCl xn
      rw[hN]at hNf
      simp -implicitDefEqProofs only[go_sem,d1,d2,hel,hge,Nat.add_zero,hj,Gy,← lz_snoc,rRw]
      refine ⟨by omega,⟨by omega,Int.le_refl _⟩,?_⟩
      refine JR hNf ?_
      generalize Nf (xn:Int)=M at hnx hB ⊢
      obtain ⟨hn1,hn2⟩:=hnx
      have hel2:off+1+(els.length-off-1)=els.length:=by omega
      have hel3:(off+1+(els.length-off-1)=els.length)=True:=eq_true hel2
      have hd:=List.length_drop (i:=off+1) (l:=els)
      cases M with
      |nil=>
       simp -implicitDefEqProofs only[go_sem,QN]
       rw[Gm]at hB
       refine ⟨(els,off+1,out++[(xn:Int)]),[0,1,2,3],⟨by simp only; omega,hP,hB,by simp only[muB]; omega,by simp only[Gs,Gd,GG]; omega⟩,by simp only[muB,Gd]; omega,rfl,?_,?_⟩
       ·rw[hrO]; simp only[Ke,Gb,Gc,go_sem,hren,hrow,Ji,Ja (Jd els),Jh]
       ·rw[JfF hne]
        simp[forget,JA,ren,Jl,Jf,rRw]; omega
      |cons y ys=>
       simp -implicitDefEqProofs only[go_sem,Kg,hel,hel3,Jf,Jr]
       simp only[Gd]at hn2
       refine ⟨⟨by omega,by omega⟩,(els.drop (off+1)++y::ys,0,out++[(xn:Int)]),[0,1,2,4],⟨by simp,fun z hz=>?_,by simpa using hB,by simp only[Gn,muB,Gs,Gd]; omega,by simp only[Gs,Gd,GG]; omega⟩,by simp only[Gn,muB,Gs,Gd]; omega,rfl,?_,?_⟩
       ·rcases List.mem_append.1 hz with h | h
        ·exact hP z (GL h)
        ·exact XE.1 (hn1 z h)
       ·rw[Kz,Kg,JZ,← Jcz]
        simp only[Ke,Gb,Gc,go_sem,hren,hrow,Ji,Jh]
        rw[Jcz]
        simp[Ja (Jd (els.drop (off+1))),Ja (Jd ys),JA,ren]
       ·rw[JeI,Kz,Kg,JY]
        simp[forget,JA,ren,Jl,Jf,rRw]; omega
    ·have hE2:(todoD 3 els els.length=.nils∧Qi 1 (iz els)=.dead)∨(todoD 3 els els.length=.slc 3 els.length 0 none∧Qi 1 (iz els)=.arr 1 (iz els)):=by
      cases els with
      |nil=>exact .inl ⟨rfl,rfl⟩
      |cons x l=>exact .inr ⟨by simp[todoD],rfl⟩
     rw[List.drop_length,Jgy]at hB
     rw[hB]at hdq
     have hout2:out.length≤700:=by omega
     have d2:((0:Int) > 0)=False:=Jn
     have d1:((0:Int) < 0)=False:=Jn
     have hdl:∀ i,(Jbs dq (fun i=>(i:Int)) i).length≤i:=fun i=>JbT
     rcases hE2 with ⟨h1,h2⟩ | ⟨h1,h2⟩ <;> rw[h1,h2]
     all_goals
      simp -implicitDefEqProofs only[go_sem,d1,d2,rRw,tRw,hil,Int.ofNat_zero]
      refine Q3 ?_
      simp only[go_sem,Gu,Gv]
      refine Jy (I:=fun i:Nat=>i≤t.items.length) (inv:=fun i=>gp [(2,KN 3 (iz (Jbs dq (fun i=>(i:Int)) i))),(2,.map 2),(67,.int .i64 (t.items.length:Int)),(0,.int .i64 (i:Int))] 12) (hp:=fun i=>[.arr 2 [t.row],.dead,.map (lz out),Qi 1 (iz (Jbs dq (fun i=>(i:Int)) i))]) (μ:=fun i=>t.items.length-i) 0 [0,1,2,4] (by omega) rfl ?_ ?_ ?_
      ·simp[forget,JA,ren,Jl,gp,KN,iz,Jbs]
      ·simp only[Ke,Gb,Gc,go_sem,hren,hrow,Jh]; simp[Qi,iz,Jbs]
      ·intro i hi
       by_cases hlt:i < t.items.length
       ·have d3:((i:Int) < (t.items.length:Int))=True:=Jo
        have hst:=Jdy (q:=dq) (f:=fun i=>(i:Int)) (i:=i)
        have hpl:=hdl i
        have hq:=hdq i
        generalize Jbs dq (fun i=>(i:Int)) i=acc at hst hpl ⊢
        cases hc:out.contains (i:Int) with
        |true=>
         obtain ⟨j,hj⟩:=lz_old 0 hc
         rw[hq,hc,if_neg (by simp),Gm]at hst
         simp -implicitDefEqProofs only[go_sem,d3,hj,Gz]
         refine ⟨Jj,i+1,[0,1,2,3],by omega,by omega,rfl,?_,?_⟩
         ·rw[hst]; simp only[Ke,Gb,Gc,go_sem,hren,hrow,Kk (Ja (Jd acc)),Jh]
         ·rw[hst]; simp[forget,JA,ren,Jl,KC]
        |false=>
         have hj:=lz_new (x:=(i:Int)) 0 hc
         rw[hq,hc,if_pos (by rfl)]at hst
         simp -implicitDefEqProofs only[go_sem,d3,hj,Gy,Jf,Jr]
         refine ⟨⟨by omega,by omega⟩,Jj,i+1,[0,1,2,5],by omega,by omega,rfl,?_,?_⟩
         ·rw[hst,Ka,JZ]
          simp only[Ke,Gb,Gc,go_sem,hren,hrow,Ji,Jh]
          simp[Ja (Jd acc),JA,ren]
         ·rw[hst,Ka,JY]
          simp[forget,JA,ren,Jl,Jf]
       ·have d3:((i:Int) < (t.items.length:Int))=False:=Jn
        obtain rfl:i=t.items.length:=by omega
        simp -implicitDefEqProofs only[go_sem,d3]
        exact JdW rfl rfl
end
end
theorem refCheck3 (t:Tr) (e:Int) (l a:CV) (h:Fn Ga 21 [t.cv] (.tup [l,a,.int .i64 e])):Fn Ga 68 [t.cv] (.int .i64 e):=by
 refine Jb c68_ok rfl rfl fun N=>?_
 simp -implicitDefEqProofs only[c68,go_sem,Tr.cv,Tr.row]
 refine JR h ?_
 simp -implicitDefEqProofs only[go_sem]
theorem lawValidV (t:Tr) (hv:Y5 t=true):Fn Ga 28 [t.cv] (.bool false):=by
 have hV:=lawVast3 t
 rw[hv]at hV
 refine Jb c28_ok rfl rfl fun N=>?_
 simp -implicitDefEqProofs only[c28,go_sem,Tr.cv,Tr.row]
 refine JR hV ?_
 simp -implicitDefEqProofs only[go_sem,Gz]
theorem JdN (t:Tr) (hv:Y5 t=false) (e:Int) (l a:CV) (h:Fn Ga 21 [t.cv] (.tup [l,a,.int .i64 e])):Fn Ga 28 [t.cv] (.bool (e == 0)):=by
 have hV:=lawVast3 t
 rw[hv]at hV
 refine Jb c28_ok rfl rfl fun N=>?_
 simp -implicitDefEqProofs only[c28,go_sem,Tr.cv,Tr.row]
 refine JR hV ?_
 simp -implicitDefEqProofs only[go_sem,Gy,Tr.row]
 refine JV (gok rfl) (refCheck3 t e l a h) ?_
 simp -implicitDefEqProofs only[go_sem]
theorem lawValidE (t:Tr) (ht:t.Fit) (hv:Y5 t=false) (h:chk t≠0):Fn Ga 28 [t.cv] (.bool false):=by
 have:=JdN t hv _ _ _ (refResolveE t ht h)
 rw[show (chk t == 0)=false by simpa using h]at this
 exact this
theorem lawValidG {t:Tr}{o:List Int}(g:GoodT t o) (ht:t.Fit) (hv:Y5 t=false):Fn Ga 28 [t.cv] (.bool ((Xa t o).2 == 0)):=by
 have hR:=refResolve g ht
 rw[← res_eq g]at hR
 by_cases he:(Xa t o).2=0
 ·rw[if_pos he]at hR
  rw[he]
  exact JdN t hv _ _ _ hR
 ·rw[if_neg he]at hR
  exact JdN t hv _ _ _ hR
section
theorem lawWithin (l:List Int) (n:Nat) (hl:l.length≤100000) (h:∀ x∈l,0≤x∧x < n):Fn Ga 15 [.rslc 1 (iz l) none,.int .i64 (n:Int)] (.bool true):=by
 have hil:(iz l).length=l.length:=Jf
 refine Jb c15_ok rfl rfl fun N=>?_
 simp -implicitDefEqProofs only[c15,go_sem]
 refine JC (I:=fun i:Nat=>i≤l.length) (inv:=fun i=>gp [(0,.rslc 1 (iz l) none),(0,.int .i64 (n:Int)),(3,.int .i64 (i:Int))] 19) (hp:=fun _=>[]) (μ:=fun i=>l.length-i) 0 (by omega) ?_ rfl ?_
 ·simp[forget,gp]
 ·intro i hi
  by_cases hlt:i < l.length
  ·have d1:((i:Int) < (l.length:Int))=True:=Jo
   have hgi:=JP hlt
   have hx:=h (l.getD i 0) (by rw[Gl,Gh hlt]; exact Gt hlt)
   generalize l.getD i 0=x at hgi hx
   have e1:decide (x < 0)=false:=decide_eq_false (by omega)
   have e2:decide ((n:Int)≤x)=false:=decide_eq_false (by omega)
   simp -implicitDefEqProofs only[go_sem,d1,hil,hgi,e1,e2]
   refine ⟨by omega,by omega,Jj,i+1,by omega,by omega,?_⟩
   simp[forget]
  ·have d1:((i:Int) < (l.length:Int))=False:=Jn
   simp -implicitDefEqProofs only[go_sem,d1,hil]
section
variable {t:Tr}{o:List Int}(g:GoodT t o) (ht:t.Fit)
include g ht
end
end
end Go.Cm
end
end
