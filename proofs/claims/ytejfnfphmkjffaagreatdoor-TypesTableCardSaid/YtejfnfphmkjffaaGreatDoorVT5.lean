/-
  A part of the proof. Conditions: none.
-/
import Derived.Test.YtejfnfphmkjffaaGreatDoorVT3
import Derived.Test.YtejfnfphmkjffaaGreatDoorVP13
set_option linter.unusedSimpArgs false
set_option linter.unusedVariables false
open Go.Proofs.Tryz renaming prog->Gb
open Bool renaming not_true->Gn,and_eq_true->Gu,not_false->Gv,and_eq_false_iff->Gz,true_or->GA
open List renaming set_cons_zero->Gf,set_cons_succ->Gg,map_cons->Gc,map_nil->Gd,length_nil->Gh,length_cons->Gi,getD_eq_getElem?_getD->Gp,getElem?_eq_getElem->Gr,drop_zero->Gl,take_succ_cons->Gs,take_zero->Gt,cons_append->Gw,nil_append->Gx,getElem_mem->Gy,take_of_length_le->GD,map_congr_left->GG,getD_cons_zero->GH,map_id->GI
open Nat renaming reduceEqDiff->Gq,le_refl->Gj,zero_add->Gm,reduceAdd->GJ
open Int renaming cast_ofNat_Int->Ga,toNat_natCast->GK
noncomputable section
section
set_option maxRecDepth 100000
set_option maxHeartbeats 40000000
open Go.Proofs
namespace Go.Cm
section
theorem lawVast4 (t:Tr):Fn Gb 20 [t.cv] (.bool (JaC t)):=by
 refine Ja c20_ok rfl rfl λN=>?_
 have Af:(iz t.items).length=t.items.length:=Jg
 cases hH:Jft t with
 |true=>
  have hv:JaC t=true:=by unfold JaC;rw[hH];rfl
  rw[hv];unfold Jft at hH;have e1:((160:Int)<(t.nodes.length:Int))=(160<t.nodes.length):=propext (by omega);have e2:((t.nodes.length:Int)<=700)=(t.nodes.length<=700):=propext (by omega);have e3:((1400:Int)<(t.nodes.length:Int))=(1400<t.nodes.length):=propext (by omega);have e4:((40:Int)<(t.items.length:Int))=(40<t.items.length):=propext (by omega);by_cases g1:160<t.nodes.length <;> by_cases g2:t.nodes.length<=700 <;> by_cases g3:1400<t.nodes.length <;> by_cases g4:40<t.items.length <;> first|(exfalso;omega)|(exfalso;simp[g1,g2,g3,g4]at hH;done)|(simp -implicitDefEqProofs only[c20,go_sem,Tr.cv,Tr.row,Jb,Af,e1,e2,e3,e4,g1,g2,g3,g4])
 |false=>
  unfold Jft at hH;simp only[Bool.or_eq_false_iff,Gz,decide_eq_false_iff_not]at hH;obtain⟨⟨h1,h2⟩,h3⟩:=hH;have e3:((1400:Int)<(t.nodes.length:Int))=False:=Ki;have e4:((40:Int)<(t.items.length:Int))=False:=Ki;have hv:JaC t=t.nodes.any JcO:=by
   unfold JaC Jft;have:(decide (160<t.nodes.length) && decide (t.nodes.length<=700))=false:=by
    simp only[Gz,decide_eq_false_iff_not];exact h1
   rw[this,decide_eq_false h2,decide_eq_false h3];rfl
  rw[hv];by_cases g1:160<t.nodes.length
  case' pos=>
   have e1:((160:Int)<(t.nodes.length:Int))=True:=Kl;have e2:((t.nodes.length:Int)<=700)=False:=Ki;simp -implicitDefEqProofs only[c20,go_sem,Tr.cv,Tr.row,Jb,Af,e1,e2,e3,e4]
  case' neg=>
   have e1:((160:Int)<(t.nodes.length:Int))=False:=Ki;simp -implicitDefEqProofs only[c20,go_sem,Tr.cv,Tr.row,Jb,Af,e1,e3,e4]
  all_goals (
   refine Jd (id:=0) (z:=2) (els:=[t.row]) rfl rfl ?_;simp only[go_sem,JY,Ky,frz,Qc,Tr.row];refine JE (I:=λi:Nat=>i<=t.nodes.length/\t.nodes.any JcO=(t.nodes.drop i).any JcO) (inv:=λi=>gp [(1,.rptr t.row),(1,.int .i64 (i:Int))] 47) (hp:=λ_=>[.dead]) (μ:=λi=>t.nodes.length-i) 0 ⟨by omega,rfl⟩ ?_ rfl ?_
   ·simp[forget,gp,Tr.row]
   ·rintro i ⟨hi,Aa⟩;by_cases Ab:i<t.nodes.length
    ·have d1:=dtT i t.nodes.length;have hg:=QT Ab;rw[List.drop_eq_getElem_cons Ab,List.any_cons,<-rowg Ab]at Aa;generalize t.nodes.getD i default=x at hg Aa;have Bz:(iz x.kids).length=x.kids.length:=Jg;by_cases g5:30<x.kids.length
     ·have e5:((30:Int)<(x.kids.length:Int))=True:=Kl;rw[show JcO x=true by simp[JcO,g5],GA]at Aa;simp -implicitDefEqProofs only[go_sem,Tr.row,Jb,d1,hg,Nd.cv,Bz,e5,Aa];omega
     ·have e5:((30:Int)<(x.kids.length:Int))=False:=Ki;by_cases g6:60<x.text.length
      ·have e6:((60:Int)<(x.text.length:Int))=True:=Kl;rw[show JcO x=true by simp[JcO,g6],GA]at Aa;simp -implicitDefEqProofs only[go_sem,Tr.row,Jb,d1,hg,Nd.cv,Bz,e5,e6,Aa];omega
      ·have e6:((60:Int)<(x.text.length:Int))=False:=Ki;rw[show JcO x=false by simp[JcO,g5,g6],Bool.false_or]at Aa;simp -implicitDefEqProofs only[go_sem,Tr.row,Jb,d1,hg,Nd.cv,Bz,e5,e6];refine⟨by omega,by omega,Jh,i+1,⟨by omega,Aa⟩,by omega,?_⟩;simp[forget]
    ·have d1:=dfF i t.nodes.length;rw[List.drop_eq_nil_of_le (by omega)]at Aa;simp -implicitDefEqProofs only[go_sem,Tr.row,Jb,d1,Aa];simp
   )
theorem law4ValidV (t:Tr)(hv:JaC t=true):Fn Gb 6 [t.cv] (.bool false):=by
 have hV:=lawVast4 t;rw[hv]at hV;refine Ja c6_ok rfl rfl λN=>?_
 simp -implicitDefEqProofs only[c6,go_sem,Tr.cv,Tr.row];refine JV hV ?_;simp -implicitDefEqProofs only[go_sem,Gn]
theorem Jc5 (t:Tr)(hv:JaC t=false)(e:Int)(l a:CV)(h:Fn Gb 9 [t.cv] (.tup [l,a,.int .i64 e])):Fn Gb 6 [t.cv] (.bool (e == 0)):=by
 have hV:=lawVast4 t;rw[hv]at hV;refine Ja c6_ok rfl rfl λN=>?_
 simp -implicitDefEqProofs only[c6,go_sem,Tr.cv,Tr.row];refine JV hV ?_;simp -implicitDefEqProofs only[go_sem,Gv];refine Kh (gok rfl) (refCheck3 t e l a h) ?_;simp -implicitDefEqProofs only[go_sem]
theorem law4ValidE (t:Tr)(ht:t.Fit)(hv:JaC t=false)(h:chk t≠0):Fn Gb 6 [t.cv] (.bool false):=by
 have:=Jc5 t hv _ _ _ (refResolveE t ht h);rw[show (chk t == 0)=false by simpa using h]at this;exact this
theorem law4ValidG {t:Tr}{o:List Int}(g:GoodT t o)(ht:t.Fit)(hv:JaC t=false):Fn Gb 6 [t.cv] (.bool ((XL t o).2 == 0)):=by
 have hR:=JfE g ht;rw[<-res_eq g]at hR;by_cases he:(XL t o).2=0
 ·rw[if_pos he]at hR;rw[he];exact Jc5 t hv _ _ _ hR
 ·rw[if_neg he]at hR;exact Jc5 t hv _ _ _ hR
theorem law4Tree {l:List UInt8}{t:Tr}(h:JaM l=some t):Fn Gb 22 [S l] t.cv:=by
 refine Ja c22_ok rfl rfl λN=>?_
 simp -implicitDefEqProofs only[c22,go_sem];refine JV (refTreeK h).1 ?_;simp -implicitDefEqProofs only[go_sem,Tr.cv,Tr.row,splice]
theorem ref4Equal (a b:TL)(ha:a.length<=100000):Fn Gb 35 [txV a,txV b] (.bool (a == b)):=by
 refine fcS c35_ok λN=>?_
 have Am:(txz a).length=a.length:=QO;have Bt:(txz b).length=b.length:=QO;by_cases hl:a.length=b.length
 ·have d0:((a.length:Int) != (b.length:Int))=false:=by simp[hl]
  simp -implicitDefEqProofs only[c35,go_sem,txV,Am,Bt,d0];refine Jv (I:=λj:Nat=>j<=a.length/\a.take j=b.take j) (inv:=λj=>mkT 26 [(0,txV a),(1,txV b),(5,.int .i64 (j:Int))]) (hp:=λ_=>[]) (μ:=λj=>a.length-j) 0 [] ⟨by omega,rfl⟩ rfl ?_ rfl ?_
  ·simp only[KY,Gc,Gd,ren];refine JM ?_;simp[K5,KX,txV]
  ·rintro j ⟨hj,hp⟩;by_cases Ab:j<a.length
   ·have d1:=dtT j a.length;have ga:=Jaf (l:=a) (i:=j) Ab;have gb:=Jaf (l:=b) (i:=j) (by omega);have ta:=takeT (l:=a) (i:=j) Ab;have tb:=takeT (l:=b) (i:=j) (by omega);simp -implicitDefEqProofs only[go_sem,txV,Am,d1];refine JW Jp (by decide +kernel) ?_;simp -implicitDefEqProofs only[go_sem,Am,Bt,ga,gb,tyT_eq]
    repeat refine anO ?_
    cases he:(a.getD j .int == b.getD j .int) with
    |true=>
     simp -implicitDefEqProofs only[go_sem,Gn];refine⟨Jh,j+1,[],⟨by omega,?_⟩,by omega,rfl,rfl,?_⟩
     ·rw[ta,tb,hp,beq_iff_eq.1 he]
     ·simp only[ren];refine JM ?_;simp[K5,KX]
    |false=>
     have Ai:(a == b)=false:=by
      rw[beq_eq_false_iff_ne]at he|-;exact λe=>he (by rw[e])
     simp -implicitDefEqProofs only[go_sem,Gv,Ai]
   ·have d1:=dfF j a.length;have he:(a == b)=true:=by
     rw[beq_iff_eq,<-GD (show a.length<=j by omega),hp,GD (by omega)]
    simp -implicitDefEqProofs only[go_sem,txV,Am,d1,he]
 ·have d0:((a.length:Int) != (b.length:Int))=true:=by simp;omega
  have he:(a == b)=false:=beq_eq_false_iff_ne.2 λe=>hl (by rw[e])
  simp -implicitDefEqProofs only[c35,go_sem,txV,Am,Bt,d0,he]
theorem Jan (a b:TL)(ha:a.length<=100000):Fn Gb 16 [txV a,txV b] (.bool (a == b)):=by
 refine Ja c16_ok rfl rfl λN=>?_
 simp -implicitDefEqProofs only[c16,go_sem,txV];refine JV (ref4Equal a b ha) ?_;simp -implicitDefEqProofs only[go_sem]
def okB (t:Tr)(o:List Int):Bool:=(XL t o).2 == 0 && (JX t o).bad.isNone
def Jfj (t:Tr)(o:List Int):CV:=if okB t o=true then .rslc 1 (gz (JX t o).got) none else .nils
section
variable {t:Tr}{o:List Int}(g:GoodT t o)(ht:t.Fit)
include g ht
omit ht in
theorem JeF (hE:(XL t o).2=0):(JX t o).got.length=t.nodes.length:=by
 have h:=(Jg4 g hE t.nodes.length (Gj _)).1.gl;have Ak:(KQ 0 t.nodes.length).foldl (doF t o (mnF t o) (t.nodes.length+1)) (FS.start t)=JX t o:=by
  unfold JX KQ
  congr 1
  exact GG (λx _=>Gm x) |>.trans (GI _)
 rw[<-Ak];exact h
omit g in
theorem infer_ln:Ln (JX t o).got:=by
 have Ak:(KQ 0 t.nodes.length).foldl (doF t o (mnF t o) (t.nodes.length+1)) (FS.start t)=JX t o:=by
  unfold JX KQ
  congr 1
  exact GG (λx _=>Gm x) |>.trans (GI _)
 have Sz:Ln (FS.start t).got:=λj=>by
  unfold FS.start Ju;simp only[Gp,List.getElem?_replicate]
  split <;> simp
 have:=JgD ht (o:=o) (S:=FS.start t) Sz (t.nodes.length+1) (KQ 0 t.nodes.length);rw[Ak]at this;exact this
theorem law4Typed:Fn Gb 8 [t.cv] (.tup [Jfj t o,.bool (okB t o)]):=by
 have hI:=Jae g ht;have hC:=refCopy t ht;refine Jau c8_ok rfl (by unfold Jfj;split <;> rfl) (by simp only[Gi,Gh];decide) λN=>?_
 simp -implicitDefEqProofs only[c8,go_sem,Tr.cv,Tr.row];refine JV hC ?_;simp -implicitDefEqProofs only[go_sem,Tr.cv,Tr.row];refine JV hI ?_;by_cases hE:(XL t o).2=0
 ·have A7:=JeF g hE;have Z6:(gz (JX t o).got).length=t.nodes.length:=by rw[X5,A7]
  cases hb:(JX t o).bad with
  |none=>
   have eO:okB t o=true:=by unfold okB;rw[hE,hb];rfl
   have eR:Jfj t o=.rslc 1 (gz (JX t o).got) none:=by unfold Jfj;rw[if_pos eO]
   have eT:JhC t o=.tup [.agg [.rslc 1 (gz (JX t o).got) none],.int .i64 0,.int .i64 0]:=by
    unfold JhC;rw[if_neg (λh=>h hE),hb]
   rw[eO,eR,eT];simp -implicitDefEqProofs only[go_sem,splice];refine JQ [0,1,0,0,0,0,1,0,0,1,0,0,0,0,0] Jp (by decide +kernel) ?_;simp -implicitDefEqProofs only[go_sem,Z6,Jb,beq_self_eq_true]
  |some i=>
   have e1:((11:Int) == 0)=false:=by decide
   have eO:okB t o=false:=by unfold okB;rw[hE,hb];rfl
   have eR:Jfj t o=.nils:=by unfold Jfj;rw[if_neg (by rw[eO];decide)]
   have eT:JhC t o=.tup [.agg [.nils],.int .i64 (i:Int),.int .i64 11]:=by
    unfold JhC;rw[if_neg (λh=>h hE),hb]
   rw[eO,eR,eT];simp -implicitDefEqProofs only[go_sem,splice];refine JQ [0,1,0,0,0,0,1,0,0,1,0,0,0,0,0] Jp (by decide +kernel) ?_;simp -implicitDefEqProofs only[go_sem,e1]
 ·have e1:((XL t o).2 == 0)=false:=by simpa using hE
  have eO:okB t o=false:=by unfold okB;rw[e1];rfl
  have eR:Jfj t o=.nils:=by unfold Jfj;rw[if_neg (by rw[eO];decide)]
  have eT:JhC t o=.tup [.agg [.nils],.int .i64 ((XL t o).1:Int),.int .i64 (XL t o).2]:=by
   unfold JhC;rw[if_pos hE]
  rw[eO,eR,eT];simp -implicitDefEqProofs only[go_sem,splice];refine JQ [0,1,0,0,0,0,1,0,0,1,0,0,0,0,0] Jp (by decide +kernel) ?_;simp -implicitDefEqProofs only[go_sem,e1]
end
end
section
theorem calls_wk {P:Program}{E:Env}{H:List CObj}{f:Nat}{args args':List CV}{R:CV->List CObj->Prop}(h:CallsC P E f args' H R)(hw:wks args args'):CallsC P E f args H R:=λm w vs hs hv=>h m w vs hs (Jac hw hv)
section
variable {t:Tr}{o:List Int}(g:GoodT t o)(ht:t.Fit)
include g ht
theorem typSign (hE:(XL t o).2=0)(hb:(JX t o).bad=none){i d:Nat}(hi:i<t.items.length)(hd:t.items.getD i 0=(d:Int)):Fn Gb 13 [t.cv,.int .i64 (i:Int)] (.tup [txV (JaF t d),txV (YA t d),.int .i64 0]):=by
 have Aj:=g.many;have ME:=g.items;have hI:=Jae g ht;have eT:JhC t o=.tup [.agg [.rslc 1 (gz (JX t o).got) none],.int .i64 0,.int .i64 0]:=by
  unfold JhC;rw[if_neg (λh=>h hE),hb]
 rw[eT]at hI;have AC:(d:Int)∈t.items:=by
  rw[<-hd,Gp,Gr hi];exact Gy hi
 have Bq:d<t.nodes.length:=by have:=g.itr AC;omega
 have hk:(nd t d).k=65:=g.defs _ AC;have Af:(iz t.items).length=t.items.length:=Jg;have Ar:(iz t.items).getD i []=[.int .i64 (d:Int)]:=by rw[JH hi,hd]
 have d0:((i:Int)<0)=False:=Ki;have d1:((t.items.length:Int)<=(i:Int))=False:=Ki;refine Jau c13_ok rfl (by simp[CV.closed,Jm,txV]) (by simp only[Gi,Gh];decide) λN=>?_
 simp -implicitDefEqProofs only[c13,go_sem,Tr.cv,Tr.row];refine JV hI ?_;simp -implicitDefEqProofs only[go_sem,Af,d0,d1];refine Jd (id:=0) (z:=2) (els:=[t.row]) rfl rfl ?_;simp -implicitDefEqProofs only[go_sem,Tr.row,Xj,frz,JY,Gc,Gd,GH,Gl,if_true];refine vr_ren [] rfl ?_;simp -implicitDefEqProofs only[go_sem,KY,ren,JB,Gc,Gd];refine JcL (H':=[]) rfl ?_;simp -implicitDefEqProofs only[go_sem];refine Km (.inl rfl) (calls_wk (newFinder g ht []) ⟨wk.refl _,Jdd ⟨wk.nils,trivial⟩,trivial⟩) λv K ⟨h1,h2⟩=>?_
 rw[h1,h2];have hS:=fmSign (K:=⟨t,[],upZ t t.nodes.length,fiZ t o t.nodes.length⟩) (Z:=FS.start t) g ht (d:=d) Bq hk;simp -implicitDefEqProofs only[go_sem,Af,Ar]
 repeat refine anO ?_
 refine Ku hS (.inl rfl) rfl rfl rfl (by simp[CV.closed,Jm,txV]) ?_;simp -implicitDefEqProofs only[go_sem]
end
def tx0:List UInt8:=[100,101,102,32,102,40,110,58,32,105,110,116,41,32,45,62,32,105,110,116,44,32,98,111,111,108,32,123,32,120,44,32,121,32,61,32,105,102,32,110,32,60,32,48,32,123,32,103,105,118,101,32,48,44,32,116,114,117,101,32,125,32,101,108,115,101,32,123,32,103,105,118,101,32,110,44,32,102,97,108,115,101,32,125,59,32,103,105,118,101,32,120,44,32,121,32,125]
def tt0:Tr:=(JaM tx0).getD ⟨[],[]⟩
def to0:List Int:=(Jw (JF tt0.nodes) []).getD []
def tx1:List UInt8:=[100,101,102,32,102,40,41,32,45,62,32,115,116,114,101,97,109,32,105,110,116,32,123,32,115,32,61,32,49,32,58,58,32,115,59,32,103,105,118,101,32,115,32,125]
def tt1:Tr:=(JaM tx1).getD ⟨[],[]⟩
def to1:List Int:=(Jw (JF tt1.nodes) []).getD []
def tx2:List UInt8:=[100,101,102,32,102,40,41,32,45,62,32,115,116,114,101,97,109,32,105,110,116,32,123,32,115,58,32,115,116,114,101,97,109,32,105,110,116,32,61,32,49,32,58,58,32,115,59,32,103,105,118,101,32,115,32,125]
def tt2:Tr:=(JaM tx2).getD ⟨[],[]⟩
def to2:List Int:=(Jw (JF tt2.nodes) []).getD []
def tx3:List UInt8:=[100,101,102,32,102,40,41,32,45,62,32,105,110,116,32,123,32,103,105,118,101,32,116,114,117,101,32,125]
def tt3:Tr:=(JaM tx3).getD ⟨[],[]⟩
def to3:List Int:=(Jw (JF tt3.nodes) []).getD []
def tx4:List UInt8:=[100,101,102,32,102,40,41,32,45,62,32,105,110,116,32,123,32,97,32,61,32,97,114,114,97,121,40,50,44,32,50,41,32,123,32,91,48,93,32,61,32,49,59,32,91,49,93,32,61,32,116,114,117,101,32,125,59,32,103,105,118,101,32,97,91,48,93,32,125]
def tt4:Tr:=(JaM tx4).getD ⟨[],[]⟩
def to4:List Int:=(Jw (JF tt4.nodes) []).getD []
theorem tf0:((JaM tx0).isSome && chk tt0 == 0 && (Jw (JF tt0.nodes) []).isSome && (XL tt0 to0).2 == 0)=true:=by decide +kernel
theorem tb0:(JX tt0 to0).bad=none:=by decide +kernel
theorem tf1:((JaM tx1).isSome && chk tt1 == 0 && (Jw (JF tt1.nodes) []).isSome && (XL tt1 to1).2 == 0)=true:=by decide +kernel
theorem tb1:(JX tt1 to1).bad=some 4:=by decide +kernel
theorem tf2:((JaM tx2).isSome && chk tt2 == 0 && (Jw (JF tt2.nodes) []).isSome && (XL tt2 to2).2 == 0)=true:=by decide +kernel
theorem tb2:(JX tt2 to2).bad=none:=by decide +kernel
theorem tf3:((JaM tx3).isSome && chk tt3 == 0 && (Jw (JF tt3.nodes) []).isSome && (XL tt3 to3).2 == 0)=true:=by decide +kernel
theorem tb3:(JX tt3 to3).bad=some 3:=by decide +kernel
theorem tf4:((JaM tx4).isSome && chk tt4 == 0 && (Jw (JF tt4.nodes) []).isSome && (XL tt4 to4).2 == 0)=true:=by decide +kernel
theorem tb4:(JX tt4 to4).bad=some 9:=by decide +kernel
theorem tg0:(Ju (JX tt0 to0).got 15 == [.int,.bool] && Ju (JX tt0 to0).got 4 == [.int] && Ju (JX tt0 to0).got 5 == [.bool] && decide (15<tt0.nodes.length) && decide (0<tt0.items.length) && JaF tt0 (tt0.items.getD 0 0).toNat == [.int] && YA tt0 (tt0.items.getD 0 0).toNat == [.int,.bool])=true:=by decide +kernel
theorem kTyp {x:List UInt8}{t:Tr}{o:List Int}(ht:t=(JaM x).getD ⟨[],[]⟩)(ho:o=(Jw (JF t.nodes) []).getD [])(h:((JaM x).isSome && chk t == 0 && (Jw (JF t.nodes) []).isSome && (XL t o).2 == 0)=true) :
  Fn Gb 22 [S x] t.cv/\t.Fit/\GoodT t o/\(XL t o).2=0:=by
 simp only[Gu,beq_iff_eq]at h;obtain⟨⟨⟨h1,h2⟩,h3⟩,h4⟩:=h;have hk:JaM x=some t:=by
  cases hx:JaM x with
  |none=>rw[hx]at h1;cases h1
  |some y=>rw[ht,hx];rfl
 have EX:=okT_fit (refTreeK hk).2;have hg:GoodT t o:=by
  obtain⟨o',g⟩:=(JdY t).1 h2;have hh:=g.ord.h;rw[hh]at ho;rw[ho];exact g
 exact⟨law4Tree hk,EX,hg,h4⟩
def spT:TyX:=.arr (.str .int)
theorem typSplitK:Fn Gb 24 [S [91,115,116,114,101,97,109,32,105,110,116,93]] (.tup [S [91,93],S [115,116,114,101,97,109,32,105,110,116],.int .i64 0]):=by
 have hP:Fn Gb 42 [S [91,115,116,114,101,97,109,32,105,110,116,93]] (.int .i64 3):=Jgy spT (by decide);have hI:Fn Gb 43 [S [91,115,116,114,101,97,109,32,105,110,116,93]] (.tup [S [91,93],S [115,116,114,101,97,109,32,105,110,116],.bool true]):=JdF (some spT) (by decide);refine fcS c24_ok λN=>?_
 simp -implicitDefEqProofs only[c24,go_sem];refine JV hP ?_;simp -implicitDefEqProofs only[go_sem,show ((3:Int) == 0)=false from rfl,show ((20:Int)<3)=False from eq_false (by decide)];refine JV hI ?_;simp -implicitDefEqProofs only[go_sem]
theorem typDeepK:Fn Gb 25 [S [91,115,116,114,101,97,109,32,105,110,116,93]] (.tup [.int .i64 3,.int .i64 0]):=by
 have hP:Fn Gb 42 [S [91,115,116,114,101,97,109,32,105,110,116,93]] (.int .i64 3):=Jgy spT (by decide);refine fcS c25_ok λN=>?_
 simp -implicitDefEqProofs only[c25,go_sem];refine JV hP ?_;simp -implicitDefEqProofs only[go_sem,show ((3:Int) == 0)=false from rfl,show ((20:Int)<3)=False from eq_false (by decide)]
theorem fknown4:Fn Gb 7 [] (.bool true):=by
 obtain⟨a0,f0,g0,e0⟩:=kTyp (x:=tx0) (t:=tt0) (o:=to0) rfl rfl tf0;obtain⟨a1,f1,g1,e1⟩:=kTyp (x:=tx1) (t:=tt1) (o:=to1) rfl rfl tf1;obtain⟨a2,f2,g2,e2⟩:=kTyp (x:=tx2) (t:=tt2) (o:=to2) rfl rfl tf2;obtain⟨a3,f3,g3,e3⟩:=kTyp (x:=tx3) (t:=tt3) (o:=to3) rfl rfl tf3;obtain⟨a4,f4,g4,e4⟩:=kTyp (x:=tx4) (t:=tt4) (o:=to4) rfl rfl tf4;have Ap:∀{t:Tr} {o:List Int},(XL t o).2=0->(JX t o).bad=none->JhC t o=.tup [.agg [.rslc 1 (gz (JX t o).got) none],.int .i64 0,.int .i64 0]:=λhE hb=>by
  unfold JhC;rw[if_neg (λh=>h hE),hb]
 have BJ:∀{t:Tr} {o:List Int} {i:Nat},(XL t o).2=0->(JX t o).bad=some i->JhC t o=.tup [.agg [.nils],.int .i64 (i:Int),.int .i64 11]:=λhE hb=>by
  unfold JhC;rw[if_neg (λh=>h hE),hb]
 have r0:=Jae g0 f0;have r1:=Jae g1 f1;have r2:=Jae g2 f2;have r3:=Jae g3 f3;have r4:=Jae g4 f4;rw[Ap e0 tb0]at r0;rw[BJ e1 tb1]at r1;rw[Ap e2 tb2]at r2;rw[BJ e3 tb3]at r3;rw[BJ e4 tb4]at r4;have hN:=tg0;simp only[Gu,beq_iff_eq,decide_eq_true_eq]at hN;obtain⟨⟨⟨⟨⟨⟨n1,n2⟩,n3⟩,n4⟩,n5⟩,n6⟩,n7⟩:=hN;have hS:=typSign g0 f0 e0 tb0 (i:=0) (d:=(tt0.items.getD 0 0).toNat) n5 (by
  have AC:tt0.items.getD 0 0∈tt0.items:=by
   rw[Gp,Gr n5];exact Gy n5
  have:=g0.itr AC;omega)
 rw[n6,n7]at hS;have A7:=JeF g0 e0;have Fj:(gz (JX tt0 to0).got).length=tt0.nodes.length:=by rw[X5,A7]
 have RN:=QW (l:=(JX tt0 to0).got) (i:=15) (by omega);have bS:=QW (l:=(JX tt0 to0).got) (i:=4) (by omega);have bR:=QW (l:=(JX tt0 to0).got) (i:=5) (by omega);rw[n1]at RN;rw[n2]at bS;rw[n3]at bR;refine Jau c7_ok rfl rfl (by simp only[Gh];decide) λN=>?_
 simp -implicitDefEqProofs only[c7,go_sem];refine JV a0 ?_;simp -implicitDefEqProofs only[go_sem,Tr.cv,Tr.row,splice];refine JV r0 ?_;simp -implicitDefEqProofs only[go_sem,splice];refine JV hS ?_;simp -implicitDefEqProofs only[go_sem];refine JV a1 ?_;simp -implicitDefEqProofs only[go_sem,Tr.cv,Tr.row];refine JV r1 ?_;simp -implicitDefEqProofs only[go_sem,splice];refine JV a2 ?_;simp -implicitDefEqProofs only[go_sem,Tr.cv,Tr.row];refine JV r2 ?_;simp -implicitDefEqProofs only[go_sem,splice];refine JV a3 ?_;simp -implicitDefEqProofs only[go_sem,Tr.cv,Tr.row];refine JV r3 ?_;simp -implicitDefEqProofs only[go_sem,splice];refine JV a4 ?_;simp -implicitDefEqProofs only[go_sem,Tr.cv,Tr.row];refine JV r4 ?_;simp -implicitDefEqProofs only[go_sem,splice];refine JV typSplitK ?_;simp -implicitDefEqProofs only[go_sem];refine JV typDeepK ?_;simp -implicitDefEqProofs only[go_sem,Fj,Jb,RN];refine anO ?_;have s1:Fn Gb 16 [txV [.int,.bool],txV [.int,.bool]] (.bool true):=Jan [.int,.bool] [.int,.bool] (by decide);have s2:Fn Gb 16 [txV [.int],txV [.int]] (.bool true):=Jan [.int] [.int] (by decide);have s3:Fn Gb 16 [txV [.bool],txV [.bool]] (.bool true):=Jan [.bool] [.bool] (by decide);refine Jd (id:=6) (z:=1) (els:=[[S [105,110,116]],[S [98,111,111,108]]]) rfl rfl ?_;simp -implicitDefEqProofs only[go_sem,Xj,JY,frz,Ky,J9,Gc,Gd,Gq,if_true,if_false,Gm,Gl,Gs,Gt,Gi,Gh,Gj,GJ];refine JV s1 ?_;simp -implicitDefEqProofs only[go_sem,Fj,bS];refine anO ?_;refine Jd (id:=7) (z:=1) (els:=[[S [105,110,116]]]) rfl rfl ?_;simp -implicitDefEqProofs only[go_sem,Xj,JY,frz,Ky,J9,JU,Gc,Gd,Gq,if_true,if_false,Gm,Gl,Gs,Gt,Gi,Gh,Gj];refine Kh (.inr ⟨116,true,rfl,rfl⟩) s2 ?_;simp -implicitDefEqProofs only[go_sem,Fj,bR];refine anO ?_;refine Jd (id:=8) (z:=1) (els:=[[S [98,111,111,108]]]) rfl rfl ?_;simp -implicitDefEqProofs only[go_sem,Xj,JY,frz,Ky,J9,JU,Gc,Gd,Gq,if_true,if_false,Gm,Gl,Gs,Gt,Gi,Gh,Gj];refine Kh (.inr ⟨124,true,rfl,rfl⟩) s3 ?_;simp -implicitDefEqProofs only[go_sem];refine Jd (id:=9) (z:=1) (els:=[[S [105,110,116]]]) rfl rfl ?_;simp -implicitDefEqProofs only[go_sem,Xj,JY,frz,Ky,J9,JU,Gc,Gd,Gq,if_true,if_false,Gm,Gl,Gs,Gt,Gi,Gh,Gj];refine Kh (.inr ⟨132,true,rfl,rfl⟩) s2 ?_;simp -implicitDefEqProofs only[go_sem];refine Jd (id:=10) (z:=1) (els:=[[S [105,110,116]],[S [98,111,111,108]]]) rfl rfl ?_;simp -implicitDefEqProofs only[go_sem,Xj,JY,frz,Ky,J9,JU,Gc,Gd,Gq,if_true,if_false,Gm,Gl,Gs,Gt,Gi,Gh,Gj,GJ];refine Kh (.inr ⟨137,true,rfl,rfl⟩) s1 ?_;simp -implicitDefEqProofs only[go_sem,show (((4:Nat):Int) == 4)=true from rfl,show (((3:Nat):Int) == 3)=true from rfl,show (((9:Nat):Int) == 9)=true from rfl,show ((3:Int) == 3)=true from rfl]
end
section
theorem Q8 (l:TL):XY (txL l)=opT (Ke l):=by
 rcases l with _|⟨a,_|⟨b,l⟩⟩ <;> rfl
theorem JgA:∀{a b:TL},txL a=txL b->a=b
 |[],[],_=>rfl
 |[],_::_,h=>by simp[txL]at h
 |_::_,[],h=>by simp[txL]at h
 |x::a,y::b,h=>by
  simp only[txL,Gc,List.cons.injEq]at h;rw[Jd8 h.1,JgA h.2]
theorem Jao (l:TL):Fn Gb 12 [txV l] (S (opT (Ke l))):=by
 have hl:(txz l).length=l.length:=QO;refine fcS c12_ok λN=>?_
 by_cases h:l.length=1
 ·obtain⟨a,rfl⟩:=List.length_eq_one_iff.1 h;simp -implicitDefEqProofs only[c12,go_sem,txV,hl,Gi,Gh,show ((((0+1:Nat)):Int) != 1)=false from rfl,show (txz [a]).getD 0 []=[S (tyT a)] from rfl];exact⟨by omega,rfl⟩
 ·have d:((l.length:Int) != 1)=true:=by simp;omega
  rw[oneO_none h];simp -implicitDefEqProofs only[c12,go_sem,txV,hl,d];rfl
section
variable {t:Tr}{o:List Int}(g:GoodT t o)(ht:t.Fit)
include g ht
omit ht in
theorem no_kids {i:Nat}(hi:i<t.nodes.length)(hk:(nd t i).k=1\/(nd t i).k=2\/(nd t i).k=3):(nd t i).kids.length=0:=by
 have hn:=g.nds (nd t i) (by unfold nd;rw[Gp,Gr hi];exact Gy hi);rw[ndI_R]at hn;simp only[Gu]at hn;have h:=hn.1.1;unfold Qa at h;rw[iP7]at h;have h2:((lets t.nodes (nd t i)).length:Int)=0:=by simpa using h
 rw[Kv]at h2;omega
theorem law4Right {got:List TL}{of:List Int}(A7:got.length=t.nodes.length)(Bb:of.length=t.nodes.length)(BR:Ln got)(hf:∀j,X6 (Ju got j)=true){i:Nat}(hi:i<t.nodes.length)(hk:1<=(nd t i).k/\(nd t i).k<=29)(hR:(nd t i).k≠3->KC (nd t i).k (nd t i).n.toNat (nd t i).kids.length (txL (Ju got i)) (λj=>txL (KK t got i j)))(h3:(nd t i).k=3->∃(m:Nat) (a:TyX),of.getD i 0=m/\m<t.nodes.length/\Ju got i=[a]/\Ju got m=[a]):Fn Gb 11 [t.cv,.rslc 1 (iz of) none,.rslc 1 (gz got) none,.int .i64 (i:Int)] (.bool true):=by
 have Aj:=g.many;have hg:=J3 hi;have Bh:(gz got).length=t.nodes.length:=by rw[X5,A7]
 have Ar:=QW (l:=got) (i:=i) (by omega);have Af:(iz (nd t i).kids).length=(nd t i).kids.length:=Jg;have hO:=Jao (Ju got i);have AJ:∀j,j<(nd t i).kids.length->∃c:Nat,(iz (nd t i).kids).getD j []=[.int .i64 (c:Int)]/\c<t.nodes.length/\(gz got).getD c []=[txV (KK t got i j)]:=λj hj=>by
  have h1:=(Jz g hi hj).2.1;refine⟨JG t i j,by rw[JH hj,J2 g hi hj],by omega,?_⟩;rw[QW (by omega),JcJ g hi hj (J2 g hi hj),GK]
 refine fcS c11_ok λN=>?_
 simp -implicitDefEqProofs only[c11,go_sem,Tr.cv,Tr.row];refine Jd (id:=0) (z:=2) (els:=[t.row]) rfl rfl ?_;simp only[go_sem,Xj,Gc,Gd,Ky,frz,Qc,JY,Tr.row];refine JQ [0,0,0,0,0,0,0,0,0,0,1001,2001,0] Jp (by decide +kernel) ?_;simp -implicitDefEqProofs only[go_sem,Jb,hg,Nd.cv,Bh,Ar]
 repeat refine anO ?_
 refine Jgh (.inl rfl) hO ?_;simp -implicitDefEqProofs only[go_sem,JhF (show 1000<=1001 by decide)];refine vy_new 1 (λid=>.ptr id 0 0) (.arr 5 [[.int .u8 0,S [],.int .i64 0,.nils,.int .i64 0]]) (.inl rfl) rfl (λ_=>rfl) trivial (by decide) ?_;simp -implicitDefEqProofs only[go_sem,JhF (show 1000<=2001 by decide)];refine vy_set 1 (.arr 5 [[.int .u8 ((nd t i).k:Int),S (nd t i).text,.int .i64 (nd t i).n,.rslc 1 (iz (nd t i).kids) none,.int .i64 (nd t i).pl]]) (.inl rfl) (c:=.and (.le 1 1) (.le 5 5)) (v:=.un) (λH2 h=>?_) ⟨Gj _,Gj _⟩ (by simp) ?_
 ·have h2:H2[1]? = some (CObj.arr 5 [[.int .u8 0,S [],.int .i64 0,.nils,.int .i64 0]]):=h;simp only[exec,go_sem,h2]
  try rfl
 have BB:([CObj.dead]++[CObj.arr 5 [[.int .u8 0,S [],.int .i64 0,.nils,.int .i64 0]]]).set 1 (.arr 5 [[.int .u8 ((nd t i).k:Int),S (nd t i).text,.int .i64 (nd t i).n,.rslc 1 (iz (nd t i).kids) none,.int .i64 (nd t i).pl]])=[.dead,.arr 5 [[.int .u8 ((nd t i).k:Int),S (nd t i).text,.int .i64 (nd t i).n,.rslc 1 (iz (nd t i).kids) none,.int .i64 (nd t i).pl]]]:=rfl;have d00:((0:Int)<((0:Nat):Int))=False:=eq_false (by decide);have d10:((1:Int)<((0:Nat):Int))=False:=eq_false (by decide);have d01:((0:Int)<((1:Nat):Int))=True:=eq_true (by decide);have d11:((1:Int)<((1:Nat):Int))=False:=eq_false (by decide);have d02:((0:Int)<((2:Nat):Int))=True:=eq_true (by decide);have d12:((1:Int)<((2:Nat):Int))=True:=eq_true (by decide);have d03:((0:Int)<((3:Nat):Int))=True:=eq_true (by decide);have d13:((1:Int)<((3:Nat):Int))=True:=eq_true (by decide);have b1:(([105,110,116]:List UInt8) == [105,110,116])=true:=by decide
 have b2:(([98,111,111,108]:List UInt8) == [98,111,111,108])=true:=by decide
 have b3:(([98,111,111,108]:List UInt8) == [105,110,116])=false:=by decide
 have b4:(([105,110,116]:List UInt8) == [98,111,111,108])=false:=by decide
 have CF:=Jao (KK t got i 0);have Es:=Jao (KK t got i 1);have bG:=JbT (hf i);have bK:∀j,(opT (Ke (KK t got i j))).length<=140:=λj=>by
  unfold KK
  split
  ·exact JbT (hf _)
  ·simp[Ke,opT]
 have bK0:=bK 0;have bK1:=bK 1;by_cases kk:(nd t i).k=1
 ·have hl:(nd t i).kids.length=0:=no_kids g hi (.inl kk);have hr:=hR (by omega);rw[kk]at hr;have hG:opT (Ke (Ju got i))=[105,110,116]:=by simpa [KC,Q8,tyT]using hr
  rw[hG];simp -implicitDefEqProofs only[go_sem,Gf,Gg,Af,hl,kk,Ga,b1,beq_self_eq_true]
 by_cases kk:(nd t i).k=2
 ·have hl:(nd t i).kids.length=0:=no_kids g hi (.inr (.inl kk));have hr:=hR (by omega);rw[kk]at hr;have hG:opT (Ke (Ju got i))=[98,111,111,108]:=by simpa [KC,Q8,tyT]using hr
  rw[hG];simp -implicitDefEqProofs only[go_sem,Gf,Gg,Af,hl,kk,Ga,b2,beq_self_eq_true]
 by_cases kk:(nd t i).k=3
 ·have hl:(nd t i).kids.length=0:=no_kids g hi (.inr (.inr kk));obtain⟨m,a,m1,m2,m3,m4⟩:=h3 kk;have hm:=Jao (Ju got m);have Uj:=QW (l:=got) (i:=m) (by omega);have fG:(iz of).getD i []=[.int .i64 (m:Int)]:=by rw[JH (by omega),m1]
  have Bp:(iz of).length=t.nodes.length:=by rw[Jg,Bb]
  have hG:opT (Ke (Ju got i))=tyT a:=by rw[m3];rfl
  have hM:opT (Ke (Ju got m))=tyT a:=by rw[m4];rfl
  have Ai:(tyT a == [])=false:=beq_eq_false_iff_ne.2 Jd7;have OD:(tyT a != [])=true:=by rw[bne,Ai];rfl
  rw[hM]at hm;rw[hG];simp -implicitDefEqProofs only[go_sem,Gf,Gg,Af,Bh,hl,kk,Ga,beq_self_eq_true,Ai,fG,Bp,Uj]
  repeat refine anO ?_
  refine Kh (gok rfl) hm ?_;simp -implicitDefEqProofs only[go_sem,beq_self_eq_true]
 by_cases kk:(nd t i).k=13\/(nd t i).k=14\/(nd t i).k=15\/(nd t i).k=16\/(nd t i).k=17
 ·have hl:(nd t i).kids.length=2:=Jaq g hi (by omega);rcases kk with kk|kk|kk|kk|kk
  all_goals
   have hr:=hR (by omega);rw[kk]at hr;have Bf:opT (Ke (Ju got i))=[105,110,116]/\opT (Ke (KK t got i 0))=[105,110,116]/\opT (Ke (KK t got i 1))=[105,110,116]:=by
    simp[KC,Q8,tyT]at hr;exact⟨hr.1,hr.2.1.trans hr.1,hr.2.2.trans hr.1⟩
   obtain⟨c0,q0,q1,q2⟩:=AJ 0 (by omega);obtain⟨c1,r0,r1,r2⟩:=AJ 1 (by omega);rw[Bf.2.1]at CF;rw[Bf.2.2]at Es;rw[Bf.1];simp -implicitDefEqProofs only[go_sem,Gf,Gg,Af,Bh,hl,kk,Ga,q0,q2]
   repeat refine anO ?_
   refine JV CF ?_;simp -implicitDefEqProofs only[go_sem,Af,Bh,hl,Ga,r0,r2]
   repeat refine anO ?_
   refine JV Es ?_;simp -implicitDefEqProofs only[go_sem,b1,beq_self_eq_true]
   try (repeat refine anO ?_)
 by_cases kk:(nd t i).k=9\/(nd t i).k=10\/(nd t i).k=11\/(nd t i).k=12
 ·have hl:(nd t i).kids.length=2:=Jaq g hi (by omega);rcases kk with kk|kk|kk|kk
  all_goals
   have hr:=hR (by omega);rw[kk]at hr;have Bf:opT (Ke (Ju got i))=[98,111,111,108]/\opT (Ke (KK t got i 0))=[105,110,116]/\opT (Ke (KK t got i 1))=[105,110,116]:=by
    simp[KC,Q8,tyT]at hr;exact⟨hr.1,hr.2.1,hr.2.2.trans hr.2.1⟩
   obtain⟨c0,q0,q1,q2⟩:=AJ 0 (by omega);obtain⟨c1,r0,r1,r2⟩:=AJ 1 (by omega);rw[Bf.2.1]at CF;rw[Bf.2.2]at Es;rw[Bf.1];simp -implicitDefEqProofs only[go_sem,Gf,Gg,Af,Bh,hl,kk,Ga,q0,q2]
   repeat refine anO ?_
   refine JV CF ?_;simp -implicitDefEqProofs only[go_sem,Af,Bh,hl,Ga,r0,r2]
   repeat refine anO ?_
   refine JV Es ?_;simp -implicitDefEqProofs only[go_sem,b1,b2,beq_self_eq_true]
   try (repeat refine anO ?_)
 by_cases kk:(nd t i).k=5\/(nd t i).k=6
 ·have hl:(nd t i).kids.length=2:=Jaq g hi (by omega);rcases kk with kk|kk
  all_goals
   have hr:=hR (by omega);rw[kk]at hr;have Bf:opT (Ke (Ju got i))=[98,111,111,108]/\opT (Ke (KK t got i 0))=[98,111,111,108]/\opT (Ke (KK t got i 1))=[98,111,111,108]:=by
    simp[KC,Q8,tyT]at hr;exact⟨hr.1,hr.2.1.trans hr.1,hr.2.2.trans hr.1⟩
   obtain⟨c0,q0,q1,q2⟩:=AJ 0 (by omega);obtain⟨c1,r0,r1,r2⟩:=AJ 1 (by omega);rw[Bf.2.1]at CF;rw[Bf.2.2]at Es;rw[Bf.1];simp -implicitDefEqProofs only[go_sem,Gf,Gg,Af,Bh,hl,kk,Ga,q0,q2]
   repeat refine anO ?_
   refine JV CF ?_;simp -implicitDefEqProofs only[go_sem,Af,Bh,hl,Ga,r0,r2]
   repeat refine anO ?_
   refine JV Es ?_;simp -implicitDefEqProofs only[go_sem,b2,beq_self_eq_true]
   try (repeat refine anO ?_)
 by_cases kk:(nd t i).k=20
 ·have hl:(nd t i).kids.length=1:=Qz g hi (.inl ⟨by omega,by omega⟩);have hr:=hR (by omega);rw[kk]at hr;have Bf:opT (Ke (Ju got i))=[105,110,116]/\opT (Ke (KK t got i 0))=[105,110,116]:=by
   simp[KC,Q8,tyT]at hr;exact⟨hr.1,hr.2.trans hr.1⟩
  obtain⟨c0,q0,q1,q2⟩:=AJ 0 (by omega);rw[Bf.2]at CF;rw[Bf.1];simp -implicitDefEqProofs only[go_sem,Gf,Gg,Af,Bh,hl,kk,Ga,q0,q2]
  repeat refine anO ?_
  refine JV CF ?_;simp -implicitDefEqProofs only[go_sem,Af,hl,Ga,b1,beq_self_eq_true]
  try (repeat refine anO ?_)
 by_cases kk:(nd t i).k=19
 ·have hl:(nd t i).kids.length=1:=Qz g hi (.inl ⟨by omega,by omega⟩);have hr:=hR (by omega);rw[kk]at hr;have Bf:opT (Ke (Ju got i))=[98,111,111,108]/\opT (Ke (KK t got i 0))=[98,111,111,108]:=by
   simp[KC,Q8,tyT]at hr;exact⟨hr.1,hr.2.trans hr.1⟩
  obtain⟨c0,q0,q1,q2⟩:=AJ 0 (by omega);rw[Bf.2]at CF;rw[Bf.1];simp -implicitDefEqProofs only[go_sem,Gf,Gg,Af,Bh,hl,kk,Ga,q0,q2]
  repeat refine anO ?_
  refine JV CF ?_;simp -implicitDefEqProofs only[go_sem,Af,hl,Ga,b2,beq_self_eq_true]
  try (repeat refine anO ?_)
 by_cases kk:(nd t i).k=4
 ·have hl:(nd t i).kids.length=2:=Jaq g hi (by omega);have hr:=hR (by omega);rw[kk]at hr;obtain⟨x1,x2,x3⟩:opT (Ke (KK t got i 0))≠[]/\opT (Ke (Ju got i))=[115,116,114,101,97,109,32]++opT (Ke (KK t got i 0))/\opT (Ke (KK t got i 1))=[115,116,114,101,97,109,32]++opT (Ke (KK t got i 0)):=by
   simp[KC,Q8,QD]at hr;exact⟨hr.1,hr.2.1,hr.2.2.trans hr.2.1⟩
  have y1:(opT (Ke (KK t got i 0)) == [])=false:=beq_eq_false_iff_ne.2 x1;have y2:(opT (Ke (KK t got i 0)) != [])=true:=by rw[bne,y1];rfl
  obtain⟨c0,q0,q1,q2⟩:=AJ 0 (by omega);obtain⟨c1,r0,r1,r2⟩:=AJ 1 (by omega);rw[x3]at Es;rw[x2];simp -implicitDefEqProofs only[go_sem,Gw,Gx,Gf,Gg,Af,Bh,hl,kk,Ga,q0,q2]
  repeat refine anO ?_
  refine JV CF ?_;simp -implicitDefEqProofs only[go_sem,Af,Bh,hl,Ga,r0,r2]
  repeat refine anO ?_
  refine JV Es ?_;simp -implicitDefEqProofs only[go_sem,Gw,Gx,beq_self_eq_true,y1]
  try (repeat refine anO ?_)
  first|omega|exact⟨by omega,by omega⟩
 by_cases kk:(nd t i).k=21
 ·have hl:(nd t i).kids.length=1:=Qz g hi (.inl ⟨by omega,by omega⟩);have hr:=hR (by omega);rw[kk]at hr;obtain⟨x1,x2⟩:opT (Ke (Ju got i))≠[]/\opT (Ke (KK t got i 0))=[115,116,114,101,97,109,32]++opT (Ke (Ju got i)):=by
   simpa [KC,Q8,QD]using hr
  have y1:(opT (Ke (Ju got i)) == [])=false:=beq_eq_false_iff_ne.2 x1;have y2:(opT (Ke (Ju got i)) != [])=true:=by rw[bne,y1];rfl
  obtain⟨c0,q0,q1,q2⟩:=AJ 0 (by omega);rw[x2]at CF;simp -implicitDefEqProofs only[go_sem,Gf,Gg,Af,Bh,hl,kk,Ga,q0,q2]
  repeat refine anO ?_
  refine JV CF ?_;simp -implicitDefEqProofs only[go_sem,Gw,Gx,Af,hl,Ga,beq_self_eq_true,y1]
  try (repeat refine anO ?_)
  first|omega|exact⟨by omega,by omega⟩
 by_cases kk:(nd t i).k=22
 ·have hl:(nd t i).kids.length=1:=Qz g hi (.inl ⟨by omega,by omega⟩);have hr:=hR (by omega);rw[kk]at hr;obtain⟨x1,x2,x3⟩:opT (Ke (Ju got i))=opT (Ke (KK t got i 0))/\7<(opT (Ke (Ju got i))).length/\(opT (Ke (Ju got i))).take 7=[115,116,114,101,97,109,32]:=by
   simpa [KC,Q8,QD]using hr
  rw[<-x1]at CF;have y1:((7:Int)<(((opT (Ke (Ju got i))).length:Nat):Int))=True:=Kl;have y2:((opT (Ke (Ju got i))).take 7 == [115,116,114,101,97,109,32])=true:=by rw[x3];rfl
  obtain⟨c0,q0,q1,q2⟩:=AJ 0 (by omega);simp -implicitDefEqProofs only[go_sem,Gf,Gg,Af,Bh,hl,kk,Ga,q0,q2]
  repeat refine anO ?_
  refine JV CF ?_;simp -implicitDefEqProofs only[go_sem,Af,hl,Ga,beq_self_eq_true,y1,x3]
  try (repeat refine anO ?_)
  first|omega|exact⟨by omega,by omega⟩
 by_cases kk:(nd t i).k=23
 ·have hl:(nd t i).kids.length=1:=Qz g hi (.inl ⟨by omega,by omega⟩);have hr:=hR (by omega);rw[kk]at hr;obtain⟨x1,x2,x3⟩:opT (Ke (Ju got i))=[98,111,111,108]/\7<(opT (Ke (KK t got i 0))).length/\(opT (Ke (KK t got i 0))).take 7=[115,116,114,101,97,109,32]:=by
   simpa [KC,Q8,QD,tyT]using hr
  have y1:((7:Int)<(((opT (Ke (KK t got i 0))).length:Nat):Int))=True:=Kl;have y2:((opT (Ke (KK t got i 0))).take 7 == [115,116,114,101,97,109,32])=true:=by rw[x3];rfl
  obtain⟨c0,q0,q1,q2⟩:=AJ 0 (by omega);rw[x1];simp -implicitDefEqProofs only[go_sem,Gf,Gg,Af,Bh,hl,kk,Ga,q0,q2]
  repeat refine anO ?_
  refine JV CF ?_;simp -implicitDefEqProofs only[go_sem,Af,hl,Ga,b2,beq_self_eq_true,y1,x3]
  try (repeat refine anO ?_)
  first|omega|exact⟨by omega,by omega⟩
 by_cases kk:(nd t i).k=24
 ·have hl:(nd t i).kids.length=1:=Qz g hi (.inl ⟨by omega,by omega⟩);have hr:=hR (by omega);rw[kk]at hr;obtain⟨x1,x2,x3⟩:opT (Ke (Ju got i))=[105,110,116]/\2<(opT (Ke (KK t got i 0))).length/\(opT (Ke (KK t got i 0))).take 1=[91]:=by
   simpa [KC,Q8,tyT]using hr
  have y1:((2:Int)<(((opT (Ke (KK t got i 0))).length:Nat):Int))=True:=Kl;have y2:((opT (Ke (KK t got i 0))).take 1 == [91])=true:=by rw[x3];rfl
  obtain⟨c0,q0,q1,q2⟩:=AJ 0 (by omega);rw[x1];simp -implicitDefEqProofs only[go_sem,Gf,Gg,Af,Bh,hl,kk,Ga,q0,q2]
  repeat refine anO ?_
  refine JV CF ?_;simp -implicitDefEqProofs only[go_sem,Af,hl,Ga,b1,beq_self_eq_true,y1,x3]
  try (repeat refine anO ?_)
  first|omega|exact⟨by omega,by omega⟩
 by_cases kk:(nd t i).k=18
 ·have hl:(nd t i).kids.length=2:=Jaq g hi (by omega);have hr:=hR (by omega);rw[kk]at hr;obtain⟨x1,x2,x3⟩:opT (Ke (Ju got i))≠[]/\opT (Ke (KK t got i 0))=91::(opT (Ke (Ju got i))++[93])/\opT (Ke (KK t got i 1))=[105,110,116]:=by
   simpa [KC,Q8,tyT]using hr
  have y1:(opT (Ke (Ju got i)) == [])=false:=beq_eq_false_iff_ne.2 x1;have y2:(opT (Ke (Ju got i)) != [])=true:=by rw[bne,y1];rfl
  obtain⟨c0,q0,q1,q2⟩:=AJ 0 (by omega);obtain⟨c1,r0,r1,r2⟩:=AJ 1 (by omega);rw[x2]at CF;rw[x3]at Es;simp -implicitDefEqProofs only[go_sem,Gf,Gg,Af,Bh,hl,kk,Ga,q0,q2]
  repeat refine anO ?_
  refine JV CF ?_;simp -implicitDefEqProofs only[go_sem,Af,Bh,hl,Ga,r0,r2]
  repeat refine anO ?_
  refine JV Es ?_;simp -implicitDefEqProofs only[go_sem,Gw,Gx,b1,beq_self_eq_true,y1]
  try (repeat refine anO ?_)
  first|omega|exact⟨by omega,by omega⟩
 by_cases kk:(nd t i).k=7\/(nd t i).k=8
 ·have hl:(nd t i).kids.length=2:=Jaq g hi (by omega);rcases kk with kk|kk
  all_goals
   have hr:=hR (by omega);rw[kk]at hr;obtain⟨x1,x2,x3⟩:opT (Ke (Ju got i))=[98,111,111,108]/\opT (Ke (KK t got i 0))=opT (Ke (KK t got i 1))/\(opT (Ke (KK t got i 0))=[105,110,116]\/opT (Ke (KK t got i 0))=[98,111,111,108]):=by
    simpa [KC,Q8,tyT]using hr
   rw[<-x2]at Es;rw[x1];rcases x3 with x3|x3
   all_goals
    obtain⟨c0,q0,q1,q2⟩:=AJ 0 (by omega);obtain⟨c1,r0,r1,r2⟩:=AJ 1 (by omega);rw[x3]at CF Es;simp -implicitDefEqProofs only[go_sem,Gf,Gg,Af,Bh,hl,kk,Ga,q0,q2]
    repeat refine anO ?_
    refine JV CF ?_;simp -implicitDefEqProofs only[go_sem,Af,Bh,hl,Ga,r0,r2]
    repeat refine anO ?_
    refine JV Es ?_;simp -implicitDefEqProofs only[go_sem,b1,b2,b3,beq_self_eq_true]
    try (repeat refine anO ?_)
 by_cases kk:(nd t i).k=25\/(nd t i).k=26\/(nd t i).k=29
 ·skip
  rcases kk with kk|kk|kk
  all_goals
   have hr:=hR (by omega);rw[kk]at hr;have bE:0<(Ju got i).length:=by simpa [KC,txL]using hr
   have D5:((0:Int)<((Ju got i).length:Int))=True:=Kl;have Pd:(txz (Ju got i)).length=(Ju got i).length:=QO;simp only[txV]at Ar;by_cases hl:(nd t i).kids.length=0
   ·skip
    simp -implicitDefEqProofs only[go_sem,Gf,Gg,Af,Bh,Ar,kk,Ga,txV,Pd,D5,hl]
    try omega
   by_cases hl:(nd t i).kids.length=1
   ·skip
    obtain⟨c0,q0,q1,q2⟩:=AJ 0 (by omega);simp only[txV]at q2 CF;simp -implicitDefEqProofs only[go_sem,Gf,Gg,Af,Bh,kk,Ga,txV,hl,q0,q2]
    repeat refine anO ?_
    refine JV CF ?_;simp -implicitDefEqProofs only[go_sem,Af,Bh,Ar,Ga,Pd,D5,hl]
    try omega
   have e0:((0:Int)<((nd t i).kids.length:Int))=True:=Kl;have e1:((1:Int)<((nd t i).kids.length:Int))=True:=Kl;obtain⟨c0,q0,q1,q2⟩:=AJ 0 (by omega);obtain⟨c1,r0,r1,r2⟩:=AJ 1 (by omega);simp only[txV]at q2 r2 CF Es;simp -implicitDefEqProofs only[go_sem,Gf,Gg,Af,Bh,kk,Ga,txV,e0,q0,q2]
   repeat refine anO ?_
   refine JV CF ?_;simp -implicitDefEqProofs only[go_sem,Af,Bh,e1,r0,r2]
   repeat refine anO ?_
   refine JV Es ?_;simp -implicitDefEqProofs only[go_sem,Bh,Ar,Pd,D5]
   try omega
 by_cases kk:(nd t i).k=27
 ·have hl:(nd t i).kids.length=3:=kids_if g hi kk;have hr:=hR (by omega);rw[kk]at hr;obtain⟨x1,x2,x3⟩:opT (Ke (KK t got i 0))=[98,111,111,108]/\txL (Ju got i)=txL (KK t got i 1)/\txL (Ju got i)=txL (KK t got i 2):=by
   simpa [KC,Q8,tyT]using hr
  have Sg:=Jan (Ju got i) (KK t got i 1) (by have:=BR i;omega);have Uq:=Jan (Ju got i) (KK t got i 2) (by have:=BR i;omega);rw[show (Ju got i == KK t got i 1)=true from beq_iff_eq.2 (JgA x2)]at Sg;rw[show (Ju got i == KK t got i 2)=true from beq_iff_eq.2 (JgA x3)]at Uq;obtain⟨c2,s0,s1,s2⟩:=AJ 2 (by omega);obtain⟨c0,q0,q1,q2⟩:=AJ 0 (by omega);obtain⟨c1,r0,r1,r2⟩:=AJ 1 (by omega);rw[x1]at CF;simp -implicitDefEqProofs only[go_sem,Gf,Gg,Af,Bh,hl,kk,Ga,q0,q2]
  repeat refine anO ?_
  refine JV CF ?_;simp -implicitDefEqProofs only[go_sem,Af,Bh,hl,Ga,r0,r2]
  repeat refine anO ?_
  refine JV Es ?_;simp -implicitDefEqProofs only[go_sem,beq_self_eq_true]
  try (repeat refine anO ?_)
  refine JQ [0,0,0,0,0,0,0,0,0,1,0,0,0,0,0,0,0,0,0,0,0,0,0,1,0,0,0,0,0,0,0] Jp (by decide +kernel) ?_;simp -implicitDefEqProofs only[go_sem,Af,Bh,Ar,hl,b2,r0,r2]
  repeat refine anO ?_
  refine Jgh (gok rfl) Sg ?_;simp -implicitDefEqProofs only[go_sem,Af,Bh,Ar,hl,s0,s2]
  repeat refine anO ?_
  refine Jgh (gok rfl) Uq ?_;simp -implicitDefEqProofs only[go_sem]
 by_cases kk:(nd t i).k=28
 ·skip
  have hr:=hR (by omega);rw[kk]at hr;obtain⟨n,b,n1,n2,n3,_⟩:=XZ g hi kk;change (nd t i).n=n at n1;change b<(nd t i).kids.length at n3;rw[n1,GK]at hr;obtain⟨x1,x2⟩:opT (Ke (KK t got i n))=[98,111,111,108]/\txL (Ju got i)=txL (KK t got i ((nd t i).kids.length-1)):=by
   simpa [KC,Q8,tyT]using hr
  have BK:=(JeS ht hi).kidn;have IZ:=Jao (KK t got i n);rw[x1]at IZ;have Sg:=Jan (Ju got i) (KK t got i ((nd t i).kids.length-1)) (by have:=BR i;omega);rw[show (Ju got i == KK t got i ((nd t i).kids.length-1))=true from beq_iff_eq.2 (JgA x2)]at Sg;have Rz:(((nd t i).kids.length:Int)-1)=(((nd t i).kids.length-1:Nat):Int):=by omega
  have e0:((0:Int)<((nd t i).kids.length:Int))=True:=Kl;have e1:((1:Int)<((nd t i).kids.length:Int))=True:=Kl;obtain⟨c0,q0,q1,q2⟩:=AJ 0 (by omega);obtain⟨c1,r0,r1,r2⟩:=AJ 1 (by omega);obtain⟨cn,s0,s1,s2⟩:=AJ n (by omega);obtain⟨cm,t0,t1,t2⟩:=AJ ((nd t i).kids.length-1) (by omega);simp -implicitDefEqProofs only[go_sem,Gf,Gg,Af,Bh,kk,Ga,e0,n1,q0,q2]
  repeat refine anO ?_
  refine JV CF ?_;simp -implicitDefEqProofs only[go_sem,Af,Bh,e1,r0,r2]
  repeat refine anO ?_
  refine JV Es ?_;simp -implicitDefEqProofs only[go_sem,beq_self_eq_true];refine JQ [0,0,1,0,1,0,0,0,0,0,0,0,0,0,0,0,0,0,1,0,1,0,0,0,0,0,0,0,0,0] Jp (by decide +kernel) ?_;simp -implicitDefEqProofs only[go_sem,Af,Bh,s0,s2]
  repeat refine anO ?_
  refine Jgh (.inl rfl) IZ ?_;simp -implicitDefEqProofs only[go_sem,Af,Bh,Ar,b2,Rz,t0,t2]
  repeat refine And.intro (by first|omega|exact⟨by omega,by omega⟩|exact Jh) ?_
  refine Jgh (gok rfl) Sg ?_;simp -implicitDefEqProofs only[go_sem]
 exfalso;omega
end
end
section
theorem lisT_self {t:Tr}{got:List TL}(h:got.length=t.nodes.length):lisT t (Ju got)=got:=by
 refine List.ext_getElem (by simp[lisT,h]) λi h1 h2=>?_
 simp[lisT,Ju,Gp,Gr h2]
theorem tabNot (t:Tr)(aI:Fn Gb 6 [t.cv] (.bool false)):Fn Gb 3 [t.cv] (.bool true):=by
 refine fcS c3_ok λN0=>?_
 simp -implicitDefEqProofs only[c3,go_sem,Tr.cv,Tr.row];refine JV aI ?_;simp -implicitDefEqProofs only[go_sem,Gv,Tr.row,splice,Gi,Gh];refine JV fknown4 ?_;simp -implicitDefEqProofs only[go_sem,splice]
section
variable {t:Tr}{o:List Int}(g:GoodT t o)(ht:t.Fit)
include g ht
omit ht in
theorem def_place {d:Nat}(hd:d<t.nodes.length)(hk:(nd t d).k=65):t.items[Qb t d]? = some (d:Int):=by
 obtain⟨k,hk,fZ⟩:=List.getElem_of_mem (Jhs g hd hk).2;have h4:t.items[k]? = some (d:Int):=by rw[Gr hk,fZ]
 rw[item_place g h4];exact h4
theorem tabGood (aI:Fn Gb 6 [t.cv] (.bool true)):Fn Gb 3 [t.cv] (.bool true):=by
 have Aj:=g.many;have hT:=law4Typed g ht;have hR:=JfE g ht;rw[<-res_eq g]at hR;have hC:=refCopy t ht;refine fcS c3_ok λN0=>?_
 simp -implicitDefEqProofs only[c3,go_sem,Tr.cv,Tr.row];refine JV aI ?_;simp -implicitDefEqProofs only[go_sem,Gn,Tr.row,splice,Gi,Gh];refine JV hT ?_
 cases hO:okB t o with
 |false=>
  simp -implicitDefEqProofs only[go_sem,Gv,Tr.row,splice,Gi,Gh];refine JV fknown4 ?_;simp -implicitDefEqProofs only[go_sem,splice]
 |true=>
  have eR:Jfj t o=.rslc 1 (gz (JX t o).got) none:=by unfold Jfj;rw[if_pos hO]
  unfold okB at hO;rw[Gu,beq_iff_eq,Option.isNone_iff_eq_none]at hO;obtain⟨hE,hb⟩:=hO;rw[if_pos hE]at hR;have A7:=JeF g hE;have BR:Ln (JX t o).got:=infer_ln ht;have hA:=(typed_ta g hE hb).1;have hf:=(infer_inv g hE).1.fine;have hS:=λ{i d:Nat}=>typSign g ht hE hb (i:=i) (d:=d)
  rw[eR];simp -implicitDefEqProofs only[go_sem,Gn,Tr.row,splice,Gi,Gh];refine JV hR ?_;simp -implicitDefEqProofs only[go_sem,Tr.row,splice];refine Jd (id:=0) (z:=2) (els:=[t.row]) rfl rfl ?_;simp only[go_sem,Xj,Gc,Gd,Ky,frz,Qc,JY,Tr.row];clear hT eR;have Bp:(ofL t o).length=t.nodes.length:=Q9;have iD:∀i,i<t.nodes.length->1<=(nd t i).k/\(nd t i).k<=29->Fn Gb 11 [t.cv,.rslc 1 (iz (ofL t o)) none,.rslc 1 (gz (JX t o).got) none,.int .i64 (i:Int)] (.bool true):=λi hi hk=>by
   refine law4Right g ht A7 Bp BR hf hi hk (λh3=>?_) (λh3=>?_)
   ·have:=table_ok g hE hA hi hk h3;rw[lisT_self A7]at this;exact this
   ·obtain⟨h1,h2,_⟩:=JdR g hE hi (by simp[Kr,h3]);have hm:JN t o i=(mnF t o i:Int):=(Jev hi).symm.trans h1;obtain⟨h4,a,h5⟩:=name_ty g hE hA hi h3 hm;exact⟨mnF t o i,a,h1,h2,h5,by rw[<-h4];exact h5⟩
  have Sm:∀i,i<t.nodes.length->(nd t i).k=44->∃m:Nat,(ofL t o).getD i 0=m/\m<t.nodes.length/\Ju (JX t o).got m=Ju (JX t o).got (JG t i 0):=λi hi hk=>by
   obtain⟨h1,h2,_⟩:=JdR g hE hi (by simp[Kr,hk]);have hm:JN t o i=(mnF t o i:Int):=(Jev hi).symm.trans h1;exact⟨mnF t o i,h1,h2,(next_ty g hE hA hi hk hm).1⟩
  have iT:=λi=>init_ty g hA (i:=i)
  have iY:=λi=>def_ty g hA (i:=i)
  have O4:=hA.sets;clear hA hf;generalize (JX t o).got=got at *;generalize FP:ofL t o=of at *;have Bh:(gz got).length=t.nodes.length:=by rw[X5,A7]
  have UY:(iz of).length=t.nodes.length:=by rw[Jg,Bp]
  have jw:=Qu got;have E5:=Jf of;have Fu:=λi (hi:i<t.nodes.length)=>QW (l:=got) (i:=i) (by omega)
  have fH:=λi (hi:i<t.nodes.length)=>JH (l:=of) (i:=i) (by omega)
  have Dn:=λi=>QO (l:=Ju got i)
  have ME:=g.items;refine Jv (I:=λi:Nat=>i<=t.nodes.length) (inv:=λi=>mkT 182 [(1,.rptr t.row),(3,.rslc 1 (gz got) none),(5,.rslc 1 (iz of) none),(8,.int .i64 (i:Int))]) (hp:=λ_=>[.dead]) (μ:=λi=>t.nodes.length-i) 0 [0] (by omega) rfl ?_ ?_ ?_
  ·simp only[KY,Gc,Gd,ren,Jn];refine JM ?_;simp[K5,KX,Tr.row]
  ·simp only[Kq,Gc,Gd,go_sem,Jk]
  ·intro i hi;by_cases Ab:i<t.nodes.length
   ·have d1:=dtT i t.nodes.length;have Ar:=J3 Ab;have BK:=(JeS ht Ab).kidn;have Af:(iz (nd t i).kids).length=(nd t i).kids.length:=Jg;have iR:=refIsExpr (nd t i).k;simp -implicitDefEqProofs only[go_sem,d1,Tr.row,Jb,Ar,Nd.cv,Af]
    repeat refine And.intro (by first|omega|exact⟨by omega,by omega⟩|exact Jh) ?_
    refine Jd (id:=1) (z:=5) (els:=[[.int .u8 ((nd t i).k:Int),S (nd t i).text,.int .i64 (nd t i).n,.rslc 1 (iz (nd t i).kids) none,.int .i64 (nd t i).pl]]) rfl rfl ?_;simp -implicitDefEqProofs only[go_sem,Xj,frz,JY,Ky,JU,Gc,Gd,GH,Gl,Gq,if_true,if_false,Gf,Gg,Tr.row];refine JV iR ?_;have eK:∀m:Nat,(nd t i).k≠m->(((nd t i).k:Int) == (m:Int))=false:=λm h=>by rw[beq_eq_false_iff_ne];omega
    have eT:∀m:Nat,(nd t i).k=m->(((nd t i).k:Int) == (m:Int))=true:=λm h=>by rw[beq_iff_eq];omega
    by_cases Ej:1<=(nd t i).k/\(nd t i).k<=29
    ·have e:inN 1 29 (nd t i).k=true:=by unfold inN;simp;omega
     rw[e];simp -implicitDefEqProofs only[go_sem,Tr.row];refine JV (iD i Ab Ej) ?_;simp -implicitDefEqProofs only[go_sem,Gn];refine⟨Jh,i+1,[0],by omega,by omega,rfl,?_,?_⟩
     ·simp only[Kq,Gc,Gd,go_sem,Jk]
     ·simp only[KY,Gc,Gd,ren,Jn];refine JM ?_;simp[K5,KX,Tr.row]
    have e:inN 1 29 (nd t i).k=false:=by unfold inN;simp;omega
    rw[e];clear e;by_cases hk:(nd t i).k=41
    ·obtain⟨a,n1,n2,_⟩:=YH g Ab hk;change (nd t i).n=a at n1;change (nd t i).kids.length=a+1 at n2;obtain⟨s1,s2,_⟩:=O4 i Ab hk;have Ua:nB t i=a:=by unfold nB;rw[n1];rfl
     rw[Ua]at s1 s2;have e1:=eT 41 hk;simp only[Ga]at e1;have CK:∀j,j<a+1->(iz (nd t i).kids).getD j []=[.int .i64 ((JG t i j:Nat):Int)]/\JG t i j<t.nodes.length:=λj hj=>by
      have h1:=(Jz g Ab (i:=j) (by omega)).2.1;exact⟨by rw[JH (by omega),J2 g Ab (by omega)],by omega⟩
     obtain⟨l1,l2⟩:=CK a (by omega);have fU:Ji t i=JG t i a:=by unfold Ji JG;rw[n2];rfl
     rw[fU]at s1 s2;have Pd:=Dn (JG t i a);have Rz:(((a+1:Nat):Int)-1)=(a:Int):=by omega
     simp -implicitDefEqProofs only[go_sem,Tr.row,e1];refine JW Jp (by decide +kernel) ?_;simp -implicitDefEqProofs only[go_sem,n2,Rz,Af,Bh,l1,Fu _ l2,txV,Pd,s1,n1,bne_self_eq_false]
     repeat refine And.intro (by first|omega|exact⟨by omega,by omega⟩|exact Jh) ?_
     refine Jv (I:=λk:Nat=>k<=a) (inv:=λk=>mkT 182 [(1,.rptr t.row),(3,.rslc 1 (gz got) none),(5,.rslc 1 (iz of) none),(8,.int .i64 (i:Int)),(9,.rptr [.int .u8 ((nd t i).k:Int),S (nd t i).text,.int .i64 (nd t i).n,.rslc 1 (iz (nd t i).kids) none,.int .i64 (nd t i).pl]),(10,.int .i64 (a:Int)),(11,.int .i64 (k:Int))]) (hp:=λ_=>[.dead,.dead]) (μ:=λk=>a-k) 0 [0,1] (by omega) rfl ?_ ?_ ?_
     ·simp only[KY,Gc,Gd,ren,Jn];refine JM ?_;simp[K5,KX,Tr.row,n1]
     ·simp only[Kq,Gc,Gd,go_sem,Jk]
     ·intro k Av;by_cases Aw:k<a
      ·have d3:=dtT k a;obtain⟨c1,c2⟩:=CK k (by omega);have hO:=Jao (Ju got (JG t i k));rw[s2 k Aw]at hO;have CE:(txz (Ju got (JG t i a))).getD k []=[S (tyT ((Ju got (JG t i a)).getD k .int))]:=Jaf (by omega);have Uu:Fn Gb 12 [txV (Ju got (JG t i k))] (S (tyT ((Ju got (JG t i a)).getD k .int))):=by rw[s2 k Aw];exact hO
       simp -implicitDefEqProofs only[go_sem,n1,d3];refine JQ [0,0,0,0,0,0,0,0,0,0,0,0,0,0,0,0,0,0,0,0,0] Jp (by decide +kernel) ?_;simp -implicitDefEqProofs only[go_sem,Af,n2,Bh,c1,Fu _ c2]
       repeat refine And.intro (by first|omega|exact⟨by omega,by omega⟩|exact Jh) ?_
       refine Jgh (.inl rfl) Uu ?_;simp -implicitDefEqProofs only[go_sem,Af,n2,Bh,l1,Fu _ l2,txV,Pd,s1,CE,bne_self_eq_false]
       repeat refine And.intro (by first|omega|exact⟨by omega,by omega⟩|exact Jh) ?_
       refine⟨k+1,[0,1],by omega,by omega,rfl,?_,?_⟩
       ·simp only[Kq,Gc,Gd,go_sem,Jk]
       ·simp only[KY,Gc,Gd,ren,Jn];refine JM ?_;simp[K5,KX,Tr.row,n1]
      ·have d3:=dfF k a;simp -implicitDefEqProofs only[go_sem,n1,d3];refine⟨Jh,i+1,[0],by omega,by omega,rfl,?_,?_⟩
       ·simp only[Kq,Gc,Gd,go_sem,Jk]
       ·simp only[KY,Gc,Gd,ren,Jn];refine JM ?_;simp[K5,KX,Tr.row]
    have e41:=eK 41 hk;by_cases EB:(nd t i).k=43
    ·have n2:=Qz g Ab (.inr (.inl EB));have e1:=eT 43 EB;have e2:=eK 44 (by omega);have e3:=eK 65 (by omega);simp only[Ga]at e41 e1 e2 e3;obtain⟨h1,x,h2⟩:=iT i Ab EB;have hO:=Jao (Ju got i);have Uu:=Jao (Ju got (JG t i 0));rw[<-h1]at Uu;have hG:opT (Ke (Ju got i))=tyT x:=by rw[h2];rfl
     have Ai:(tyT x == [])=false:=beq_eq_false_iff_ne.2 Jd7;rw[hG]at hO Uu;have l2:JG t i 0<t.nodes.length:=by have:=(Jz g Ab (i:=0) (by omega)).2.1;omega
     have l1:(iz (nd t i).kids).getD 0 []=[.int .i64 ((JG t i 0:Nat):Int)]:=by rw[JH (by omega),J2 g Ab (by omega)]
     have CE:=Fu _ l2;rw[<-h1]at CE;simp -implicitDefEqProofs only[go_sem,Tr.row,e41,e1];refine JQ [0,0,0,0,0,0,0,0,0,0,0,0,0,0,0,0,0,0,0,0,0,0,0,0,0,0,0,0] Jp (by decide +kernel) ?_;simp -implicitDefEqProofs only[go_sem,e1,Bh,Fu _ Ab]
     repeat refine And.intro (by first|omega|exact⟨by omega,by omega⟩|exact Jh) ?_
     refine Jgh (gok rfl) hO ?_;simp -implicitDefEqProofs only[go_sem,Ai,Bh,Fu _ Ab]
     repeat refine And.intro (by first|omega|exact⟨by omega,by omega⟩|exact Jh) ?_
     refine Jgh (gok rfl) hO ?_;simp -implicitDefEqProofs only[go_sem,Af,n2,Bh,l1,CE]
     repeat refine And.intro (by first|omega|exact⟨by omega,by omega⟩|exact Jh) ?_
     refine Jgh (gok rfl) hO ?_;simp -implicitDefEqProofs only[go_sem,bne_self_eq_false];refine JQ [0,0,0,0,0,0,0,0,0,0,0,0,0,0,0,0,0,0,0,0,0,0,0] Jp (by decide +kernel) ?_;simp -implicitDefEqProofs only[go_sem,e2,e3];refine⟨Jh,i+1,[0],by omega,by omega,rfl,?_,?_⟩
     ·simp only[Kq,Gc,Gd,go_sem,Jk]
     ·simp only[KY,Gc,Gd,ren,Jn];refine JM ?_;simp[K5,KX,Tr.row]
    have e43:=eK 43 EB;by_cases Ue:(nd t i).k=44
    ·have n2:=Qz g Ab (.inr (.inr (.inl Ue)));have e1:=eT 44 Ue;have e3:=eK 65 (by omega);simp only[Ga]at e41 e43 e1 e3;obtain⟨m,m1,m2,h1⟩:=Sm i Ab Ue;have hO:=Jao (Ju got m);have l2:JG t i 0<t.nodes.length:=by have:=(Jz g Ab (i:=0) (by omega)).2.1;omega
     have l1:(iz (nd t i).kids).getD 0 []=[.int .i64 ((JG t i 0:Nat):Int)]:=by rw[JH (by omega),J2 g Ab (by omega)]
     have CE:=Fu _ l2;rw[<-h1]at CE;have fJ:(iz of).getD i []=[.int .i64 (m:Int)]:=by rw[fH i Ab,m1]
     simp -implicitDefEqProofs only[go_sem,Tr.row,e41];refine JQ [0,0,0,0,0,0,0,0,0,0,0,0,0,0,0,0,0,0,0,0,0,0,0,0,0,0,0,0] Jp (by decide +kernel) ?_;simp -implicitDefEqProofs only[go_sem,e43];refine JQ [0,0,0,0,0,0,0,0,0,0,0,0,0,0,0,0,0,0,0,0,0,0,0] Jp (by decide +kernel) ?_;simp -implicitDefEqProofs only[go_sem,e1,UY,fJ,Bh,Fu _ m2]
     repeat refine And.intro (by first|omega|exact⟨by omega,by omega⟩|exact Jh) ?_
     refine Jgh (gok rfl) hO ?_;simp -implicitDefEqProofs only[go_sem,Af,n2,Bh,l1,CE]
     repeat refine And.intro (by first|omega|exact⟨by omega,by omega⟩|exact Jh) ?_
     refine Jgh (gok rfl) hO ?_;simp -implicitDefEqProofs only[go_sem,bne_self_eq_false,e3];refine⟨Jh,i+1,[0],by omega,by omega,rfl,?_,?_⟩
     ·simp only[Kq,Gc,Gd,go_sem,Jk]
     ·simp only[KY,Gc,Gd,ren,Jn];refine JM ?_;simp[K5,KX,Tr.row]
    have e44:=eK 44 Ue;by_cases RH:(nd t i).k=65
    ·have e1:=eT 65 RH;simp only[Ga]at e41 e43 e44 e1;have n2:=Jht g Ab RH;have h1:=iY i Ab RH;have FL:=def_place g Ab RH;have Z0:Qb t i<t.items.length:=by
      rcases Nat.lt_or_ge (Qb t i) t.items.length with h|h
      ·exact h
      ·rw[List.getElem?_eq_none h]at FL;cases FL
     have iI:=refNumber3 g FL;have iB:=hS Z0 (d:=i) (by rw[Gp,FL];rfl);have cB:=Jan (YA t i) (YA t i) (by rw[<-h1];have:=BR (Ji t i);omega);rw[beq_self_eq_true]at cB;have l2:Ji t i<t.nodes.length:=by have:=(Jz g Ab (i:=(nd t i).kids.length-1) (by omega)).2.1;unfold Ji;unfold JG at this;omega
     have l1:(iz (nd t i).kids).getD ((nd t i).kids.length-1) []=[.int .i64 ((Ji t i:Nat):Int)]:=by rw[JH (by omega),J2 g Ab (by omega)];rfl
     have CE:=Fu _ l2;rw[h1]at CE;have Rz:(((nd t i).kids.length:Int)-1)=(((nd t i).kids.length-1:Nat):Int):=by omega
     simp -implicitDefEqProofs only[go_sem,Tr.row,e41];refine JQ [0,0,0,0,0,0,0,0,0,0,0,0,0,0,0,0,0,0,0,0,0,0,0,0,0,0,0,0] Jp (by decide +kernel) ?_;simp -implicitDefEqProofs only[go_sem,e43];refine JQ [0,0,0,0,0,0,0,0,0,0,0,0,0,0,0,0,0,0,0,0,0,0,0] Jp (by decide +kernel) ?_;simp -implicitDefEqProofs only[go_sem,e44,e1];refine JQ [0,0,0,0,0,0,0,0,0,0,0,0,0] Jp (by decide +kernel) ?_;simp -implicitDefEqProofs only[go_sem,Tr.row];refine Jgh (.inl rfl) hC ?_;simp -implicitDefEqProofs only[go_sem,Tr.cv,Tr.row];refine Jgh (.inl rfl) iI ?_;simp -implicitDefEqProofs only[go_sem];refine Jgh (.inl rfl) iB ?_;simp -implicitDefEqProofs only[go_sem,Af,Rz,l1,Bh,CE]
     repeat refine And.intro (by first|omega|exact⟨by omega,by omega⟩|exact Jh) ?_
     refine Kh (gok rfl) cB ?_;simp -implicitDefEqProofs only[go_sem,Gn];refine⟨Jh,i+1,[0],by omega,by omega,rfl,?_,?_⟩
     ·simp only[Kq,Gc,Gd,go_sem,Jk]
     ·simp only[KY,Gc,Gd,ren,Jn];refine JM ?_;simp[K5,KX,Tr.row]
    have e65:=eK 65 RH;simp only[Ga]at e41 e43 e44 e65;simp -implicitDefEqProofs only[go_sem,Tr.row,e41];refine JQ [0,0,0,0,0,0,0,0,0,0,0,0,0,0,0,0,0,0,0,0,0,0,0,0,0,0,0,0] Jp (by decide +kernel) ?_;simp -implicitDefEqProofs only[go_sem,e43];refine JQ [0,0,0,0,0,0,0,0,0,0,0,0,0,0,0,0,0,0,0,0,0,0,0] Jp (by decide +kernel) ?_;simp -implicitDefEqProofs only[go_sem,e44,e65];refine⟨Jh,i+1,[0],by omega,by omega,rfl,?_,?_⟩
    ·simp only[Kq,Gc,Gd,go_sem,Jk]
    ·simp only[KY,Gc,Gd,ren,Jn];refine JM ?_;simp[K5,KX,Tr.row]
   ·have d1:=dfF i t.nodes.length;simp -implicitDefEqProofs only[go_sem,d1,Tr.row,Jb];refine JV fknown4 ?_;simp -implicitDefEqProofs only[go_sem,splice]
end
theorem tabAll (t:Tr)(ty:t.Ty):Fn Gb 3 [t.cv] (.bool true):=by
 cases hv:JaC t with
 |true=>exact tabNot t (law4ValidV t hv)
 |false=>
  have ht:=ty.fit3 hv;by_cases h:chk t=0
  ·obtain⟨o,g⟩:=(JdY t).1 h;have hV:=law4ValidG g ht hv;by_cases hE:(XL t o).2=0
   ·rw[show ((XL t o).2 == 0)=true by simp[hE]]at hV;exact tabGood g ht hV
   ·rw[show ((XL t o).2 == 0)=false by simpa using hE]at hV;exact tabNot t hV
  ·exact tabNot t (law4ValidE t ht hv h)
end
end Go.Cm
end
end
