/-
  A part of the proof. Conditions: none.
-/
import Derived.Test.YtdnnimemociklaaGreatDoorWT3
import Derived.Test.YtdnnimemociklaaGreatDoorWP51
set_option linter.unusedSimpArgs false
set_option linter.unusedVariables false
open Go.Proofs.Tryz renaming prog->Ga
open Bool renaming not_true->Gn,and_eq_true->Gp,not_false->Gq,and_eq_false_iff->Gs,true_or->Gt
open List renaming length_nil->Gb,length_cons->Gc,map_cons->Gd,map_nil->Gf,take_succ_cons->Gj,drop_zero->Gi,getD_eq_getElem?_getD->Gr,take_zero->Gl,getElem?_eq_getElem->Gu,take_of_length_le->Gv,map_congr_left->Gw,getElem_mem->Gx,map_id->Gy,length->Gz
open Nat renaming zero_add->Gg,reduceEqDiff->Gm,le_refl->Gh,reduceAdd->GA
noncomputable section
section
set_option maxRecDepth 100000
set_option maxHeartbeats 4000000
open Go.Proofs
namespace Go.Cm
variable {t:Tr}{o:Lu}
theorem lawVast4 (t:Tr):Fn Ga 6 [t.cv] (.bool (Ja5 t)):=by
 refine Jc c6_ok rfl rfl λN=>?_
 have Aj:(iz t.items).length=t.items.length:=Jf
 cases hH:Jgq t with
 |true=>
  have hv:Ja5 t=true:=by unfold Ja5;rw[hH];rfl
  rw[hv];unfold Jgq at hH;have e1:((160:Int)<(t.nodes.length:Int))=(160<t.nodes.length):=propext om;have e2:((t.nodes.length:Int)<=700)=(t.nodes.length<=700):=propext om;have e3:((1400:Int)<(t.nodes.length:Int))=(1400<t.nodes.length):=propext om;have e4:((40:Int)<(t.items.length:Int))=(40<t.items.length):=propext om;by_cases g1:160<t.nodes.length <;> by_cases g2:t.nodes.length<=700 <;> by_cases g3:1400<t.nodes.length <;> by_cases g4:40<t.items.length <;> first|(exfalso;omega)|(exfalso;simp[g1,g2,g3,g4]at hH;done)|(simp only[c6,go_sem,Tr.cv,Tr.row,Jb,Aj,e1,e2,e3,e4,g1,g2,g3,g4])
 |false=>
  unfold Jgq at hH;simp only[Bool.or_eq_false_iff,Gs,decide_eq_false_iff_not]at hH;obtain⟨⟨h1,h2⟩,h3⟩:=hH;have e3:((1400:Int)<(t.nodes.length:Int))=False:=Kq;have e4:((40:Int)<(t.items.length:Int))=False:=Kq;have hv:Ja5 t=t.nodes.any Jdt:=by
   unfold Ja5 Jgq;have:(decide (160<t.nodes.length) && decide (t.nodes.length<=700))=false:=by simp only[Gs,decide_eq_false_iff_not];exact h1
   rw[this,decide_eq_false h2,decide_eq_false h3];rfl
  rw[hv];by_cases g1:160<t.nodes.length
  case' pos=>have e1:((160:Int)<(t.nodes.length:Int))=True:=KQ;have e2:((t.nodes.length:Int)<=700)=False:=Kq;simp only[c6,go_sem,Tr.cv,Tr.row,Jb,Aj,e1,e2,e3,e4]
  case' neg=>have e1:((160:Int)<(t.nodes.length:Int))=False:=Kq;simp only[c6,go_sem,Tr.cv,Tr.row,Jb,Aj,e1,e3,e4]
  all_goals (
   refine Je (id:=0) (z:=2) (els:=[t.row]) rfl rfl ?_;simp only[go_sem,JV,Kv,frz,Qj,Tr.row];refine JO (I:=λi:Nat=>i<=t.nodes.length/\t.nodes.any Jdt=(t.nodes.drop i).any Jdt) (inv:=λi=>gp [(1,.rptr t.row),(1,.int .i64 (i:Int))] 47) (hp:=λ_=>[.dead]) (μ:=λi=>t.nodes.length-i) 0 ⟨om,rfl⟩ ?_ rfl ?_
   ·simp[forget,gp,Tr.row]
   ·rintro i ⟨hi,Aa⟩;by_cases Ab:i<t.nodes.length
    ·have d1:=dtT i t.nodes.length;have hg:=QE Ab;rw[List.drop_eq_getElem_cons Ab,List.any_cons,<-rowg Ab]at Aa;generalize t.nodes.getD i default=x at hg Aa;have Bz:(iz x.kids).length=x.kids.length:=Jf;by_cases g5:30<x.kids.length
     ·have e5:((30:Int)<(x.kids.length:Int))=True:=KQ;rw[show Jdt x=true by simp[Jdt,g5],Gt]at Aa;simp only[go_sem,Tr.row,Jb,d1,hg,Nd.cv,Bz,e5,Aa];omega
     ·have e5:((30:Int)<(x.kids.length:Int))=False:=Kq;by_cases g6:60<x.text.length
      ·have e6:((60:Int)<(x.text.length:Int))=True:=KQ;rw[show Jdt x=true by simp[Jdt,g6],Gt]at Aa;simp only[go_sem,Tr.row,Jb,d1,hg,Nd.cv,Bz,e5,e6,Aa];omega
      ·have e6:((60:Int)<(x.text.length:Int))=False:=Kq;rw[show Jdt x=false by simp[Jdt,g5,g6],Bool.false_or]at Aa;simp only[go_sem,Tr.row,Jb,d1,hg,Nd.cv,Bz,e5,e6];refine⟨om,om,Ji,i+1,⟨om,Aa⟩,om,?_⟩;simp[forget]
    ·have d1:=dfF i t.nodes.length;rw[List.drop_eq_nil_of_le om]at Aa;simp only[go_sem,Tr.row,Jb,d1,Aa];simp
   )
theorem law4ValidV (t:Tr)(hv:Ja5 t=true):Fn Ga 13 [t.cv] (.bool false):=by
 have hV:=lawVast4 t;rw[hv]at hV;refine Jc c13_ok rfl rfl λN=>?_
 simp only[c13,go_sem,Tr.cv,Tr.row];refine Kk hV ?_;simp only[go_sem,Gn]
theorem JdK (t:Tr)(hv:Ja5 t=false)(e:Int)(l a:CV)(h:Fn Ga 33 [t.cv] (.tup [l,a,.int .i64 e])):Fn Ga 13 [t.cv] (.bool (e == 0)):=by
 have hV:=lawVast4 t;rw[hv]at hV;refine Jc c13_ok rfl rfl λN=>?_
 simp only[c13,go_sem,Tr.cv,Tr.row];refine Kk hV ?_;simp only[go_sem,Gq];refine Kt (gok rfl) (refCheck3 t e l a h) ?_;simp only[go_sem]
theorem law4ValidE (t:Tr)(ht:t.Fit)(hv:Ja5 t=false)(h:chk t≠0):Fn Ga 13 [t.cv] (.bool false):=by have:=JdK t hv _ _ _ (refResolveE t ht h);rw[show (chk t == 0)=false by simpa using h]at this;exact this
theorem law4ValidG(g:GoodT t o)(ht:t.Fit)(hv:Ja5 t=false):Fn Ga 13 [t.cv] (.bool ((QO t o).2 == 0)):=by
 have hR:=refResolve g ht;rw[<-res_eq g]at hR;by_cases he:(QO t o).2=0
 ·rw[if_pos he]at hR;rw[he];exact JdK t hv _ _ _ hR
 ·rw[if_neg he]at hR;exact JdK t hv _ _ _ hR
theorem law4Tree {l:Lv}(h:Jbi l=some t):Fn Ga 25 [S l] t.cv:=by
 refine Jc c25_ok rfl rfl λN=>?_
 simp only[c25,go_sem];refine Kk (refTreeK h).1 ?_;simp only[go_sem,Tr.cv,Tr.row,splice]
theorem ref4Equal (a b:TL)(ha:a.length<=100000):Fn Ga 39 [txV a,txV b] (.bool (a == b)):=by
 refine fcS c39_ok λN=>?_
 have Ao:(txz a).length=a.length:=XR;have Be:(txz b).length=b.length:=XR;by_cases hl:a.length=b.length
 ·have d0:((a.length:Int) != (b.length:Int))=false:=by simp[hl]
  simp only[c39,go_sem,txV,Ao,Be,d0];refine Js (I:=λj:Nat=>j<=a.length/\a.take j=b.take j) (inv:=λj=>mkT 26 [(0,txV a),(1,txV b),(5,.int .i64 (j:Int))]) (hp:=λ_=>[]) (μ:=λj=>a.length-j) 0 [] ⟨om,rfl⟩ rfl ?_ rfl ?_
  ·simp only[QA,Gd,Gf,ren];refine JI ?_;simp[K6,KZ,txV]
  ·rintro j ⟨hj,hp⟩;by_cases Ab:j<a.length
   ·have d1:=dtT j a.length;have ga:=Jbf (l:=a) (i:=j) Ab;have gb:=Jbf (l:=b) (i:=j) om;have ta:=takeT (l:=a) (i:=j) Ab;have tb:=takeT (l:=b) (i:=j) om;simp only[go_sem,txV,Ao,d1];refine J3 Jr vM ?_;simp only[go_sem,Ao,Be,ga,gb,tyT_eq]
    repeat refine anO ?_
    cases he:(a.getD j .int == b.getD j .int) with
    |true=>
     simp only[go_sem,Gn];refine⟨Ji,j+1,[],⟨om,?_⟩,om,rfl,rfl,?_⟩
     ·rw[ta,tb,hp,beq_iff_eq.1 he]
     ·simp only[ren];refine JI ?_;simp[K6,KZ]
    |false=>
     have Ag:(a == b)=false:=by rw[beq_eq_false_iff_ne]at he|-;exact λe=>he (by rw[e])
     simp only[go_sem,Gq,Ag]
   ·have d1:=dfF j a.length;have he:(a == b)=true:=by rw[beq_iff_eq,<-Gv (show a.length<=j by omega),hp,Gv om]
    simp only[go_sem,txV,Ao,d1,he]
 ·have d0:((a.length:Int) != (b.length:Int))=true:=by simp;omega
  have he:(a == b)=false:=beq_eq_false_iff_ne.2 λe=>hl (by rw[e])
  simp only[c39,go_sem,txV,Ao,Be,d0,he]
theorem JeC (a b:TL)(ha:a.length<=100000):Fn Ga 18 [txV a,txV b] (.bool (a == b)):=by
 refine Jc c18_ok rfl rfl λN=>?_
 simp only[c18,go_sem,txV];refine Kk (ref4Equal a b ha) ?_;simp only[go_sem]
def okB (t:Tr)(o:Lu):Bool:=(QO t o).2 == 0 && (JM t o).bad.isNone
def Ja8 (t:Tr)(o:Lu):CV:=if okB t o=true then .rslc 1 (gz (JM t o).got) none else .nils
section
variable(g:GoodT t o)(ht:t.Fit)
include g ht
omit ht in
theorem Jdc (hE:(QO t o).2=0):(JM t o).got.length=t.nodes.length:=by
 have h:=(Jid g hE t.nodes.length (Gh _)).1.gl;have Ak:(KW 0 t.nodes.length).foldl (doF t o (mnF t o) (t.nodes.length+1)) (FS.start t)=JM t o:=by
  unfold JM KW
  congr 1
  exact Gw (λx _=>Gg x) |>.trans (Gy _)
 rw[<-Ak];exact h
omit g in
theorem infer_ln:Ln (JM t o).got:=by
 have Ak:(KW 0 t.nodes.length).foldl (doF t o (mnF t o) (t.nodes.length+1)) (FS.start t)=JM t o:=by
  unfold JM KW
  congr 1
  exact Gw (λx _=>Gg x) |>.trans (Gy _)
 have Uy:Ln (FS.start t).got:=λj=>by
  unfold FS.start JE;simp only[Gr,List.getElem?_replicate]
  split <;> simp
 have:=JhE ht (o:=o) (S:=FS.start t) Uy (t.nodes.length+1) (KW 0 t.nodes.length);rw[Ak]at this;exact this
theorem Jfu:Fn Ga 15 [t.cv] (.tup [Ja8 t o,.bool (okB t o)]):=by
 have hI:=JaM g ht;have hC:=refCopy t ht;refine YX c15_ok rfl (by unfold Ja8;split <;> rfl) (by simp only[Gc,Gb];decide) λN=>?_
 simp only[c15,go_sem,Tr.cv,Tr.row];refine Kk hC ?_;simp only[go_sem,Tr.cv,Tr.row];refine Kk hI ?_;by_cases hE:(QO t o).2=0
 ·have A7:=Jdc g hE;have bi:(gz (JM t o).got).length=t.nodes.length:=by rw[Yp,A7]
  cases hb:(JM t o).bad with
  |none=>
   have eO:okB t o=true:=by unfold okB;rw[hE,hb];rfl
   have eR:Ja8 t o=.rslc 1 (gz (JM t o).got) none:=by unfold Ja8;rw[if_pos eO]
   have eT:JiG t o=.tup [.agg [.rslc 1 (gz (JM t o).got) none],.int .i64 0,.int .i64 0]:=by unfold JiG;rw[if_neg (λh=>h hE),hb]
   rw[eO,eR,eT];simp only[go_sem,splice];refine KL [0,1,0,0,0,0,1,0,0,1,0,0,0,0,0] Jr vM ?_;simp only[go_sem,bi,Jb,beq_self_eq_true]
  |some i=>
   have e1:((11:Int) == 0)=false:=vk
   have eO:okB t o=false:=by unfold okB;rw[hE,hb];rfl
   have eR:Ja8 t o=.nils:=by unfold Ja8;rw[if_neg (by rw[eO];decide)]
   have eT:JiG t o=.tup [.agg [.nils],.int .i64 (i:Int),.int .i64 11]:=by unfold JiG;rw[if_neg (λh=>h hE),hb]
   rw[eO,eR,eT];simp only[go_sem,splice];refine KL [0,1,0,0,0,0,1,0,0,1,0,0,0,0,0] Jr vM ?_;simp only[go_sem,e1]
 ·have e1:((QO t o).2 == 0)=false:=by simpa using hE
  have eO:okB t o=false:=by unfold okB;rw[e1];rfl
  have eR:Ja8 t o=.nils:=by unfold Ja8;rw[if_neg (by rw[eO];decide)]
  have eT:JiG t o=.tup [.agg [.nils],.int .i64 ((QO t o).1:Int),.int .i64 (QO t o).2]:=by unfold JiG;rw[if_pos hE]
  rw[eO,eR,eT];simp only[go_sem,splice];refine KL [0,1,0,0,0,0,1,0,0,1,0,0,0,0,0] Jr vM ?_;simp only[go_sem,e1]
end
theorem calls_wk {P:Program}{E:Env}{H:Lt}{f:Nat}{args args':Ls}{R:CV->Lt->Prop}(h:CallsC P E f args' H R)(hw:wks args args'):CallsC P E f args H R:=λm w vs hs hv=>h m w vs hs (JaL hw hv)
section
variable(g:GoodT t o)(ht:t.Fit)
include g ht
theorem typSign (hE:(QO t o).2=0)(hb:(JM t o).bad=none){i d:Nat}(hi:i<t.items.length)(hd:t.items.getD i 0=(d:Int)):Fn Ga 22 [t.cv,.int .i64 (i:Int)] (.tup [txV (JaI t d),txV (Jaj t d),.int .i64 0]):=by
 have Ah:=g.many;have Me:=g.items;have hI:=JaM g ht;have eT:JiG t o=.tup [.agg [.rslc 1 (gz (JM t o).got) none],.int .i64 0,.int .i64 0]:=by unfold JiG;rw[if_neg (λh=>h hE),hb]
 rw[eT]at hI;have Ap:(d:Int)∈t.items:=by rw[<-hd,Gr,Gu hi];exact Gx hi
 have Bh:d<t.nodes.length:=by have:=g.itr Ap;omega
 have hk:(nd t d).k=65:=g.defs _ Ap;have Aj:(iz t.items).length=t.items.length:=Jf;have AA:(iz t.items).getD i []=[.int .i64 (d:Int)]:=by rw[JL hi,hd]
 have d0:((i:Int)<0)=False:=Kq;have d1:((t.items.length:Int)<=(i:Int))=False:=Kq;refine YX c22_ok rfl (by simp[CV.closed,Jp,txV]) (by simp only[Gc,Gb];decide) λN=>?_
 simp only[c22,go_sem,Tr.cv,Tr.row];refine Kk hI ?_;simp only[go_sem,Aj,d0,d1];refine Je (id:=0) (z:=2) (els:=[t.row]) rfl rfl ?_;simp only[go_sem,Tr.row,Q3,frz,JV,Gd,Gf,List.getD_cons_zero,Gi,if_true];refine vr_ren [] rfl ?_;simp only[go_sem,QA,ren,JB,Gd,Gf];refine Jdq (H':=[]) rfl ?_;simp only[go_sem];refine Ky (.inl rfl) (calls_wk (newFinder g ht []) ⟨wk.refl _,Ja4 ⟨wk.nils,trivial⟩,trivial⟩) λv K ⟨h1,h2⟩=>?_
 rw[h1,h2];have hS:=fmSign (K:=⟨t,[],upZ t t.nodes.length,fiZ t o t.nodes.length⟩) (Z:=FS.start t) g ht (d:=d) Bh hk;simp only[go_sem,Aj,AA]
 repeat refine anO ?_
 refine KH hS (.inl rfl) rfl rfl rfl (by simp[CV.closed,Jp,txV]) ?_;simp only[go_sem]
end
def tx0:Lv:=[100,101,102,32,102,40,110,58,32,105,110,116,41,32,45,62,32,105,110,116,44,32,98,111,111,108,32,123,32,120,44,32,121,32,61,32,105,102,32,110,32,60,32,48,32,123,32,103,105,118,101,32,48,44,32,116,114,117,101,32,125,32,101,108,115,101,32,123,32,103,105,118,101,32,110,44,32,102,97,108,115,101,32,125,59,32,103,105,118,101,32,120,44,32,121,32,125]
def tt0:Tr:=(Jbi tx0).getD ⟨[],[]⟩
def to0:Lu:=(JA (Ju tt0.nodes) []).getD []
def tx1:Lv:=[100,101,102,32,102,40,41,32,45,62,32,115,116,114,101,97,109,32,105,110,116,32,123,32,115,32,61,32,49,32,58,58,32,115,59,32,103,105,118,101,32,115,32,125]
def tt1:Tr:=(Jbi tx1).getD ⟨[],[]⟩
def to1:Lu:=(JA (Ju tt1.nodes) []).getD []
def tx2:Lv:=[100,101,102,32,102,40,41,32,45,62,32,115,116,114,101,97,109,32,105,110,116,32,123,32,115,58,32,115,116,114,101,97,109,32,105,110,116,32,61,32,49,32,58,58,32,115,59,32,103,105,118,101,32,115,32,125]
def tt2:Tr:=(Jbi tx2).getD ⟨[],[]⟩
def to2:Lu:=(JA (Ju tt2.nodes) []).getD []
def tx3:Lv:=[100,101,102,32,102,40,41,32,45,62,32,105,110,116,32,123,32,103,105,118,101,32,116,114,117,101,32,125]
def tt3:Tr:=(Jbi tx3).getD ⟨[],[]⟩
def to3:Lu:=(JA (Ju tt3.nodes) []).getD []
def tx4:Lv:=[100,101,102,32,102,40,41,32,45,62,32,105,110,116,32,123,32,97,32,61,32,97,114,114,97,121,40,50,44,32,50,41,32,123,32,91,48,93,32,61,32,49,59,32,91,49,93,32,61,32,116,114,117,101,32,125,59,32,103,105,118,101,32,97,91,48,93,32,125]
def tt4:Tr:=(Jbi tx4).getD ⟨[],[]⟩
def to4:Lu:=(JA (Ju tt4.nodes) []).getD []
theorem tf0:((Jbi tx0).isSome && chk tt0 == 0 && (JA (Ju tt0.nodes) []).isSome && (QO tt0 to0).2 == 0)=true:=vM
theorem tb0:(JM tt0 to0).bad=none:=vM
theorem tf1:((Jbi tx1).isSome && chk tt1 == 0 && (JA (Ju tt1.nodes) []).isSome && (QO tt1 to1).2 == 0)=true:=vM
theorem tb1:(JM tt1 to1).bad=some 4:=vM
theorem tf2:((Jbi tx2).isSome && chk tt2 == 0 && (JA (Ju tt2.nodes) []).isSome && (QO tt2 to2).2 == 0)=true:=vM
theorem tb2:(JM tt2 to2).bad=none:=vM
theorem tf3:((Jbi tx3).isSome && chk tt3 == 0 && (JA (Ju tt3.nodes) []).isSome && (QO tt3 to3).2 == 0)=true:=vM
theorem tb3:(JM tt3 to3).bad=some 3:=vM
theorem tf4:((Jbi tx4).isSome && chk tt4 == 0 && (JA (Ju tt4.nodes) []).isSome && (QO tt4 to4).2 == 0)=true:=vM
theorem tb4:(JM tt4 to4).bad=some 9:=vM
theorem tg0:(JE (JM tt0 to0).got 15 == [.int,.bool] && JE (JM tt0 to0).got 4 == [.int] && JE (JM tt0 to0).got 5 == [.bool] && decide (15<tt0.nodes.length) && decide (0<tt0.items.length) && JaI tt0 (tt0.items.getD 0 0).toNat == [.int] && Jaj tt0 (tt0.items.getD 0 0).toNat == [.int,.bool])=true:=vM
theorem kTyp {x:Lv}(ht:t=(Jbi x).getD ⟨[],[]⟩)(ho:o=(JA (Ju t.nodes) []).getD [])(h:((Jbi x).isSome && chk t == 0 && (JA (Ju t.nodes) []).isSome && (QO t o).2 == 0)=true) :
  Fn Ga 25 [S x] t.cv/\t.Fit/\GoodT t o/\(QO t o).2=0:=by
 simp only[Gp,beq_iff_eq]at h;obtain⟨⟨⟨h1,h2⟩,h3⟩,h4⟩:=h;have hk:Jbi x=some t:=by
  cases hx:Jbi x with
  |none=>rw[hx]at h1;cases h1
  |some y=>rw[ht,hx];rfl
 have Fq:=okT_fit (refTreeK hk).2;have hg:GoodT t o:=by obtain⟨o',g⟩:=(JeJ t).1 h2;have hh:=g.ord.h;rw[hh]at ho;rw[ho];exact g
 exact⟨law4Tree hk,Fq,hg,h4⟩
def spT:TyX:=.arr (.str .int)
theorem typSplitK:Fn Ga 26 [S [91,115,116,114,101,97,109,32,105,110,116,93]] (.tup [S [91,93],S [115,116,114,101,97,109,32,105,110,116],.int .i64 0]):=by
 have hP:Fn Ga 49 [S [91,115,116,114,101,97,109,32,105,110,116,93]] (.int .i64 3):=Jhu spT vk;have hI:Fn Ga 50 [S [91,115,116,114,101,97,109,32,105,110,116,93]] (.tup [S [91,93],S [115,116,114,101,97,109,32,105,110,116],.bool true]):=Jer (some spT) vk;refine fcS c26_ok λN=>?_
 simp only[c26,go_sem];refine Kk hP ?_;simp only[go_sem,show ((3:Int) == 0)=false from rfl,show ((20:Int)<3)=False from eq_false vk];refine Kk hI ?_;simp only[go_sem]
theorem typDeepK:Fn Ga 27 [S [91,115,116,114,101,97,109,32,105,110,116,93]] (.tup [.int .i64 3,.int .i64 0]):=by
 have hP:Fn Ga 49 [S [91,115,116,114,101,97,109,32,105,110,116,93]] (.int .i64 3):=Jhu spT vk;refine fcS c27_ok λN=>?_
 simp only[c27,go_sem];refine Kk hP ?_;simp only[go_sem,show ((3:Int) == 0)=false from rfl,show ((20:Int)<3)=False from eq_false vk]
theorem fknown4:Fn Ga 7 [] (.bool true):=by
 obtain⟨a0,f0,g0,e0⟩:=kTyp (x:=tx0) (t:=tt0) (o:=to0) rfl rfl tf0;obtain⟨a1,f1,g1,e1⟩:=kTyp (x:=tx1) (t:=tt1) (o:=to1) rfl rfl tf1;obtain⟨a2,f2,g2,e2⟩:=kTyp (x:=tx2) (t:=tt2) (o:=to2) rfl rfl tf2;obtain⟨a3,f3,g3,e3⟩:=kTyp (x:=tx3) (t:=tt3) (o:=to3) rfl rfl tf3;obtain⟨a4,f4,g4,e4⟩:=kTyp (x:=tx4) (t:=tt4) (o:=to4) rfl rfl tf4;have Aq:∀{t:Tr} {o:Lu},(QO t o).2=0->(JM t o).bad=none->JiG t o=.tup [.agg [.rslc 1 (gz (JM t o).got) none],.int .i64 0,.int .i64 0]:=λhE hb=>by unfold JiG;rw[if_neg (λh=>h hE),hb]
 have Ce:∀{t:Tr} {o:Lu} {i:Nat},(QO t o).2=0->(JM t o).bad=some i->JiG t o=.tup [.agg [.nils],.int .i64 (i:Int),.int .i64 11]:=λhE hb=>by unfold JiG;rw[if_neg (λh=>h hE),hb]
 have r0:=JaM g0 f0;have r1:=JaM g1 f1;have r2:=JaM g2 f2;have r3:=JaM g3 f3;have r4:=JaM g4 f4;rw[Aq e0 tb0]at r0;rw[Ce e1 tb1]at r1;rw[Aq e2 tb2]at r2;rw[Ce e3 tb3]at r3;rw[Ce e4 tb4]at r4;have hN:=tg0;simp only[Gp,beq_iff_eq,decide_eq_true_eq]at hN;obtain⟨⟨⟨⟨⟨⟨n1,n2⟩,n3⟩,n4⟩,n5⟩,n6⟩,n7⟩:=hN;have hS:=typSign g0 f0 e0 tb0 (i:=0) (d:=(tt0.items.getD 0 0).toNat) n5 (by
  have Ap:tt0.items.getD 0 0∈tt0.items:=by rw[Gr,Gu n5];exact Gx n5
  have:=g0.itr Ap;omega)
 rw[n6,n7]at hS;have A7:=Jdc g0 e0;have FK:(gz (JM tt0 to0).got).length=tt0.nodes.length:=by rw[Yp,A7]
 have SL:=Xw (l:=(JM tt0 to0).got) (i:=15) om;have eQ:=Xw (l:=(JM tt0 to0).got) (i:=4) om;have eP:=Xw (l:=(JM tt0 to0).got) (i:=5) om;rw[n1]at SL;rw[n2]at eQ;rw[n3]at eP;refine YX c7_ok rfl rfl (by simp only[Gb];decide) λN=>?_
 simp only[c7,go_sem];refine Kk a0 ?_;simp only[go_sem,Tr.cv,Tr.row,splice];refine Kk r0 ?_;simp only[go_sem,splice];refine Kk hS ?_;simp only[go_sem];refine Kk a1 ?_;simp only[go_sem,Tr.cv,Tr.row];refine Kk r1 ?_;simp only[go_sem,splice];refine Kk a2 ?_;simp only[go_sem,Tr.cv,Tr.row];refine Kk r2 ?_;simp only[go_sem,splice];refine Kk a3 ?_;simp only[go_sem,Tr.cv,Tr.row];refine Kk r3 ?_;simp only[go_sem,splice];refine Kk a4 ?_;simp only[go_sem,Tr.cv,Tr.row];refine Kk r4 ?_;simp only[go_sem,splice];refine Kk typSplitK ?_;simp only[go_sem];refine Kk typDeepK ?_;simp only[go_sem,FK,Jb,SL];refine anO ?_;have s1:Fn Ga 18 [txV [.int,.bool],txV [.int,.bool]] (.bool true):=JeC [.int,.bool] [.int,.bool] vk;have s2:Fn Ga 18 [txV [.int],txV [.int]] (.bool true):=JeC [.int] [.int] vk;have s3:Fn Ga 18 [txV [.bool],txV [.bool]] (.bool true):=JeC [.bool] [.bool] vk;refine Je (id:=6) (z:=1) (els:=[[S [105,110,116]],[S [98,111,111,108]]]) rfl rfl ?_;simp only[go_sem,Q3,JV,frz,Kv,Ki,Gd,Gf,Gm,if_true,if_false,Gg,Gi,Gj,Gl,Gc,Gb,Gh,GA];refine Kk s1 ?_;simp only[go_sem,FK,eQ];refine anO ?_;refine Je (id:=7) (z:=1) (els:=[[S [105,110,116]]]) rfl rfl ?_;simp only[go_sem,Q3,JV,frz,Kv,Ki,JZ,Gd,Gf,Gm,if_true,if_false,Gg,Gi,Gj,Gl,Gc,Gb,Gh];refine Kt (.inr ⟨116,true,rfl,rfl⟩) s2 ?_;simp only[go_sem,FK,eP];refine anO ?_;refine Je (id:=8) (z:=1) (els:=[[S [98,111,111,108]]]) rfl rfl ?_;simp only[go_sem,Q3,JV,frz,Kv,Ki,JZ,Gd,Gf,Gm,if_true,if_false,Gg,Gi,Gj,Gl,Gc,Gb,Gh];refine Kt (.inr ⟨124,true,rfl,rfl⟩) s3 ?_;simp only[go_sem];refine Je (id:=9) (z:=1) (els:=[[S [105,110,116]]]) rfl rfl ?_;simp only[go_sem,Q3,JV,frz,Kv,Ki,JZ,Gd,Gf,Gm,if_true,if_false,Gg,Gi,Gj,Gl,Gc,Gb,Gh];refine Kt (.inr ⟨132,true,rfl,rfl⟩) s2 ?_;simp only[go_sem];refine Je (id:=10) (z:=1) (els:=[[S [105,110,116]],[S [98,111,111,108]]]) rfl rfl ?_;simp only[go_sem,Q3,JV,frz,Kv,Ki,JZ,Gd,Gf,Gm,if_true,if_false,Gg,Gi,Gj,Gl,Gc,Gb,Gh,GA];refine Kt (.inr ⟨137,true,rfl,rfl⟩) s1 ?_;simp only[go_sem,show (((4:Nat):Int) == 4)=true from rfl,show (((3:Nat):Int) == 3)=true from rfl,show (((9:Nat):Int) == 9)=true from rfl,show ((3:Int) == 3)=true from rfl]
def xW (z:Nat)(els:LM):CV:=match els with
 |[]=>.nils
 |e::l=>.rslc z (e::l) none
theorem wk_xW {z:Nat}{els:LM}:wk (xW z els) (.rslc z els none):=by
 cases els with
 |nil=>exact wk.nils
 |cons e l=>exact wk.refl _
theorem xW_ne {z:Nat}{els:LM}(h:els≠[]):xW z els=.rslc z els none:=by
 cases els with
 |nil=>exact absurd rfl h
 |cons e l=>rfl
section
variable(g:GoodT t o)(ht:t.Fit)
include g ht
theorem back_fit:∀k,k<=t.items.length->(QZ t o k).Fit
 |0,_=>⟨by simp[QZ,noT],by simp[QZ,noT],λx hx=>by simp[QZ,noT]at hx,λx hx=>by simp[QZ,noT]at hx⟩
 |k+1,hk=>by obtain⟨p,gp⟩:=(JeL g k om).good;obtain⟨q,gq⟩:=JiA g (i:=t.items.length-1-k) om;rw[QZ];exact joinT_fit (back_fit k om) (cutT_fit ht g om) gp gq
end
theorem shfNot (t:Tr)(B:CV)(hB:B.closed=true)(bV:Fn Ga 13 [t.cv] (.bool false)):Fn Ga 4 [t.cv,B] (.bool true):=by
 refine YX c4_ok (by simp[Jp,Tr.cv,CV.closed,Tr.row,hB]) rfl (by simp only[Gc,Gb];decide) λN0=>?_
 simp only[c4,go_sem,Tr.cv,Tr.row];refine Kk bV ?_;simp only[go_sem,Gq];refine Kk fknown4 ?_;simp only[go_sem]
section
variable(g:GoodT t o)(ht:t.Fit){b:Lx}(OL:∀x∈b,x<256)(Be:b.length<=9223372036854775807)
include g ht OL Be
theorem shfGood (hE:(QO t o).2=0)(bV:Fn Ga 13 [t.cv] (.bool true)):Fn Ga 4 [t.cv,.rslc 1 (by8 b) none] (.bool true):=by
 have Ah:=g.many;have Me:=g.items;have hS:=lawShuffle g ht OL Be;have gu:=Jbn g (b:=b);have iA:=shuf_fit g (b:=b) ht;have hU:=shuf_ok g (b:=b) hE;have Oi:=Jet g (b:=b);have hg:=λx hx=>QI g (b:=b) (x:=x) hx
 have CK:=(Je0 g (b:=b)).1.tl;have Aj:(iz t.items).length=t.items.length:=Jf;obtain⟨st1,st2⟩:=shuf_typed g (b:=b) hE;obtain⟨q,gq,hQ,U4⟩:=back_typed g hE;have hT:=Jfu g ht;have fw:=Jfu gu iA;have ER:=Jdc g hE;have M6:=Jdc gu hU;have O8:okB (KD t b) (shT t b).1.ps=okB t o:=by
  unfold okB;rw[hE,hU]
  cases h1:(JM t o).bad <;> cases h2:(JM (KD t b) (shT t b).1.ps).bad
  ·rfl
  ·rw[st1.1 h1]at h2;cases h2
  ·rw[st1.2 h2]at h1;cases h1
  ·rfl
 have bS:okB (QZ t o t.items.length) q=okB t o:=by
  unfold okB;rw[hE,hQ]
  cases h1:(JM t o).bad <;> cases h2:(JM (QZ t o t.items.length) q).bad
  ·rfl
  ·rw[U4.1 h1]at h2;cases h2
  ·rw[U4.2 h2]at h1;cases h1
  ·rfl
 rw[O8]at fw;have U5:=back_fit g ht;have PD:=JeL g;have bY:=Jfu gq (U5 _ (Gh _));rw[bS]at bY;have DF:QZ t o 0=noT:=rfl;have bQ:∀k,QZ t o (k+1)=QF (QZ t o k) (JdP o t (t.items.length-1-k)):=λk=>rfl
 have Fv:=λk hk=>(PD k hk).good
 clear PD U4;have BH:∀j,(JE (JM t o).got j).length<=30:=infer_ln ht;generalize QZ t o=bt at *;generalize lH:Ja8 (bt t.items.length) q=RB at bY;have fC:okB t o=true->Ja8 t o=.rslc 1 (gz (JM t o).got) none:=λh=>by unfold Ja8;rw[if_pos h]
 have fB:okB t o=true->Ja8 (KD t b) (shT t b).1.ps=.rslc 1 (gz (JM (KD t b) (shT t b).1.ps).got) none:=λh=>by unfold Ja8;rw[O8,if_pos h]
 have cB:okB t o=false->Ja8 t o=.nils/\Ja8 (KD t b) (shT t b).1.ps=.nils:=λh=>by unfold Ja8;rw[O8,if_neg (by rw[h];decide),if_neg (by rw[h];decide)];exact⟨rfl,rfl⟩
 generalize jY:Ja8 t o=RT at *;generalize jX:Ja8 (KD t b) (shT t b).1.ps=RU at *;have PK:RT.closed=true:=by
  cases hO:okB t o with
  |true=>rw[fC hO];rfl
  |false=>rw[(cB hO).1];rfl
 have PI:RU.closed=true:=by
  cases hO:okB t o with
  |true=>rw[fB hO];rfl
  |false=>rw[(cB hO).2];rfl
 have ku:okB t o=true->(JM t o).bad=none:=λh=>by unfold okB at h;rw[Gp]at h;exact Option.isNone_iff_eq_none.1 h.2
 generalize JM t o=It at *;generalize JM (KD t b) (shT t b).1.ps=Iu at *;generalize (shT t b).1.ps=ps at *;generalize lF:KD t b=u at *;generalize KI t b=ψ at *;generalize (shT t b).1.tos=tos at *;have av:(iz tos).length=t.nodes.length:=by rw[Jf,CK]
 refine fcS c4_ok λN0=>?_
 simp only[c4,go_sem,Tr.cv,Tr.row];refine Kk bV ?_;simp only[go_sem,Gn,Gc,Gb];refine Kk hS ?_;simp only[go_sem,Tr.cv,Tr.row,splice,Gc,Gb];refine Kk hT ?_;simp only[go_sem,Gc,Gb];refine Kk fw ?_;simp only[go_sem,splice,Gc,Gb,Aj];refine⟨Ji,?_⟩;refine Je (id:=0) (z:=2) (els:=[t.row]) rfl rfl ?_;simp only[go_sem,Q3,Gd,Gf,Kv,frz,Qj,JV,Tr.row];refine Js (I:=λk:Nat=>k<=t.items.length) (inv:=λk=>mkT 86 [(2,.rptr t.row),(6,.rslc 1 (iz tos) none),(7,RT),(8,.bool (okB t o)),(9,RU),(10,.bool (okB t o)),(11,.ptr 0 0 0),(12,.int .i64 ((t.items.length:Int)-1-(k:Int)))]) (hp:=λk=>[.arr 2 [[xW 5 (ndz (bt k).nodes),xW 1 (iz (bt k).items)]]]) (μ:=λk=>t.items.length-k) 0 [2] om rfl ?_ ?_ ?_
 ·simp only[QA,Gd,Gf,ren,Jm,QU _ PK,QU _ PI,Xm _ PK,Xm _ PI];refine JI ?_;simp[K6,KZ,Tr.row]
 ·rw[DF];rfl
 intro k hk;have dP:wk (.agg [xW 5 (ndz (bt k).nodes),xW 1 (iz (bt k).items)]) (bt k).cv:=Ja4 ⟨wk_xW,wk_xW,trivial⟩;by_cases Ab:k<t.items.length
 ·have d2:((0:Int)<=(t.items.length:Int)-1-(k:Int))=True:=KQ;have EA:((t.items.length:Int)-1-(k:Int))=((t.items.length-1-k:Nat):Int):=om
  obtain⟨pi,gi⟩:=Fv k hk;obtain⟨pc,gc⟩:=JiA g (i:=t.items.length-1-k) om;have gG:=refCut t ht g (t.items.length-1-k) om;rw[<-EA]at gG;have Pt:=cutT_fit ht g (i:=t.items.length-1-k) om;have fZ:Fn Ga 16 [.agg [xW 5 (ndz (bt k).nodes),xW 1 (iz (bt k).items)],(JdP o t (t.items.length-1-k)).cv] (QF (bt k) (JdP o t (t.items.length-1-k))).cv:=(refGlue (bt k) (JdP o t (t.items.length-1-k)) (U5 k hk) Pt gi gc).args ⟨dP,wk.refl _,trivial⟩;have Ar:0<(JdP o t (t.items.length-1-k)).nodes.length:=by have hm:∃x,x∈(JdP o t (t.items.length-1-k)).items:=⟨_,by unfold JdP;exact List.mem_cons_self ..⟩;obtain⟨x,hx⟩:=hm;have:=gc.itr hx;omega
  have Eh:0<(JdP o t (t.items.length-1-k)).items.length:=by unfold JdP;simp
  have UQ:=bQ k;rw[<-UQ]at fZ;have Ph:ndz (bt (k+1)).nodes≠[]:=by intro h;have:=congrArg Gz h;rw[Jb,UQ,YT,Gb]at this;omega
  have jh:iz (bt (k+1)).items≠[]:=by intro h;have:=congrArg Gz h;rw[Jf,UQ,Gb]at this;simp only[QF,List.length_append,List.length_map]at this;omega
  clear UQ;generalize JdP o t (t.items.length-1-k)=C at *;simp only[go_sem,d2,Tr.row];refine JcI [1,0,0,0,0,2] Jr vM ?_;simp only[go_sem,Gc,Gb]
  repeat refine And.intro (by first|omega|exact⟨om,om⟩|exact Ji) ?_
  refine vx_f gG ?_;simp only[go_sem,Tr.cv,Tr.row];refine vx_f fZ ?_;simp only[go_sem,Tr.cv,Tr.row,splice,Gc,Gb]
  repeat refine And.intro (by first|omega|exact⟨om,om⟩|exact Ji) ?_
  refine⟨k+1,[0],om,om,rfl,?_,?_⟩
  ·rw[xW_ne Ph,xW_ne jh];rfl
  ·simp only[ren,Jm,Xm _ PK,Xm _ PI];refine JI ?_;simp[K6,KZ];omega
 ·have d2:((0:Int)<=(t.items.length:Int)-1-(k:Int))=False:=Kq;obtain rfl:k=t.items.length:=om
  have bX:Fn Ga 15 [.agg [xW 5 (ndz (bt t.items.length).nodes),xW 1 (iz (bt t.items.length).items)]] _:=bY.args ⟨dP,trivial⟩;simp only[go_sem,d2,Tr.row,Gc,Gb];refine Kk bX ?_;have bne0:∀x:Bool,(x != x)=false:=λx=>by cases x <;> rfl
  simp only[go_sem]
  cases hO:okB t o with
  |false=>
   obtain⟨r1,r2⟩:=cB hO;rw[r1];refine Js (I:=λ_:Unit=>True) (inv:=λ_=>mkT 86 [(7,.nils),(8,.bool false),(15,.int .i64 0)]) (hp:=λ_=>[]) (μ:=λ_=>0) () [] trivial rfl ?_ rfl ?_
   ·simp only[QA,Gd,Gf,ren,Jm];refine JI ?_;simp[K6,KZ]
   ·intro _ _;simp only[go_sem,show ((0:Int)<0)=False from eq_false vk];refine Kk fknown4 ?_;simp only[go_sem]
  |true=>
   have r1:=fC hO;have r2:=fB hO;have hb:It.bad=none:=ku hO;have heq:=st2 hb;have UF:(gz It.got).length=t.nodes.length:=by rw[Yp,ER]
   have kS:(gz Iu.got).length=t.nodes.length:=by rw[Yp,M6,Oi]
   rw[r1,r2];refine Js (I:=λi:Nat=>i<=t.nodes.length) (inv:=λi=>mkT 86 [(6,.rslc 1 (iz tos) none),(7,.rslc 1 (gz It.got) none),(8,.bool true),(9,.rslc 1 (gz Iu.got) none),(15,.int .i64 (i:Int))]) (hp:=λ_=>[]) (μ:=λi=>t.nodes.length-i) 0 [] om rfl ?_ rfl ?_
   ·simp only[QA,Gd,Gf,ren,Jm];refine JI ?_;simp[K6,KZ]
   ·intro i hi;by_cases Ab:i<t.nodes.length
    ·have d3:=dtT i t.nodes.length;have AA:=hg i Ab;have PX:(iz tos).getD i []=[.int .i64 (ψ i:Int)]:=by rw[JL om,AA.1]
     have hψ:=AA.2.1;have g1:=Xw (l:=It.got) (i:=i) om;have g2:=Xw (l:=Iu.got) (i:=ψ i) om;have hS:=JeC (JE It.got i) (JE Iu.got (ψ i)) (by have:=BH i;omega);rw[show (JE It.got i == JE Iu.got (ψ i))=true by rw[heq i Ab];exact beq_self_eq_true _]at hS;simp only[go_sem,UF,d3];refine JcI [0,0,0,0,0,0,0,0,0,0,0,0,0] Jr vM ?_;simp only[go_sem,UF,kS,av,PX,g1,g2]
     repeat refine And.intro (by first|omega|exact⟨om,om⟩|exact Ji) ?_
     refine vx_f hS ?_;simp only[go_sem,Gn];refine⟨Ji,i+1,[],om,om,rfl,rfl,?_⟩;simp only[ren];refine JI ?_;simp[K6,KZ]
    ·have d3:=dfF i t.nodes.length;simp only[go_sem,UF,d3];refine Kk fknown4 ?_;simp only[go_sem]
end
theorem shfAll (t:Tr)(ty:t.Ty)(b:Lx)(hb:(∀x∈b,x<256)/\b.length<=9223372036854775807):Fn Ga 4 [t.cv,.rslc 1 (by8 b) none] (.bool true):=by
 cases hv:Ja5 t with
 |true=>exact shfNot t _ rfl (law4ValidV t hv)
 |false=>
  have ht:=ty.fit3 hv;by_cases h:chk t=0
  ·obtain⟨o,g⟩:=(JeJ t).1 h;have hV:=law4ValidG g ht hv;by_cases hE:(QO t o).2=0
   ·rw[show ((QO t o).2 == 0)=true by simp[hE]]at hV;exact shfGood g ht hb.1 hb.2 hE hV
   ·rw[show ((QO t o).2 == 0)=false by simpa using hE]at hV;exact shfNot t _ rfl hV
  ·exact shfNot t _ rfl (law4ValidE t ht hv h)
end Go.Cm
end
end
