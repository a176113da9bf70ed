/-
  A part of the proof. Conditions: none.
-/
import Derived.Test.YtdnnimemociklaaGreatDoorVT3
import Derived.Test.YtdnnimemociklaaGreatDoorVP13
set_option linter.unusedSimpArgs false
set_option linter.unusedVariables false
open Go.Proofs.Tryz renaming prog->Ga
open List renaming length_nil->Gd,map_cons->Gb,length_cons->Gg,take_succ_cons->Gj,map_nil->Gc,drop_zero->Gh,getD_eq_getElem?_getD->Gn,take_zero->Gl,getElem?_eq_getElem->Gp,take_of_length_le->Gq,map_congr_left->Gr,getElem_mem->Gs,map_id->Gt
open Nat renaming zero_add->Gf,reduceEqDiff->Gm,le_refl->Gi,reduceAdd->Gu
noncomputable section
section
set_option maxRecDepth 100000
set_option maxHeartbeats 4000000
open Go.Proofs
namespace Go.Cm
variable {t:Tr}{o:Lu}
theorem lawVast4 (t:Tr):Fn Ga 6 [t.cv] (.bool (Jdp t)):=by
 refine Jc c6_ok rfl rfl λN=>?_
 have Af:(iz t.items).length=t.items.length:=Jf
 cases hH:JfE t with
 |true=>
  have hv:Jdp t=true:=by unfold Jdp;rw[hH];rfl
  rw[hv];unfold JfE at hH;have e1:((160:Int)<(t.nodes.length:Int))=(160<t.nodes.length):=propext om;have e2:((t.nodes.length:Int)<=700)=(t.nodes.length<=700):=propext om;have e3:((1400:Int)<(t.nodes.length:Int))=(1400<t.nodes.length):=propext om;have e4:((40:Int)<(t.items.length:Int))=(40<t.items.length):=propext om;by_cases g1:160<t.nodes.length <;> by_cases g2:t.nodes.length<=700 <;> by_cases g3:1400<t.nodes.length <;> by_cases g4:40<t.items.length <;> first|(exfalso;omega)|(exfalso;simp[g1,g2,g3,g4]at hH;done)|(simp only[c6,go_sem,Tr.cv,Tr.row,Ja,Af,e1,e2,e3,e4,g1,g2,g3,g4])
 |false=>
  unfold JfE at hH;simp only[Bool.or_eq_false_iff,Bool.and_eq_false_iff,decide_eq_false_iff_not]at hH;obtain⟨⟨h1,h2⟩,h3⟩:=hH;have e3:((1400:Int)<(t.nodes.length:Int))=False:=J7;have e4:((40:Int)<(t.items.length:Int))=False:=J7;have hv:Jdp t=t.nodes.any JcU:=by
   unfold Jdp JfE;have:(decide (160<t.nodes.length) && decide (t.nodes.length<=700))=false:=by simp only[Bool.and_eq_false_iff,decide_eq_false_iff_not];exact h1
   rw[this,decide_eq_false h2,decide_eq_false h3];rfl
  rw[hv];by_cases g1:160<t.nodes.length
  case' pos=>have e1:((160:Int)<(t.nodes.length:Int))=True:=J5;have e2:((t.nodes.length:Int)<=700)=False:=J7;simp only[c6,go_sem,Tr.cv,Tr.row,Ja,Af,e1,e2,e3,e4]
  case' neg=>have e1:((160:Int)<(t.nodes.length:Int))=False:=J7;simp only[c6,go_sem,Tr.cv,Tr.row,Ja,Af,e1,e3,e4]
  all_goals (
   refine Je (id:=0) (z:=2) (els:=[t.row]) rfl rfl ?_;simp only[go_sem,JM,KA,frz,Kn,Tr.row];refine JL (I:=λi:Nat=>i<=t.nodes.length/\t.nodes.any JcU=(t.nodes.drop i).any JcU) (inv:=λi=>gp [(1,.rptr t.row),(1,.int .i64 (i:Int))] 47) (hp:=λ_=>[.dead]) (μ:=λi=>t.nodes.length-i) 0 ⟨om,rfl⟩ ?_ rfl ?_
   ·simp[forget,gp,Tr.row]
   ·rintro i ⟨hi,Aa⟩;by_cases Ab:i<t.nodes.length
    ·have d1:=dtT i t.nodes.length;have hg:=QC Ab;rw[List.drop_eq_getElem_cons Ab,List.any_cons,<-rowg Ab]at Aa;generalize t.nodes.getD i default=x at hg Aa;have Bn:(iz x.kids).length=x.kids.length:=Jf;by_cases g5:30<x.kids.length
     ·have e5:((30:Int)<(x.kids.length:Int))=True:=J5;rw[show JcU x=true by simp[JcU,g5],Bool.true_or]at Aa;simp only[go_sem,Tr.row,Ja,d1,hg,Nd.cv,Bn,e5,Aa];omega
     ·have e5:((30:Int)<(x.kids.length:Int))=False:=J7;by_cases g6:60<x.text.length
      ·have e6:((60:Int)<(x.text.length:Int))=True:=J5;rw[show JcU x=true by simp[JcU,g6],Bool.true_or]at Aa;simp only[go_sem,Tr.row,Ja,d1,hg,Nd.cv,Bn,e5,e6,Aa];omega
      ·have e6:((60:Int)<(x.text.length:Int))=False:=J7;rw[show JcU x=false by simp[JcU,g5,g6],Bool.false_or]at Aa;simp only[go_sem,Tr.row,Ja,d1,hg,Nd.cv,Bn,e5,e6];refine⟨om,om,Jg,i+1,⟨om,Aa⟩,om,?_⟩;simp[forget]
    ·have d1:=dfF i t.nodes.length;rw[List.drop_eq_nil_of_le om]at Aa;simp only[go_sem,Tr.row,Ja,d1,Aa];simp
   )
theorem law4Tree {l:Lv}(h:JaV l=some t):Fn Ga 25 [S l] t.cv:=by
 refine Jc c25_ok rfl rfl λN=>?_
 simp only[c25,go_sem];refine J3 (refTreeK h).1 ?_;simp only[go_sem,Tr.cv,Tr.row,splice]
theorem Jcm (a b:TL)(ha:a.length<=100000):Fn Ga 39 [txV a,txV b] (.bool (a == b)):=by
 refine fcS c39_ok λN=>?_
 have Am:(txz a).length=a.length:=K8;have Br:(txz b).length=b.length:=K8;by_cases hl:a.length=b.length
 ·have d0:((a.length:Int) != (b.length:Int))=false:=by simp[hl]
  simp only[c39,go_sem,txV,Am,Br,d0];refine Jr (I:=λj:Nat=>j<=a.length/\a.take j=b.take j) (inv:=λj=>mkT 26 [(0,txV a),(1,txV b),(5,.int .i64 (j:Int))]) (hp:=λ_=>[]) (μ:=λj=>a.length-j) 0 [] ⟨om,rfl⟩ rfl ?_ rfl ?_
  ·simp only[JR,Gb,Gc,ren];refine Js ?_;simp[Kh,Ko,txV]
  ·rintro j ⟨hj,hp⟩;by_cases Ab:j<a.length
   ·have d1:=dtT j a.length;have ga:=Yi (l:=a) (i:=j) Ab;have gb:=Yi (l:=b) (i:=j) om;have ta:=JgP (l:=a) (i:=j) Ab;have tb:=JgP (l:=b) (i:=j) om;simp only[go_sem,txV,Am,d1];refine JP Jm vM ?_;simp only[go_sem,Am,Br,ga,gb,JfF]
    repeat refine anO ?_
    cases he:(a.getD j .int == b.getD j .int) with
    |true=>
     simp only[go_sem,Bool.not_true];refine⟨Jg,j+1,[],⟨om,?_⟩,om,rfl,rfl,?_⟩
     ·rw[ta,tb,hp,beq_iff_eq.1 he]
     ·simp only[ren];refine Js ?_;simp[Kh,Ko]
    |false=>
     have Ai:(a == b)=false:=by rw[beq_eq_false_iff_ne]at he|-;exact λe=>he (by rw[e])
     simp only[go_sem,Bool.not_false,Ai]
   ·have d1:=dfF j a.length;have he:(a == b)=true:=by rw[beq_iff_eq,<-Gq (show a.length<=j by omega),hp,Gq om]
    simp only[go_sem,txV,Am,d1,he]
 ·have d0:((a.length:Int) != (b.length:Int))=true:=by simp;omega
  have he:(a == b)=false:=beq_eq_false_iff_ne.2 λe=>hl (by rw[e])
  simp only[c39,go_sem,txV,Am,Br,d0,he]
theorem JdY (a b:TL)(ha:a.length<=100000):Fn Ga 18 [txV a,txV b] (.bool (a == b)):=by
 refine Jc c18_ok rfl rfl λN=>?_
 simp only[c18,go_sem,txV];refine J3 (Jcm a b ha) ?_;simp only[go_sem]
theorem typInferE (t:Tr)(ht:t.Fit)(h:chk t≠0):Fn Ga 9 [t.cv] (.tup [.agg [.nils],.int .i64 0,.int .i64 (chk t)]):=by
 have hR:=nResolveE t ht h;have d1:(chk t != 0)=true:=by simpa using h
 refine fcS c9_ok λN=>?_
 simp only[c9,go_sem,Tr.cv,Tr.row];refine J3 hR ?_;simp only[go_sem,d1]
section
variable(g:GoodT t o)(ht:t.Fit)
include g ht
omit ht in
theorem infer_len (hE:(YP t o).2=0):(Kw t o).got.length=t.nodes.length:=by
 have h:=(Jhp g hE t.nodes.length (Gi _)).1.gl;have Aj:(KC 0 t.nodes.length).foldl (doF t o (mnF t o) (t.nodes.length+1)) (FS.start t)=Kw t o:=by
  unfold Kw KC
  congr 1
  exact Gr (λx _=>Gf x) |>.trans (Gt _)
 rw[<-Aj];exact h
omit g in
theorem infer_ln:Ln (Kw t o).got:=by
 have Aj:(KC 0 t.nodes.length).foldl (doF t o (mnF t o) (t.nodes.length+1)) (FS.start t)=Kw t o:=by
  unfold Kw KC
  congr 1
  exact Gr (λx _=>Gf x) |>.trans (Gt _)
 have I8:Ln (FS.start t).got:=λj=>by
  unfold FS.start Jt;simp only[Gn,List.getElem?_replicate]
  split <;> simp
 have:=JbV ht (o:=o) (S:=FS.start t) I8 (t.nodes.length+1) (KC 0 t.nodes.length);rw[Aj]at this;exact this
end
theorem calls_wk {P:Program}{E:Env}{H:Lt}{f:Nat}{args args':Ls}{R:CV->Lt->Prop}(h:CallsC P E f args' H R)(hw:wks args args'):CallsC P E f args H R:=λm w vs hs hv=>h m w vs hs (Jap hw hv)
section
variable(g:GoodT t o)(ht:t.Fit)
include g ht
theorem typSign (hE:(YP t o).2=0)(hb:(Kw t o).bad=none){i d:Nat}(hi:i<t.items.length)(hd:t.items.getD i 0=(d:Int)):Fn Ga 22 [t.cv,.int .i64 (i:Int)] (.tup [txV (Yj t d),txV (XU t d),.int .i64 0]):=by
 have Ag:=g.many;have RQ:=g.items;have hI:=Jat g ht;have eT:typV t o=.tup [.agg [.rslc 1 (gz (Kw t o).got) none],.int .i64 0,.int .i64 0]:=by unfold typV;rw[if_neg (λh=>h hE),hb]
 rw[eT]at hI;have AO:(d:Int)∈t.items:=by rw[<-hd,Gn,Gp hi];exact Gs hi
 have Be:d<t.nodes.length:=by have:=g.itr AO;omega
 have hk:(nd t d).k=65:=g.defs _ AO;have Af:(iz t.items).length=t.items.length:=Jf;have Ay:(iz t.items).getD i []=[.int .i64 (d:Int)]:=by rw[JF hi,hd]
 have d0:((i:Int)<0)=False:=J7;have d1:((t.items.length:Int)<=(i:Int))=False:=J7;refine JaC c22_ok rfl (by simp[CV.closed,Jl,txV]) (by simp only[Gg,Gd];decide) λN=>?_
 simp only[c22,go_sem,Tr.cv,Tr.row];refine J3 hI ?_;simp only[go_sem,Af,d0,d1];refine Je (id:=0) (z:=2) (els:=[t.row]) rfl rfl ?_;simp only[go_sem,Tr.row,Jy,frz,JM,Gb,Gc,List.getD_cons_zero,Gh,if_true];refine vr_ren [] rfl ?_;simp only[go_sem,JR,ren,JG,Gb,Gc];refine Jar (H':=[]) rfl ?_;simp only[go_sem];refine Kq (.inl rfl) (calls_wk (newFinder g ht []) ⟨wk.refl _,Jdm ⟨wk.nils,trivial⟩,trivial⟩) λv K ⟨h1,h2⟩=>?_
 rw[h1,h2];have hS:=fmSign (K:=⟨t,[],upZ t t.nodes.length,fiZ t o t.nodes.length⟩) (Z:=FS.start t) g ht (d:=d) Be hk;simp only[go_sem,Af,Ay]
 repeat refine anO ?_
 refine KF hS (.inl rfl) rfl rfl rfl (by simp[CV.closed,Jl,txV]) ?_;simp only[go_sem]
end
def tx0:Lv:=[100,101,102,32,102,40,110,58,32,105,110,116,41,32,45,62,32,105,110,116,44,32,98,111,111,108,32,123,32,120,44,32,121,32,61,32,105,102,32,110,32,60,32,48,32,123,32,103,105,118,101,32,48,44,32,116,114,117,101,32,125,32,101,108,115,101,32,123,32,103,105,118,101,32,110,44,32,102,97,108,115,101,32,125,59,32,103,105,118,101,32,120,44,32,121,32,125]
def tt0:Tr:=(JaV tx0).getD ⟨[],[]⟩
def to0:Lu:=(JB (JN tt0.nodes) []).getD []
def tx1:Lv:=[100,101,102,32,102,40,41,32,45,62,32,115,116,114,101,97,109,32,105,110,116,32,123,32,115,32,61,32,49,32,58,58,32,115,59,32,103,105,118,101,32,115,32,125]
def tt1:Tr:=(JaV tx1).getD ⟨[],[]⟩
def to1:Lu:=(JB (JN tt1.nodes) []).getD []
def tx2:Lv:=[100,101,102,32,102,40,41,32,45,62,32,115,116,114,101,97,109,32,105,110,116,32,123,32,115,58,32,115,116,114,101,97,109,32,105,110,116,32,61,32,49,32,58,58,32,115,59,32,103,105,118,101,32,115,32,125]
def tt2:Tr:=(JaV tx2).getD ⟨[],[]⟩
def to2:Lu:=(JB (JN tt2.nodes) []).getD []
def tx3:Lv:=[100,101,102,32,102,40,41,32,45,62,32,105,110,116,32,123,32,103,105,118,101,32,116,114,117,101,32,125]
def tt3:Tr:=(JaV tx3).getD ⟨[],[]⟩
def to3:Lu:=(JB (JN tt3.nodes) []).getD []
def tx4:Lv:=[100,101,102,32,102,40,41,32,45,62,32,105,110,116,32,123,32,97,32,61,32,97,114,114,97,121,40,50,44,32,50,41,32,123,32,91,48,93,32,61,32,49,59,32,91,49,93,32,61,32,116,114,117,101,32,125,59,32,103,105,118,101,32,97,91,48,93,32,125]
def tt4:Tr:=(JaV tx4).getD ⟨[],[]⟩
def to4:Lu:=(JB (JN tt4.nodes) []).getD []
theorem tf0:((JaV tx0).isSome && chk tt0 == 0 && (JB (JN tt0.nodes) []).isSome && (YP tt0 to0).2 == 0)=true:=vM
theorem tb0:(Kw tt0 to0).bad=none:=vM
theorem tf1:((JaV tx1).isSome && chk tt1 == 0 && (JB (JN tt1.nodes) []).isSome && (YP tt1 to1).2 == 0)=true:=vM
theorem tb1:(Kw tt1 to1).bad=some 4:=vM
theorem tf2:((JaV tx2).isSome && chk tt2 == 0 && (JB (JN tt2.nodes) []).isSome && (YP tt2 to2).2 == 0)=true:=vM
theorem tb2:(Kw tt2 to2).bad=none:=vM
theorem tf3:((JaV tx3).isSome && chk tt3 == 0 && (JB (JN tt3.nodes) []).isSome && (YP tt3 to3).2 == 0)=true:=vM
theorem tb3:(Kw tt3 to3).bad=some 3:=vM
theorem tf4:((JaV tx4).isSome && chk tt4 == 0 && (JB (JN tt4.nodes) []).isSome && (YP tt4 to4).2 == 0)=true:=vM
theorem tb4:(Kw tt4 to4).bad=some 9:=vM
theorem tg0:(Jt (Kw tt0 to0).got 15 == [.int,.bool] && Jt (Kw tt0 to0).got 4 == [.int] && Jt (Kw tt0 to0).got 5 == [.bool] && decide (15<tt0.nodes.length) && decide (0<tt0.items.length) && Yj tt0 (tt0.items.getD 0 0).toNat == [.int] && XU tt0 (tt0.items.getD 0 0).toNat == [.int,.bool])=true:=vM
theorem kTyp {x:Lv}(ht:t=(JaV x).getD ⟨[],[]⟩)(ho:o=(JB (JN t.nodes) []).getD [])(h:((JaV x).isSome && chk t == 0 && (JB (JN t.nodes) []).isSome && (YP t o).2 == 0)=true) :
  Fn Ga 25 [S x] t.cv/\t.Fit/\GoodT t o/\(YP t o).2=0:=by
 simp only[Bool.and_eq_true,beq_iff_eq]at h;obtain⟨⟨⟨h1,h2⟩,h3⟩,h4⟩:=h;have hk:JaV x=some t:=by
  cases hx:JaV x with
  |none=>rw[hx]at h1;cases h1
  |some y=>rw[ht,hx];rfl
 have EZ:=okT_fit (refTreeK hk).2;have hg:GoodT t o:=by obtain⟨o',g⟩:=(Jd7 t).1 h2;have hh:=g.ord.h;rw[hh]at ho;rw[ho];exact g
 exact⟨law4Tree hk,EZ,hg,h4⟩
def spT:TyX:=.arr (.str .int)
theorem typSplitK:Fn Ga 26 [S [91,115,116,114,101,97,109,32,105,110,116,93]] (.tup [S [91,93],S [115,116,114,101,97,109,32,105,110,116],.int .i64 0]):=by
 have hP:Fn Ga 49 [S [91,115,116,114,101,97,109,32,105,110,116,93]] (.int .i64 3):=JgM spT vk;have hI:Fn Ga 50 [S [91,115,116,114,101,97,109,32,105,110,116,93]] (.tup [S [91,93],S [115,116,114,101,97,109,32,105,110,116],.bool true]):=JdN (some spT) vk;refine fcS c26_ok λN=>?_
 simp only[c26,go_sem];refine J3 hP ?_;simp only[go_sem,show ((3:Int) == 0)=false from rfl,show ((20:Int)<3)=False from eq_false vk];refine J3 hI ?_;simp only[go_sem]
theorem typDeepK:Fn Ga 27 [S [91,115,116,114,101,97,109,32,105,110,116,93]] (.tup [.int .i64 3,.int .i64 0]):=by
 have hP:Fn Ga 49 [S [91,115,116,114,101,97,109,32,105,110,116,93]] (.int .i64 3):=JgM spT vk;refine fcS c27_ok λN=>?_
 simp only[c27,go_sem];refine J3 hP ?_;simp only[go_sem,show ((3:Int) == 0)=false from rfl,show ((20:Int)<3)=False from eq_false vk]
theorem fknown4:Fn Ga 7 [] (.bool true):=by
 obtain⟨a0,f0,g0,e0⟩:=kTyp (x:=tx0) (t:=tt0) (o:=to0) rfl rfl tf0;obtain⟨a1,f1,g1,e1⟩:=kTyp (x:=tx1) (t:=tt1) (o:=to1) rfl rfl tf1;obtain⟨a2,f2,g2,e2⟩:=kTyp (x:=tx2) (t:=tt2) (o:=to2) rfl rfl tf2;obtain⟨a3,f3,g3,e3⟩:=kTyp (x:=tx3) (t:=tt3) (o:=to3) rfl rfl tf3;obtain⟨a4,f4,g4,e4⟩:=kTyp (x:=tx4) (t:=tt4) (o:=to4) rfl rfl tf4;have Ao:∀{t:Tr} {o:Lu},(YP t o).2=0->(Kw t o).bad=none->typV t o=.tup [.agg [.rslc 1 (gz (Kw t o).got) none],.int .i64 0,.int .i64 0]:=λhE hb=>by unfold typV;rw[if_neg (λh=>h hE),hb]
 have Cg:∀{t:Tr} {o:Lu} {i:Nat},(YP t o).2=0->(Kw t o).bad=some i->typV t o=.tup [.agg [.nils],.int .i64 (i:Int),.int .i64 11]:=λhE hb=>by unfold typV;rw[if_neg (λh=>h hE),hb]
 have r0:=Jat g0 f0;have r1:=Jat g1 f1;have r2:=Jat g2 f2;have r3:=Jat g3 f3;have r4:=Jat g4 f4;rw[Ao e0 tb0]at r0;rw[Cg e1 tb1]at r1;rw[Ao e2 tb2]at r2;rw[Cg e3 tb3]at r3;rw[Cg e4 tb4]at r4;have hN:=tg0;simp only[Bool.and_eq_true,beq_iff_eq,decide_eq_true_eq]at hN;obtain⟨⟨⟨⟨⟨⟨n1,n2⟩,n3⟩,n4⟩,n5⟩,n6⟩,n7⟩:=hN;have hS:=typSign g0 f0 e0 tb0 (i:=0) (d:=(tt0.items.getD 0 0).toNat) n5 (by
  have AO:tt0.items.getD 0 0∈tt0.items:=by rw[Gn,Gp n5];exact Gs n5
  have:=g0.itr AO;omega)
 rw[n6,n7]at hS;have AL:=infer_len g0 e0;have Fp:(gz (Kw tt0 to0).got).length=tt0.nodes.length:=by rw[QH,AL]
 have RX:=Qc (l:=(Kw tt0 to0).got) (i:=15) om;have cO:=Qc (l:=(Kw tt0 to0).got) (i:=4) om;have cK:=Qc (l:=(Kw tt0 to0).got) (i:=5) om;rw[n1]at RX;rw[n2]at cO;rw[n3]at cK;refine JaC c7_ok rfl rfl (by simp only[Gd];decide) λN=>?_
 simp only[c7,go_sem];refine J3 a0 ?_;simp only[go_sem,Tr.cv,Tr.row,splice];refine J3 r0 ?_;simp only[go_sem,splice];refine J3 hS ?_;simp only[go_sem];refine J3 a1 ?_;simp only[go_sem,Tr.cv,Tr.row];refine J3 r1 ?_;simp only[go_sem,splice];refine J3 a2 ?_;simp only[go_sem,Tr.cv,Tr.row];refine J3 r2 ?_;simp only[go_sem,splice];refine J3 a3 ?_;simp only[go_sem,Tr.cv,Tr.row];refine J3 r3 ?_;simp only[go_sem,splice];refine J3 a4 ?_;simp only[go_sem,Tr.cv,Tr.row];refine J3 r4 ?_;simp only[go_sem,splice];refine J3 typSplitK ?_;simp only[go_sem];refine J3 typDeepK ?_;simp only[go_sem,Fp,Ja,RX];refine anO ?_;have s1:Fn Ga 18 [txV [.int,.bool],txV [.int,.bool]] (.bool true):=JdY [.int,.bool] [.int,.bool] vk;have s2:Fn Ga 18 [txV [.int],txV [.int]] (.bool true):=JdY [.int] [.int] vk;have s3:Fn Ga 18 [txV [.bool],txV [.bool]] (.bool true):=JdY [.bool] [.bool] vk;refine Je (id:=6) (z:=1) (els:=[[S [105,110,116]],[S [98,111,111,108]]]) rfl rfl ?_;simp only[go_sem,Jy,JM,frz,KA,Kj,Gb,Gc,Gm,if_true,if_false,Gf,Gh,Gj,Gl,Gg,Gd,Gi,Gu];refine J3 s1 ?_;simp only[go_sem,Fp,cO];refine anO ?_;refine Je (id:=7) (z:=1) (els:=[[S [105,110,116]]]) rfl rfl ?_;simp only[go_sem,Jy,JM,frz,KA,Kj,J4,Gb,Gc,Gm,if_true,if_false,Gf,Gh,Gj,Gl,Gg,Gd,Gi];refine Kk (.inr ⟨116,true,rfl,rfl⟩) s2 ?_;simp only[go_sem,Fp,cK];refine anO ?_;refine Je (id:=8) (z:=1) (els:=[[S [98,111,111,108]]]) rfl rfl ?_;simp only[go_sem,Jy,JM,frz,KA,Kj,J4,Gb,Gc,Gm,if_true,if_false,Gf,Gh,Gj,Gl,Gg,Gd,Gi];refine Kk (.inr ⟨124,true,rfl,rfl⟩) s3 ?_;simp only[go_sem];refine Je (id:=9) (z:=1) (els:=[[S [105,110,116]]]) rfl rfl ?_;simp only[go_sem,Jy,JM,frz,KA,Kj,J4,Gb,Gc,Gm,if_true,if_false,Gf,Gh,Gj,Gl,Gg,Gd,Gi];refine Kk (.inr ⟨132,true,rfl,rfl⟩) s2 ?_;simp only[go_sem];refine Je (id:=10) (z:=1) (els:=[[S [105,110,116]],[S [98,111,111,108]]]) rfl rfl ?_;simp only[go_sem,Jy,JM,frz,KA,Kj,J4,Gb,Gc,Gm,if_true,if_false,Gf,Gh,Gj,Gl,Gg,Gd,Gi,Gu];refine Kk (.inr ⟨137,true,rfl,rfl⟩) s1 ?_;simp only[go_sem,show (((4:Nat):Int) == 4)=true from rfl,show (((3:Nat):Int) == 3)=true from rfl,show (((9:Nat):Int) == 9)=true from rfl,show ((3:Int) == 3)=true from rfl]
end Go.Cm
end
end
