/-
  A part of the proof. Conditions: none.
-/
import Derived.Test.YtejfnfphmkjffaaGreatDoorUT3
import Derived.Test.YtejfnfphmkjffaaGreatDoorUP13
import Derived.Test.YtejfnfphmkjffaaGreatDoorUTxOb
set_option linter.unusedSimpArgs false
set_option linter.unusedVariables false
open Go.Proofs.Tryz renaming prog->Ga
open Bool renaming not_false->Gp,not_true->Gt,and_eq_false_iff->Gz,and_eq_true->GA,true_or->GD
open List renaming map_cons->Gc,map_nil->Gb,length_nil->Gd,length_cons->Gf,getD_eq_getElem?_getD->Gj,drop_zero->Gg,take_of_length_le->Gl,take_succ_cons->Gq,getElem?_eq_getElem->Gu,set_cons_zero->Gr,set_cons_succ->Gs,take_zero->Gm,length_append->Gv,getElem_mem->Gw,length_set->Gx,getD_cons_zero->GG,take_length->GH,append_nil->GI,length->GJ
open Nat renaming reduceEqDiff->Gi,zero_add->Gh,le_refl->Gn,le_of_ble_eq_true->GK,reduceAdd->GL
open Int renaming cast_ofNat_Int->Gy
noncomputable section
section
set_option maxRecDepth 100000
set_option maxHeartbeats 4000000
open Go.Proofs
namespace Go.Cm
section
theorem lawVast4 (t:Tr):Fn Ga 20 [t.cv] (.bool (Jan t)):=by
 refine Jc c20_ok rfl rfl λN=>?_
 have Ak:(iz t.items).length=t.items.length:=Jg
 cases hH:Jff t with
 |true=>
  have hv:Jan t=true:=by unfold Jan;rw[hH];rfl
  rw[hv];unfold Jff at hH;have e1:((160:Int)<(t.nodes.length:Int))=(160<t.nodes.length):=propext (by omega);have e2:((t.nodes.length:Int)<=700)=(t.nodes.length<=700):=propext (by omega);have e3:((1400:Int)<(t.nodes.length:Int))=(1400<t.nodes.length):=propext (by omega);have e4:((40:Int)<(t.items.length:Int))=(40<t.items.length):=propext (by omega);by_cases g1:160<t.nodes.length <;> by_cases g2:t.nodes.length<=700 <;> by_cases g3:1400<t.nodes.length <;> by_cases g4:40<t.items.length <;> first|(exfalso;omega)|(exfalso;simp[g1,g2,g3,g4]at hH;done)|(simp -implicitDefEqProofs only[c20,go_sem,Tr.cv,Tr.row,Jb,Ak,e1,e2,e3,e4,g1,g2,g3,g4])
 |false=>
  unfold Jff at hH;simp only[Bool.or_eq_false_iff,Gz,decide_eq_false_iff_not]at hH;obtain⟨⟨h1,h2⟩,h3⟩:=hH;have e3:((1400:Int)<(t.nodes.length:Int))=False:=Jo;have e4:((40:Int)<(t.items.length:Int))=False:=Jo;have hv:Jan t=t.nodes.any JcB:=by
   unfold Jan Jff;have:(decide (160<t.nodes.length) && decide (t.nodes.length<=700))=false:=by
    simp only[Gz,decide_eq_false_iff_not];exact h1
   rw[this,decide_eq_false h2,decide_eq_false h3];rfl
  rw[hv];by_cases g1:160<t.nodes.length
  case' pos=>
   have e1:((160:Int)<(t.nodes.length:Int))=True:=Jq;have e2:((t.nodes.length:Int)<=700)=False:=Jo;simp -implicitDefEqProofs only[c20,go_sem,Tr.cv,Tr.row,Jb,Ak,e1,e2,e3,e4]
  case' neg=>
   have e1:((160:Int)<(t.nodes.length:Int))=False:=Jo;simp -implicitDefEqProofs only[c20,go_sem,Tr.cv,Tr.row,Jb,Ak,e1,e3,e4]
  all_goals (
   refine Jd (id:=0) (z:=2) (els:=[t.row]) rfl rfl ?_;simp only[go_sem,JX,Ku,frz,Qa,Tr.row];refine JI (I:=λi:Nat=>i<=t.nodes.length/\t.nodes.any JcB=(t.nodes.drop i).any JcB) (inv:=λi=>gp [(1,.rptr t.row),(1,.int .i64 (i:Int))] 47) (hp:=λ_=>[.dead]) (μ:=λi=>t.nodes.length-i) 0 ⟨by omega,rfl⟩ ?_ rfl ?_
   ·simp[forget,gp,Tr.row]
   ·rintro i ⟨hi,Aa⟩;by_cases Ab:i<t.nodes.length
    ·have d1:((i:Int)<(t.nodes.length:Int))=True:=Jq;have hg:=Qu Ab;rw[List.drop_eq_getElem_cons Ab,List.any_cons,<-rowg Ab]at Aa;generalize t.nodes.getD i default=x at hg Aa;have Br:(iz x.kids).length=x.kids.length:=Jg;by_cases g5:30<x.kids.length
     ·have e5:((30:Int)<(x.kids.length:Int))=True:=Jq;rw[show JcB x=true by simp[JcB,g5],GD]at Aa;simp -implicitDefEqProofs only[go_sem,Tr.row,Jb,d1,hg,Nd.cv,Br,e5,Aa];omega
     ·have e5:((30:Int)<(x.kids.length:Int))=False:=Jo;by_cases g6:60<x.text.length
      ·have e6:((60:Int)<(x.text.length:Int))=True:=Jq;rw[show JcB x=true by simp[JcB,g6],GD]at Aa;simp -implicitDefEqProofs only[go_sem,Tr.row,Jb,d1,hg,Nd.cv,Br,e5,e6,Aa];omega
      ·have e6:((60:Int)<(x.text.length:Int))=False:=Jo;rw[show JcB x=false by simp[JcB,g5,g6],Bool.false_or]at Aa;simp -implicitDefEqProofs only[go_sem,Tr.row,Jb,d1,hg,Nd.cv,Br,e5,e6];refine⟨by omega,by omega,Jh,i+1,⟨by omega,Aa⟩,by omega,?_⟩;simp[forget]
    ·have d1:((i:Int)<(t.nodes.length:Int))=False:=Jo;rw[List.drop_eq_nil_of_le (by omega)]at Aa;simp -implicitDefEqProofs only[go_sem,Tr.row,Jb,d1,Aa];simp
   )
theorem law4ValidV (t:Tr)(hv:Jan t=true):Fn Ga 6 [t.cv] (.bool false):=by
 have hV:=lawVast4 t;rw[hv]at hV;refine Jc c6_ok rfl rfl λN=>?_
 simp -implicitDefEqProofs only[c6,go_sem,Tr.cv,Tr.row];refine J6 hV ?_;simp -implicitDefEqProofs only[go_sem,Gt]
theorem JcT (t:Tr)(hv:Jan t=false)(e:Int)(l a:CV)(h:Fn Ga 9 [t.cv] (.tup [l,a,.int .i64 e])):Fn Ga 6 [t.cv] (.bool (e == 0)):=by
 have hV:=lawVast4 t;rw[hv]at hV;refine Jc c6_ok rfl rfl λN=>?_
 simp -implicitDefEqProofs only[c6,go_sem,Tr.cv,Tr.row];refine J6 hV ?_;simp -implicitDefEqProofs only[go_sem,Gp];refine Kb (gok rfl) (refCheck3 t e l a h) ?_;simp -implicitDefEqProofs only[go_sem]
theorem law4ValidE (t:Tr)(ht:t.Fit)(hv:Jan t=false)(h:chk t≠0):Fn Ga 6 [t.cv] (.bool false):=by
 have:=JcT t hv _ _ _ (refResolveE t ht h);rw[show (chk t == 0)=false by simpa using h]at this;exact this
theorem law4ValidG {t:Tr}{o:List Int}(g:GoodT t o)(ht:t.Fit)(hv:Jan t=false):Fn Ga 6 [t.cv] (.bool ((X4 t o).2 == 0)):=by
 have hR:=refResolve g ht;rw[<-res_eq g]at hR;by_cases he:(X4 t o).2=0
 ·rw[if_pos he]at hR;rw[he];exact JcT t hv _ _ _ hR
 ·rw[if_neg he]at hR;exact JcT t hv _ _ _ hR
theorem law4Tree {l:List UInt8}{t:Tr}(h:JaD l=some t):Fn Ga 22 [S l] t.cv:=by
 refine Jc c22_ok rfl rfl λN=>?_
 simp -implicitDefEqProofs only[c22,go_sem];refine J6 (refTreeK h).1 ?_;simp -implicitDefEqProofs only[go_sem,Tr.cv,Tr.row,splice]
theorem ref4Equal (a b:TL)(ha:a.length<=100000):Fn Ga 35 [txV a,txV b] (.bool (a == b)):=by
 refine fcS c35_ok λN=>?_
 have Am:(txz a).length=a.length:=Xr;have BF:(txz b).length=b.length:=Xr;by_cases hl:a.length=b.length
 ·have d0:((a.length:Int) != (b.length:Int))=false:=by simp[hl]
  simp -implicitDefEqProofs only[c35,go_sem,txV,Am,BF,d0];refine Jw (I:=λj:Nat=>j<=a.length/\a.take j=b.take j) (inv:=λj=>mkT 26 [(0,txV a),(1,txV b),(5,.int .i64 (j:Int))]) (hp:=λ_=>[]) (μ:=λj=>a.length-j) 0 [] ⟨by omega,rfl⟩ rfl ?_ rfl ?_
  ·simp only[QI,Gc,Gb,ren];refine JR ?_;simp[Qj,KY,txV]
  ·rintro j ⟨hj,hp⟩;by_cases Ab:j<a.length
   ·have d1:((j:Int)<(a.length:Int))=True:=Jq;have ga:=JaA (l:=a) (i:=j) Ab;have gb:=JaA (l:=b) (i:=j) (by omega);have ta:=takeT (l:=a) (i:=j) Ab;have tb:=takeT (l:=b) (i:=j) (by omega);simp -implicitDefEqProofs only[go_sem,txV,Am,d1];refine JV Js (by decide +kernel) ?_;simp -implicitDefEqProofs only[go_sem,Am,BF,ga,gb,tyT_eq]
    repeat refine anO ?_
    cases he:(a.getD j .int == b.getD j .int) with
    |true=>
     simp -implicitDefEqProofs only[go_sem,Gt];refine⟨Jh,j+1,[],⟨by omega,?_⟩,by omega,rfl,rfl,?_⟩
     ·rw[ta,tb,hp,beq_iff_eq.1 he]
     ·simp only[ren];refine JR ?_;simp[Qj,KY]
    |false=>
     have Ah:(a == b)=false:=by
      rw[beq_eq_false_iff_ne]at he|-;exact λe=>he (by rw[e])
     simp -implicitDefEqProofs only[go_sem,Gp,Ah]
   ·have d1:((j:Int)<(a.length:Int))=False:=Jo;have he:(a == b)=true:=by
     rw[beq_iff_eq,<-Gl (show a.length<=j by omega),hp,Gl (by omega)]
    simp -implicitDefEqProofs only[go_sem,txV,Am,d1,he]
 ·have d0:((a.length:Int) != (b.length:Int))=true:=by simp;omega
  have he:(a == b)=false:=beq_eq_false_iff_ne.2 λe=>hl (by rw[e])
  simp -implicitDefEqProofs only[c35,go_sem,txV,Am,BF,d0,he]
theorem JgE (a b:TL)(ha:a.length<=100000):Fn Ga 16 [txV a,txV b] (.bool (a == b)):=by
 refine Jc c16_ok rfl rfl λN=>?_
 simp -implicitDefEqProofs only[c16,go_sem,txV];refine J6 (ref4Equal a b ha) ?_;simp -implicitDefEqProofs only[go_sem]
theorem typInferE (t:Tr)(ht:t.Fit)(h:chk t≠0):Fn Ga 23 [t.cv] (.tup [.agg [.nils],.int .i64 0,.int .i64 (chk t)]):=by
 have hR:=nResolveE t ht h;have d1:(chk t != 0)=true:=by simpa using h
 refine fcS c23_ok λN=>?_
 simp -implicitDefEqProofs only[c23,go_sem,Tr.cv,Tr.row];refine J6 hR ?_;simp -implicitDefEqProofs only[go_sem,d1]
def okB (t:Tr)(o:List Int):Bool:=(X4 t o).2 == 0 && (Km t o).bad.isNone
def Je4 (t:Tr)(o:List Int):CV:=if okB t o=true then .rslc 1 (gz (Km t o).got) none else .nils
section
variable {t:Tr}{o:List Int}(g:GoodT t o)(ht:t.Fit)
include g ht
omit ht in
theorem infer_len (hE:(X4 t o).2=0):(Km t o).got.length=t.nodes.length:=by
 have h:=(JgI g hE t.nodes.length (Gn _)).1.gl;have Aj:(K8 0 t.nodes.length).foldl (doF t o (mnF t o) (t.nodes.length+1)) (FS.start t)=Km t o:=by
  unfold Km K8
  congr 1
  exact List.map_congr_left (λx _=>Gh x) |>.trans (List.map_id _)
 rw[<-Aj];exact h
theorem law4Typed:Fn Ga 8 [t.cv] (.tup [Je4 t o,.bool (okB t o)]):=by
 have hI:=Y3 g ht;have hC:=refCopy t ht;refine Jae c8_ok rfl (by unfold Je4;split <;> rfl) (by simp only[Gf,Gd];decide) λN=>?_
 simp -implicitDefEqProofs only[c8,go_sem,Tr.cv,Tr.row];refine J6 hC ?_;simp -implicitDefEqProofs only[go_sem,Tr.cv,Tr.row];refine J6 hI ?_;by_cases hE:(X4 t o).2=0
 ·have A9:=infer_len g hE;have U4:(gz (Km t o).got).length=t.nodes.length:=by rw[Yl,A9]
  cases hb:(Km t o).bad with
  |none=>
   have eO:okB t o=true:=by unfold okB;rw[hE,hb];rfl
   have eR:Je4 t o=.rslc 1 (gz (Km t o).got) none:=by unfold Je4;rw[if_pos eO]
   have eT:Jhc t o=.tup [.agg [.rslc 1 (gz (Km t o).got) none],.int .i64 0,.int .i64 0]:=by
    unfold Jhc;rw[if_neg (λh=>h hE),hb]
   rw[eO,eR,eT];simp -implicitDefEqProofs only[go_sem,splice];refine Kj [0,1,0,0,0,0,1,0,0,1,0,0,0,0,0] Js (by decide +kernel) ?_;simp -implicitDefEqProofs only[go_sem,U4,Jb,beq_self_eq_true]
  |some i=>
   have e1:((11:Int) == 0)=false:=by decide
   have eO:okB t o=false:=by unfold okB;rw[hE,hb];rfl
   have eR:Je4 t o=.nils:=by unfold Je4;rw[if_neg (by rw[eO];decide)]
   have eT:Jhc t o=.tup [.agg [.nils],.int .i64 (i:Int),.int .i64 11]:=by
    unfold Jhc;rw[if_neg (λh=>h hE),hb]
   rw[eO,eR,eT];simp -implicitDefEqProofs only[go_sem,splice];refine Kj [0,1,0,0,0,0,1,0,0,1,0,0,0,0,0] Js (by decide +kernel) ?_;simp -implicitDefEqProofs only[go_sem,e1]
 ·have e1:((X4 t o).2 == 0)=false:=by simpa using hE
  have eO:okB t o=false:=by unfold okB;rw[e1];rfl
  have eR:Je4 t o=.nils:=by unfold Je4;rw[if_neg (by rw[eO];decide)]
  have eT:Jhc t o=.tup [.agg [.nils],.int .i64 ((X4 t o).1:Int),.int .i64 (X4 t o).2]:=by
   unfold Jhc;rw[if_pos hE]
  rw[eO,eR,eT];simp -implicitDefEqProofs only[go_sem,splice];refine Kj [0,1,0,0,0,0,1,0,0,1,0,0,0,0,0] Js (by decide +kernel) ?_;simp -implicitDefEqProofs only[go_sem,e1]
end
theorem law4TypedE (t:Tr)(ht:t.Fit)(h:chk t≠0):Fn Ga 8 [t.cv] (.tup [.nils,.bool false]):=by
 have hI:=typInferE t ht h;have hC:=refCopy t ht;have e1:(chk t == 0)=false:=by simpa using h
 refine fcS c8_ok λN=>?_
 simp -implicitDefEqProofs only[c8,go_sem,Tr.cv,Tr.row];refine J6 hC ?_;simp -implicitDefEqProofs only[go_sem,Tr.cv,Tr.row];refine J6 hI ?_;simp -implicitDefEqProofs only[go_sem,splice];refine Kj [0,1,0,0,0,0,1,0,0,1,0,0,0,0,0] Js (by decide +kernel) ?_;simp -implicitDefEqProofs only[go_sem,e1]
end
section
theorem calls_wk {P:Program}{E:Env}{H:List CObj}{f:Nat}{args args':List CV}{R:CV->List CObj->Prop}(h:CallsC P E f args' H R)(hw:wks args args'):CallsC P E f args H R:=λm w vs hs hv=>h m w vs hs (Y2 hw hv)
section
variable {t:Tr}{o:List Int}(g:GoodT t o)(ht:t.Fit)
include g ht
theorem typSign (hE:(X4 t o).2=0)(hb:(Km t o).bad=none){i d:Nat}(hi:i<t.items.length)(hd:t.items.getD i 0=(d:Int)):Fn Ga 13 [t.cv,.int .i64 (i:Int)] (.tup [txV (Jar t d),txV (Y1 t d),.int .i64 0]):=by
 have Ai:=g.many;have RB:=g.items;have hI:=Y3 g ht;have eT:Jhc t o=.tup [.agg [.rslc 1 (gz (Km t o).got) none],.int .i64 0,.int .i64 0]:=by
  unfold Jhc;rw[if_neg (λh=>h hE),hb]
 rw[eT]at hI;have AB:(d:Int)∈t.items:=by
  rw[<-hd,Gj,Gu hi];exact Gw hi
 have Bi:d<t.nodes.length:=by have:=g.itr AB;omega
 have hk:(nd t d).k=65:=g.defs _ AB;have Ak:(iz t.items).length=t.items.length:=Jg;have Av:(iz t.items).getD i []=[.int .i64 (d:Int)]:=by rw[JN hi,hd]
 have d0:((i:Int)<0)=False:=Jo;have d1:((t.items.length:Int)<=(i:Int))=False:=Jo;refine Jae c13_ok rfl (by simp[CV.closed,Jp,txV]) (by simp only[Gf,Gd];decide) λN=>?_
 simp -implicitDefEqProofs only[c13,go_sem,Tr.cv,Tr.row];refine J6 hI ?_;simp -implicitDefEqProofs only[go_sem,Ak,d0,d1];refine Jd (id:=0) (z:=2) (els:=[t.row]) rfl rfl ?_;simp -implicitDefEqProofs only[go_sem,Tr.row,QJ,frz,JX,Gc,Gb,GG,Gg,if_true];refine vr_ren [] rfl ?_;simp -implicitDefEqProofs only[go_sem,QI,ren,JB,Gc,Gb];refine Jaz (H':=[]) rfl ?_;simp -implicitDefEqProofs only[go_sem];refine Ke (.inl rfl) (calls_wk (newFinder g ht []) ⟨wk.refl _,Jc3 ⟨wk.nils,trivial⟩,trivial⟩) λv K ⟨h1,h2⟩=>?_
 rw[h1,h2];have hS:=fmSign (K:=⟨t,[],upZ t t.nodes.length,fiZ t o t.nodes.length⟩) (Z:=FS.start t) g ht (d:=d) Bi hk;simp -implicitDefEqProofs only[go_sem,Ak,Av]
 repeat refine anO ?_
 refine Kt hS (.inl rfl) rfl rfl rfl (by simp[CV.closed,Jp,txV]) ?_;simp -implicitDefEqProofs only[go_sem]
end
def tx0:List UInt8:=[100,101,102,32,102,40,110,58,32,105,110,116,41,32,45,62,32,105,110,116,44,32,98,111,111,108,32,123,32,120,44,32,121,32,61,32,105,102,32,110,32,60,32,48,32,123,32,103,105,118,101,32,48,44,32,116,114,117,101,32,125,32,101,108,115,101,32,123,32,103,105,118,101,32,110,44,32,102,97,108,115,101,32,125,59,32,103,105,118,101,32,120,44,32,121,32,125]
def tt0:Tr:=(JaD tx0).getD ⟨[],[]⟩
def to0:List Int:=(Jz (JH tt0.nodes) []).getD []
def tx1:List UInt8:=[100,101,102,32,102,40,41,32,45,62,32,115,116,114,101,97,109,32,105,110,116,32,123,32,115,32,61,32,49,32,58,58,32,115,59,32,103,105,118,101,32,115,32,125]
def tt1:Tr:=(JaD tx1).getD ⟨[],[]⟩
def to1:List Int:=(Jz (JH tt1.nodes) []).getD []
def tx2:List UInt8:=[100,101,102,32,102,40,41,32,45,62,32,115,116,114,101,97,109,32,105,110,116,32,123,32,115,58,32,115,116,114,101,97,109,32,105,110,116,32,61,32,49,32,58,58,32,115,59,32,103,105,118,101,32,115,32,125]
def tt2:Tr:=(JaD tx2).getD ⟨[],[]⟩
def to2:List Int:=(Jz (JH tt2.nodes) []).getD []
def tx3:List UInt8:=[100,101,102,32,102,40,41,32,45,62,32,105,110,116,32,123,32,103,105,118,101,32,116,114,117,101,32,125]
def tt3:Tr:=(JaD tx3).getD ⟨[],[]⟩
def to3:List Int:=(Jz (JH tt3.nodes) []).getD []
def tx4:List UInt8:=[100,101,102,32,102,40,41,32,45,62,32,105,110,116,32,123,32,97,32,61,32,97,114,114,97,121,40,50,44,32,50,41,32,123,32,91,48,93,32,61,32,49,59,32,91,49,93,32,61,32,116,114,117,101,32,125,59,32,103,105,118,101,32,97,91,48,93,32,125]
def tt4:Tr:=(JaD tx4).getD ⟨[],[]⟩
def to4:List Int:=(Jz (JH tt4.nodes) []).getD []
theorem tf0:((JaD tx0).isSome && chk tt0 == 0 && (Jz (JH tt0.nodes) []).isSome && (X4 tt0 to0).2 == 0)=true:=by decide +kernel
theorem tb0:(Km tt0 to0).bad=none:=by decide +kernel
theorem tf1:((JaD tx1).isSome && chk tt1 == 0 && (Jz (JH tt1.nodes) []).isSome && (X4 tt1 to1).2 == 0)=true:=by decide +kernel
theorem tb1:(Km tt1 to1).bad=some 4:=by decide +kernel
theorem tf2:((JaD tx2).isSome && chk tt2 == 0 && (Jz (JH tt2.nodes) []).isSome && (X4 tt2 to2).2 == 0)=true:=by decide +kernel
theorem tb2:(Km tt2 to2).bad=none:=by decide +kernel
theorem tf3:((JaD tx3).isSome && chk tt3 == 0 && (Jz (JH tt3.nodes) []).isSome && (X4 tt3 to3).2 == 0)=true:=by decide +kernel
theorem tb3:(Km tt3 to3).bad=some 3:=by decide +kernel
theorem tf4:((JaD tx4).isSome && chk tt4 == 0 && (Jz (JH tt4.nodes) []).isSome && (X4 tt4 to4).2 == 0)=true:=by decide +kernel
theorem tb4:(Km tt4 to4).bad=some 9:=by decide +kernel
theorem tg0:(JG (Km tt0 to0).got 15 == [.int,.bool] && JG (Km tt0 to0).got 4 == [.int] && JG (Km tt0 to0).got 5 == [.bool] && decide (15<tt0.nodes.length) && decide (0<tt0.items.length) && Jar tt0 (tt0.items.getD 0 0).toNat == [.int] && Y1 tt0 (tt0.items.getD 0 0).toNat == [.int,.bool])=true:=by decide +kernel
theorem kTyp {x:List UInt8}{t:Tr}{o:List Int}(ht:t=(JaD x).getD ⟨[],[]⟩)(ho:o=(Jz (JH t.nodes) []).getD [])(h:((JaD x).isSome && chk t == 0 && (Jz (JH t.nodes) []).isSome && (X4 t o).2 == 0)=true) :
  Fn Ga 22 [S x] t.cv/\t.Fit/\GoodT t o/\(X4 t o).2=0:=by
 simp only[GA,beq_iff_eq]at h;obtain⟨⟨⟨h1,h2⟩,h3⟩,h4⟩:=h;have hk:JaD x=some t:=by
  cases hx:JaD x with
  |none=>rw[hx]at h1;cases h1
  |some y=>rw[ht,hx];rfl
 have ER:=okT_fit (refTreeK hk).2;have hg:GoodT t o:=by
  obtain⟨o',g⟩:=(Jcs t).1 h2;have hh:=g.ord.h;rw[hh]at ho;rw[ho];exact g
 exact⟨law4Tree hk,ER,hg,h4⟩
def spT:TyX:=.arr (.str .int)
theorem typSplitK:Fn Ga 24 [S [91,115,116,114,101,97,109,32,105,110,116,93]] (.tup [S [91,93],S [115,116,114,101,97,109,32,105,110,116],.int .i64 0]):=by
 have hP:Fn Ga 42 [S [91,115,116,114,101,97,109,32,105,110,116,93]] (.int .i64 3):=Jgc spT (by decide);have hI:Fn Ga 43 [S [91,115,116,114,101,97,109,32,105,110,116,93]] (.tup [S [91,93],S [115,116,114,101,97,109,32,105,110,116],.bool true]):=Jdx (some spT) (by decide);refine fcS c24_ok λN=>?_
 simp -implicitDefEqProofs only[c24,go_sem];refine J6 hP ?_;simp -implicitDefEqProofs only[go_sem,show ((3:Int) == 0)=false from rfl,show ((20:Int)<3)=False from eq_false (by decide)];refine J6 hI ?_;simp -implicitDefEqProofs only[go_sem]
theorem typDeepK:Fn Ga 25 [S [91,115,116,114,101,97,109,32,105,110,116,93]] (.tup [.int .i64 3,.int .i64 0]):=by
 have hP:Fn Ga 42 [S [91,115,116,114,101,97,109,32,105,110,116,93]] (.int .i64 3):=Jgc spT (by decide);refine fcS c25_ok λN=>?_
 simp -implicitDefEqProofs only[c25,go_sem];refine J6 hP ?_;simp -implicitDefEqProofs only[go_sem,show ((3:Int) == 0)=false from rfl,show ((20:Int)<3)=False from eq_false (by decide)]
theorem JgT:Fn Ga 7 [] (.bool true):=by
 obtain⟨a0,f0,g0,e0⟩:=kTyp (x:=tx0) (t:=tt0) (o:=to0) rfl rfl tf0;obtain⟨a1,f1,g1,e1⟩:=kTyp (x:=tx1) (t:=tt1) (o:=to1) rfl rfl tf1;obtain⟨a2,f2,g2,e2⟩:=kTyp (x:=tx2) (t:=tt2) (o:=to2) rfl rfl tf2;obtain⟨a3,f3,g3,e3⟩:=kTyp (x:=tx3) (t:=tt3) (o:=to3) rfl rfl tf3;obtain⟨a4,f4,g4,e4⟩:=kTyp (x:=tx4) (t:=tt4) (o:=to4) rfl rfl tf4;have Ap:∀{t:Tr} {o:List Int},(X4 t o).2=0->(Km t o).bad=none->Jhc t o=.tup [.agg [.rslc 1 (gz (Km t o).got) none],.int .i64 0,.int .i64 0]:=λhE hb=>by
  unfold Jhc;rw[if_neg (λh=>h hE),hb]
 have BN:∀{t:Tr} {o:List Int} {i:Nat},(X4 t o).2=0->(Km t o).bad=some i->Jhc t o=.tup [.agg [.nils],.int .i64 (i:Int),.int .i64 11]:=λhE hb=>by
  unfold Jhc;rw[if_neg (λh=>h hE),hb]
 have r0:=Y3 g0 f0;have r1:=Y3 g1 f1;have r2:=Y3 g2 f2;have r3:=Y3 g3 f3;have r4:=Y3 g4 f4;rw[Ap e0 tb0]at r0;rw[BN e1 tb1]at r1;rw[Ap e2 tb2]at r2;rw[BN e3 tb3]at r3;rw[BN e4 tb4]at r4;have hN:=tg0;simp only[GA,beq_iff_eq,decide_eq_true_eq]at hN;obtain⟨⟨⟨⟨⟨⟨n1,n2⟩,n3⟩,n4⟩,n5⟩,n6⟩,n7⟩:=hN;have hS:=typSign g0 f0 e0 tb0 (i:=0) (d:=(tt0.items.getD 0 0).toNat) n5 (by
  have AB:tt0.items.getD 0 0∈tt0.items:=by
   rw[Gj,Gu n5];exact Gw n5
  have:=g0.itr AB;omega)
 rw[n6,n7]at hS;have A9:=infer_len g0 e0;have Fa:(gz (Km tt0 to0).got).length=tt0.nodes.length:=by rw[Yl,A9]
 have RG:=XA (l:=(Km tt0 to0).got) (i:=15) (by omega);have bH:=XA (l:=(Km tt0 to0).got) (i:=4) (by omega);have bG:=XA (l:=(Km tt0 to0).got) (i:=5) (by omega);rw[n1]at RG;rw[n2]at bH;rw[n3]at bG;refine Jae c7_ok rfl rfl (by simp only[Gd];decide) λN=>?_
 simp -implicitDefEqProofs only[c7,go_sem];refine J6 a0 ?_;simp -implicitDefEqProofs only[go_sem,Tr.cv,Tr.row,splice];refine J6 r0 ?_;simp -implicitDefEqProofs only[go_sem,splice];refine J6 hS ?_;simp -implicitDefEqProofs only[go_sem];refine J6 a1 ?_;simp -implicitDefEqProofs only[go_sem,Tr.cv,Tr.row];refine J6 r1 ?_;simp -implicitDefEqProofs only[go_sem,splice];refine J6 a2 ?_;simp -implicitDefEqProofs only[go_sem,Tr.cv,Tr.row];refine J6 r2 ?_;simp -implicitDefEqProofs only[go_sem,splice];refine J6 a3 ?_;simp -implicitDefEqProofs only[go_sem,Tr.cv,Tr.row];refine J6 r3 ?_;simp -implicitDefEqProofs only[go_sem,splice];refine J6 a4 ?_;simp -implicitDefEqProofs only[go_sem,Tr.cv,Tr.row];refine J6 r4 ?_;simp -implicitDefEqProofs only[go_sem,splice];refine J6 typSplitK ?_;simp -implicitDefEqProofs only[go_sem];refine J6 typDeepK ?_;simp -implicitDefEqProofs only[go_sem,Fa,Jb,RG];refine anO ?_;have s1:Fn Ga 16 [txV [.int,.bool],txV [.int,.bool]] (.bool true):=JgE [.int,.bool] [.int,.bool] (by decide);have s2:Fn Ga 16 [txV [.int],txV [.int]] (.bool true):=JgE [.int] [.int] (by decide);have s3:Fn Ga 16 [txV [.bool],txV [.bool]] (.bool true):=JgE [.bool] [.bool] (by decide);refine Jd (id:=6) (z:=1) (els:=[[S [105,110,116]],[S [98,111,111,108]]]) rfl rfl ?_;simp -implicitDefEqProofs only[go_sem,QJ,JX,frz,Ku,JW,Gc,Gb,Gi,if_true,if_false,Gh,Gg,Gq,Gm,Gf,Gd,Gn,GL];refine J6 s1 ?_;simp -implicitDefEqProofs only[go_sem,Fa,bH];refine anO ?_;refine Jd (id:=7) (z:=1) (els:=[[S [105,110,116]]]) rfl rfl ?_;simp -implicitDefEqProofs only[go_sem,QJ,JX,frz,Ku,JW,JO,Gc,Gb,Gi,if_true,if_false,Gh,Gg,Gq,Gm,Gf,Gd,Gn];refine Kb (.inr ⟨116,true,rfl,rfl⟩) s2 ?_;simp -implicitDefEqProofs only[go_sem,Fa,bG];refine anO ?_;refine Jd (id:=8) (z:=1) (els:=[[S [98,111,111,108]]]) rfl rfl ?_;simp -implicitDefEqProofs only[go_sem,QJ,JX,frz,Ku,JW,JO,Gc,Gb,Gi,if_true,if_false,Gh,Gg,Gq,Gm,Gf,Gd,Gn];refine Kb (.inr ⟨124,true,rfl,rfl⟩) s3 ?_;simp -implicitDefEqProofs only[go_sem];refine Jd (id:=9) (z:=1) (els:=[[S [105,110,116]]]) rfl rfl ?_;simp -implicitDefEqProofs only[go_sem,QJ,JX,frz,Ku,JW,JO,Gc,Gb,Gi,if_true,if_false,Gh,Gg,Gq,Gm,Gf,Gd,Gn];refine Kb (.inr ⟨132,true,rfl,rfl⟩) s2 ?_;simp -implicitDefEqProofs only[go_sem];refine Jd (id:=10) (z:=1) (els:=[[S [105,110,116]],[S [98,111,111,108]]]) rfl rfl ?_;simp -implicitDefEqProofs only[go_sem,QJ,JX,frz,Ku,JW,JO,Gc,Gb,Gi,if_true,if_false,Gh,Gg,Gq,Gm,Gf,Gd,Gn,GL];refine Kb (.inr ⟨137,true,rfl,rfl⟩) s1 ?_;simp -implicitDefEqProofs only[go_sem,show (((4:Nat):Int) == 4)=true from rfl,show (((3:Nat):Int) == 3)=true from rfl,show (((9:Nat):Int) == 9)=true from rfl,show ((3:Int) == 3)=true from rfl]
end
section
def intOpB (k:Nat):Bool:=decide (9<=k/\k<=17) || k == 20
theorem JfI {k:Nat}:intOpB k=true↔Jch k:=by simp[intOpB,Jch]
def opnK (t:Tr)(ks:List Int):List Int:=ks.filter λk=>(nd t k.toNat).k == 1
def opnI (t:Tr)(i:Nat):List Int:=if intOpB (nd t i).k=true then opnK t (nd t i).kids else []
def Jav (t:Tr)(i:Nat):List Int:=(List.range i).flatMap (opnI t)
theorem Jef {t:Tr}{i:Nat}:Jav t (i+1)=Jav t i++opnI t i:=by simp[Jav,List.range_succ]
theorem opnK_len {t:Tr}{l:List Int}:(opnK t l).length<=l.length:=List.length_filter_le _ _
theorem opnA_len {t:Tr}(ht:t.Fit):∀i,i<=t.nodes.length->(Jav t i).length<=30*i
 |0,_=>by simp[Jav]
 |i+1,h=>by
  have:=opnA_len ht i (by omega);have h2:=(JdN ht (show i<t.nodes.length by omega)).kidn;have h3:=opnK_len (t:=t) (l:=(nd t i).kids);rw[Jef,Gv];unfold opnI
  split
  ·omega
  ·simp;omega
theorem opnA_mem {t:Tr}{c:Int}{n:Nat}(h:c∈Jav t n):∃i,i<n/\Jch (nd t i).k/\c∈(nd t i).kids/\(nd t c.toNat).k=1:=by
 unfold Jav at h;obtain⟨i,h1,h2⟩:=List.mem_flatMap.1 h;unfold opnI at h2
 split at h2
 ·rename_i hk;unfold opnK at h2;rw[List.mem_filter]at h2;exact⟨i,List.mem_range.1 h1,JfI.1 hk,h2.1,by simpa using h2.2⟩
 ·cases h2
def boolT (t:Tr)(c:Nat)(b:Int):Tr:=⟨t.nodes.set c ⟨2,(nd t c).text,b,(nd t c).kids,(nd t c).pl⟩,t.items⟩
theorem boolT_nd {t:Tr}{c:Nat}{b:Int}(hc:c<t.nodes.length)(i:Nat):nd (boolT t c b) i=if i=c then⟨2,(nd t c).text,b,(nd t c).kids,(nd t c).pl⟩ else nd t i:=by
 unfold boolT nd;simp only[Gj,List.getElem?_set];by_cases e:c=i
 ·subst e;simp[hc]
 ·rw[if_neg e,if_neg (λh=>e h.symm)]
theorem boolT_fit {t:Tr}(ht:t.Fit){c:Nat}{b:Int}(hc:c<t.nodes.length)(hb:0<=b/\b<=1):(boolT t c b).Fit:=by
 have h:=JdN ht hc;refine⟨by simp only[boolT,Gx];exact ht.many,ht.items,λx hx=>?_,ht.iz⟩;simp only[boolT]at hx;rcases List.mem_or_eq_of_mem_set hx with h1|rfl
 ·exact ht.nodes x h1
 ·exact⟨(by omega:2<256),h.text,inr64 (by simp only;omega) (by simp only;omega),h.kidn,h.kids,h.pl⟩
theorem bool_bad {t:Tr}{c:Nat}{b:Int}(hc:c<t.nodes.length)(hm:(c:Int)∈Jav t t.nodes.length){o:List Int}(gu:GoodT (boolT t c b) o):okB (boolT t c b) o=false:=by
 obtain⟨i,h1,h2,h3,h4⟩:=opnA_mem hm;rw[Int.toNat_natCast]at h4;unfold okB;by_cases hE:(X4 (boolT t c b) o).2=0
 ·obtain⟨j,hj,Ch,_⟩:=Jby h3;have Ah:i≠c:=λe=>by subst e;unfold Jch at h2;omega
  have Ox:nd (boolT t c b) i=nd t i:=by rw[boolT_nd hc,if_neg Ah]
  have Oz:(nd (boolT t c b) c).k=2:=by rw[boolT_nd hc,if_pos rfl]
  have Dk:JL (boolT t c b) i j=c:=by
   unfold JL;rw[Ox];exact Ch
  have:=opr_bad gu hE (i:=i) (j:=j) (by simp only[boolT,Gx];exact h1) (by rw[Ox];exact h2) (by rw[Ox];exact hj) (by rw[Dk];exact Oz)
  cases Cg:(Km (boolT t c b) o).bad with
  |none=>exact absurd Cg this
  |some x=>rw[Option.isNone_some,Bool.and_false]
 ·rw[show ((X4 (boolT t c b) o).2 == 0)=false by simpa using hE];rfl
theorem law4TypedN {t:Tr}(ht:t.Fit)(h:∀o,GoodT t o->okB t o=false):Fn Ga 8 [t.cv] (.tup [.nils,.bool false]):=by
 by_cases hc:chk t=0
 ·obtain⟨o,g⟩:=(Jcs t).1 hc;have h1:=law4Typed g ht;have h2:=h o g;rw[show Je4 t o=.nils by unfold Je4;rw[if_neg (by rw[h2];decide)],h2]at h1;exact h1
 ·exact law4TypedE t ht hc
theorem oneNot (t:Tr)(p:Int)(ak:Fn Ga 6 [t.cv] (.bool false)):Fn Ga 5 [t.cv,.int .u8 p] (.bool true):=by
 refine fcS c5_ok λN0=>?_
 simp -implicitDefEqProofs only[c5,go_sem,Tr.cv,Tr.row];refine J6 ak ?_;simp -implicitDefEqProofs only[go_sem,Gp];refine J6 JgT ?_;simp -implicitDefEqProofs only[go_sem]
section
variable {t:Tr}{o:List Int}(g:GoodT t o)(ht:t.Fit)
include g ht
theorem oneGood (ak:Fn Ga 6 [t.cv] (.bool true))(p:Int)(hp:InR .u8 p):Fn Ga 5 [t.cv,.int .u8 p] (.bool true):=by
 have Ai:=g.many;have hT:=law4Typed g ht;have SL:0<=p/\p<=255:=⟨hp.lo,hp.hi⟩;refine fcS c5_ok λN0=>?_
 simp -implicitDefEqProofs only[c5,go_sem,Tr.cv,Tr.row];refine J6 ak ?_;simp -implicitDefEqProofs only[go_sem,Gt,Gf,Gd];refine J6 hT ?_
 cases hO:okB t o with
 |false=>
  simp -implicitDefEqProofs only[go_sem,Gp,Gf,Gd];refine J6 JgT ?_;simp -implicitDefEqProofs only[go_sem]
 |true=>
  simp -implicitDefEqProofs only[go_sem,Gt,Gf,Gd];refine Jd (id:=0) (z:=2) (els:=[t.row]) rfl rfl ?_;simp only[go_sem,QJ,Gc,Gb,Ku,frz,Qa,JX,Tr.row];refine Jw (I:=λi:Nat=>i<=t.nodes.length) (inv:=λi=>mkT 116 [(1,.int .u8 p),(2,.rptr t.row),(7,.slc 1 0 (iz (Jav t i)).length (JbT (iz (Jav t i)))),(8,.int .i64 (i:Int))]) (hp:=λi=>[.dead,.arr 1 (iz (Jav t i))]) (μ:=λi=>t.nodes.length-i) 0 [0,1] (by omega) rfl ?_ ?_ ?_
  ·simp only[QI,Gc,Gb,ren,Jm];refine JR ?_;simp[Qj,KY,Tr.row,iz,JbT,Jav]
  ·simp[Kl,Xv,iz,Jav]
  ·intro i hi;have Am:=opnA_len ht i hi;by_cases Ab:i<t.nodes.length
   ·have d1:((i:Int)<(t.nodes.length:Int))=True:=Jq;have Av:=JY Ab
    cases hk:intOpB (nd t i).k with
    |false=>
     have Cy:Jav t (i+1)=Jav t i:=by
      rw[Jef];unfold opnI;rw[hk];simp
     have Ah:∀v:Nat,intOpB v=true->(((nd t i).k:Int) == (v:Int))=false:=λv hv=>by
      rw[beq_eq_false_iff_ne];intro e;have:(nd t i).k=v:=by omega
      rw[this,hv]at hk;cases hk
     have k13:=Ah 13 rfl;have k14:=Ah 14 rfl;have k15:=Ah 15 rfl;have k16:=Ah 16 rfl;have k17:=Ah 17 rfl
     have k9:=Ah 9 rfl;have k10:=Ah 10 rfl;have k11:=Ah 11 rfl;have k12:=Ah 12 rfl;have k20:=Ah 20 rfl
     simp only[Gy]at k13 k14 k15 k16 k17 k9 k10 k11 k12 k20;simp -implicitDefEqProofs only[go_sem,d1,Tr.row,Jb,Av,Nd.cv,k13,k14,k15,k16,k17,k9,k10,k11,k12,k20]
     repeat refine anO ?_
     refine⟨Jh,i+1,[0,1],by omega,by omega,rfl,?_,?_⟩
     ·rw[Cy];simp only[Kl,Gc,Gb,go_sem,Jk,Jj,Ja (Je _)]
     ·rw[Cy];simp only[ren,Jm];refine JR ?_;simp[Qj,KY]
    |true=>
     have BJ:=(JdN ht Ab).kidn;have Ak:(iz (nd t i).kids).length=(nd t i).kids.length:=Jg;have Cy:Jav t (i+1)=Jav t i++opnK t ((nd t i).kids.take (nd t i).kids.length):=by
      rw[Jef];unfold opnI;rw[if_pos hk,GH]
     have h0:Jav t i++opnK t ((nd t i).kids.take 0)=Jav t i:=by simp[opnK]
     have Ce:(nd t i).k=9\/(nd t i).k=10\/(nd t i).k=11\/(nd t i).k=12\/(nd t i).k=13\/(nd t i).k=14\/(nd t i).k=15\/(nd t i).k=16\/(nd t i).k=17\/(nd t i).k=20:=by
      have:=JfI.1 hk;unfold Jch at this;omega
     rcases Ce with BR|BR|BR|BR|BR|BR|BR|BR|BR|BR
     all_goals
      simp -implicitDefEqProofs only[go_sem,d1,Tr.row,Jb,Av,Nd.cv,BR,Gy]
      repeat refine anO ?_
      refine Jd (id:=2) (z:=5) (els:=[[.int .u8 ((nd t i).k:Int),S (nd t i).text,.int .i64 (nd t i).n,.rslc 1 (iz (nd t i).kids) none,.int .i64 (nd t i).pl]]) (by rw[BR];rfl) rfl ?_;simp -implicitDefEqProofs only[go_sem,QJ,frz,JX,Ku,JW,JO,Gc,Gb,GG,Gg,Gi,if_true,if_false,Gr,Gs,JC (Je _)];refine Jw (I:=λj:Nat=>j<=(nd t i).kids.length) (inv:=λj=>mkT 116 [(1,.int .u8 p),(2,.rptr t.row),(7,.slc 1 0 (iz (Jav t i++opnK t ((nd t i).kids.take j))).length (JbT (iz (Jav t i++opnK t ((nd t i).kids.take j))))),(8,.int .i64 (i:Int)),(9,.rptr [.int .u8 ((nd t i).k:Int),S (nd t i).text,.int .i64 (nd t i).n,.rslc 1 (iz (nd t i).kids) none,.int .i64 (nd t i).pl]),(10,.int .i64 (j:Int))]) (hp:=λj=>[.dead,.arr 1 (iz (Jav t i++opnK t ((nd t i).kids.take j)))]) (μ:=λj=>(nd t i).kids.length-j) 0 [0,1] (by omega) rfl ?_ ?_ ?_
      ·rw[h0];simp only[QI,Gc,Gb,ren,Jm];refine JR ?_;simp[Qj,KY,Tr.row,BR]
      ·rw[h0];simp only[Kl,Gc,Gb,go_sem,Jk,Jj,Ja (Je _)]
      ·intro j hj;have Ay:=opnK_len (t:=t) (l:=(nd t i).kids.take j);rw[List.length_take]at Ay;have gT:(Jav t i++opnK t ((nd t i).kids.take j)).length<=30*t.nodes.length+30:=by rw[Gv];omega
       have Aq:=λρ=>Ja (ρ:=ρ) (Je (Jav t i++opnK t ((nd t i).kids.take j)))
       by_cases A8:j<(nd t i).kids.length
       ·have d3:((j:Int)<((nd t i).kids.length:Int))=True:=Jq;have hc:(nd t i).kids.getD j 0=((JL t i j:Nat):Int):=Kk g Ab A8;have bM:(iz (nd t i).kids).getD j []=[.int .i64 ((JL t i j:Nat):Int)]:=by rw[JN A8,hc]
        have FY:JL t i j<t.nodes.length:=by have:=(JF g Ab A8).2.1;omega
        have Al:opnK t ((nd t i).kids.take (j+1))=opnK t ((nd t i).kids.take j)++if (nd t (JL t i j)).k=1 then [((JL t i j:Nat):Int)] else []:=by
         have:(nd t i).kids.take (j+1)=(nd t i).kids.take j++[((JL t i j:Nat):Int)]:=by
          rw[List.take_succ_eq_append_getElem A8,<-hc,Gj,Gu A8];rfl
         rw[this];unfold opnK;rw[List.filter_append]
         congr 1
         by_cases h:(nd t (JL t i j)).k=1
         ·rw[if_pos h];simp[h]
         ·rw[if_neg h];simp[h]
        generalize JL t i j=c at *;have DT:=JY FY;have EC:Jav t i++opnK t ((nd t i).kids.take (j+1))=(Jav t i++opnK t ((nd t i).kids.take j))++if (nd t c).k=1 then [(c:Int)] else []:=by rw[Al,List.append_assoc]
        clear Al;generalize BO:Jav t i++opnK t ((nd t i).kids.take j)=acc at *;by_cases h1:(nd t c).k=1
        ·have e1:(((1:Nat):Int) == 1)=true:=rfl;rw[if_pos h1]at EC;simp -implicitDefEqProofs only[go_sem,Tr.row,Ak,d3];refine JV Js (by decide +kernel) ?_;simp -implicitDefEqProofs only[go_sem,Ak,bM,Jb,DT,Nd.cv,h1,Gy,Jy,Jg]
         repeat refine anO ?_
         refine⟨Jh,j+1,[0,3],by omega,by omega,rfl,?_,?_⟩
         ·rw[EC,KU];simp only[Kl,Gc,Gb,go_sem,Jk,Jj];simp[Aq,JB,ren]
         ·rw[EC,KU,Jaj];simp only[ren,Jm];refine JR ?_;simp[Qj,KY];have h9:=congrArg GJ EC;simp only[Gv,Gf,Gd]at h9;omega
        ·have e1:(((nd t c).k:Int) == 1)=false:=by rw[beq_eq_false_iff_ne];omega
         rw[if_neg h1,GI]at EC;simp -implicitDefEqProofs only[go_sem,Tr.row,Ak,d3];refine JV Js (by decide +kernel) ?_;simp -implicitDefEqProofs only[go_sem,Ak,bM,Jb,DT,Nd.cv,e1]
         repeat refine anO ?_
         refine⟨Jh,j+1,[0,1],by omega,by omega,rfl,?_,?_⟩
         ·rw[EC];simp only[Kl,Gc,Gb,go_sem,Jk,Jj,Aq]
         ·rw[EC];simp only[ren,Jm];refine JR ?_;simp[Qj,KY]
       ·have d3:((j:Int)<((nd t i).kids.length:Int))=False:=Jo;obtain rfl:j=(nd t i).kids.length:=by omega
        rw[<-Cy]at Aq|-;simp -implicitDefEqProofs only[go_sem,Tr.row,Ak,d3];refine⟨Jh,i+1,[0,1],by omega,by omega,rfl,?_,?_⟩
        ·simp only[Kl,Gc,Gb,go_sem,Jk,Jj,Aq]
        ·simp only[ren,Jm];refine JR ?_;simp[Qj,KY]
   ·have d1:((i:Int)<(t.nodes.length:Int))=False:=Jo;obtain rfl:i=t.nodes.length:=by omega
    have Aq:=λρ=>Ja (ρ:=ρ) (Je (Jav t t.nodes.length))
    by_cases BI:Jav t t.nodes.length=[]
    ·rw[BI];simp -implicitDefEqProofs only[go_sem,d1,Tr.row,Jb,iz,Gb,Gd];refine J6 JgT ?_;simp -implicitDefEqProofs only[go_sem]
    ·have OE:=List.length_pos_iff.2 BI;have e0:(((Jav t t.nodes.length).length:Int) == 0)=false:=by rw[beq_eq_false_iff_ne];omega
     have A9:(iz (Jav t t.nodes.length)).length=(Jav t t.nodes.length).length:=Jg;have bq:∀c∈Jav t t.nodes.length,0<=c/\c<t.nodes.length:=λc hc=>by
      obtain⟨i,i1,_,i3,_⟩:=opnA_mem hc;have:=g.kid i1 i3;omega
     have D6:=λ(c:Nat) (b:Int) (hc:c<t.nodes.length) (hm:(c:Int)∈Jav t t.nodes.length) (o:List Int) (gu:GoodT (boolT t c b) o)=>bool_bad (b:=b) hc hm gu
     simp -implicitDefEqProofs only[go_sem,d1,Tr.row,Jb,A9,e0];have Z7:=Je (Jav t t.nodes.length);clear Aq;generalize Jav t t.nodes.length=l at *;have bI:frz 1 1 (iz l) (.slc 1 0 l.length (JbT (iz l)))=.rslc 1 (iz l) none:=by
      simp only[frz,if_true,Gh,Gg];rw[iP7,Gl (by omega)]
     refine Jd (id:=1) (z:=1) (els:=iz l) rfl Z7 ?_;simp only[go_sem,QJ,Gc,Gb,bI];simp -implicitDefEqProofs only[go_sem,frz,JX];refine vr_ren [] rfl ?_;simp -implicitDefEqProofs only[go_sem,QI,ren,JB,Gc,Gb];refine Jaz (H':=[]) rfl ?_;simp -implicitDefEqProofs only[go_sem];have FH:0<t.nodes.length:=by
      obtain⟨c,hc⟩:=List.exists_mem_of_length_pos OE;have:=bq c hc;omega
     have Rm:ndz t.nodes≠[]:=λe=>by have:=congrArg GJ e;rw[Jb,Gd]at this;omega
     refine Ke (.inl rfl) (copyO t ht _ []) λv K ⟨h1,h2⟩=>?_
     rw[h1,h2,XK Rm,Xu Rm];obtain⟨pn,rfl⟩:∃n:Nat,p=n:=⟨p.toNat,by omega⟩;have Ip:((pn:Nat):Int).tmod (l.length:Int)=((pn % l.length:Nat):Int):=rfl;have Dt:((pn:Nat):Int).tmod 2=((pn % 2:Nat):Int):=rfl;have CW:pn % l.length<l.length:=Nat.mod_lt _ OE;have AB:l.getD (pn % l.length) 0∈l:=by
      rw[Gj,Gu CW];exact Gw CW
     have Bc:=bq _ AB;obtain⟨c,bP⟩:=Int.eq_ofNat_of_zero_le Bc.1;rw[bP]at Bc AB;have fG:(iz l).getD (pn % l.length) []=[.int .i64 (c:Int)]:=by rw[JN CW,bP]
     simp -implicitDefEqProofs only[go_sem,A9,Ip,fG,List.nil_append,Gd,Gh,Jb,splice,Gf,Gm,List.drop_succ_cons,Gg,GI];refine⟨Jh,by omega,⟨Int.natCast_nonneg _,Int.ofNat_lt.2 CW⟩,?_⟩;refine vr_pads 4 rfl ?_;simp -implicitDefEqProofs only[go_sem];refine vr_ren [2,3,4,5,6,0,1] rfl ?_;simp -implicitDefEqProofs only[go_sem,QI,ren,JB,Jm,Gc,Gb,Gi,if_true,if_false];refine Jaz (H':=[.arr 2 [[.slc 5 0 t.nodes.length none,.slc 6 0 (iz t.items).length (JbT (iz t.items))]],.dead,.dead,.dead,.dead,.arr 5 (ndz t.nodes),.arr 1 (iz t.items)]) (by
      show [_,_,_,_,_,Xv _ (.arr 5 (ndz t.nodes)),Xv _ (.arr 1 (iz t.items))]=_;simp only[Xv];rw[Ja (Kz _),Ja (Je _)];rfl) ?_
     simp -implicitDefEqProofs only[go_sem];have FY:c<t.nodes.length:=by omega
     have DT:=JY FY;refine Kj [0,1,0,0,4,0,0,0,0,1,0,2005,1,0,2005] Js (by decide +kernel) ?_;simp -implicitDefEqProofs only[go_sem,Dt,Jhe (show 1000<=2005 by decide)];refine⟨Jh,by decide,⟨by omega,by omega⟩,?_⟩;refine vy_set 5 (.arr 5 ((ndz t.nodes).set c [.int .u8 2,S (nd t c).text,.int .i64 (nd t c).n,.rslc 1 (iz (nd t c).kids) none,.int .i64 (nd t c).pl])) (.inl rfl) (c:=.and (.le (c+1) (ndz t.nodes).length) (.le 1 5)) (v:=.un) (λH2 h=>?_) ⟨by rw[Jb];exact FY,GK rfl⟩ (by simp) ?_
     ·have h2:H2[5]? = some (CObj.arr 5 (ndz t.nodes)):=h;simp only[exec,go_sem,h2,DT,Nd.cv]
     have Rk:∀r:List CV,((ndz t.nodes).set c r).length=t.nodes.length:=λr=>by rw[Gx,Jb]
     have UR:∀r:List CV,((ndz t.nodes).set c r).getD c []=r:=λr=>by
      rw[Gj,List.getElem?_set_self (by rw[Jb];exact FY)];rfl
     simp -implicitDefEqProofs only[go_sem,Gr,Gs,Jhe (show 1000<=2005 by decide)];refine⟨⟨by omega,by omega⟩,?_⟩;refine vy_set 5 (.arr 5 ((ndz t.nodes).set c [.int .u8 2,S (nd t c).text,.int .i64 ((pn % 2:Nat):Int),.rslc 1 (iz (nd t c).kids) none,.int .i64 (nd t c).pl])) (.inl rfl) (c:=.and (.le (c+1) t.nodes.length) (.le (2+1) 5)) (v:=.un) (λH2 h=>?_) ⟨FY,GK rfl⟩ (by simp) ?_
     ·have h2:H2[5]? = some (CObj.arr 5 ((ndz t.nodes).set c [.int .u8 2,S (nd t c).text,.int .i64 (nd t c).n,.rslc 1 (iz (nd t c).kids) none,.int .i64 (nd t c).pl])):=h;simp only[exec,go_sem,h2,UR,Rk,List.set_set]
     simp -implicitDefEqProofs only[go_sem,Gr,Gs];have Cg:(0:Int)<=((pn % 2:Nat):Int)/\((pn % 2:Nat):Int)<=1:=by omega
     have bS:=law4TypedN (boolT_fit ht FY Cg) (λo gu=>D6 c _ FY AB o gu);have MK:ndz (boolT t c ((pn % 2:Nat):Int)).nodes=(ndz t.nodes).set c [.int .u8 2,S (nd t c).text,.int .i64 ((pn % 2:Nat):Int),.rslc 1 (iz (nd t c).kids) none,.int .i64 (nd t c).pl]:=by
      simp[boolT,ndz,List.map_set,Nd.cv]
     have fO:(iz t.items).length=t.items.length:=Jg;simp only[Tr.cv,Tr.row,MK]at bS;have RZ:=MK▸Kz (boolT t c ((pn % 2:Nat):Int)).nodes;have fC:=Rk [.int .u8 2,S (nd t c).text,.int .i64 ((pn % 2:Nat):Int),.rslc 1 (iz (nd t c).kids) none,.int .i64 (nd t c).pl];generalize (ndz t.nodes).set c [.int .u8 2,S (nd t c).text,.int .i64 ((pn % 2:Nat):Int),.rslc 1 (iz (nd t c).kids) none,.int .i64 (nd t c).pl]=R at *;have f1:frz 5 5 R (.slc 5 0 t.nodes.length none)=.rslc 5 R none:=by
      simp only[frz,if_true,Gh,Gg];rw[iP7,Gl (by omega)]
     have f2:frz 6 1 (iz t.items) (.slc 6 0 (iz t.items).length (JbT (iz t.items)))=.rslc 1 (iz t.items) none:=by
      simp only[frz,if_true,Gh,Gg];rw[iP7,Gl (by omega)]
     refine Jd (id:=5) (z:=5) (els:=R) rfl RZ ?_;simp -implicitDefEqProofs only[go_sem,QJ,f1,Gc,Gb,Ku,JW,JO,JC (Je _),JC RZ,Gr,Gs];refine Jd (id:=6) (z:=1) (els:=iz t.items) rfl (Je _) ?_;simp -implicitDefEqProofs only[go_sem,QJ,frz,JX,Gc,Gb,Ku,JW,JO,Gi,if_true,if_false,Gr,Gs];have AZ:(t.nodes.length<=R.length)=True:=Jq;have CE:List.take t.nodes.length R=R:=Gl (by omega);simp only[AZ,if_true,CE,GH,frz];refine J6 bS ?_;simp -implicitDefEqProofs only[go_sem,Gp];refine Kb (gok rfl) JgT ?_;simp -implicitDefEqProofs only[go_sem]
end
theorem oneAll (t:Tr)(ty:t.Ty)(p:Int)(hp:InR .u8 p):Fn Ga 5 [t.cv,.int .u8 p] (.bool true):=by
 cases hv:Jan t with
 |true=>exact oneNot t p (law4ValidV t hv)
 |false=>
  have ht:=ty.fit3 hv;by_cases h:chk t=0
  ·obtain⟨o,g⟩:=(Jcs t).1 h;have hV:=law4ValidG g ht hv;by_cases hE:(X4 t o).2=0
   ·rw[show ((X4 t o).2 == 0)=true by simp[hE]]at hV;exact oneGood g ht hV p hp
   ·rw[show ((X4 t o).2 == 0)=false by simpa using hE]at hV;exact oneNot t p hV
  ·exact oneNot t p (law4ValidE t ht hv h)
end
end Go.Cm
end
end
