/-
  A part of the proof. Conditions: none.
-/
import Derived.Test.YtdnnimemociklaaGreatDoorWP13
import Derived.Test.YtdnnimemociklaaGreatDoorWT1
set_option linter.unusedSimpArgs false
set_option linter.unusedVariables false
open List renaming getD_eq_getElem?_getD->Ga,getElem?_eq_getElem->Gb,length_nil->Gd,map_cons->Gc,map_nil->Gf,length_cons->Gg,length_map->Gh,getElem?_append_right->Gp,getElem?_eq_some_iff->Gq,getElem?_map->Gl,length_append->Gr,getElem?_append_left->Gw,getElem_mem->Gm,getElem_of_mem->Gt,mem_map->Gj,drop_zero->Gs,map_congr_left->Gx,take_of_length_le->Gy,length_take->Gu,mem_append->Gz,map_append->GA,eq_nil_of_length_eq_zero->GR,length_set->GG,replicate->GH,append_assoc->GK,getElem?_cons_zero->GU,nil_append->GL,length_singleton->GV,mem_of_mem_take->GX,mem_of_getElem?->GY,getElem?_set_ne->GZ,take_zero->GM,mem_range->GN,set_cons_zero->G5,set_cons_succ->G6,getElem?_take->G7,range->GI,cons_append->G8,filter_nil->G9,pairwise_iff_getElem->Hu,map_map->Ha,take_succ_cons->Hw,length->Hd,getD_cons_zero->Hy,getD_cons_succ->Hz,drop_succ_cons->HV,take_sublist->HY,take_add_one->HZ,length_range->H5,getElem_take->H6,getElem?_set->H7,getElem?_inj->H8,take_length->H9,length_drop->La,getElem_map->Lb,range_zero->Lc,foldl_cons->Ld
open Option renaming getD_some->GD,map_some->He
open Option.some renaming inj->GJ,injEq->Hf
open Nat renaming zero_add->Gn,le_refl->Gv,lt_or_ge->GQ,strongRecOn->Hg,sub_self->Hl,mod_lt->Hm
open Function renaming comp_apply->Ho
open Int renaming toNat_natCast->Gi,le_refl->Hq
open Classical renaming axiomOfChoice->Hr,choose_spec->Ht
noncomputable section
section
set_option maxRecDepth 100000
set_option maxHeartbeats 4000000
open Go.Proofs
namespace Go.Cm
variable {a t u:Tr}{l o o' oa ob p:Lu}{i k m n v x y z:Nat}{b:Lx}{D:Nat->Prop}{χ ψ:Nat->Nat}{H:Lt}
section
variable(g:GoodT t o)(ht:t.Fit)
include g
include ht
end
section
variable(g:GoodT t o)(ht:t.Fit)
include g ht
end
section
variable(g:GoodT t o)(ht:t.Fit)
include g ht
end
section
variable(g:GoodT t o)(ht:t.Fit)
include g ht
end
section
variable(g:GoodT t o)(ht:t.Fit)
include g ht
end
theorem Jih {α:Type}{a b:List α}{d:α}(h:i<a.length):(a++b).getD i d=a.getD i d:=by rw[Ga,Ga,Gw h]
theorem JaE {K:LP}(h:Ordd K o){j:Nat}{ks:Lu}(hj:K[j]? = some ks):(KJ K []).getD j 0=Jgh (KJ K []) ks:=by
 have Ab:=(Gq.1 hj).1;have h1:=JaD hj;have hl:=Xj K [];simp only[Gd,Gn]at hl;rw[JaC om,JaC om]at h1;have h2:(KJ K []).getD j 0=((KJ K []).take (j+1)).getD j 0:=by rw[Ga,Ga,G7,iP7]
 rw[h2,h1,Ga,Gp (by rw[Gu];omega)];have h3:j-((KJ K []).take j).length=0:=by rw[Gu];omega
 rw[h3];simp only[GU,GD];have h4:=JgK (D:=KJ K []) (D':=(KJ K []).take j) (e:=0) ks λk hk=>by have hr:=h.kid_rng hj hk;rw[Int.add_zero,Ga,Ga,G7,iP7]
 simpa using h4
theorem Jfh {D D':Lu}{ks ls:Lu}{f:Int->Int}(hp:ls.Perm ks)(h:∀k∈ls,D'.getD (f k).toNat 0=D.getD k.toNat 0):Jgh D' (ls.map f)=Jgh D ks:=by
 have h1:Jgh D ks=Jgh D ls:=by
  unfold Jgh;refine(List.Perm.foldl_eq' hp (λx _ y _ z=>?_) 1).symm;simp only[mx]
  repeat' split
  all_goals omega
 rw[h1];unfold Jgh;have key:∀(l:Lu) (a:Int),(∀k∈l,D'.getD (f k).toNat 0=D.getD k.toNat 0)->(l.map f).foldl (λa k=>mx a (D'.getD k.toNat 0+1)) a=l.foldl (λa k=>mx a (D.getD k.toNat 0+1)) a:=by
  intro l
  induction l with
  |nil=>intro a _;rfl
  |cons k l ih=>intro a h;rw[Gc,Ld,Ld,h k sM];exact ih _ λx hx=>h x (by simp[hx])
 exact key ls 1 h
theorem Jhg(hl:o.length=m)(hm:m<=n):∀(l:Lu) (a e:Int),chain o m a l e->chain (o++o') n a l e
 |[],a,e,h=>h
 |i::l,a,e,h=>by simp only[chain]at h|-;refine⟨⟨h.1.1,om,?_⟩,Jhg hl hm l _ _ h.2⟩;rw[Jih om];exact h.1.2.2
theorem JfW(hl:o.length=m)(Ec:o'.length=n):∀(l:Lu) (a e:Int),chain o' n a l e->chain (o++o'.map (· + (m:Int))) (m+n) (a+m) (l.map (· + (m:Int))) (e+m)
 |[],a,e,h=>by simp only[chain]at h;subst h;simp[chain]
 |i::l,a,e,h=>by simp only[chain]at h;obtain⟨⟨h1,h2,h3⟩,h4⟩:=h;have ih:=JfW hl Ec l _ _ h4;rw[Gc];simp only[chain];refine⟨⟨om,om,?_⟩,by rw[show i+(m:Int)+1=i+1+m by omega];exact ih⟩;rw[show (i+(m:Int)).toNat=m+i.toNat by omega,Ga,Gp om,show m+i.toNat-o.length=i.toNat by omega,Gl,Gb (show i.toNat<o'.length by omega)];rw[Ga,Gb (show i.toNat<o'.length by omega)]at h3;simp only[He,GD]at h3|-;omega
section
variable{b:Tr}(ga:GoodT a oa)(gb:GoodT b ob)
include ga gb
omit ga gb in
theorem YT:(QF a b).nodes.length=a.nodes.length+b.nodes.length:=by simp[QF]
omit ga gb in
theorem Jda {j:Nat}(hj:j<a.nodes.length):nd (QF a b) j=nd a j:=by unfold nd QF;exact Jih hj
omit ga gb in
theorem Jb4 {j:Nat}(hj:j<b.nodes.length):nd (QF a b) (a.nodes.length+j)=mvN a.nodes.length (nd b j):=by unfold nd QF;simp only;rw[Ga,Gp om,show a.nodes.length+j-a.nodes.length=j by omega,Gl,Gb hj,Ga,Gb hj];rfl
omit ga gb in
theorem join_kidsR {j:Nat}{ks:Lu}(hj:(Ju (QF a b).nodes)[a.nodes.length+j]? = some ks):j<b.nodes.length/\ks=(nd b j).kids.map (· + (a.nodes.length:Int)):=by
 have hl:=(Gq.1 hj).1;rw[Kj,YT]at hl;have h1:j<b.nodes.length:=om
 have h2:=JK (l:=(QF a b).nodes) (i:=a.nodes.length+j) (by rw[YT];omega);rw[h2]at hj;refine⟨h1,?_⟩;have h3:((QF a b).nodes.getD (a.nodes.length+j) default)=mvN a.nodes.length (nd b j):=Jb4 h1;rw[h3]at hj;exact(GJ hj).symm
theorem join_ord:Ordd (Ju (QF a b).nodes) (oa++ob.map (· + (a.nodes.length:Int))):=by
 have la:=ga.olen;have lb:=gb.olen;refine⟨JdO (by rw[Kj,YT,Gr,Gh];omega) λj ks hj=>?_⟩;rcases GQ j a.nodes.length with h|h
 ·have h2:=JK (l:=(QF a b).nodes) (i:=j) (by rw[YT];omega);rw[h2]at hj;have h3:(QF a b).nodes.getD j default=nd a j:=Jda h;rw[h3]at hj;obtain⟨f,hf,hb⟩:=XH ga.ord.h (JK h);have e:ks=(nd a j).kids:=(GJ hj).symm;rw[e];refine⟨f,by rw[Gw om];exact hf,?_⟩;rw[YL ga.ord.ok _ _ om];exact hb
 ·obtain⟨i,rfl⟩:∃i,j=a.nodes.length+i:=⟨j-a.nodes.length,om⟩;obtain⟨hi,rfl⟩:=join_kidsR hj;obtain⟨f,hf,hb⟩:=XH gb.ord.h (JK hi);refine⟨f+a.nodes.length,?_,?_⟩
  ·rw[Gp om,show a.nodes.length+i-oa.length=i by omega,Gl,hf];rfl
  ·have key:∀(l:Lu) (c:Int),c<ob.length->Qr (oa++ob.map (· + (a.nodes.length:Int))) (l.map (· + (a.nodes.length:Int))) (c+a.nodes.length)=if (∀k∈l,0<=k) then(Qr ob l c).map (· + (a.nodes.length:Int)) else Qr (oa++ob.map (· + (a.nodes.length:Int))) (l.map (· + (a.nodes.length:Int))) (c+a.nodes.length):=by
    intro l
    induction l with
    |nil=>intro c _;rw[if_pos sM];rfl
    |cons k l ih=>
     intro c hc;by_cases hk:∀x∈k::l,0<=x
     ·rw[if_pos hk];have Ca:=hk k sM;simp only[Gc,Qr];by_cases h5:c<0\/k≠c
      ·rw[if_pos h5,iP7];rfl
      ·have Ff:k=c:=om
       subst Ff;have Aw:k.toNat<ob.length:=om
       have hv:=gb.ord.ok k.toNat ob[k.toNat] (Gb Aw);have e1:(oa++ob.map (· + (a.nodes.length:Int))).getD (k+(a.nodes.length:Int)).toNat 0=ob.getD k.toNat 0+a.nodes.length:=by rw[show (k+(a.nodes.length:Int)).toNat=a.nodes.length+k.toNat by omega,Ga,Gp om,show a.nodes.length+k.toNat-oa.length=k.toNat by omega,Gl,Ga,Gb Aw];rfl
       have e2:ob.getD k.toNat 0=ob[k.toNat]:=by rw[Ga,Gb Aw];rfl
       rw[if_neg h5,iN7,e1,show ob.getD k.toNat 0+(a.nodes.length:Int)-1=ob.getD k.toNat 0-1+a.nodes.length by omega,ih _ (by rw[e2];omega),if_pos λx hx=>hk x (by simp[hx])]
     ·rw[if_neg hk]
   have h6:=key (nd b i).kids.reverse ((i:Int)-1) om;have hc:∀k∈(nd b i).kids.reverse,0<=k:=λk hk=>(gb.kid hi (List.mem_reverse.1 hk)).1
   rw[if_pos hc]at h6;change Qr ob (nd b i).kids.reverse ((i:Int)-1)=some (f-1) at hb;rw[hb,List.map_reverse]at h6;rw[show (((a.nodes.length+i:Nat)):Int)-1=(i:Int)-1+a.nodes.length by omega,h6];simp only[He,Hf];omega
theorem join_good (hn:a.nodes.length+b.nodes.length<=700)(hi:a.items.length+b.items.length<=20):GoodT (QF a b) (oa++ob.map (· + (a.nodes.length:Int))):=by
 have la:=ga.olen;have lb:=gb.olen;have hl:=YT (a:=a) (b:=b);have hO:=join_ord ga gb;have kL:∀k:Int,0<=k->k<a.nodes.length->Jo (QF a b).nodes k=Jo a.nodes k:=λk h1 h2=>congrArg Nd.k (Jda (j:=k.toNat) om)
 have kR:∀k:Int,0<=k->k<b.nodes.length->Jo (QF a b).nodes (k+a.nodes.length)=Jo b.nodes k:=λk h1 h2=>by have:=congrArg Nd.k (Jb4 (a:=a) (b:=b) (j:=k.toNat) om);unfold Jo;rw[show (k+(a.nodes.length:Int)).toNat=a.nodes.length+k.toNat by omega];exact this
 refine⟨om,by simp[QF];omega,hO,?_,?_,?_,?_⟩
 ·rw[hl];unfold QF;simp only;rw[JfY];refine⟨a.nodes.length,Jhg la om _ _ _ ga.its,?_⟩;have:=JfW la lb _ _ _ gb.its;rw[Int.zero_add,show (b.nodes.length:Int)+a.nodes.length=((a.nodes.length+b.nodes.length:Nat):Int) by omega]at this;exact this
 ·intro i h;unfold QF at h;simp only[Gz,Gj]at h;rcases h with h|⟨k,h,rfl⟩
  ·have:=ga.itr h;rw[kL i om om];exact ga.defs i h
  ·have:=gb.itr h;rw[kR k om om];exact gb.defs k h
 ·intro x hx;unfold QF at hx;simp only[Gz,Gj]at hx;rcases hx with hx|⟨y,hy,rfl⟩
  ·have hn:=ga.nds x hx;have:lets (QF a b).nodes x=lets a.nodes x:=by
    unfold lets;refine Gx λk hk=>?_
    have:=ga.kidr hx hk;rw[kL k om om]
   unfold ndI at hn|-;rw[this];exact hn
  ·have hn:=gb.nds y hy;have:lets (QF a b).nodes (mvN a.nodes.length y)=lets b.nodes y:=by
    unfold lets mvN;simp only[Ha];refine Gx λk hk=>?_
    have:=gb.kidr hy hk;simp only[Ho];rw[kR k om om]
   unfold ndI at hn|-;rw[this];exact hn
 ·have dl:=Xj (Ju (QF a b).nodes) [];have dla:=Xj (Ju a.nodes) [];have dlb:=Xj (Ju b.nodes) [];simp only[Gd,Gn,Kj]at dl dla dlb;have dL:∀j:Nat,j<a.nodes.length->(KJ (Ju (QF a b).nodes) []).getD j 0=(KJ (Ju a.nodes) []).getD j 0:=by
   intro j
   induction j using Hg with
   |ind j ih=>
    intro hj;rw[JaE hO (JK om),JaE ga.ord (JK hj)];have h3:(QF a b).nodes.getD j default=nd a j:=Jda hj;rw[h3];have:=Jfh (D:=KJ (Ju a.nodes) []) (D':=KJ (Ju (QF a b).nodes) []) (f:=λk=>k) (List.Perm.refl (nd a j).kids) λk hk=>by have h4:=ga.kid hj hk;exact ih k.toNat om om
    rw[List.map_id']at this;exact this
  have dR:∀j:Nat,j<b.nodes.length->(KJ (Ju (QF a b).nodes) []).getD (a.nodes.length+j) 0=(KJ (Ju b.nodes) []).getD j 0:=by
   intro j
   induction j using Hg with
   |ind j ih=>
    intro hj;rw[JaE hO (JK om),JaE gb.ord (JK hj)];have h3:(QF a b).nodes.getD (a.nodes.length+j) default=mvN a.nodes.length (nd b j):=Jb4 hj;rw[h3];refine Jfh (List.Perm.refl (nd b j).kids) λk hk=>?_
    have h4:=gb.kid hj hk;rw[show (k+(a.nodes.length:Int)).toNat=a.nodes.length+k.toNat by omega];exact ih k.toNat om om
  intro v hv;obtain⟨j,hj,rfl⟩:=Gt hv;have h1:(KJ (Ju (QF a b).nodes) [])[j]=(KJ (Ju (QF a b).nodes) []).getD j 0:=by rw[Ga,Gb hj];rfl
  rw[h1];rcases GQ j a.nodes.length with h|h
  ·rw[dL j h];exact ga.deep _ (by rw[Ga,Gb om];exact Gm _)
  ·obtain⟨i,rfl⟩:∃i,j=a.nodes.length+i:=⟨j-a.nodes.length,om⟩;rw[dR i om];exact gb.deep _ (by rw[Ga,Gb om];exact Gm _)
end
theorem noT_good:GoodT noT []:=⟨by simp[noT],by simp[noT],⟨rfl⟩,by simp[noT,chain],λi hi=>by simp[noT]at hi,λx hx=>by simp[noT]at hx,λv hv=>by simp[noT,Ju,KJ]at hv⟩
section
variable(g:GoodT t o)(dead:Nat->Bool)
include g
theorem kid_blk(hi:i<t.items.length)(h1:Yu t i<=x)(h2:x<Yu t (i+1)){c:Int}(hc:c∈(nd t x).kids):(Yu t i:Int)<=c/\c<Yu t (i+1):=by
 obtain⟨L,hL,hF,UA,BH,hE⟩:=Jfy g hi;have hx:x<t.nodes.length:=om
 have h3:=g.ord.nest L x (by rw[Kj];exact BH) om (by rw[hF];omega) om;rw[hF]at h3;have h4:=g.kid hx hc;obtain⟨c,rfl⟩:∃c':Nat,c=c':=⟨c.toNat,om⟩;have h5:=(KE g hx hc).2;have h6:=(Jgk g (a:=c) om).2;have h7:=(Q6 g (a:=c) om);have h8:fs o x<=fs o c:=by have:=g.ord.nest x c (by rw[Kj];exact hx) om h5 om;exact this
 have:=(Jgk g (a:=c) om).1;exact⟨om,om⟩
theorem item_blk(hx:x<t.nodes.length):Qn t x<t.items.length/\Yu t (Qn t x)<=x/\x<Yu t (Qn t x+1):=by
 obtain⟨k,L,h1,h2,h3,_,h5,h6⟩:=JaW g hx;obtain⟨L',hL,_,_,_,hE⟩:=Jfy g h1;have:L'=L:=by
  have e:t.items.getD k 0=(L:Int):=by rw[Ga,h2];rfl
  omega
 rw[h3];exact⟨h1,h5,om⟩
end
section
variable(g:GoodT t o)
include g
end
theorem mvN_fit {x:Nd}(h:x.Fit){d:Int}(hk:∀k∈x.kids,InR .i64 (k+d)):(mvN d x).Fit:=
 ⟨h.k,h.text,h.n,by simpa [mvN]using h.kidn,λi hi=>by simp only[mvN,Gj]at hi;obtain⟨k,Am,rfl⟩:=hi;exact hk k Am,h.pl⟩
theorem cutT_fit(ht:t.Fit)(g:GoodT t o)(hi:i<t.items.length):(JdP o t i).Fit:=by
 have Ah:=g.many;obtain⟨L,F,hL,Rj,UA,BH,Bf,Sc⟩:=g.item hi;have hT:JdP o t i=⟨((t.nodes.drop F).take (L+1-F)).map (mvN (-(F:Int))),[(L:Int)-F]⟩:=by unfold JdP;simp only[hL,Rj,Gi]
 rw[hT];refine⟨by simp only[Gh,Gu,La];omega,sM,λy hy=>?_,λy hy=>?_⟩
 ·simp only[Gj]at hy;obtain⟨x,hx,rfl⟩:=hy;have AY:=List.mem_of_mem_drop (GX hx);refine mvN_fit (ht.nodes x AY) λk hk=>?_
  have:=g.kidr AY hk;exact Ji
 ·simp only[List.mem_singleton]at hy;subst hy;exact Ji
theorem joinT_fit{b:Tr}(ha:a.Fit)(hb:b.Fit)(ga:GoodT a oa)(gb:GoodT b ob):(QF a b).Fit:=by
 have h1:=ga.many;have h2:=gb.many;have h3:=ga.items;have h4:=gb.items;refine⟨by simp only[QF,Gr,Gh];omega,by simp only[QF,Gr,Gh];omega,λy hy=>?_,λy hy=>?_⟩
 ·simp only[QF,Gz,Gj]at hy;rcases hy with hy|⟨x,hx,rfl⟩
  ·exact ha.nodes y hy
  ·refine mvN_fit (hb.nodes x hx) λk hk=>?_
   have:=gb.kidr hx hk;exact Ji
 ·simp only[QF,Gz,Gj]at hy;rcases hy with hy|⟨x,hx,rfl⟩
  ·exact ha.iz y hy
  ·have:=gb.itr hx;exact Ji
def swapL (l:Lu)(i j:Nat):Lu:=(l.set i (l.getD j 0)).set j (l.getD i 0)
def Jgd (t:Tr)(v:Nat):Lx:=(GI (nd t v).kids.length).filter λk=>Jo t.nodes ((nd t v).kids.getD k 0) == 41
def JcQ (b:Lx)(v:Nat)(sets:Lx)(l:Lu):Nat->Lu
 |0=>l
 |i+1=>swapL (JcQ b v sets l i) (sets.getD (i+1) 0) (sets.getD (b.getD ((v+(i+1)) % b.length) 0 % (i+2)) 0)
def KC (t:Tr)(b:Lx)(v:Nat):Lu:=if b=[] then(nd t v).kids else JcQ b v (Jgd t v) (nd t v).kids ((Jgd t v).length-1)
structure KPerm (t:Tr)(l m:Lu):Prop where
 len:m.length=l.length
 perm:m.Perm l
 kind:∀i,i<l.length->Jo t.nodes (m.getD i 0)=Jo t.nodes (l.getD i 0)/\(Jo t.nodes (l.getD i 0)≠41->m.getD i 0=l.getD i 0)
theorem KPerm.refl:KPerm t l l:=⟨rfl,.refl _,λ_ _=>⟨rfl,λ_=>rfl⟩⟩
theorem swap_get{j:Nat}(hi:i<l.length)(hj:j<l.length):(swapL l i j).getD k 0=if k=j then l.getD i 0 else if k=i then l.getD j 0 else l.getD k 0:=by
 unfold swapL;simp only[Ga,H7,GG];by_cases h1:k=j
 ·subst h1;simp[hj]
 ·rw[if_neg (λh=>h1 h.symm),if_neg h1];by_cases h2:k=i
  ·subst h2;simp[hi]
  ·rw[if_neg (λh=>h2 h.symm),if_neg h2]
theorem swap_perm{j:Nat}(hi:i<l.length)(hj:j<l.length):(swapL l i j).Perm l:=by unfold swapL;have h:=List.set_set_perm hi hj;rw[Ga,Ga,Gb hi,Gb hj];exact h
theorem KPerm.swap{m:Lu}{j:Nat}(h:KPerm t l m)(hi:i<l.length)(hj:j<l.length)(ki:Jo t.nodes (l.getD i 0)=41)(kj:Jo t.nodes (l.getD j 0)=41):KPerm t l (swapL m i j):=by
 have hl:=h.len;refine⟨by unfold swapL;rw[GG,GG,hl],(swap_perm om om).trans h.perm,λk hk=>?_⟩;rw[swap_get om om];have h1:=h.kind k hk;have h2:=h.kind i hi;have h3:=h.kind j hj;by_cases e1:k=j
 ·subst e1;rw[if_pos rfl,h2.1,ki,kj];exact⟨rfl,λh=>absurd rfl h⟩
 ·rw[if_neg e1];by_cases e2:k=i
  ·subst e2;rw[if_pos rfl,h3.1,ki,kj];exact⟨rfl,λh=>absurd rfl h⟩
  ·rw[if_neg e2];exact h1
theorem Je1(h:i<(Jgd t v).length):(Jgd t v).getD i 0<(nd t v).kids.length/\Jo t.nodes ((nd t v).kids.getD ((Jgd t v).getD i 0) 0)=41:=by
 have hm:(Jgd t v).getD i 0∈Jgd t v:=by rw[Ga,Gb h];exact Gm h
 have:=List.mem_filter.1 hm;exact⟨GN.1 this.1,by simpa using this.2⟩
theorem JdA:∀i,i+1<=(Jgd t v).length\/i=0->KPerm t (nd t v).kids (JcQ b v (Jgd t v) (nd t v).kids i)
 |0,_=>.refl
 |i+1,h=>by have h1:=Je1 (t:=t) (v:=v) (i:=i+1) om;have h2:=Hm (b.getD ((v+(i+1)) % b.length) 0) (show 0<i+2 by omega);have h3:=Je1 (t:=t) (v:=v) (i:=b.getD ((v+(i+1)) % b.length) 0 % (i+2)) om;exact(JdA i om).swap h1.1 h3.1 h1.2 h3.2
theorem Qv:KPerm t (nd t v).kids (KC t b v):=by
 unfold KC
 split
 ·exact .refl
 ·exact JdA _ om
structure Sh where
 us:LC
 ps:Lu
 tos:Lu
def shF (go:Nat->Sh->Sh):Lu->Sh->Lu->Sh×Lu
 |[],s,now=>(s,now)
 |k::ks,s,now=>shF go ks (go k.toNat s) (now++[((go k.toNat s).us.length:Int)-1])
def shN (t:Tr)(b:Lx):Nat->Nat->Sh->Sh
 |0,_,s=>s
 |f+1,v,s=>⟨(shF (shN t b f) (KC t b v) s []).1.us++[{ nd t v with kids:=(shF (shN t b f) (KC t b v) s []).2 }],(shF (shN t b f) (KC t b v) s []).1.ps++[(s.us.length:Int)],(shF (shN t b f) (KC t b v) s []).1.tos.set v ((shF (shN t b f) (KC t b v) s []).1.us.length:Int)⟩
structure ShI (t:Tr)(b:Lx)(D:Nat->Prop)(s:Sh):Prop where
 tl:s.tos.length=t.nodes.length
 pl:s.ps.length=s.us.length
 im:∀x,D x->x<t.nodes.length/\∃j:Nat,s.tos.getD x 0=j/\s.us[j]? = some { nd t x with kids:=(KC t b x).map λk=>s.tos.getD k.toNat 0 }
 cl:∀x,D x->∀k:Nat,(k:Int)∈(nd t x).kids->D k
 on:∀j,j<s.us.length->∃x,D x/\s.tos.getD x 0=j
 inj:∀x y,D x->D y->s.tos.getD x 0=s.tos.getD y 0->x=y
 fi:∀(j:Nat) ks,(Ju s.us)[j]? = some ks->∃f,s.ps[j]? = some f/\(0<=f/\f<=j)/\Qr s.ps ks.reverse ((j:Int)-1)=some (f-1)
theorem ShI.ok{s:Sh}(h:ShI t b D s):Q8 s.ps:=λj v hj=>by
 have hl:=(Gq.1 hj).1;rw[h.pl]at hl;obtain⟨f,h1,h2,_⟩:=h.fi j (s.us[j]).kids (by simp[Ju,Gb hl]);rw[h1]at hj
 cases hj
 exact h2
theorem ShI.congD{D':Nat->Prop}{s:Sh}(h:ShI t b D s)(he:∀x,D x↔D' x):ShI t b D' s:=by
 have:D=D':=funext λx=>propext (he x)
 subst this;exact h
structure ShS (t:Tr)(b:Lx)(D E:Nat->Prop)(s s':Sh):Prop where
 inv:ShI t b (λx=>D x\/E x) s'
 us:∃L,s'.us=s.us++L
 ps:∃M,s'.ps=s.ps++M
 tos:∀x,¬E x->s'.tos.getD x 0=s.tos.getD x 0
section
variable(g:GoodT t o)
include g
theorem shF_ok {go:Nat->Sh->Sh}:∀(ks:Lu) (D:Nat->Prop) (s:Sh) (now:Lu),(∀k∈ks,0<=k/\k<t.nodes.length)->(∀k l:Nat,(k:Int)∈ks->(l:Int)∈ks->∀x,blw o x k->blw o x l->k=l)->(∀(k:Nat) (D:Nat->Prop) (s:Sh),(k:Int)∈ks->ShI t b D s->(∀x,blw o x k->¬D x)->ShS t b D (λx=>blw o x k) s (go k s)/\s.us.length<(go k s).us.length/\(go k s).tos.getD k 0=((go k s).us.length:Int)-1/\(go k s).ps.getD ((go k s).us.length-1) 0=s.us.length)->ks.Nodup->ShI t b D s->(∀k:Nat,(k:Int)∈ks->∀x,blw o x k->¬D x)->
   ShS t b D (λx=>∃k:Nat,(k:Int)∈ks/\blw o x k) s (shF go ks s now).1/\(shF go ks s now).2=now++ks.map (λk=>(shF go ks s now).1.tos.getD k.toNat 0)/\Qr (shF go ks s now).1.ps ((ks.map λk=>(shF go ks s now).1.tos.getD k.toNat 0).reverse) (((shF go ks s now).1.us.length:Int)-1)=some ((s.us.length:Int)-1)
 |[],D,s,now,_,_,_,_,hI,_=>by refine⟨⟨hI.congD λx=>?_,⟨[],by simp[shF]⟩,⟨[],by simp[shF]⟩,λx _=>rfl⟩,by simp[shF],by simp[shF,Qr]⟩;simp
 |k::ks,D,s,now,Bo,Bn,Bj,BQ,hI,hD=>by
  have Ca:=Bo k sM;obtain⟨k,rfl⟩:∃k':Nat,k=k':=⟨k.toNat,om⟩;obtain⟨⟨i1,⟨L1,u1⟩,⟨M1,p1⟩,t1⟩,l1,k1,f1⟩:=Bj k D s sM hI (hD k sM);rw[List.nodup_cons]at BQ;have RL:∀x,blw o x k->∀y:Nat,(y:Int)∈ks->¬blw o x y:=λx hx y hy gV=>by have:=Bn k y sM (by simp[hy]) x hx gV;subst this;exact BQ.1 hy
  have ih:=shF_ok (go:=go) ks (λx=>D x\/blw o x k) (go k s) (now++[((go k s).us.length:Int)-1]) (λy hy=>Bo y (by simp[hy])) (λa c ha hc=>Bn a c (by simp[ha]) (by simp[hc])) (λa D s ha=>Bj a D s (by simp[ha])) BQ.2 i1 (λy hy x hx hc=>by
   rcases hc with hc|hc
   ·exact hD y (by simp[hy]) x hx hc
   ·exact RL x hc y hy hx)
  simp only[shF,Gi];generalize go k s=s1 at i1 u1 p1 t1 l1 k1 f1 ih|-;obtain⟨⟨i2,⟨L2,u2⟩,⟨M2,p2⟩,t2⟩,n2,b2⟩:=ih;generalize shF go ks s1 (now++[(s1.us.length:Int)-1])=r at i2 u2 p2 t2 n2 b2|-;have Cr:r.1.tos.getD k 0=(s1.us.length:Int)-1:=by rw[t2 k λ⟨y,hy,hb⟩=>RL k (Q6 g om) y hy hb,k1]
  refine⟨⟨i2.congD λx=>?_,⟨L1++L2,by rw[u2,u1,GK]⟩,⟨M1++M2,by rw[p2,p1,GK]⟩,λx hx=>?_⟩,?_,?_⟩
  ·constructor
   ·rintro((h|h)|⟨y,hy,h⟩)
    ·exact .inl h
    ·exact .inr ⟨k,sM,h⟩
    ·exact .inr ⟨y,by simp[hy],h⟩
   ·rintro(h|⟨y,hy,h⟩)
    ·exact .inl (.inl h)
    ·rcases List.mem_cons.1 hy with hy|hy
     ·obtain rfl:y=k:=om
      exact .inl (.inr h)
     ·exact .inr ⟨y,hy,h⟩
  ·rw[t2 x λ⟨y,hy,hb⟩=>hx ⟨y,by simp[hy],hb⟩,t1 x λhb=>hx ⟨k,sM,hb⟩]
  ·rw[n2,Gc,Gi,Cr];simp
  ·rw[Gc,List.reverse_cons,JbP,b2,Option.bind_some,Gi,Cr,Qr,iN7,Qr,p2,Jih (by rw[i1.pl];omega),show ((s1.us.length:Int)-1).toNat=s1.us.length-1 by omega,f1]
theorem Jgw:∀(f v:Nat) (D:Nat->Prop) (s:Sh),v<f->v<t.nodes.length->ShI t b D s->(∀x,blw o x v->¬D x)->ShS t b D (λx=>blw o x v) s (shN t b f v s)/\s.us.length<(shN t b f v s).us.length/\(shN t b f v s).tos.getD v 0=((shN t b f v s).us.length:Int)-1/\(shN t b f v s).ps.getD ((shN t b f v s).us.length-1) 0=s.us.length
 |0,v,D,s,hf,_,_,_=>om
 |f+1,v,D,s,hf,hv,hI,hD=>by
  have Ey:=Qv (t:=t) (b:=b) (v:=v);have Ap:∀k,k∈KC t b v↔k∈(nd t v).kids:=λk=>Ey.perm.mem_iff
  have BQ:(KC t b v).Nodup:=Ey.perm.nodup_iff.2 ((Jc9 g hv).imp λh=>by omega);obtain⟨⟨i1,⟨L1,u1⟩,⟨M1,p1⟩,t1⟩,n1,b1⟩:=shF_ok g (go:=shN t b f) (KC t b v) D s [] (λk hk=>by have:=g.kid hv ((Ap k).1 hk);omega) (λk l hk hl x h1 h2=>Jia g hv ((Ap k).1 hk) ((Ap l).1 hl) h1 h2) (λk D' s' hk Uz ML=>by have:=(JC g hv ((Ap k).1 hk)).2;exact Jgw f k D' s' om om Uz ML) BQ hI (λk hk x hx=>hD x (Kw g hv hx (KE g hv ((Ap k).1 hk))))
  rw[shN];generalize shF (shN t b f) (KC t b v) s []=r at i1 u1 p1 t1 n1 b1|-;rw[GL]at n1;have Iq:v<r.1.tos.length:=by rw[i1.tl];exact hv
  have Ev:∀x,(r.1.tos.set v (r.1.us.length:Int)).getD x 0=if x=v then(r.1.us.length:Int) else r.1.tos.getD x 0:=λx=>by
   simp only[Ga,H7];by_cases hx:x=v
   ·subst hx;simp[Iq]
   ·rw[if_neg (λh=>hx h.symm),if_neg hx]
  have iq:¬(D v\/∃k:Nat,(k:Int)∈KC t b v/\blw o v k):=by
   rintro(h|⟨k,hk,hb⟩)
   ·exact hD v (Q6 g hv) h
   ·have:=(JC g hv ((Ap k).1 hk)).2;have:=hb.1;omega
  have BA:∀x,(D x\/∃k:Nat,(k:Int)∈KC t b v/\blw o x k)\/x=v↔D x\/blw o x v:=λx=>by
   constructor
   ·rintro((h|⟨k,hk,hb⟩)|rfl)
    ·exact .inl h
    ·exact .inr (Kw g hv hb (KE g hv ((Ap k).1 hk)))
    ·exact .inr (Q6 g hv)
   ·rintro(h|hb)
    ·exact .inl (.inl h)
    ·rcases JbN g hv hb with rfl|⟨c,hc,Cb⟩
     ·exact .inr rfl
     ·exact .inl (.inr ⟨c,(Ap c).2 hc,Cb⟩)
  have Ag:∀x,(D x\/∃k:Nat,(k:Int)∈KC t b v/\blw o x k)->x≠v:=λx hx he=>iq (he▸hx)
  have Ab:∀x,(D x\/∃k:Nat,(k:Int)∈KC t b v/\blw o x k)->r.1.tos.getD x 0<r.1.us.length:=λx hx=>by obtain⟨_,j,hj,hu⟩:=i1.im x hx;have:=(Gq.1 hu).1;omega
  have Aq:=i1.ok;have Ee:∀x,(D x\/∃k:Nat,(k:Int)∈KC t b v/\blw o x k)->(KC t b x).map (λk=>(r.1.tos.set v (r.1.us.length:Int)).getD k.toNat 0)=(KC t b x).map λk=>r.1.tos.getD k.toNat 0:=λx hx=>by
   refine Gx λk hk=>?_
   have Am:=(Qv (t:=t) (b:=b) (v:=x)).perm.mem_iff.1 hk;have AY:=(i1.im x hx).1;have Ca:=g.kid AY Am;obtain⟨k,rfl⟩:∃k':Nat,k=k':=⟨k.toNat,om⟩;rw[Ev,Gi,if_neg (Ag k (i1.cl x hx k Am))]
  refine⟨⟨ShI.congD (D:=λx=>(D x\/∃k:Nat,(k:Int)∈KC t b v/\blw o x k)\/x=v) ⟨?_,?_,?_,?_,?_,?_,?_⟩ BA,⟨L1++[_],by rw[u1,GK]⟩,⟨M1++[_],by rw[p1,GK]⟩,λx hx=>?_⟩,?_,?_,?_⟩
  ·simp[i1.tl]
  ·simp[i1.pl]
  ·rintro x (hx|rfl)
   ·obtain⟨h1,j,h2,h3⟩:=i1.im x hx;refine⟨h1,j,by rw[Ev,if_neg (Ag x hx)];exact h2,?_⟩;rw[Gw (Gq.1 h3).1,h3,Ee x hx]
   ·refine⟨hv,r.1.us.length,by rw[Ev,if_pos rfl],?_⟩;rw[Gp (Gv _),Hl,n1];simp only[GU,Hf,Nd.mk.injEq,true_and,and_true];refine Gx λk hk=>?_
    have Am:=(Ap k).1 hk;have Ca:=g.kid hv Am;obtain⟨k,rfl⟩:∃k':Nat,k=k':=⟨k.toNat,om⟩;rw[Ev,Gi,iN7]
  ·rintro x (hx|rfl) k hk
   ·exact .inl (i1.cl x hx k hk)
   ·have:=(JC g hv hk).2;exact .inl (.inr ⟨k,(Ap k).2 hk,Q6 g om⟩)
  ·intro j hj;rw[Gr,GV]at hj;rcases GQ j r.1.us.length with h1|h1
   ·obtain⟨x,h2,h3⟩:=i1.on j h1;exact⟨x,.inl h2,by rw[Ev,if_neg (Ag x h2)];exact h3⟩
   ·exact⟨v,.inr rfl,by rw[Ev,if_pos rfl];omega⟩
  ·rintro x y (hx|rfl) (hy|rfl) he
   ·rw[Ev,Ev,if_neg (Ag x hx),if_neg (Ag y hy)]at he;exact i1.inj x y hx hy he
   ·rw[Ev,Ev,if_neg (Ag x hx),if_pos rfl]at he;have:=Ab x hx;omega
   ·rw[Ev,Ev,if_neg (Ag y hy),if_pos rfl]at he;have:=Ab y hy;omega
   ·rfl
  ·intro j ks hj;have CU:=i1.pl;simp only[Ju,GA,Gc,Gf]at hj;rcases GQ j r.1.us.length with h1|h1
   ·rw[Gw (by rw[Gh];exact h1)]at hj;obtain⟨f',h2,h3,h4⟩:=i1.fi j ks hj;exact⟨f',by rw[Gw om];exact h2,h3,by rw[YL Aq _ _ om];exact h4⟩
   ·have Ba:=(Gq.1 hj).1;simp only[Gr,Gh,GV]at Ba;obtain rfl:j=r.1.us.length:=om
    rw[Gp (by rw[Gh];exact Gv _),Gh,Hl]at hj;simp only[GU,Hf]at hj;subst hj;have Oi:s.us.length<=r.1.us.length:=by rw[u1,Gr];omega
    refine⟨(s.us.length:Int),by rw[Gp om,CU,Hl];rfl,⟨om,om⟩,?_⟩;rw[YL Aq _ _ om,n1];exact b1
  ·rw[Ev,if_neg (λhe:x=v=>hx (by rw[he];exact Q6 g hv)),t1 x λ⟨k,hk,hb⟩=>hx (Kw g hv hb (KE g hv ((Ap k).1 hk)))]
  ·have Oi:s.us.length<=r.1.us.length:=by rw[u1,Gr];omega
   simp only[Gr,GV];omega
  ·rw[Ev,if_pos rfl];simp
  ·have CU:=i1.pl;rw[Ga,Gp (by simp;omega)];simp[CU]
end
variable {go:Nat->Sh->Sh}
def Jeg (t:Tr):Sh:=⟨[],[],GH t.nodes.length 0⟩
def shT (t:Tr)(b:Lx):Sh×Lu:=shF (shN t b t.nodes.length) t.items (Jeg t) []
def KD (t:Tr)(b:Lx):Tr:=⟨(shT t b).1.us,(shT t b).2⟩
def KI (t:Tr)(b:Lx)(x:Nat):Nat:=((shT t b).1.tos.getD x 0).toNat
theorem pigeon:∀(m n:Nat) (f:Nat->Nat),(∀i,i<n->f i<m)->(∀i j,i<n->j<n->f i=f j->i=j)->n<=m
 |0,n,f,h,_=>by
  rcases Nat.eq_zero_or_pos n with h1|h1
  ·omega
  ·have:=h 0 h1;omega
 |m+1,n,f,h,hi=>by
  by_cases he:∃i,i<n/\f i=m
  ·obtain⟨x,hx,OE⟩:=he;have:=pigeon m (n-1) (λi=>f (if i<x then i else i+1)) (λi h1=>by
    have hl:(if i<x then i else i+1)<n/\(if i<x then i else i+1)≠x:=by split <;> omega
    have h2:=h _ hl.1;have h3:f (if i<x then i else i+1)≠m:=λh3=>hl.2 (hi _ _ hl.1 hx (h3.trans OE.symm))
    omega) (λi j h1 h2 h3=>by
    have:=hi _ _ (show (if i<x then i else i+1)<n by split <;> omega) (show (if j<x then j else j+1)<n by split <;> omega) h3
    split at this <;> split at this <;> omega)
   omega
  ·have:=pigeon m n f (λi h1=>by
    have h2:=h i h1;have h3:f i≠m:=λh3=>he ⟨i,h1,h3⟩
    omega) hi
   omega
section
variable(g:GoodT t o)
include g
theorem Jfw{l:Nat}(hk:(k:Int)∈t.items)(hl:(l:Int)∈t.items)(h1:blw o x k)(h2:blw o x l):k=l:=by
 have Am:=g.itr hk;have Ec:=g.itr hl;obtain⟨i,hi,e1⟩:=Gt hk;obtain⟨j,hj,e2⟩:=Gt hl;have a1:t.items[i]? = some (k:Int):=by rw[Gb hi,e1]
 have a2:t.items[j]? = some (l:Int):=by rw[Gb hj,e2]
 have b1:=KM.2 h1;have b2:=KM.2 h2;have hx:x<t.nodes.length:=by have:=h1.1;omega
 rw[Jfx g hx a1,beq_iff_eq]at b1;rw[Jfx g hx a2,beq_iff_eq]at b2;obtain rfl:i=j:=om
 rw[a1]at a2;have:=GJ a2;omega
theorem Je0:ShI t b (λx=>x<t.nodes.length) (shT t b).1/\(shT t b).2=t.items.map (λk=>(shT t b).1.tos.getD k.toNat 0)/\Qr (shT t b).1.ps ((t.items.map λk=>(shT t b).1.tos.getD k.toNat 0).reverse) (((shT t b).1.us.length:Int)-1)=some (-1):=by
 have h0:ShI t b (λ_=>False) (Jeg t):=⟨by simp[Jeg],rfl,λ_ h=>h.elim,λ_ h=>h.elim,λj h=>by simp[Jeg]at h,λ_ _ h=>h.elim,λj ks h=>by simp[Jeg,Ju]at h⟩;have BQ:t.items.Nodup:=XI g.ord.ok g.olen _ _ _ g.its;obtain⟨⟨i1,_,_,_⟩,n1,b1⟩:=shF_ok g (go:=shN t b t.nodes.length) t.items (λ_=>False) (Jeg t) [] (λk hk=>g.itr hk) (λk l hk hl x h1 h2=>Jfw g hk hl h1 h2) (λk D s hk hI hD=>Jgw g t.nodes.length k D s (by have:=g.itr hk;omega) (by have:=g.itr hk;omega) hI hD) BQ h0 (λ_ _ _ _ h=>h);refine⟨i1.congD λx=>?_,by rw[GL]at n1;exact n1,b1⟩
 constructor
 ·rintro(h|⟨k,hk,hb⟩)
  ·exact h.elim
  ·have:=g.itr hk;have:=hb.1;omega
 ·intro hx;obtain⟨k,L,h1,h2,h3,_⟩:=JaW g hx;refine .inr ⟨L,GY h2,KM.1 ?_⟩;rw[Jfx g hx h2,h3];simp
theorem QI(hx:x<t.nodes.length):(shT t b).1.tos.getD x 0=(KI t b x:Int)/\KI t b x<(KD t b).nodes.length/\nd (KD t b) (KI t b x) = { nd t x with kids:=(KC t b x).map λk=>(KI t b k.toNat:Int) }:=by
 obtain⟨i1,_,_⟩:=Je0 g (b:=b);have Ev:∀y,y<t.nodes.length->(shT t b).1.tos.getD y 0=(KI t b y:Int):=λy hy=>by obtain⟨_,j,h1,_⟩:=i1.im y hy;unfold KI;omega
 obtain⟨_,j,h1,h2⟩:=i1.im x hx;have hj:j=KI t b x:=by have:=Ev x hx;omega
 subst hj;have hl:=(Gq.1 h2).1;refine⟨h1,hl,?_⟩;unfold nd KD;simp only;have he:∀(l l':Lu) (z:Nd),l=l'->({ z with kids:=l }:Nd) = { z with kids:=l' }:=λl l' z h=>by rw[h]
 rw[Ga,h2,GD];refine he _ _ _ (Gx λk hk=>?_);have Am:=(Qv (t:=t) (b:=b) (v:=x)).perm.mem_iff.1 hk;have Ca:=g.kid hx Am;exact Ev _ om
theorem to_inj(hx:x<t.nodes.length)(hy:y<t.nodes.length)(h:KI t b x=KI t b y):x=y:=by obtain⟨i1,_,_⟩:=Je0 g (b:=b);exact i1.inj x y hx hy (by rw[(QI g hx).1,(QI g hy).1,h])
theorem to_on {j:Nat}(hj:j<(KD t b).nodes.length):∃x,x<t.nodes.length/\KI t b x=j:=by obtain⟨i1,_,_⟩:=Je0 g (b:=b);obtain⟨x,h1,h2⟩:=i1.on j hj;exact⟨x,h1,by unfold KI;omega⟩
theorem Jet:(KD t b).nodes.length=t.nodes.length:=by
 have h1:=pigeon (KD t b).nodes.length t.nodes.length (KI t b) (λi hi=>(QI g hi).2.1) (λi j hi hj h=>to_inj g hi hj h);have h2:∀j,∃x,j<(KD t b).nodes.length->x<t.nodes.length/\KI t b x=j:=λj=>by
  by_cases hj:j<(KD t b).nodes.length
  ·obtain⟨x,hx⟩:=to_on g hj;exact⟨x,λ_=>hx⟩
  ·exact⟨0,λh=>absurd h hj⟩
 have h3:=pigeon t.nodes.length (KD t b).nodes.length (λj=>Classical.choose (h2 j)) (λj hj=>(Ht (h2 j) hj).1) (λi j hi hj h=>by rw[<-(Ht (h2 i) hi).2,<-(Ht (h2 j) hj).2];exact congrArg _ h)
 omega
theorem shuf_ord:Ordd (Ju (KD t b).nodes) (shT t b).1.ps:=by obtain⟨i1,_,_⟩:=Je0 g (b:=b);refine⟨JdO (by rw[Kj];exact i1.pl) λj ks hj=>?_⟩;obtain⟨f,h1,_,h3⟩:=i1.fi j ks hj;exact⟨f,h1,h3⟩
theorem shuf_lets(hx:x<t.nodes.length):lets (KD t b).nodes (nd (KD t b) (KI t b x))=lets t.nodes (nd t x):=by
 have Ey:=Qv (t:=t) (b:=b) (v:=x);rw[(QI g hx).2.2];unfold lets;simp only[Ha];have h1:(KC t b x).map ((λk=>Jdo (Jo (KD t b).nodes k))∘λk=>(KI t b k.toNat:Int))=(KC t b x).map λk=>Jdo (Jo t.nodes k):=by
  refine Gx λk hk=>?_
  have Ca:=g.kid hx (Ey.perm.mem_iff.1 hk);have h2:=(QI g (b:=b) (x:=k.toNat) om).2.2;simp only[Ho]
  congr 1
  show (nd (KD t b) (KI t b k.toNat)).k=(nd t k.toNat).k;rw[h2]
 rw[h1];refine List.ext_getElem (by simp[Ey.len]) λi hi EB=>?_
 simp only[Gh]at hi EB;rw[Lb,Lb];have:=(Ey.kind i EB).1;rw[Ga,Ga,Gb hi,Gb EB]at this;exact congrArg Jdo this
theorem shuf_deep:x<t.nodes.length->(KJ (Ju (KD t b).nodes) []).getD (KI t b x) 0=(KJ (Ju t.nodes) []).getD x 0:=by
 induction x using Hg with
 |ind x ih=>
  intro hx;have Ey:=Qv (t:=t) (b:=b) (v:=x);obtain⟨_,h1,h2⟩:=QI g (b:=b) hx;rw[JaE (shuf_ord g) (JK h1),JaE g.ord (JK hx)];have h3:((KD t b).nodes.getD (KI t b x) default).kids=(KC t b x).map λk=>(KI t b k.toNat:Int):=by show (nd (KD t b) (KI t b x)).kids=_;rw[h2]
  rw[h3];refine Jfh Ey.perm λk hk=>?_
  have Ca:=g.kid hx (Ey.perm.mem_iff.1 hk);rw[Gi];exact ih k.toNat om om
theorem Jbn:GoodT (KD t b) (shT t b).1.ps:=by
 obtain⟨i1,n1,b1⟩:=Je0 g (b:=b);have hl:=Jet g (b:=b);have hO:=shuf_ord g (b:=b);have CU:(shT t b).1.ps.length=(KD t b).nodes.length:=i1.pl;have FN:(KD t b).items=t.items.map λk=>(shT t b).1.tos.getD k.toNat 0:=n1
 refine⟨by rw[hl];exact g.many,by rw[FN,Gh];exact g.items,hO,?_,?_,?_,?_⟩
 ·have h1:=JcG hO.ok _ _ _ (by rw[CU];show ((KD t b).nodes.length:Int)-1<_;omega) om b1;rw[List.reverse_reverse,Int.sub_add_cancel,CU]at h1;rw[FN];exact h1
 ·rw[FN];intro i hi;obtain⟨k,hk,rfl⟩:=Gj.1 hi;have Ca:=g.itr hk;have h2:=QI g (b:=b) (x:=k.toNat) om;rw[h2.1];show (nd (KD t b) (KI t b k.toNat)).k=65;rw[h2.2.2];exact g.defs k hk
 ·intro x hx;obtain⟨j,hj,rfl⟩:=Gt hx;obtain⟨y,hy,rfl⟩:=to_on g hj;have h2:=QI g (b:=b) hy;have e:(KD t b).nodes[KI t b y]=nd (KD t b) (KI t b y):=by unfold nd;rw[Ga,Gb hj];rfl
  have hn:=g.nds (nd t y) (by unfold nd;rw[Ga,Gb hy];exact Gm hy);rw[e];unfold ndI at hn|-;rw[shuf_lets g hy,h2.2.2];exact hn
 ·intro v hv;obtain⟨j,hj,rfl⟩:=Gt hv;have Bh:=Xj (Ju (KD t b).nodes) [];simp only[Gd,Gn,Kj]at Bh;obtain⟨y,hy,rfl⟩:=to_on g (show j<(KD t b).nodes.length by omega);have h1:=shuf_deep g (b:=b) hy;rw[Ga,Gb hj]at h1;have Py:=Xj (Ju t.nodes) [];simp only[Gd,Gn,Kj]at Py;have h2:=g.deep ((KJ (Ju t.nodes) []).getD y 0) (by rw[Ga,Gb om];exact Gm _);simp only[GD]at h1;omega
theorem JcP:TMap t (KD t b) (KI t b):=by
 have Ap:∀x k,k∈KC t b x↔k∈(nd t x).kids:=λx k=>(Qv (t:=t) (b:=b) (v:=x)).perm.mem_iff
 have Ad:∀x,(KC t b x).length=(nd t x).kids.length:=λx=>(Qv (t:=t) (b:=b) (v:=x)).len
 refine⟨λj hj=>(QI g hj).2.1,λi j hi hj h=>to_inj g hi hj h,λj hj=>by rw[(QI g hj).2.2],λi j hi hj h=>by rw[(QI g hi).2.2,(QI g hj).2.2];exact h,λj hj=>by rw[(QI g hj).2.2];simp[Ad],λj hj c hc=>?_,λj hj c hc=>?_,λj hj D8 DI i hi=>?_⟩
 ·rw[(QI g hj).2.2];exact Gj.2 ⟨c,(Ap j c).2 hc,by rw[Gi]⟩
 ·rw[(QI g hj).2.2]at hc;obtain⟨k,hk,Ff⟩:=Gj.1 hc;have Am:=(Ap j k).1 hk;have Ca:=g.kid hj Am;obtain⟨k,rfl⟩:∃k':Nat,k=k':=⟨k.toNat,om⟩;rw[Gi]at Ff;exact⟨k,Am,om⟩
 ·have Ey:=Qv (t:=t) (b:=b) (v:=j);have hk:=Jt g hj hi;have AQ:Jo t.nodes ((nd t j).kids.getD i 0)≠41:=by rw[<-hk.2.2];intro h;have:=(Yg (Jcu g hj hk.1)).2.2.2.1 (by rw[h];rfl);omega
  have h2:=(Ey.kind i hi).2 AQ;unfold JH;rw[(QI g hj).2.2];simp only;rw[<-h2,Ga,Ga,Gl,Gb (by rw[Ad];exact hi)];simp
end
theorem tm_inv(gu:GoodT u p)(h:TMap u t ψ)(hl:∀y,y<t.nodes.length->χ y<u.nodes.length/\ψ (χ y)=y)(hx:∀i j,i<u.nodes.length->j<u.nodes.length->(nd t (ψ i)).text=(nd t (ψ j)).text->(nd u i).text=(nd u j).text):TMap t u χ:=by
 have hk:∀y,y<t.nodes.length->(nd u (χ y)).k=(nd t y).k:=λy hy=>by rw[<-h.k _ (hl y hy).1,(hl y hy).2]
 have hχ:∀x,x<u.nodes.length->χ (ψ x)=x:=λx hx=>h.inj _ _ (hl _ (h.rng x hx)).1 hx (hl _ (h.rng x hx)).2
 refine⟨λy hy=>(hl y hy).1,λy z hy hz he=>?_,hk,λy z hy hz he=>?_,λy hy=>?_,λy hy c hc=>?_,λy hy c hc=>?_,λy hy D8 DI i hi=>?_⟩
 ·rw[<-(hl y hy).2,<-(hl z hz).2,he]
 ·exact hx _ _ (hl y hy).1 (hl z hz).1 (by rw[(hl y hy).2,(hl z hz).2];exact he)
 ·rw[<-h.len _ (hl y hy).1,(hl y hy).2]
 ·obtain⟨d,h1,rfl⟩:=h.back (χ y) (hl y hy).1 c (by rw[(hl y hy).2];exact hc);have:=(JC gu (hl y hy).1 h1).2;rw[hχ d (by have:=(hl y hy).1;omega)];exact h1
 ·have h1:=h.kid _ (hl y hy).1 c hc;rw[(hl y hy).2]at h1;have:=(JC gu (hl y hy).1 hc).2;exact⟨ψ c,h1,hχ c (by have:=(hl y hy).1;omega)⟩
 ·have OV:=(hl y hy).1;have Ad:=h.len _ OV;rw[(hl y hy).2]at Ad;have h1:=h.pos _ OV (by rw[hk y hy];exact D8) (by rw[hk y hy];exact DI) i om;rw[(hl y hy).2]at h1;have h2:=(Jt gu OV (i:=i) om).2.1;rw[<-h1,hχ _ om]
section
variable(gu:GoodT u p)(g:GoodT t o)(h:TMap u t ψ)(Cs:OfMap u t p o ψ)
include gu g h
include Cs
end
section
variable(g:GoodT t o)
include g
theorem JcO(hx:x<t.nodes.length):(nd (KD t b) (KI t b x)).text=(nd t x).text:=by rw[(QI g (b:=b) hx).2.2]
theorem shuf_inv:∃χ,TMap (KD t b) t χ/\∀j,j<(KD t b).nodes.length->χ j<t.nodes.length/\KI t b (χ j)=j:=by
 have P6:∀j,∃x,j<(KD t b).nodes.length->x<t.nodes.length/\KI t b x=j:=λj=>by
  by_cases hj:j<(KD t b).nodes.length
  ·obtain⟨x,h1,h2⟩:=to_on g (b:=b) hj;exact⟨x,λ_=>⟨h1,h2⟩⟩
  ·exact⟨0,λh=>absurd h hj⟩
 obtain⟨χ,hχ⟩:=Hr P6;exact⟨χ,tm_inv g (JcP g) hχ (λi j hi hj he=>by rwa [JcO g hi,JcO g hj]at he),hχ⟩
theorem shuf_ok (hE:(QO t o).2=0):(QO (KD t b) (shT t b).1.ps).2=0:=by
 obtain⟨χ,hm,hχ⟩:=shuf_inv g (b:=b);have gu:=Jbn g (b:=b);refine(tm_res gu g hm hE (λj hj hk L hL=>?_) λj d hj hd hs MB=>tm_same gu g hm (Xp hE) (λj hj=>?_) hj hd hs MB).1
 ·have PN:=(Jc3 g (Xp hE) (hm.rng j hj) hL).2.2.2;obtain⟨q1,q2,q3⟩:=QI g (b:=b) PN;refine⟨KI t b L,q2,?_⟩;exact to_inj g (hχ _ q2).1 PN (hχ _ q2).2
 ·have h1:=hχ j hj;have h2:=JcO g (b:=b) h1.1;rw[h1.2]at h2;exact h2.symm
theorem shuf_okB (hE:(QO (KD t b) (shT t b).1.ps).2=0):(QO t o).2=0/\OfMap t (KD t b) o (shT t b).1.ps (KI t b):=by
 have gu:=Jbn g (b:=b);refine tm_res g gu (JcP g) hE (λj hj hk L hL=>?_) λj d hj hd hs MB=>tm_same g gu (JcP g) (Xp hE) (λj hj=>JcO g hj) hj hd hs MB
 have PN:=(Jc3 gu (Xp hE) ((JcP g).rng j hj) hL).2.2.2;obtain⟨x,h1,h2⟩:=to_on g (b:=b) PN;exact⟨x,h1,h2⟩
end
theorem Jg5{id:Nat}{els es:LM}:Qj id z els (.arr y es)=.arr y (es.map (JV id z els)):=rfl
theorem frzO_d{id:Nat}{els:LM}:Qj id z els .dead=.dead:=rfl
def by8 (b:Lx):LM:=b.map λx:Nat=>[CV.int .u8 (x:Int)]
theorem by8_len:(by8 b).length=b.length:=by simp[by8]
theorem by8_get(h:i<b.length):(by8 b).getD i []=[.int .u8 ((b.getD i 0:Nat):Int)]:=by simp[by8,Ga,Gb h]
theorem ShI.le{s:Sh}(h:ShI t b D s):s.us.length<=t.nodes.length:=by
 have P6:∀j,∃x,j<s.us.length->D x/\s.tos.getD x 0=j:=λj=>by
  by_cases hj:j<s.us.length
  ·obtain⟨x,h1,h2⟩:=h.on j hj;exact⟨x,λ_=>⟨h1,h2⟩⟩
  ·exact⟨0,λh=>absurd h hj⟩
 obtain⟨f,hf⟩:=Hr P6;refine pigeon t.nodes.length s.us.length f (λi hi=>(h.im _ (hf i hi).1).1) λi j hi hj he=>?_
 have h1:=(hf i hi).2;have h2:=(hf j hj).2;rw[he,h2]at h1;omega
theorem JhF{k:Int}:∀(ks:Lu) (s:Sh) (now:Lu),shF go (ks++[k]) s now=(go k.toNat (shF go ks s now).1,(shF go ks s now).2++[((go k.toNat (shF go ks s now).1).us.length:Int)-1])
 |[],s,now=>by simp[shF]
 |x::ks,s,now=>by simp only[G8,shF,JhF ks]
def movH (us:LC)(tos its:Lu):Lt:=[KT 5 (ndz us),.arr 1 (iz tos),KT 1 (iz its)]
def X9 (t:Tr)(v i:Nat):Lu:=((GI i).filter λk=>Jo t.nodes ((nd t v).kids.getD k 0) == 41).map λk:Nat=>(k:Int)
theorem setsTo_succ:X9 t v (i+1)=X9 t v i++if (Jo t.nodes ((nd t v).kids.getD i 0) == 41)=true then [(i:Int)] else []:=by
 unfold X9;rw[List.range_succ,List.filter_append,GA,List.filter_cons,G9]
 split <;> rfl
theorem Jgx:(X9 t v i).length<=i:=by unfold X9;rw[Gh];exact Nat.le_trans (List.length_filter_le _ _) sM
theorem capE_len {a c:Lu}(h:a.length=c.length):JaJ (iz a)=JaJ (iz c):=by
 cases a with
 |nil=>cases c with|nil=>rfl|cons y m=>simp at h
 |cons x l=>cases c with|nil=>simp at h|cons y m=>rfl
theorem JhG:∀(ks:Lu) (s:Sh) (now:Lu),(shF go ks s now).2.length=now.length+ks.length
 |[],s,now=>by simp[shF]
 |x::ks,s,now=>by rw[shF,JhG ks];simp;omega
section
variable(g:GoodT t o)
include g
theorem shF_pre{f:Nat}{s:Sh}(hf:v<f+1)(hv:v<t.nodes.length)(hI:ShI t b D s)(hD:∀x,blw o x v->¬D x)(j:Nat) :
  ShI t b (λx=>D x\/∃k:Nat,(k:Int)∈(KC t b v).take j/\blw o x k) (shF (shN t b f) ((KC t b v).take j) s []).1/\∀k:Nat,(KC t b v)[j]? = some (k:Int)->k<v/\∀x,blw o x k->¬(D x\/∃k':Nat,(k':Int)∈(KC t b v).take j/\blw o x k'):=by
 have Ey:=Qv (t:=t) (b:=b) (v:=v);have Ap:∀k,k∈KC t b v->k∈(nd t v).kids:=λk=>Ey.perm.mem_iff.1
 have BQ:(KC t b v).Nodup:=Ey.perm.nodup_iff.2 ((Jc9 g hv).imp λh=>by omega);have EQ:∀k,k∈(KC t b v).take j->k∈(nd t v).kids:=λk hk=>Ap k (GX hk)
 refine⟨(shF_ok g (go:=shN t b f) ((KC t b v).take j) D s [] (λk hk=>by have:=g.kid hv (EQ k hk);omega) (λk l hk hl x h1 h2=>Jia g hv (EQ k hk) (EQ l hl) h1 h2) (λk D' s' hk Uz ML=>by have:=(JC g hv (EQ k hk)).2;exact Jgw g f k D' s' om om Uz ML) (BQ.sublist (HY _ _)) hI (λk hk x hx=>hD x (Kw g hv hx (KE g hv (EQ k hk))))).1.inv,λk hk=>?_⟩
 have Am:=Ap k (GY hk);refine⟨(JC g hv Am).2,λx hx h=>?_⟩;rcases h with h|⟨k',h1,h2⟩
 ·exact hD x (Kw g hv hx (KE g hv Am)) h
 ·have he:=Jia g hv Am (EQ k' h1) hx h2;subst he;have hj:=(Gq.1 hk).1;obtain⟨i,hi,BS⟩:=Gt h1;rw[Gu]at hi;rw[H6]at BS;have:=(H8 (i:=i) (j:=j) om BQ).1 (by rw[Gb om,BS,hk]);omega
end
section
variable(g:GoodT t o)(ht:t.Fit)(OL:∀x∈b,x<256)(Be:b.length<=9223372036854775807)
include g ht OL Be
theorem lawMoved:∀(f v:Nat) (D:Nat->Prop) (s:Sh) (its:Lu),v<f->v<t.nodes.length->ShI t b D s->(∀x,blw o x v->¬D x)->
  CallsC Tryz.prog Env.none 37 [t.cv,.int .i64 (v:Int),.rslc 1 (by8 b) none,.agg [JW 0 (ndz s.us),JW 2 (iz its)],.slc 1 0 t.nodes.length (some t.nodes.length)] (movH s.us s.tos its) λx H'=>x=.agg [JW 3 (ndz (shN t b f v s).us),JW 2 (iz its)]/\H'=[.dead,.arr 1 (iz (shN t b f v s).tos),KT 1 (iz its),KT 5 (ndz (shN t b f v s).us)]
 |0,v,D,s,its,hf,_,_,_=>om
 |f+1,v,D,s,its,hf,hv,hI,hD=>by
  have Ah:=g.many;have SK:=J7 hv;have Aw:(nd t v).kids.length<=30:=(JfK ht hv).kidn;have DL:∀i,i<(nd t v).kids.length->∃c:Nat,(iz (nd t v).kids).getD i []=[.int .i64 (c:Int)]/\c<t.nodes.length/\(nd t v).kids.getD i 0=(c:Int):=λi hi=>by
   have hm:(nd t v).kids.getD i 0∈(nd t v).kids:=by rw[Ga,Gb hi];exact Gm hi
   have:=g.kid hv hm;refine⟨((nd t v).kids.getD i 0).toNat,?_,om,om⟩;rw[JL hi];congr 2;omega
  have Ie:(iz (nd t v).kids).length=(nd t v).kids.length:=Jf;have izn:iz []=[]:=rfl;have izc:∀(a:Int) l,iz (a::l)=[.int .i64 a]::iz l:=λ_ _=>rfl
  have IE:=JQ s.us;have DC:=Jd s.tos;have Eh:=Jd its;have jI:=Jd (nd t v).kids;refine CallsC.ren (CallsC.freeze (vfS c37_ok λN=>?_) (R:=λx H'=>∃A B C E',x=.agg [.slc 9 0 ((shF (shN t b f) (KC t b v) s []).1.us.length+1) none,JW 2 (iz its)]/\H'=[.dead,.arr 1 (iz ((shF (shN t b f) (KC t b v) s []).1.tos.set v ((shF (shN t b f) (KC t b v) s []).1.us.length:Int))),KT 1 (iz its),A,B,C,.dead,.arr 1 (iz (shF (shN t b f) (KC t b v) s []).2),E',.arr 5 (ndz (shF (shN t b f) (KC t b v) s []).1.us++[[.int .u8 ((nd t v).k:Int),S (nd t v).text,.int .i64 (nd t v).n,.slc 7 0 (shF (shN t b f) (KC t b v) s []).2.length (JaJ (iz (shF (shN t b f) (KC t b v) s []).2)),.int .i64 (nd t v).pl]])]) (R':=λx H'=>∃A B C E',x=.agg [JW 9 (ndz (shN t b (f+1) v s).us),JW 2 (iz its)]/\H'=[.dead,.arr 1 (iz (shN t b (f+1) v s).tos),KT 1 (iz its),A,B,C,.dead,.dead,E',KT 5 (ndz (shN t b (f+1) v s).us)]) ?_) ?_
  ·simp only[go_sem,c37,Tr.cv,Tr.row,movH,Jb,SK,Nd.cv,splice,Gg,Gd];refine anO ?_;obtain⟨z,hz⟩:∃z,z=(nd t v).kids:=⟨_,rfl⟩
   cases hk:(nd t v).kids with
   |nil=>?_
   |cons a l=>?_
   case' nil=>
    simp only[go_sem,izn,Gg,Gd];refine Je (id:=3) (z:=2) (els:=[t.row]) rfl rfl ?_;simp only[go_sem,Q3,Gc,Gf,Kv,frz,Jg5,JV,Tr.row,QC (show (0:Nat)≠3 by decide),QC (show (2:Nat)≠3 by decide),KU IE,KU Eh,Jy DC];refine Js (I:=λi:Nat=>i<=z.length) (inv:=λi=>mkT 138 [(1,.int .i64 (v:Int)),(2,.rslc 1 (by8 b) none),(4,.slc 1 0 t.nodes.length (some t.nodes.length)),(5,.rptr t.row),(8,.ptr 3 0 0),(10,.ptr 4 0 0),(11,.ptr 5 0 0),(12,.slc 6 0 (iz z).length (JaJ (iz z))),(13,.slc 7 0 (iz (X9 t v i)).length (JaJ (iz (X9 t v i)))),(14,.int .i64 (i:Int))]) (hp:=λi=>[KT 5 (ndz s.us),.arr 1 (iz s.tos),KT 1 (iz its),.arr 2 [[JW 0 (ndz s.us),JW 2 (iz its)]],.arr 2 [[.nils,.nils]],.arr 5 [[.int .u8 ((nd t v).k:Int),S (nd t v).text,.int .i64 (nd t v).n,.rslc 1 (iz z) none,.int .i64 (nd t v).pl]],.arr 1 (iz z),.arr 1 (iz (X9 t v i))]) (μ:=λi=>z.length-i) 0 [0,1,2,4,5,6,7,8] om rfl ?a ?b ?c
    case a=>simp only[QA,Gc,Gf,ren,Jm];refine JI ?_;simp[K6,KZ,Tr.row,hz,hk,izn,JaJ,X9]
    case b=>have r0:ren [0,1,2,4,5,6,7,8] (JW 0 (ndz s.us))=JW 0 (ndz s.us):=JS rfl;have r2:ren [0,1,2,4,5,6,7,8] (JW 2 (iz its))=JW 2 (iz its):=JS rfl;simp only[Ko,Gc,Gf,go_sem,Jj,JG (Ja IE),JG (Ja Eh),Ja DC,JB,ren,r0,r2,S,hz,hk,izn,X9,Lc,G9]
   case' cons=>
    have CQ:l.length+1<=30:=by rw[hk]at Aw;exact Aw
    simp only[go_sem,izc,Jw,Jf,Gg,Gd];refine⟨⟨om,om⟩,?_⟩;refine Je (id:=3) (z:=2) (els:=[t.row]) rfl rfl ?_;simp only[go_sem,Q3,Gc,Gf,Kv,frz,Jg5,JV,Tr.row,QC (show (0:Nat)≠3 by decide),QC (show (2:Nat)≠3 by decide),KU IE,KU Eh,Jy DC];refine Js (I:=λi:Nat=>i<=z.length) (inv:=λi=>mkT 138 [(1,.int .i64 (v:Int)),(2,.rslc 1 (by8 b) none),(4,.slc 1 0 t.nodes.length (some t.nodes.length)),(5,.rptr t.row),(8,.ptr 3 0 0),(10,.ptr 4 0 0),(11,.ptr 5 0 0),(12,.slc 6 0 (iz z).length (JaJ (iz z))),(13,.slc 7 0 (iz (X9 t v i)).length (JaJ (iz (X9 t v i)))),(14,.int .i64 (i:Int))]) (hp:=λi=>[KT 5 (ndz s.us),.arr 1 (iz s.tos),KT 1 (iz its),.arr 2 [[JW 0 (ndz s.us),JW 2 (iz its)]],.arr 2 [[.nils,.nils]],.arr 5 [[.int .u8 ((nd t v).k:Int),S (nd t v).text,.int .i64 (nd t v).n,.rslc 1 (iz z) none,.int .i64 (nd t v).pl]],.arr 1 (iz z),.arr 1 (iz (X9 t v i))]) (μ:=λi=>z.length-i) 0 [0,1,2,4,5,6,8,9] om rfl ?a ?b ?c
    case a=>simp only[QA,Gc,Gf,ren,Jm];refine JI ?_;simp[K6,KZ,Tr.row,hz,hk,izn,izc,JaJ,X9,Jf]
    case b=>have r0:ren [0,1,2,4,5,6,8,9] (JW 0 (ndz s.us))=JW 0 (ndz s.us):=JS rfl;have r2:ren [0,1,2,4,5,6,8,9] (JW 2 (iz its))=JW 2 (iz its):=JS rfl;simp only[Ko,Gc,Gf,go_sem,Jj,JG (Ja IE),JG (Ja Eh),Ja DC,JB,ren,r0,r2,S,hz,hk,izn,izc,X9,Lc,G9,Ja (Jd l),Jy (Jd l)]
   all_goals
    clear hk;have MN:(iz z).length=z.length:=Jf;have U1:=Jd z;rw[<-hz]at DL Aw;intro i hi;by_cases Ab:i<z.length
    ·have d1:=dtT i z.length;obtain⟨c,CR,BU,fo⟩:=DL i Ab;have Dp:=J7 BU;have Al:=setsTo_succ (t:=t) (v:=v) (i:=i);have CL:=Jgx (t:=t) (v:=v) (i:=i);have Bv:Jo t.nodes ((nd t v).kids.getD i 0)=(nd t c).k:=by rw[<-hz,fo];unfold Jo nd;rw[Gi]
     rw[Bv]at Al;have r0:∀ρ,ren (0::ρ) (JW 0 (ndz s.us))=JW 0 (ndz s.us):=λρ=>JS rfl
     have r2:∀ρ,ren (0::1::2::ρ) (JW 2 (iz its))=JW 2 (iz its):=λρ=>JS rfl
     simp only[go_sem,d1,MN,Tr.row];refine J3 Jr vk ?_
     cases Ff:((nd t c).k == 41) with
     |false=>
      rw[Ff,if_neg sM,List.append_nil]at Al;simp only[go_sem,MN,CR,Jb,Dp,Nd.cv,kbE,Ff,Gg,Gd];refine⟨om,om,om,Ji,i+1,[0,1,2,3,4,5,6,7],om,om,rfl,?_,?_⟩
      ·rw[Al];simp only[Ko,Gc,Gf,go_sem,Jj,JG (Ja IE),JG (Ja Eh),Ja DC,Ja U1,Ja (Jd (X9 t v i)),JB,ren,r0,r2,S]
      ·rw[Al];simp only[ren,Jm];refine JI ?_;simp[K6,KZ]
     |true=>
      rw[Ff,if_pos rfl]at Al;simp only[go_sem,MN,CR,Jb,Dp,Nd.cv,kbE,Ff,Jw,Jf,Gg,Gd];refine⟨om,om,om,⟨om,om⟩,Ji,i+1,[0,1,2,3,4,5,6,9],om,om,rfl,?_,?_⟩
      ·rw[Al,KR];simp only[Ko,Gc,Gf,go_sem,Jj,JG (Ja IE),JG (Ja Eh),Ja DC,Ja U1,Ja (Jd (X9 t v i)),JB,ren,r0,r2,S,GA]
      ·rw[Al,KR,YH];simp only[ren,Jm];refine JI ?_;simp[K6,KZ]
    have d1:=dfF i z.length;obtain rfl:i=z.length:=om
    simp only[go_sem,d1,MN];clear d1 Ab hi;obtain⟨st,Al⟩:∃st,st=Jgd t v:=⟨_,rfl⟩;have O3:X9 t v z.length=st.map λk:Nat=>(k:Int):=by rw[Al,hz];rfl
    have aA:=λi=>Je1 (t:=t) (v:=v) (i:=i)
    rw[<-Al,<-hz]at aA;have CL:(iz (st.map λk:Nat=>(k:Int))).length=st.length:=by rw[Jf,Gh]
    have dS:∀i,i<st.length->(iz (st.map λk:Nat=>(k:Int))).getD i []=[.int .i64 (st.getD i 0:Int)]:=λi hi=>by rw[JL (by rw[Gh];exact hi)];simp[Ga,Gb hi]
    have iP:st.length<=30:=by have h1:=Jgx (t:=t) (v:=v) (i:=z.length);rw[O3,Gh]at h1;omega
    rw[O3];refine Je (id:=7) (z:=1) (els:=iz (st.map λk:Nat=>(k:Int))) rfl (Jd _) ?_;have EE:=Gy (l:=iz (st.map λk:Nat=>(k:Int))) (i:=st.length) (by rw[CL];omega);simp only[go_sem,Q3,Gc,Gf,Kv,frz,Jg5,JV,Tr.row,QC (show (0:Nat)≠7 by decide),QC (show (2:Nat)≠7 by decide),KU IE,KU Eh,Jy DC,Jy U1,CL,Gn,if_true,Gv,Gs,EE,G6,G5];have A7:∀j,(j+1<=st.length\/j=0)->(JcQ b v st z j).length=z.length:=λj hj=>by have h1:=(JdA (t:=t) (b:=b) (v:=v) j (by rw[<-Al];exact hj)).len;rw[<-Al,<-hz]at h1;exact h1
    refine Js (I:=λj:Nat=>(j+1<=st.length\/j=0)/\(b=[]->j=0)) (inv:=λj=>mkT 138 [(1,.int .i64 (v:Int)),(2,.rslc 1 (by8 b) none),(4,.slc 1 0 t.nodes.length (some t.nodes.length)),(5,.rptr t.row),(8,.ptr 3 0 0),(10,.ptr 4 0 0),(11,.ptr 5 0 0),(12,.slc 6 0 (iz (JcQ b v st z j)).length (JaJ (iz (JcQ b v st z j)))),(13,.rslc 1 (iz (st.map λk:Nat=>(k:Int))) none),(15,.int .i64 ((j+1:Nat):Int))]) (hp:=λj=>[KT 5 (ndz s.us),.arr 1 (iz s.tos),KT 1 (iz its),.arr 2 [[JW 0 (ndz s.us),JW 2 (iz its)]],.arr 2 [[.nils,.nils]],.arr 5 [[.int .u8 ((nd t v).k:Int),S (nd t v).text,.int .i64 (nd t v).n,.rslc 1 (iz z) none,.int .i64 (nd t v).pl]],.arr 1 (iz (JcQ b v st z j))]) (μ:=λj=>st.length-j) 0 [0,1,2,3,4,5,6] ⟨.inr rfl,λ_=>rfl⟩ rfl ?_ ?_ ?_
    ·simp only[QA,Gc,Gf,ren,Jm];refine JI ?_;simp[K6,KZ,Tr.row,JcQ,Jf]
    ·have r0:∀ρ,ren (0::ρ) (JW 0 (ndz s.us))=JW 0 (ndz s.us):=λρ=>JS rfl
     have r2:∀ρ,ren (0::1::2::ρ) (JW 2 (iz its))=JW 2 (iz its):=λρ=>JS rfl
     simp only[Ko,Gc,Gf,go_sem,Jj,JG (Ja IE),JG (Ja Eh),Ja DC,JB,ren,r0,r2,S,Ja U1,JcQ]
    rintro j ⟨Md,Dn⟩;have ZG:=A7 j Md;have IR:JcQ b v st z (j+1)=swapL (JcQ b v st z j) (st.getD (j+1) 0) (st.getD (b.getD ((v+(j+1)) % b.length) 0 % (j+2)) 0):=rfl;have Bw:(¬j+1<st.length\/b=[])->JcQ b v st z j=KC t b v:=λh=>by
     unfold KC;rw[<-Al,<-hz];rcases h with h|h
     ·split
      ·rename_i hb;rw[Dn hb];rfl
      ·rw[show j=st.length-1 by omega]
     ·rw[if_pos h,Dn h];rfl
    by_cases Bj:j+1<st.length/\0<b.length
    ·have d1:decide (((j+1:Nat):Int)<(st.length:Int))=true:=decide_eq_true om;have d2:decide ((0:Int)<(b.length:Int))=true:=decide_eq_true om;obtain⟨q,hq⟩:∃q,q=(v+(j+1)) % b.length:=⟨_,rfl⟩;have MP:q<b.length:=by rw[hq];exact Hm _ Bj.2
     have Pj:((v:Int)+((j+1:Nat):Int)).tmod (b.length:Int)=(q:Int):=by rw[hq];rfl
     have Fv:=by8_get MP
     rw[<-hq]at IR;have Cb:b.getD q 0<256:=OL _ (by rw[Ga,Gb MP];exact Gm MP);generalize b.getD q 0=e at Fv IR Cb;have Ou:(e:Int).tmod (((j+1:Nat):Int)+1)=((e % (j+2):Nat):Int):=rfl;have Ef:=Hm e (show 0<j+2 by omega);generalize e % (j+2)=e2 at Ou IR Ef;have a1:=aA (j+1) Bj.1;have a2:=aA e2 om;have g1:=dS (j+1) Bj.1;have g2:=dS e2 om;have jl:=λhh:j+1+1<=st.length=>A7 (j+1) (.inl hh)
     generalize st.getD (j+1) 0=p1 at *;generalize st.getD e2 0=p2 at *;generalize fT:JcQ b v st z (j+1)=K2 at *;generalize JcQ b v st z j=K at *;have k1:=JL (l:=K) (i:=p1) om;have k2:=JL (l:=K) (i:=p2) om;have k3:=JL (l:=K.set p1 (K.getD p2 0)) (i:=p2) (by rw[GG];omega);have kl:(iz K).length=z.length:=by rw[Jf,ZG]
     have kl2:(iz (K.set p1 (K.getD p2 0))).length=z.length:=by rw[Jf,GG,ZG]
     have Rw:(K.set p1 (K.getD p2 0)).set p2 (K.getD p1 0)=K2:=by rw[IR];rfl
     simp only[go_sem,d1,d2,CL,by8_len,Pj,Fv,Ou,Gg,Gd];refine⟨Ji,om,⟨om,om⟩,Ji,Ji,om,?_⟩;refine JcI [0,0,0,0,0,0,0,0,0,0,0,0,0,0,0,1,1,0,0,0,0,0,1,1,1,2,1,2] Jr vM ?_;simp only[go_sem,CL,g1,g2,k1,k2,kl,kl2,k3,Jfv,Rw,if_true,HV,Gs,splice,Gg,Gd]
     repeat refine And.intro (by first|omega|exact⟨om,om⟩|exact Ji) ?_
     have SB:=jl om;refine⟨j+1,[0,1,2,3,4,5,6],⟨.inl om,λhb=>(by rw[hb]at Bj;simp at Bj)⟩,om,rfl,?_,?_⟩
     ·have r0:∀ρ,ren (0::ρ) (JW 0 (ndz s.us))=JW 0 (ndz s.us):=λρ=>JS rfl
      have r2:∀ρ,ren (0::1::2::ρ) (JW 2 (iz its))=JW 2 (iz its):=λρ=>JS rfl
      simp only[Ko,Gc,Gf,go_sem,Jj,JG (Ja IE),JG (Ja Eh),Ja DC,JB,ren,r0,r2,S,Ja (Jd _),fT]
     ·simp only[ren,Jm];refine JI ?_;simp[K6,KZ,Tr.row,Jf,SB,fT,capE_len (ZG.trans SB.symm)]
    have MH:=Bw (by
     by_cases h:j+1<st.length
     ·exact .inr (GR om)
     ·exact .inl h)
    have Ep:decide (((j+1:Nat):Int)<(st.length:Int))=false\/(decide (((j+1:Nat):Int)<(st.length:Int))=true/\decide ((0:Int)<(b.length:Int))=false):=by
     by_cases h:j+1<st.length
     ·exact .inr ⟨decide_eq_true om,decide_eq_false om⟩
     ·exact .inl (decide_eq_false om)
    rw[MH]at ZG|-;have Ey:=Qv (t:=t) (b:=b) (v:=v);have Bb:=shF_pre g (f:=f) hf hv hI hD;have Ak:shN t b (f+1) v s=⟨(shF (shN t b f) (KC t b v) s []).1.us++[{ nd t v with kids:=(shF (shN t b f) (KC t b v) s []).2 }],(shF (shN t b f) (KC t b v) s []).1.ps++[(s.us.length:Int)],(shF (shN t b f) (KC t b v) s []).1.tos.set v ((shF (shN t b f) (KC t b v) s []).1.us.length:Int)⟩:=rfl;have Ap:∀k,k∈KC t b v->0<=k/\k<t.nodes.length:=λk hk=>by have:=g.kid hv (Ey.perm.mem_iff.1 hk);omega
    clear MH Bw IR A7 Md Dn Ey;generalize shN t b (f+1) v s=fin at *;generalize KC t b v=ks at *;have Ie:(iz ks).length=ks.length:=Jf;have bA:=Gy (l:=iz ks) (i:=ks.length) (by rw[Ie];omega);rcases Ep with d1|⟨d1,d2⟩
    case' inl=>simp only[go_sem,d1,CL,Gg,Gd]
    case' inr=>simp only[go_sem,d1,d2,CL,by8_len,Gg,Gd]
    all_goals
     refine Je (id:=6) (z:=1) (els:=iz ks) rfl (Jd _) ?_;simp only[go_sem,Q3,Gc,Gf,Kv,frz,Jg5,JV,Tr.row,QC (show (0:Nat)≠6 by decide),QC (show (2:Nat)≠6 by decide),KU IE,KU Eh,Jy DC,Ie,Gn,if_true,Gv,Gs,bA,G6,G5];refine Js (I:=λj:Nat=>j<=ks.length) (inv:=λj=>mkT 138 [(1,.int .i64 (v:Int)),(2,.rslc 1 (by8 b) none),(4,.slc 1 0 t.nodes.length (some t.nodes.length)),(5,.rptr t.row),(8,.ptr 3 0 0),(10,.ptr 4 0 0),(11,.ptr 5 0 0),(12,.rslc 1 (iz ks) none),(17,.slc 7 0 (iz (shF (shN t b f) (ks.take j) s []).2).length (JaJ (iz (shF (shN t b f) (ks.take j) s []).2))),(18,.int .i64 (j:Int))]) (hp:=λj=>[if j=0 then KT 5 (ndz s.us) else .dead,.arr 1 (iz (shF (shN t b f) (ks.take j) s []).1.tos),KT 1 (iz its),.arr 2 [[JW (if j=0 then 0 else 6) (ndz (shF (shN t b f) (ks.take j) s []).1.us),JW 2 (iz its)]],.arr 2 [[.nils,.nils]],.arr 5 [[.int .u8 ((nd t v).k:Int),S (nd t v).text,.int .i64 (nd t v).n,.rslc 1 (iz z) none,.int .i64 (nd t v).pl]],if j=0 then .dead else KT 5 (ndz (shF (shN t b f) (ks.take j) s []).1.us),.arr 1 (iz (shF (shN t b f) (ks.take j) s []).2)]) (μ:=λj=>ks.length-j) 0 [0,1,2,3,4,5,6,7] om rfl ?_ ?_ ?_
     ·simp only[QA,Gc,Gf,ren,Jm];refine JI ?_;simp[K6,KZ,Tr.row,shF,iz,JaJ]
     ·have r0:∀ρ,ren (0::ρ) (JW 0 (ndz s.us))=JW 0 (ndz s.us):=λρ=>JS rfl
      have r2:∀ρ,ren (0::1::2::ρ) (JW 2 (iz its))=JW 2 (iz its):=λρ=>JS rfl
      simp only[Ko,Gc,Gf,go_sem,Jj,Jk,JG (Ja IE),JG (Ja Eh),Ja DC,JB,ren,r0,r2,S,if_true,GM,shF,izn]
     clear Bj;intro j hj;obtain⟨FY,DK⟩:=Bb j;have BF:=JhG (go:=shN t b f) (ks.take j) s [];rw[Gd,Gn,Gu]at BF;have Oi:=FY.le;by_cases Ab:j<ks.length
     ·have d3:=dtT j ks.length;have MZ:=Ap (ks.getD j 0) (by rw[Ga,Gb Ab];exact Gm Ab);obtain⟨c,hc⟩:∃c:Nat,ks.getD j 0=c:=⟨(ks.getD j 0).toNat,om⟩;have Dp:=JL Ab;rw[hc]at Dp MZ;have Ff:ks[j]? = some (c:Int):=by rw[<-hc,Ga,Gb Ab];rfl
      obtain⟨Rb,UB⟩:=DK c Ff;have ih:=lawMoved f c _ _ its om om FY UB;have BJ:=Jgw g f c _ _ om om FY UB;have Cr:ks.take (j+1)=ks.take j++[(c:Int)]:=by rw[HZ,Ff];rfl
      have Ir:shF (shN t b f) (ks.take (j+1)) s []=(shN t b f c (shF (shN t b f) (ks.take j) s []).1,(shF (shN t b f) (ks.take j) s []).2++[((shN t b f c (shF (shN t b f) (ks.take j) s []).1).us.length:Int)-1]):=by rw[Cr,JhF,Gi]
      have ai:=BJ.1.inv.le;have Ag:=BJ.2.1;generalize PM:shF (shN t b f) (ks.take j) s []=P at *;generalize shN t b f c P.1=s2 at *;have Oa:=JQ P.1.us;have Ob:=Jd P.1.tos;have Im:=JQ s2.us;have Io:=Jd s2.tos;have Rc:=Jd P.2;have Df:ndz s2.us≠[]:=by intro h;have:=congrArg Hd h;rw[Jb,Gd]at this;omega
      have Af:CallsC Tryz.prog Env.none 37 [t.cv,.int .i64 (c:Int),.rslc 1 (by8 b) none,.agg [JW (if j=0 then 0 else 6) (ndz P.1.us),JW 2 (iz its)],.slc 1 0 t.nodes.length (some t.nodes.length)] [if j=0 then KT 5 (ndz s.us) else .dead,.arr 1 (iz P.1.tos),KT 1 (iz its),.arr 2 [[JW (if j=0 then 0 else 6) (ndz P.1.us),JW 2 (iz its)]],.arr 2 [[.nils,.nils]],.arr 5 [[.int .u8 ((nd t v).k:Int),S (nd t v).text,.int .i64 (nd t v).n,.rslc 1 (iz z) none,.int .i64 (nd t v).pl]],if j=0 then .dead else KT 5 (ndz P.1.us),.arr 1 (iz P.2)] λv' H'=>v'=.agg [JW 8 (ndz s2.us),JW 2 (iz its)]/\H'=[.dead,.arr 1 (iz s2.tos),KT 1 (iz its),.arr 2 [[JW (if j=0 then 0 else 6) (ndz P.1.us),JW 2 (iz its)]],.arr 2 [[.nils,.nils]],.arr 5 [[.int .u8 ((nd t v).k:Int),S (nd t v).text,.int .i64 (nd t v).n,.rslc 1 (iz z) none,.int .i64 (nd t v).pl]],.dead,.arr 1 (iz P.2),KT 5 (ndz s2.us)]:=by
       by_cases UU:j=0
       ·subst UU;obtain rfl:P=(s,[]):=by rw[<-PM];rfl
        simp only[if_true];refine(ih.loc [0,1,2] ?_ ?_ ?_).mono ?_
        ·simp only[JB,ren,Jm,Tr.cv,if_true,JS (ρ:=[0,1,2]) (id:=0) (j:=0) (els:=ndz s.us) rfl,JS (ρ:=[0,1,2]) (id:=2) (j:=2) (els:=iz its) rfl];rfl
        ·simp only[movH,Ko,Gc,Gf,go_sem,Jj,JG (Ja IE),JG (Ja Eh),Ja DC]
        ·simp[locOk,JfA,JfB]
        ·rintro v' H' ⟨v0,H0,⟨rfl,rfl⟩,rfl,rfl⟩;simp[mo,moL,mo_rowV,tau,Y5,Jm,Jh7,JaS,Jh6,Im,Io,Eh]
       ·simp only[if_neg UU];refine(ih.loc [6,1,2] ?_ ?_ ?_).mono ?_
        ·simp only[JB,ren,Jm,Tr.cv,JS (ρ:=[6,1,2]) (id:=6) (j:=0) (els:=ndz P.1.us) rfl,JS (ρ:=[6,1,2]) (id:=2) (j:=2) (els:=iz its) rfl];rfl
        ·simp only[movH,Ko,Gc,Gf,go_sem,Jj,JG (Ja Oa),JG (Ja Eh),Ja Ob]
        ·simp[locOk,JfA,JfB]
        ·rintro v' H' ⟨v0,H0,⟨rfl,rfl⟩,rfl,rfl⟩;simp[mo,moL,mo_rowV,tau,Y5,Jm,Jh7,JaS,Jh6,Im,Io,Eh]
      simp only[go_sem,d3,Ie];refine JcI [0,0,0,0,0,0,1,0,2,2] Jr vM ?_;simp only[go_sem,Ie,Dp,Tr.row,if_true,Gs,Hw,GM,Gg,Gd]
      repeat refine And.intro (by first|omega|exact⟨om,om⟩|exact Ji) ?_
      refine vx_call Af ?_;simp only[go_sem,if_true,Gs,Xb Df,QX Df,Jb,Jw,Jf,splice,Gg,Gd]
      repeat refine And.intro (by first|omega|exact⟨om,om⟩|exact Ji) ?_
      have r2:∀ρ,ren (0::1::2::ρ) (JW 2 (iz its))=JW 2 (iz its):=λρ=>JS rfl
      have q2:∀ρ,(iz P.2).map (JB ρ)=iz P.2:=λρ=>Ja Rc
      refine⟨j+1,[0,1,2,3,4,5,8,10],om,om,rfl,?_,?_⟩
      ·simp only[Ir,if_neg (Nat.succ_ne_zero j),Xb Df,QX Df,Jb,KR];simp only[Ko,Gc,Gf,GA,go_sem,Jj,Jk,JG (Ja Eh),Ja Io,Ja Im,JB,ren,Jm,r2,q2,S]
      ·simp only[Ir,KR,YH];simp only[ren,Jm];refine JI ?_;simp[K6,KZ]
     have d3:=dfF j ks.length;obtain rfl:j=ks.length:=om
     rw[H9]at FY BF Oi|-;generalize PM:shF (shN t b f) ks s []=P at *;have Oa:=JQ P.1.us;have Ob:=Jd P.1.tos;have Rc:=Jd P.2;have CU:(iz P.2).length=P.2.length:=Jf;have CK:=FY.tl;have FN:(iz P.1.tos).length=t.nodes.length:=by rw[Jf,CK]
     have UX:=JL (l:=P.1.tos) (i:=v) om;have jA:=Gy (l:=iz P.2) (i:=P.2.length) (by rw[CU];omega);by_cases Ca:ks.length=0
     case' pos=>
      have j6:P.1=s:=by rw[<-PM,GR Ca];rfl
      simp only[if_pos Ca];rw[<-j6]
     case' neg=>simp only[if_neg Ca]
     all_goals
      simp only[go_sem,d3,Ie,Jw,Jb,Jf,CK,UX,Jfv,HV,Gs,G6,G5,splice,Gg,Gd]
      repeat refine And.intro (by first|omega|exact⟨om,om⟩|exact Ji) ?_
      rw[show ((P.1.us.length+1:Nat):Int)-1=(P.1.us.length:Int) by omega];exact⟨_,_,_,_,rfl⟩
  ·rintro v' H' ⟨A,B,C,E',rfl,rfl⟩;refine⟨7,1,iz (shF (shN t b f) (KC t b v) s []).2,rfl,Jd _,?_⟩;have SV:=JhG (go:=shN t b f) (KC t b v) s [];rw[Gd,Gn]at SV;refine⟨Qj 7 1 (iz (shF (shN t b f) (KC t b v) s []).2) A,Qj 7 1 (iz (shF (shN t b f) (KC t b v) s []).2) B,Qj 7 1 (iz (shF (shN t b f) (KC t b v) s []).2) C,Qj 7 1 (iz (shF (shN t b f) (KC t b v) s []).2) E',?_,?_⟩
   ·simp[frz,JV,QC,shN,ndz,Km]
   ·have e1:ndz (shN t b (f+1) v s).us=ndz (shF (shN t b f) (KC t b v) s []).1.us++[Nd.cv { nd t v with kids:=(shF (shN t b f) (KC t b v) s []).2 }]:=by simp[shN,ndz]
    have e0:(shN t b (f+1) v s).tos=(shF (shN t b f) (KC t b v) s []).1.tos.set v ((shF (shN t b f) (KC t b v) s []).1.us.length:Int):=rfl;rw[e1,e0,Kn];generalize shF (shN t b f) (KC t b v) s []=P;have e2:(iz P.2).length=P.2.length:=Jf;have e3:=Gy (l:=iz P.2) (i:=P.2.length) (by rw[e2];exact Gv _);simp only[Kv,Gc,Gf,Jg5,frzO_d,KU Eh,Jy (Jd _),Jy (JQ _),GA,JV,frz,e2,if_true,Gn,Gv,Gs,e3,Nd.cv,S];rfl
  ·rintro v' H' ⟨A,B,C,E',rfl,rfl⟩;refine⟨[0,1,2,9],rfl,?_,?_⟩
   ·simp only[ren,JB,JS (ρ:=[0,1,2,9]) (id:=9) (j:=3) (els:=ndz (shN t b (f+1) v s).us) rfl,JS (ρ:=[0,1,2,9]) (id:=2) (j:=2) (els:=iz its) rfl]
   ·simp only[Ko,Gc,Gf,go_sem,Jj,Jk,JG (Ja Eh),Ja (Jd _),JG (Ja (JQ _))]
end
section
variable {P:Program}{E:Env}{n0:Nat}{N:Fr}{Q:Exit->Ls->Lt->Prop}{T:Ls}{k:LJ}{l:LB}{es:List Lx}
theorem vr_drawT (T':Ls)(H':Lt)(hm:P.follows .mixedOrders=true)(hd:Ok P E n0 N Q k T' H'->Jd7 P E n0 N Q k l es T H)(AB:KA P E n0 N Q k T' H'):Ok P E n0 N Q (.code (.dreg l es)::k) T H:=JeQ hm (hd (Jz _ _ _ AB))
end
theorem iz_rep:GH n [CV.int .i64 0]=iz (GH n 0):=by simp[iz]
theorem frzs_rowZ{id:Nat}{Y:LM}{x:CV}{ys:Ls}(hx:x.closed=true)(hy:Jp ys=true)(hY:Jq Y=true)(h:H[id]? = some (KT z Y)):Frzs (.tup (.agg [x,.rslc z Y none]::ys)) (.tup (.agg [x,JW id Y]::ys)) H:=by
 cases Y with
 |nil=>exact .done (YN ⟨Ja4 ⟨wk.refl _,wk.nils,trivial⟩,wks.refl _⟩)
 |cons a l=>refine .step id z (a::l) h hY (.done ?_);simp only[frz,JV,JW,QU x hx,QG ys hy,if_true,Gn,Gg,Gv,Gs];rw[show (a::l).take (l.length+1)=a::l from Gy sM];exact wk.refl _
theorem frzs3 {A B C:LM}(hA:Jq A=true)(hB:Jq B=true)(hC:Jq C=true){cap:Option Nat}(h3:H[3]? = some (.arr 1 C))(h4:H[4]? = some (KT 5 A))(h5:H[5]? = some (KT 1 B))(hn:n=C.length)(dF:A=[]->B=[]):Frzs (.tup [.agg [.rslc 5 A none,.rslc 1 B none],.rslc 1 C none]) (.tup [.agg [JW 4 A,JW 5 B],.slc 3 0 n cap]) H:=by
 subst hn;refine .step 3 1 C h3 hC ?_;have e0:frz 3 1 C (.tup [.agg [JW 4 A,JW 5 B],.slc 3 0 C.length cap])=.tup [.agg [JW 4 A,JW 5 B],.rslc 1 C none]:=by simp[frz,JV,QC]
 have g4:(Kv 3 1 C H)[4]? = some (KT 5 A):=by unfold Kv;rw[GZ vk,Gl,h4];simp[KU hA]
 have g5:(Kv 3 1 C H)[5]? = some (KT 1 B):=by unfold Kv;rw[GZ vk,Gl,h5];simp[KU hB]
 rw[e0];generalize Kv 3 1 C H=H1 at g4 g5
 cases A with
 |nil=>rw[dF rfl];exact .done (YN ⟨Ja4 ⟨wk.nils,wk.nils,trivial⟩,wks.refl _⟩)
 |cons a l=>
  refine .step 4 5 (a::l) g4 hA ?_;have e1:frz 4 5 (a::l) (.tup [.agg [JW 4 (a::l),JW 5 B],.rslc 1 C none])=.tup [.agg [.rslc 5 (a::l) none,JW 5 B],.rslc 1 C none]:=by have h0:(a::l).take (l.length+1)=a::l:=Gy sM;simp[frz,JV,QC,Yk,h0]
  rw[e1];exact frzs_rowZ rfl rfl hB (by unfold Kv;rw[GZ vk,Gl,g5];simp[KU hB])
section
variable(g:GoodT t o)
include g
theorem items_pre (j:Nat):ShI t b (λx=>False\/∃k:Nat,(k:Int)∈t.items.take j/\blw o x k) (shF (shN t b t.nodes.length) (t.items.take j) (Jeg t) []).1/\∀k:Nat,t.items[j]? = some (k:Int)->k<t.nodes.length/\∀x,blw o x k->¬(False\/∃k':Nat,(k':Int)∈t.items.take j/\blw o x k'):=by
 have h0:ShI t b (λ_=>False) (Jeg t):=⟨by simp[Jeg],rfl,λ_ h=>h.elim,λ_ h=>h.elim,λj h=>by simp[Jeg]at h,λ_ _ h=>h.elim,λj ks h=>by simp[Jeg,Ju]at h⟩;have BQ:t.items.Nodup:=XI g.ord.ok g.olen _ _ _ g.its;have EQ:∀k,k∈t.items.take j->k∈t.items:=λk hk=>GX hk
 refine⟨(shF_ok g (go:=shN t b t.nodes.length) (t.items.take j) (λ_=>False) (Jeg t) [] (λk hk=>g.itr (EQ k hk)) (λk l hk hl x h1 h2=>Jfw g (EQ k hk) (EQ l hl) h1 h2) (λk D s hk hI hD=>Jgw g t.nodes.length k D s (by have:=g.itr (EQ k hk);omega) (by have:=g.itr (EQ k hk);omega) hI hD) (BQ.sublist (HY _ _)) h0 (λ_ _ _ _ h=>h)).1.inv,λk hk=>?_⟩;have Am:=GY hk;refine⟨by have:=g.itr Am;omega,λx hx h=>?_⟩;rcases h with h|⟨k',h1,h2⟩
 ·exact h
 ·have he:=Jfw g Am (EQ k' h1) hx h2;subst he;have hj:=(Gq.1 hk).1;obtain⟨i,hi,BS⟩:=Gt h1;rw[Gu]at hi;rw[H6]at BS;have:=(H8 (i:=i) (j:=j) om BQ).1 (by rw[Gb om,BS,hk]);omega
theorem shuf_fit (ht:t.Fit):(KD t b).Fit:=by
 have Ah:=g.many;have hl:=Jet g (b:=b);have gu:=Jbn g (b:=b);have Aj:(KD t b).items.length=t.items.length:=by show (shT t b).2.length=_;rw[(Je0 g).2.1,Gh]
 refine⟨by rw[hl];exact ht.many,by rw[Aj];exact ht.items,λx hx=>?_,λx hx=>?_⟩
 ·obtain⟨j,hj,rfl⟩:=Gt hx;have e:(KD t b).nodes[j]=nd (KD t b) j:=by unfold nd;rw[Ga,Gb hj];rfl
  obtain⟨x,h1,h2⟩:=to_on g (b:=b) hj;have h3:=(QI g (b:=b) h1).2.2;rw[h2]at h3;have h4:=JfK ht h1;have Ed:∀k∈(nd (KD t b) j).kids,InR .i64 k:=λk hk=>by have:=gu.kid hj hk;exact Ji
  rw[e];refine⟨?_,?_,?_,?_,Ed,?_⟩ <;> rw[h3]
  ·exact h4.k
  ·exact h4.text
  ·exact h4.n
  ·show ((KC t b x).map _).length<=30;rw[Gh,Qv.len];exact h4.kidn
  ·exact h4.pl
 ·have:=gu.itr hx;exact Ji
end
section
variable(g:GoodT t o)(ht:t.Fit)(OL:∀x∈b,x<256)(Be:b.length<=9223372036854775807)
include g ht OL Be
theorem lawShuffle:Fn Tryz.prog 14 [t.cv,.rslc 1 (by8 b) none] (.tup [(KD t b).cv,.rslc 1 (iz (shT t b).1.tos) none]):=by
 have Ah:=g.many;have Me:=g.items;have Aj:(iz t.items).length=t.items.length:=Jf;have EZ:shT t b=shF (shN t b t.nodes.length) (t.items.take t.items.length) (Jeg t) []:=by rw[H9];rfl
 refine YK (J8 c14_ok λN=>?_) rfl rfl;simp only[c14,go_sem,Tr.cv,Tr.row];refine Je (id:=0) (z:=2) (els:=[t.row]) rfl rfl ?_;simp only[go_sem,JV,Kv,frz,Jg5,Gc,Gf,Tr.row];refine vr_drawT (gp [(1,.rslc 1 (by8 b) none),(0,.rptr t.row),(1,.ptr 1 0 0),(1,.ptr 2 0 0),(0,.slc 3 0 t.nodes.length (some t.nodes.length))] 34) [.dead,.arr 2 [[.nils,.nils]],.arr 2 [[.nils,.nils]],.arr 1 (iz (GH t.nodes.length 0))] Jr (λAB=>?_) ?_
 ·refine JaB 4 5 vk ?_ ?_
  ·refine Xi [false,false,false,false,true,true,true,false] _ _ vM AB ?_;simp only[go_sem,Tr.row,Jb,splice,Gg,Gd];refine⟨⟨om,Hq _,om,om⟩,?_⟩;refine JaT [0,1,3,2] rfl (by simp[forget,JB,ren,Jm]) ?_;simp only[Ko,Gc,Gf,go_sem,Jj,Jk,JB,ren,iz_rep,Ja (Jd _)]
  refine JaB 4 6 vk ?_ ?_
  ·refine JaA [0,1,2,3,5,4,6,7] [0,1,2,3,5,4,6,7] vM ?_;refine Xi [false,false,false,false,true,true,true,false] _ _ vM AB ?_;simp only[go_sem,prl,QY,Gc,Gf,Hy,Hz,Tr.row,Jb,splice,Gg,Gd];refine⟨⟨om,Hq _,om,om⟩,?_⟩;refine JaT [0,1,2,3] rfl (by simp[forget,JB,ren,Jm]) ?_;simp only[Ko,Gc,Gf,go_sem,Jj,Jk,JB,ren,iz_rep,Ja (Jd _)]
  ·refine JaA [0,1,2,3,5,6,4,7] [0,1,2,3,6,4,5,7] vM ?_;refine Xi [false,false,false,false,true,true,true,false] _ _ vM AB ?_;simp only[go_sem,prl,QY,Gc,Gf,Hy,Hz,Tr.row,Jb,splice,Gg,Gd];refine⟨⟨om,Hq _,om,om⟩,?_⟩;refine JaT [0,1,2,3] rfl (by simp[forget,JB,ren,Jm]) ?_;simp only[Ko,Gc,Gf,go_sem,Jj,Jk,JB,ren,iz_rep,Ja (Jd _)]
 have Fy:(Jeg t).tos=GH t.nodes.length 0:=rfl;simp only[go_sem,Tr.row];refine XJ ?_;simp only[go_sem,G8,GL];refine XJ ?_;simp only[go_sem,G8,GL];refine Js (I:=λj:Nat=>j<=t.items.length) (inv:=λj=>gp [(1,.rslc 1 (by8 b) none),(0,.rptr t.row),(1,.ptr 1 0 0),(1,.ptr 2 0 0),(0,.slc 3 0 t.nodes.length (some t.nodes.length)),(0,.int .i64 (j:Int))] 33) (hp:=λj=>[.dead,.arr 2 [[.nils,.nils]],.arr 2 [[JW 4 (ndz (shF (shN t b t.nodes.length) (t.items.take j) (Jeg t) []).1.us),JW 5 (iz (shF (shN t b t.nodes.length) (t.items.take j) (Jeg t) []).2)]],.arr 1 (iz (shF (shN t b t.nodes.length) (t.items.take j) (Jeg t) []).1.tos),KT 5 (ndz (shF (shN t b t.nodes.length) (t.items.take j) (Jeg t) []).1.us),KT 1 (iz (shF (shN t b t.nodes.length) (t.items.take j) (Jeg t) []).2)]) (μ:=λj=>t.items.length-j) 0 [0,1,2,3,4,5] om rfl ?_ ?_ ?_
 ·simp[forget,JB,ren,Jm,gp,Tr.row]
 ·simp only[Ko,Gc,Gf,go_sem,Jj,Jk,JB,ren,Ja (Jd _),GM,shF,Fy];rfl
 intro j hj;obtain⟨FY,DK⟩:=items_pre g (b:=b) j;have BF:=JhG (go:=shN t b t.nodes.length) (t.items.take j) (Jeg t) [];rw[Gd,Gn,Gu]at BF;have Oi:=FY.le;by_cases Ab:j<t.items.length
 ·have d3:=dtT j t.items.length;have MZ:=g.itr (show t.items.getD j 0∈t.items by rw[Ga,Gb Ab];exact Gm Ab);obtain⟨c,hc⟩:∃c:Nat,t.items.getD j 0=c:=⟨(t.items.getD j 0).toNat,om⟩;have Dp:=JL Ab;rw[hc]at Dp MZ;have Ff:t.items[j]? = some (c:Int):=by rw[<-hc,Ga,Gb Ab];rfl
  obtain⟨Rb,UB⟩:=DK c Ff;have ih:=λits=>lawMoved g ht OL Be t.nodes.length c _ _ its Rb Rb FY UB
  have BJ:=Jgw g t.nodes.length c _ _ Rb Rb FY UB;have Cr:t.items.take (j+1)=t.items.take j++[(c:Int)]:=by rw[HZ,Ff];rfl
  have Ir:shF (shN t b t.nodes.length) (t.items.take (j+1)) (Jeg t) []=(shN t b t.nodes.length c (shF (shN t b t.nodes.length) (t.items.take j) (Jeg t) []).1,(shF (shN t b t.nodes.length) (t.items.take j) (Jeg t) []).2++[((shN t b t.nodes.length c (shF (shN t b t.nodes.length) (t.items.take j) (Jeg t) []).1).us.length:Int)-1]):=by rw[Cr,JhF,Gi]
  have ai:=BJ.1.inv.le;have Ag:=BJ.2.1;generalize shF (shN t b t.nodes.length) (t.items.take j) (Jeg t) []=P at *;generalize shN t b t.nodes.length c P.1=s2 at *;have Oa:=JQ P.1.us;have Ob:=Jd P.1.tos;have Im:=JQ s2.us;have Io:=Jd s2.tos;have Rc:=Jd P.2;have Df:ndz s2.us≠[]:=by intro h;have:=congrArg Hd h;rw[Jb,Gd]at this;omega
  have Af:CallsC Tryz.prog Env.none 37 [t.cv,.int .i64 (c:Int),.rslc 1 (by8 b) none,.agg [JW 4 (ndz P.1.us),JW 5 (iz P.2)],.slc 3 0 t.nodes.length (some t.nodes.length)] [.dead,.arr 2 [[.nils,.nils]],.arr 2 [[JW 4 (ndz P.1.us),JW 5 (iz P.2)]],.arr 1 (iz P.1.tos),KT 5 (ndz P.1.us),KT 1 (iz P.2)] λv' H'=>v'=.agg [JW 6 (ndz s2.us),JW 5 (iz P.2)]/\H'=[.dead,.arr 2 [[.nils,.nils]],.arr 2 [[JW 4 (ndz P.1.us),JW 5 (iz P.2)]],.arr 1 (iz s2.tos),.dead,KT 1 (iz P.2),KT 5 (ndz s2.us)]:=by
   refine((ih P.2).loc [4,3,5] ?_ ?_ ?_).mono ?_
   ·simp only[JB,ren,Jm,Tr.cv,JS (ρ:=[4,3,5]) (id:=4) (j:=0) (els:=ndz P.1.us) rfl,JS (ρ:=[4,3,5]) (id:=5) (j:=2) (els:=iz P.2) rfl];rfl
   ·simp only[movH,Ko,Gc,Gf,go_sem,Jj,JG (Ja Oa),JG (Ja Rc),Ja Ob]
   ·simp[locOk,JfA,JfB]
   ·rintro v' H' ⟨v0,H0,⟨rfl,rfl⟩,rfl,rfl⟩;simp[mo,moL,mo_rowV,tau,Y5,Jm,Jh7,JaS,Jh6,Im,Io,Rc]
  simp only[go_sem,d3,Aj,Tr.row,Gg,Gd];refine JcI [0,0,0,0,0,0,0,1,0,2,2] Jr vM ?_;simp only[go_sem,Aj,Dp,if_true,Gs,Hw,GM,Gg,Gd]
  repeat refine And.intro (by first|omega|exact⟨om,om⟩|exact Ji) ?_
  refine vx_call Af ?_;simp only[go_sem,if_true,Gs,Xb Df,QX Df,Jb,Jw,Jf,splice,Gg,Gd]
  repeat refine And.intro (by first|omega|exact⟨om,om⟩|exact Ji) ?_
  refine⟨j+1,[0,1,2,3,6,8],om,om,rfl,?_,?_⟩
  ·simp only[Ir,Xb Df,QX Df,Jb,KR,Km,Kn,Jf,Gd];simp only[Ko,Gc,Gf,GA,go_sem,Jj,Jk,Ja Io,Ja Im,Ja Rc,JB,ren,Jm]
  ·simp[forget,JB,ren,Jm]
 have d3:=dfF j t.items.length;obtain rfl:j=t.items.length:=om
 rw[<-EZ]at FY BF|-;simp only[go_sem,d3,Aj,Tr.row,splice,Gg,Gd];have CK:=FY.tl;refine frzs3 (JQ _) (Jd _) (Jd _) rfl rfl rfl (by rw[Jf,CK]) λh=>?_
 have h2:=congrArg Hd h;rw[Jb,Gd]at h2;have h3:=Jet g (b:=b);have h4:(KD t b).nodes.length=(shT t b).1.us.length:=rfl;have h5:t.items.length=0:=by
  cases hh:t.items with
  |nil=>rfl
  |cons a l=>have:=g.itr (show a∈t.items by rw[hh];simp);omega
 have h6:(iz (KD t b).items).length=(shT t b).2.length:=Jf;exact GR (by rw[h6,BF];omega)
end
theorem tym_of(hU:(QO u p).2=0)(Cs:OfMap u t p o ψ){j:Nat}(hj:j<u.nodes.length)(hs:JN u j=true):∃d:Nat,d<u.nodes.length/\JD u p j=d/\JD t o (ψ j)=(ψ d:Nat)/\((nd u j).k=26->(nd u d).k=65):=by
 rcases Cs j hj with ⟨h1,_⟩|⟨d,h1,h2,h3⟩
 ·exact absurd h1 ((Xp hU).mean j hj hs)
 ·exact⟨d,h1,h2,h3,λhk=>((Jby (Xp hU) hj hk).1 h2).2.2⟩
section
variable(g:GoodT t o)
include g
theorem shuf_kid(hx:x<t.nodes.length)(hi:i<(nd t x).kids.length):(nd (KD t b) (JH (KD t b) (KI t b x) i)).k=(nd t (JH t x i)).k/\((nd t (JH t x i)).k≠41->KI t b (JH t x i)=JH (KD t b) (KI t b x) i):=by
 have hp:=Qv (t:=t) (b:=b) (v:=x);have hl:i<(KC t b x).length:=by rw[hp.len];exact hi
 have hk:=hp.kind i hi;have hm:=Jt g hx hi;have Ap:(KC t b x).getD i 0∈(nd t x).kids:=hp.perm.mem_iff.1 (by rw[Ga,Gb hl];exact Gm hl);have dZ:=g.kid hx Ap;have e:JH (KD t b) (KI t b x) i=KI t b ((KC t b x).getD i 0).toNat:=by unfold JH;rw[(QI g hx).2.2];simp only[Ga,Gl,Gb hl,He,GD,Gi]
 have DY:∀y:Int,Jo t.nodes y=(nd t y.toNat).k:=λy=>rfl
 have Ab:((KC t b x).getD i 0).toNat<t.nodes.length:=om
 rw[e];refine⟨?_,λAQ=>?_⟩
 ·rw[(QI g Ab).2.2];rw[DY,DY]at hk;exact hk.1
 ·have h2:=hk.2 (by rw[DY];exact AQ);unfold JH;rw[h2]
theorem shuf_tym (hE:(QO t o).2=0)(Cs:OfMap t (KD t b) o (shT t b).1.ps (KI t b)):TyM t (KD t b) o (shT t b).1.ps (KI t b):=⟨λj hj=>by rw[(QI g hj).2.2],λj hj i hi AQ=>(shuf_kid g hj hi).2 AQ,λj hj hs=>tym_of hE Cs hj hs⟩
theorem shuf_tymB (hE:(QO t o).2=0)(Cs:OfMap t (KD t b) o (shT t b).1.ps (KI t b))(hm:TMap (KD t b) t χ)(hχ:∀j,j<(KD t b).nodes.length->χ j<t.nodes.length/\KI t b (χ j)=j):TyM (KD t b) t (shT t b).1.ps o χ:=by
 refine⟨λj hj=>?_,λj hj i hi AQ=>?_,λj hj hs=>?_⟩
 ·obtain⟨h1,h2⟩:=hχ j hj;have h3:=(QI g (b:=b) h1).2.2;rw[h2]at h3;rw[h3]
 ·obtain⟨h1,h2⟩:=hχ j hj;have EB:i<(nd t (χ j)).kids.length:=by rw[hm.len j hj];exact hi
  have h3:=shuf_kid g (b:=b) h1 EB;rw[h2]at h3;have h4:=h3.2 (by rw[<-h3.1];exact AQ);have Aw:=(Jt g h1 EB).2.1;have h5:JH (KD t b) j i<(KD t b).nodes.length:=by rw[<-h4];exact(QI g om).2.1
  exact to_inj g (hχ _ h5).1 om (by rw[(hχ _ h5).2,h4])
 ·obtain⟨h1,h2⟩:=hχ j hj;have hk:=hm.k j hj;obtain⟨d,d1,d2,d3,d4⟩:=tym_of hE Cs h1 (by unfold JN at hs|-;rw[hk];exact hs);rw[h2]at d3;have d5:=(QI g (b:=b) d1).2.1;refine⟨KI t b d,d5,d3,?_,λe=>?_⟩
  ·rw[d2,to_inj g (hχ _ d5).1 d1 (hχ _ d5).2]
  ·rw[(QI g d1).2.2];exact d4 (by rw[hk];exact e)
theorem shuf_typed (hE:(QO t o).2=0):((JM t o).bad=none↔(JM (KD t b) (shT t b).1.ps).bad=none)/\((JM t o).bad=none->∀j,j<t.nodes.length->JE (JM t o).got j=JE (JM (KD t b) (shT t b).1.ps).got (KI t b j)):=by
 have gu:=Jbn g (b:=b);have hU:=shuf_ok g (b:=b) hE;have Cs:=(shuf_okB g hU).2;obtain⟨χ,hm,hχ⟩:=shuf_inv g (b:=b);have A:=λhb=>Jes gu g hm (shuf_tymB g hE Cs hm hχ) hU hE hb
 have B:=λhb=>Jes g gu (JcP g) (shuf_tym g hE Cs) hE hU hb
 exact⟨⟨λhb=>(A hb).1,λhb=>(B hb).1⟩,λhb=>(B (A hb).1).2⟩
end
def QZ (t:Tr)(o:Lu):Nat->Tr
 |0=>noT
 |k+1=>QF (QZ t o k) (JdP o t (t.items.length-1-k))
def Jgi (t:Tr):Nat->Lx
 |0=>[]
 |k+1=>Jgi t k++(GI (Yu t (t.items.length-1-k+1)-Yu t (t.items.length-1-k))).map (· + Yu t (t.items.length-1-k))
section
variable(g:GoodT t o)
structure LvB (k:Nat):Prop where
 good:∃p,GoodT (QZ t o k) p
 len:(QZ t o k).nodes.length=(Jgi t k).length
 its:(QZ t o k).items.length<=k
 nds:∀j x:Nat,(Jgi t k)[j]? = some x->nd (QZ t o k) j=mvN ((j:Int)-x) (nd t x)
 blk:∀j x:Nat,(Jgi t k)[j]? = some x->∃i,t.items.length<=i+k/\i<t.items.length/\Yu t i<=x/\x<Yu t (i+1)/\∀y,Yu t i<=y->y<Yu t (i+1)->x<=j+y/\(Jgi t k)[j+y-x]? = some y
 nod:(Jgi t k).Nodup
 ge:∀x∈Jgi t k,Yu t (t.items.length-k)<=x
 cnt:(Jgi t k).length+Yu t (t.items.length-k)=t.nodes.length
 on:∀i,t.items.length<=i+k->i<t.items.length->∀x,Yu t i<=x->x<Yu t (i+1)->x∈Jgi t k
include g
theorem JeL:∀k,k<=t.items.length->LvB (t:=t) (o:=o) k
 |0,_=>⟨⟨[],noT_good⟩,rfl,by simp[QZ,noT],λj x h=>by simp[Jgi]at h,λj x h=>by simp[Jgi]at h,by simp[Jgi],λx h=>by simp[Jgi]at h,by have:=endI_all g;simp[Jgi];omega,λi h h2=>om⟩
 |k0+1,hk=>by
  obtain⟨⟨p,gp⟩,l1,i1,n1,b1,a1,t1,c1,o1⟩:=JeL k0 om;obtain⟨k,Bv⟩:∃k,t.items.length-1-k0=k:=⟨_,rfl⟩;have Dg:t.items.length-k0=k+1:=om
  have Am:t.items.length-(k0+1)=k:=om
  obtain⟨L,hL,hF,UA,BH,hE⟩:=Jfy g (i:=k) om;have ed:Yu t k<=Yu t (k+1):=om
  rw[Dg]at t1 c1;have e1:QZ t o (k0+1)=QF (QZ t o k0) (JdP o t k):=by rw[QZ,Bv]
  have e2:Jgi t (k0+1)=Jgi t k0++(GI (Yu t (k+1)-Yu t k)).map (· + Yu t k):=by rw[Jgi,Bv]
  obtain⟨q,gq⟩:=JiA g (i:=k) om;have Ar:(JdP o t k).nodes.length=Yu t (k+1)-Yu t k:=by unfold JdP;simp only[hL,hF,Gh,Gu,La,Gi];omega
  have jK:∀i,i<Yu t (k+1)-Yu t k->nd (JdP o t k) i=mvN (-(Yu t k:Int)) (nd t (Yu t k+i)):=λi hi=>by unfold JdP nd;simp only[hL,hF,Gi];rw[Ga,Gl,G7,iP7,List.getElem?_drop,Gb om,Ga,Gb om];rfl
  have Eh:(JdP o t k).items.length=1:=rfl;have Ah:=g.many;have Me:=g.items;have Ef:=endI_le g (i:=k+1) om;generalize hB:QZ t o k0=B at *;generalize Jgi t k0=O at *;have CB:∀j,(O++(GI (Yu t (k+1)-Yu t k)).map (· + Yu t k))[j]? = if j<O.length then O[j]? else if j-O.length<Yu t (k+1)-Yu t k then some (j-O.length+Yu t k) else none:=λj=>by
   by_cases h:j<O.length
   ·rw[if_pos h,Gw h]
   ·rw[if_neg h,Gp om,Gl];by_cases h2:j-O.length<Yu t (k+1)-Yu t k
    ·rw[if_pos h2,List.getElem?_range h2];rfl
    ·rw[if_neg h2,List.getElem?_eq_none (by simp;omega)];rfl
  refine⟨⟨_,by rw[e1];exact join_good gp gq om om⟩,by rw[e1,e2,YT,Gr,Gh,H5];omega,by rw[e1];simp[QF,JdP];omega,λj x h=>?_,λj x h=>?_,?_,λx hx=>?_,by rw[Am,e2,Gr,Gh,H5];omega,λi hi bH x h2 h3=>?_⟩
  ·rw[e2,CB]at h;rw[e1]
   split at h
   ·rename_i hj;rw[Jda om];exact n1 j x h
   ·rename_i hj
    split at h
    ·rename_i Dn;have hx:=GJ h;have jo:j=B.nodes.length+(j-O.length):=om
     rw[jo,Jb4 om,jK _ Dn];have AY:Yu t k+(j-O.length)=x:=om
     rw[AY];unfold mvN;simp only[Nd.mk.injEq,true_and,and_true,Ha];refine Gx λc _=>?_
     simp only[Ho];omega
    ·cases h
  ·rw[e2];rw[e2,CB]at h
   split at h
   ·rename_i hj;obtain⟨i,q1,q2,q3,q4,q5⟩:=b1 j x h;refine⟨i,om,q2,q3,q4,λy h1 h2=>?_⟩;obtain⟨r1,r2⟩:=q5 y h1 h2;refine⟨r1,?_⟩;rw[Gw (Gq.1 r2).1];exact r2
   ·rename_i hj
    split at h
    ·rename_i Dn;have hx:=GJ h;refine⟨k,om,om,om,om,λy h1 h2=>⟨om,?_⟩⟩;rw[CB,iN7,iP7]
     congr 1
     omega
    ·cases h
  ·rw[e2];unfold List.Nodup at a1|-;rw[List.pairwise_append];refine⟨a1,?_,λx hx y hy=>?_⟩
   ·rw[List.pairwise_map];exact List.pairwise_lt_range.imp λh=>om
   ·obtain⟨z,hz,rfl⟩:=Gj.1 hy;have:=t1 x hx;have h9:=GN.1 hz;omega
  ·rw[Am];rw[e2,Gz]at hx;rcases hx with hx|hx
   ·have:=t1 x hx;omega
   ·obtain⟨z,hz,rfl⟩:=Gj.1 hx;have:=GN.1 hz;omega
  ·rw[e2,Gz];by_cases he:i=k
   ·subst he;exact .inr (Gj.2 ⟨x-Yu t i,GN.2 om,om⟩)
   ·exact .inl (o1 i om bH x h2 h3)
theorem back_map:∃(p:Lu) (ψ:Nat->Nat),GoodT (QZ t o t.items.length) p/\TMap (QZ t o t.items.length) t ψ/\(∀j,j<(QZ t o t.items.length).nodes.length->(nd t (ψ j)).text=(nd (QZ t o t.items.length) j).text/\(nd t (ψ j)).n=(nd (QZ t o t.items.length) j).n)/\(∀j,j<(QZ t o t.items.length).nodes.length->∀i,i<(nd (QZ t o t.items.length) j).kids.length->ψ (JH (QZ t o t.items.length) j i)=JH t (ψ j) i)/\∀x,x<t.nodes.length->∃j,j<(QZ t o t.items.length).nodes.length/\ψ j=x:=by
 obtain⟨⟨p,gp⟩,l1,i1,n1,b1,a1,_,c1,o1⟩:=JeL g t.items.length (Gv _);have AV:∀j,j<(QZ t o t.items.length).nodes.length->(Jgi t t.items.length)[j]? = some ((Jgi t t.items.length).getD j 0):=λj hj=>by rw[Ga,Gb om];rfl
 generalize QZ t o t.items.length=u at *;generalize Jgi t t.items.length=O at *;have DZ:∀i j,i<u.nodes.length->j<u.nodes.length->O.getD i 0=O.getD j 0->i=j:=λi j hi hj h=>by
  simp only[Ga,Gb (show i<O.length by omega),Gb (show j<O.length by omega),GD]at h;rcases Nat.lt_trichotomy i j with h2|h2|h2
  ·exact absurd h (Hu.1 a1 i j om om h2)
  ·exact h2
  ·exact absurd h.symm (Hu.1 a1 j i om om h2)
 have BQ:∀j,j<u.nodes.length->nd u j=mvN ((j:Int)-(O.getD j 0:Nat)) (nd t (O.getD j 0)):=λj hj=>n1 j _ (AV j hj)
 have Ew:∀j,j<u.nodes.length->O.getD j 0<t.nodes.length:=λj hj=>by obtain⟨i,_,q2,_,q4,_⟩:=b1 j _ (AV j hj);have:=endI_le g (i:=i+1) om;omega
 have Cf:∀j,j<u.nodes.length->∀c:Nat,(c:Int)∈(nd t (O.getD j 0)).kids->O.getD j 0<=j+c/\O.getD (j+c-O.getD j 0) 0=c:=λj hj c hc=>by obtain⟨i,_,q1,q3,q4,q5⟩:=b1 j _ (AV j hj);have h1:=kid_blk g q1 q3 q4 hc;obtain⟨r1,r2⟩:=q5 c om om;exact⟨r1,by rw[Ga,r2];rfl⟩
 have Du:∀j,j<u.nodes.length->∀i,i<(nd u j).kids.length->O.getD (JH u j i) 0=JH t (O.getD j 0) i:=λj hj i hi=>by
  have Pf:=BQ j hj;have DK:=Cf j hj;have hr:=Ew j hj;rw[Pf]at hi;generalize O.getD j 0=x at Pf DK hr hi|-;have EB:i<(nd t x).kids.length:=by simpa [mvN]using hi
  have hm:(nd t x).kids.getD i 0∈(nd t x).kids:=by rw[Ga,Gb EB];exact Gm EB
  have Ca:=g.kid hr hm;have e:JH u j i=(((nd t x).kids.getD i 0)+((j:Int)-x)).toNat:=by unfold JH;rw[Pf];unfold mvN;simp only;rw[Ga,Gl,Ga,Gb EB];rfl
  rw[e];unfold JH;generalize (nd t x).kids.getD i 0=c at hm Ca;obtain⟨c,rfl⟩:∃c':Nat,c=c':=⟨c.toNat,om⟩;have h1:=DK c hm;rw[show ((c:Int)+((j:Int)-x)).toNat=j+c-x by omega,h1.2,Gi]
 refine⟨p,λj=>O.getD j 0,gp,⟨Ew,DZ,λj hj=>by rw[BQ j hj];rfl,λi j hi hj h=>by rw[BQ i hi,BQ j hj]at h;exact h,λj hj=>by rw[BQ j hj];simp[mvN],λj hj c hc=>?_,λj hj c hc=>?_,λj hj _ _ i hi=>Du j hj i hi⟩,λj hj=>⟨by rw[BQ j hj];rfl,by rw[BQ j hj];rfl⟩,Du,λx hx=>?_⟩
 ·rw[BQ j hj]at hc;obtain⟨k,hk,Ff⟩:=Gj.1 hc;have Ca:=g.kid (Ew j hj) hk;obtain⟨k,rfl⟩:∃k':Nat,k=k':=⟨k.toNat,om⟩;have h1:=Cf j hj k hk;have:c=j+k-O.getD j 0:=om
  rw[this,h1.2];exact hk
 ·have h1:=Cf j hj c hc;refine⟨j+c-O.getD j 0,?_,h1.2⟩;rw[BQ j hj];exact Gj.2 ⟨c,hc,om⟩
 ·obtain⟨h1,h2,h3⟩:=item_blk g hx;obtain⟨j,hj,jm⟩:=Gt (o1 (Qn t x) om h1 x h2 h3);exact⟨j,om,by show O.getD j 0=x;rw[Ga,Gb hj];exact jm⟩
end
section
variable(g:GoodT t o)
include g
theorem back_typed (hE:(QO t o).2=0):∃p,GoodT (QZ t o t.items.length) p/\(QO (QZ t o t.items.length) p).2=0/\((JM t o).bad=none↔(JM (QZ t o t.items.length) p).bad=none):=by
 obtain⟨p,ψ,gu,hm,hx,Du,P6⟩:=back_map g;generalize QZ t o t.items.length=u at *;have aK:∀y,∃x,y<t.nodes.length->x<u.nodes.length/\ψ x=y:=λy=>by
  by_cases hy:y<t.nodes.length
  ·obtain⟨x,h1⟩:=P6 y hy;exact⟨x,λ_=>h1⟩
  ·exact⟨0,λh=>absurd h hy⟩
 obtain⟨χ,hχ⟩:=Hr aK;obtain⟨hU,Cs⟩:=tm_res gu g hm hE (λj hj hk L hL=>P6 L (Jc3 g (Xp hE) (hm.rng j hj) hL).2.2.2) λj d hj hd hs MB=>tm_same gu g hm (Xp hE) (λj hj=>(hx j hj).1) hj hd hs MB
 have BZ:TMap t u χ:=tm_inv gu hm hχ λi j hi hj he=>by rwa [(hx i hi).1,(hx j hj).1]at he
 have M1:TyM u t p o ψ:=⟨λj hj=>(hx j hj).2,λj hj i hi _=>Du j hj i hi,λj hj hs=>tym_of hU Cs hj hs⟩;have M2:TyM t u o p χ:=by
  refine⟨λy hy=>?_,λy hy i hi _=>?_,λy hy hs=>?_⟩
  ·obtain⟨h1,h2⟩:=hχ y hy;rw[<-(hx _ h1).2,h2]
  ·obtain⟨h1,h2⟩:=hχ y hy;have EB:i<(nd u (χ y)).kids.length:=by rw[BZ.len y hy];exact hi
   have h3:=Du _ h1 i EB;rw[h2]at h3;have aW:=(Jt g hy hi).2.1;have Ic:=(Jt gu h1 EB).2.1;obtain⟨h4,h5⟩:=hχ (JH t y i) om;exact hm.inj _ _ h4 om (by rw[h5,h3])
  ·obtain⟨h1,h2⟩:=hχ y hy;have hk:=BZ.k y hy;obtain⟨d,d1,d2,d3,d4⟩:=tym_of hU Cs h1 (by unfold JN at hs|-;rw[hk];exact hs);rw[h2]at d3;have d5:=hm.rng d d1;obtain⟨h4,h5⟩:=hχ (ψ d) d5;refine⟨ψ d,d5,d3,by rw[d2,hm.inj _ _ h4 d1 h5],λe=>?_⟩;rw[hm.k d d1];exact d4 (by rw[hk];exact e)
 exact⟨p,gu,hU,λhb=>(Jes gu g hm M1 hU hE hb).1,λhb=>(Jes g gu BZ M2 hE hU hb).1⟩
end
end Go.Cm
end
end
