/-
  A part of the proof. Conditions: none.
-/
import Derived.Test.YtdnnimemociklaaGreatDoorWP43
set_option linter.unusedSimpArgs false
set_option linter.unusedVariables false
open Bool renaming and_eq_true->Gb,or_eq_false_iff->Gl,not_eq_true'->Gm,eq_iff_iff->Gn,eq_false_iff->Gr,not_eq_true->Gs
open List renaming mem_filter->Gc,mem_of_find?_eq_some->Gh,mem_of_getElem?->Gd,find?_some->Gf,mem_range->Gg,contains_iff_mem->Gi,getElem?_eq_getElem->Gp,getElem_of_mem->Gq,map_cons->Gj,getElem?_eq_some_iff->Gt,find?_eq_none->Gu,getElem?_inj->Gv,any_eq_false->Gw,getElem_mem->Gx,any_eq_true->Gy
open Int renaming toNat_natCast->Ga
noncomputable section
section
set_option maxRecDepth 100000
set_option maxHeartbeats 4000000
open Go.Proofs
namespace Go.Cm
variable {t u:Tr}{o p:Lu}{D L a d i k x y:Nat}{ψ:Nat->Nat}
def Jgq (t:Tr):Bool:=(decide (160<t.nodes.length) && decide (t.nodes.length<=700)) || decide (1400<t.nodes.length) || decide (40<t.items.length)
def Ja5 (t:Tr):Bool:=Jgq t || t.nodes.any Jdt
theorem Tr.Ty.fit3(h:t.Ty)(hv:Ja5 t=false):t.Fit:=by unfold Ja5 Jgq at hv;simp only[Gl,Bool.and_eq_false_iff,decide_eq_false_iff_not,Gw]at hv;obtain⟨⟨⟨_,h2⟩,h3⟩,h4⟩:=hv;refine⟨om,om,λx hx=>?_,h.items⟩;have hn:=h4 x hx;unfold Jdt at hn;simp only[Gs,Gl,decide_eq_false_iff_not]at hn;have ty:=h.nodes x hx;exact⟨ty.k,om,ty.n,om,ty.kids,ty.pl⟩
section
variable(g:GoodT t o)(ht:t.Fit)
include g ht
end
section
variable(g:GoodT t o)
include g
theorem YF {j u:Nat}(hu:u<t.nodes.length)(h:blw o j u):Qn t j=Qn t u:=by
 unfold Qn
 congr 1
 refine List.filter_congr λL hL=>?_
 rw[items_all g]at hL;have h1:=Kh.1 (Gc.1 hL).1;have h2:(nd t L.toNat).k=65:=by simpa using (Gc.1 hL).2
 obtain⟨L,rfl⟩:∃L':Nat,L=L':=⟨L.toNat,om⟩;rw[Ga]at h2;have hj:=h.1;rw[Gn,decide_eq_true_eq,decide_eq_true_eq]
 constructor
 ·intro h3;omega
 ·intro h3;rcases Nat.lt_or_ge L j with h4|h4
  ·omega
  ·have hb:blw o L u:=⟨om,by have:=h.2;omega⟩;obtain⟨m,hm,_⟩:=Xt g hu hb om;have:=(Jdi g (d:=L) om h2).1;omega
theorem sight_top{j:Nat}(hj:j<t.nodes.length)(h:(d:Int)∈Qz t j):∃u:Nat,u<t.nodes.length/\blw o j u/\blw o d u:=by
 have h1:=(Gc.1 h).2;rw[Gi,JfV g _ _ _ hj om]at h1;obtain⟨u,a,hu,ha,hb,hd⟩:=h1;refine⟨u,hu,Kw g hu hb (KE g hu ha),?_⟩;rw[KS g hu]at hd;rcases hd with ⟨_,s,hs,_,hk,_⟩|⟨_,hk,_⟩|⟨_,_,rfl⟩|⟨_,_,⟨hk,_⟩|⟨_,s,hs,_,hk,_⟩⟩
 ·have CL:=(JC g hu hs).2;exact Kw g hu (KE g om hk) (KE g hu hs)
 ·exact KE g hu hk
 ·exact Q6 g hu
 ·exact KE g hu hk
 ·have CL:=(JC g hu hs).2;exact Kw g hu (KE g om hk) (KE g hu hs)
theorem Jgv{j:Nat}(hj:j<t.nodes.length)(h:(d:Int)∈Qz t j):Qn t d=Qn t j:=by obtain⟨u,hu,h1,h2⟩:=sight_top g hj h;rw[YF g hu h1,YF g hu h2]
theorem JbS{j:Nat}(hj:j<t.nodes.length)(BR:1<=(nd t j).k/\(nd t j).k<=29)(h:(d:Int)∈Qz t j):d<t.nodes.length/\KV (nd t d).k=true/\(nd t d).k≠65/\inB t o d j=true:=by obtain⟨h1,h2⟩:=Gc.1 h;have hd:=Kh.1 h1;rw[sight_mem g (d:=d) om hj BR]at h2;simp only[Gb,Gm,beq_eq_false_iff_ne]at h2;exact⟨om,h2.1,h2.2.1,h2.2.2⟩
theorem JcN{e j:Nat}(hj:j<t.nodes.length)(BR:1<=(nd t j).k/\(nd t j).k<=29)(EO:∀i,i<t.nodes.length->twN t i=false)(hd:(d:Int)∈Qz t j)(he:(e:Int)∈Qz t j)(hx:(nd t d).text=(nd t e).text):¬d<e:=by
 intro Ab;obtain⟨d1,d2,d3,_⟩:=JbS g hj BR hd;obtain⟨e1,e2,e3,_⟩:=JbS g hj BR he;have FN:Qn t d=Qn t e:=(Jgv g hj hd).trans (Jgv g hj he).symm;have h:=EO e e1;have e44:(nd t e).k≠44:=by intro h4;rw[h4]at e2;exact absurd e2 vk
 unfold twN at h;rw[if_neg (by rw[e2];simp),Gw]at h;have:=h d (Gg.2 Ab);rw[if_neg e44,if_neg e3,hx,FN,d2]at this;simp at this;exact d3 this
end
theorem scan_none{a b:Int}:∀{l:Lx},Yc t o a b l=none->∀i∈l,twN t i=false/\(JN t i=true->JD t o i≠-1)
 |[],_,i,hi=>by simp at hi
 |x::l,h,i,hi=>by
  unfold Yc at h
  split at h
  ·cases h
  ·rename_i h1
   split at h
   ·cases h
   ·rename_i h2;rcases List.mem_cons.1 hi with rfl|hi
    ·refine⟨by simpa using h1,λhs hm=>h2 (by rw[hs,hm];rfl)⟩
    ·exact scan_none h i hi
theorem scan_err{r:Nat×Int}:∀{l:Lx},Yc t o 6 10 l=some r->r.2=6\/r.2=10
 |[],h=>by cases h
 |x::l,h=>by
  unfold Yc at h
  split at h
  ·cases h;exact .inl rfl
  ·split at h
   ·cases h;exact .inr rfl
   ·exact scan_err h
theorem JhS(hE:(QO t o).2=0)(hi:i<t.nodes.length):twN t i=false/\(JN t i=true->JD t o i≠-1):=by
 unfold QO at hE
 cases hs:Yc t o 6 10 (List.range t.nodes.length) with
 |some r=>rw[hs]at hE;have:=scan_err hs;simp only at hE;omega
 |none=>exact scan_none hs i (Gg.2 hi)
section
variable(g:GoodT t o)
include g
theorem YQ (hE:(QO t o).2=0){j:Nat}(hj:j<t.nodes.length)(hk:(nd t j).k=3):JD t o j∈Qz t j/\0<=JD t o j/\JD t o j<t.nodes.length/\(nd t (JD t o j).toNat).text=(nd t j).text/\KV (nd t (JD t o j).toNat).k=true:=by
 have h1:=(JhS hE hj).2 (by unfold JN;rw[hk];rfl);have hm:JD t o j=Jac t (Qz t j) (nd t j).text:=by unfold JD;rw[if_pos hk,JaR g hj om]
 rw[hm]at h1|-;unfold Jac at h1|-
 cases hf:(Qz t j).find? λd=>(nd t d.toNat).text == (nd t j).text with
 |none=>rw[hf]at h1;exact absurd rfl h1
 |some d=>simp only;have h2:=Gh hf;have h3:=Gf hf;have h4:=Kh.1 (Gc.1 h2).1;obtain⟨d,rfl⟩:∃d':Nat,d=d':=⟨d.toNat,om⟩;exact⟨h2,h4.1,h4.2,by simpa using h3,by rw[Ga];exact(JbS g hj om h2).2.1⟩
end
section
variable(g:GoodT t o)
include g
theorem JdM(h:t.items[k]? = some (L:Int)):Qn t L=k:=by
 have hk:k<t.items.length:=(Gt.1 h).1;have hr:=g.itr (Gd h);obtain⟨b,B,b1,b2,b3,b4,b5,b6⟩:=JaW g (i:=L) om;have hn:t.items.Nodup:=XI g.ord.ok g.olen _ _ _ g.its;have RN:Yo t o L=L:=by
  unfold Yo;have bT:=JaG g.ord.ok g.olen _ _ _ g.its;have Ce:∀y∈t.items.take k,JbO o L y.toNat=false:=λy hy=>by obtain⟨j,hj,rfl⟩:=Gq hy;rw[List.getElem_take];rw[List.length_take]at hj;have h2:=List.pairwise_iff_getElem.1 bT j k om hk om;rw[(Gt.1 h).2]at h2;rw[Gr];intro hb;have:=(KM.1 hb).1;have:=g.itr (Gx (l:=t.items) (show j<t.items.length by omega));omega
  rw[Jir (q:=λM:Int=>JbO o L M.toNat) h (by rw[KM,Ga];exact Q6 g om) Ce]
 rw[b4]at RN;have:B=L:=om
 subst this;rw[b3];exact(Gv b1 hn).1 (b2.trans h.symm)
theorem Jfx{it:Nat}(hi:i<t.nodes.length)(h:t.items[it]? = some (L:Int)):JbO o i L=(Qn t i == it):=by
 have hr:=g.itr (Gd h);rw[Gn,KM,beq_iff_eq]
 constructor
 ·intro hb;rw[YF g om hb,JdM g h]
 ·rintro rfl;obtain⟨b,B,b1,b2,b3,b4,b5,b6⟩:=JaW g hi;rw[b3]at h;rw[b2]at h;have:B=L:=by have:=Option.some.inj h;omega
  subst this;unfold Yo at b4
  split at b4
  ·rename_i x hx;have:=Gf hx;subst b4;rw[Ga]at this;exact KM.1 this
  ·omega
end
theorem refCheck3 (t:Tr)(e:Int)(l a:CV)(h:Fn Tryz.prog 33 [t.cv] (.tup [l,a,.int .i64 e])):Fn Tryz.prog 36 [t.cv] (.int .i64 e):=by
 refine Jc c36_ok rfl rfl λN=>?_
 simp only[c36,go_sem,Tr.cv,Tr.row];refine Kk h ?_;simp only[go_sem]
structure TMap (u t:Tr)(ψ:Nat->Nat):Prop where
 rng:∀j,j<u.nodes.length->ψ j<t.nodes.length
 inj:∀i j,i<u.nodes.length->j<u.nodes.length->ψ i=ψ j->i=j
 k:∀j,j<u.nodes.length->(nd t (ψ j)).k=(nd u j).k
 txe:∀i j,i<u.nodes.length->j<u.nodes.length->(nd u i).text=(nd u j).text->(nd t (ψ i)).text=(nd t (ψ j)).text
 len:∀j,j<u.nodes.length->(nd t (ψ j)).kids.length=(nd u j).kids.length
 kid:∀j,j<u.nodes.length->∀c:Nat,(c:Int)∈(nd u j).kids->(ψ c:Int)∈(nd t (ψ j)).kids
 back:∀j,j<u.nodes.length->∀c:Nat,(c:Int)∈(nd t (ψ j)).kids->∃d:Nat,(d:Int)∈(nd u j).kids/\ψ d=c
 pos:∀j,j<u.nodes.length->(nd u j).k≠40->(nd u j).k≠28->∀i,i<(nd u j).kids.length->ψ (JH u j i)=JH t (ψ j) i
section
variable(gu:GoodT u p)(g:GoodT t o)(h:TMap u t ψ)
include gu g h
theorem tm_par {j m:Nat}(hj:j<u.nodes.length)(hp:Kg u j=m):Kg t (ψ j)=(ψ m:Nat)/\m<u.nodes.length/\j<m/\(j:Int)∈(nd u m).kids:=by
 rcases Q0 gu hj with ⟨h1,_⟩|⟨m',h1,h2,h3,h4⟩
 ·omega
 ·obtain rfl:m=m':=om
  exact⟨(JC g (h.rng m h3) (h.kid m h3 j h4)).1,h3,h2,h4⟩
theorem tm_root {j:Nat}(hj:j<u.nodes.length)(hp:Kg u j = -1):(nd u j).k=65/\Kg t (ψ j) = -1:=by
 have hk:(nd u j).k=65:=by
  refine Classical.byContradiction λhk=>?_
  obtain⟨m,h1,_⟩:=Ql gu hj hk;omega
 exact⟨hk,(Jdi g (h.rng j hj) (by rw[h.k j hj];exact hk)).1⟩
theorem tm_up {j:Nat}(hj:j<u.nodes.length):(Kg u j = -1/\Kg t (ψ j) = -1)\/∃m:Nat,Kg u j=m/\Kg t (ψ j)=(ψ m:Nat)/\m<u.nodes.length/\j<m/\(j:Int)∈(nd u m).kids:=by
 rcases Q0 gu hj with ⟨h1,_⟩|⟨m,h1,h2,h3,h4⟩
 ·exact .inl ⟨h1,(tm_root gu g h hj h1).2⟩
 ·exact .inr ⟨m,h1,tm_par gu g h hj h1⟩
theorem tm_blw{j:Nat}(ha:a<u.nodes.length)(hb:blw p j a):blw o (ψ j) (ψ a):=by
 obtain⟨n,hn⟩:∃n,a-j=n:=⟨_,rfl⟩
 induction n using Nat.strongRecOn generalizing j with
 |ind n ih=>
  by_cases he:j=a
  ·subst he;exact Q6 g (h.rng j ha)
  ·obtain⟨m,h1,h2,h3,h4,h5⟩:=Xt gu ha hb he;have h6:=ih (a-m) om h4 rfl;exact Kw g (h.rng a ha) (KE g (h.rng m om) (h.kid m om j h5)) h6
theorem tm_above {j A:Nat}(hj:j<u.nodes.length)(hA:A<t.nodes.length)(hb:blw o (ψ j) A):∃a,a<u.nodes.length/\ψ a=A/\blw p j a:=by
 obtain⟨n,hn⟩:∃n,u.nodes.length-j=n:=⟨_,rfl⟩
 induction n using Nat.strongRecOn generalizing j with
 |ind n ih=>
  by_cases he:ψ j=A
  ·exact⟨j,hj,he,Q6 gu hj⟩
  ·obtain⟨M,h1,h2,h3,h4,h5⟩:=Xt g hA hb he;rcases tm_up gu g h hj with ⟨_,h6⟩|⟨m,h6,h7,h8,h9,D9⟩
   ·omega
   ·obtain rfl:M=ψ m:=om
    obtain⟨a,q1,q2,q3⟩:=ih (u.nodes.length-m) om h8 h4 rfl;exact⟨a,q1,q2,Kw gu q1 (KE gu h8 D9) q3⟩
theorem tm_declB{v:Nat}(hv:v<u.nodes.length)(ha:(a:Int)∈(nd u v).kids)(hd:(D:Int)∈Jcj t (ψ v) (ψ a)):∃d,d<u.nodes.length/\ψ d=D/\(d:Int)∈Jcj u v a:=by
 have lw:=(JC gu hv ha).2;rw[KS g (h.rng v hv),h.k v hv,h.k a om]at hd;have bind:(∃s:Nat,(s:Int)∈(nd t (ψ v)).kids/\(nd t s).k=41/\(D:Int)∈(nd t s).kids/\(nd t D).k=42)->∃d,d<u.nodes.length/\ψ d=D/\∃s:Nat,(s:Int)∈(nd u v).kids/\(nd u s).k=41/\(d:Int)∈(nd u s).kids/\(nd u d).k=42:=by rintro⟨S,h1,h2,h3,h4⟩;obtain⟨s,h5,rfl⟩:=h.back v hv S h1;have hs:=(JC gu hv h5).2;obtain⟨d,h6,rfl⟩:=h.back s om D h3;have Px:=(JC gu (show s<u.nodes.length by omega) h6).2;rw[h.k s om]at h2;rw[h.k d om]at h4;exact⟨d,om,rfl,s,h5,h2,h6,h4⟩
 rcases hd with ⟨h1,h2⟩|⟨h1,h2,h3⟩|⟨h1,h2,h3⟩|⟨h1,h2,h3⟩
 ·obtain⟨d,q1,q2,q3⟩:=bind h2;exact⟨d,q1,q2,(KS gu hv).2 (.inl ⟨h1,q3⟩)⟩
 ·obtain⟨d,h5,rfl⟩:=h.back v hv D h2;have:=(JC gu hv h5).2;rw[h.k d om]at h3;exact⟨d,om,rfl,(KS gu hv).2 (.inr (.inl ⟨h1,h5,h3⟩))⟩
 ·have h4:=(Jbm gu hv h1).1;change (nd u v).kids.length=3 at h4;have h5:=h.pos v hv om om 2 om;have h6:=Jt gu hv (i:=2) om;have h7:ψ a=JH t (ψ v) 2:=by unfold JH;omega
  have h8:=h.inj _ _ om om (h7.trans h5.symm);have hm:(nd u v).kids.getD 2 0∈(nd u v).kids:=by rw[List.getD_eq_getElem?_getD,Gp (show 2<(nd u v).kids.length by omega)];exact Gx _
  have h9:=(gu.kid hv hm).1;unfold JH at h8;exact⟨v,hv,h3.symm,(KS gu hv).2 (.inr (.inr (.inl ⟨h1,om,rfl⟩)))⟩
 ·rcases h3 with ⟨h3,h4⟩|⟨h3,h4⟩
  ·obtain⟨d,h5,rfl⟩:=h.back v hv D h3;have:=(JC gu hv h5).2;rw[h.k d om]at h4;exact⟨d,om,rfl,(KS gu hv).2 (.inr (.inr (.inr ⟨h1,h2,.inl ⟨h5,h4⟩⟩)))⟩
  ·obtain⟨d,q1,q2,q3⟩:=bind h4;exact⟨d,q1,q2,(KS gu hv).2 (.inr (.inr (.inr ⟨h1,h2,.inr ⟨h3,q3⟩⟩)))⟩
theorem tm_inSB{j:Nat}(hj:j<u.nodes.length)(hs:inS t o (D:Int) (ψ j)):∃d,d<u.nodes.length/\ψ d=D/\inS u p (d:Int) j:=by
 obtain⟨V,A,hV,hA,hb,hd⟩:=hs;have lM:=(JC g hV hA).2;obtain⟨a,a1,rfl,a3⟩:=tm_above gu g h hj om hb;rcases tm_up gu g h a1 with ⟨_,h6⟩|⟨v,h6,h7,h8,h9,D9⟩
 ·have:=(JC g hV hA).1;omega
 ·have:=(JC g hV hA).1;obtain rfl:V=ψ v:=om
  obtain⟨d,q1,q2,q3⟩:=tm_declB gu g h h8 D9 hd;exact⟨d,q1,q2,v,a,h8,D9,a3,q3⟩
omit gu h in
theorem Jc1{j:Nat}(hj:j<t.nodes.length):(d:Int)∈Qz t j↔d<t.nodes.length/\inS t o (d:Int) j:=by
 unfold Qz;rw[Gc,Kh,Gi,JfV g _ _ _ hj om]
 constructor
 ·rintro⟨h1,h2⟩;exact⟨om,h2⟩
 ·rintro⟨h1,h2⟩;exact⟨⟨om,om⟩,h2⟩
theorem tm_sightB {D:Int}{j:Nat}(hj:j<u.nodes.length)(hD:D∈Qz t (ψ j)):∃d:Nat,d<u.nodes.length/\(ψ d:Int)=D/\(d:Int)∈Qz u j:=by have h0:=Kh.1 (Gc.1 hD).1;obtain⟨D,rfl⟩:∃D':Nat,D=D':=⟨D.toNat,om⟩;rw[Jc1 g (h.rng j hj)]at hD;obtain⟨d,h3,h4,h5⟩:=tm_inSB gu g h hj hD.2;exact⟨d,h3,om,(Jc1 gu hj).2 ⟨h3,h5⟩⟩
theorem tm_item(hi:i<u.nodes.length)(hk:k<u.nodes.length):Qn t (ψ i)=Qn t (ψ k)↔Qn u i=Qn u k:=by
 obtain⟨a,A,a1,a2,a3,a4,_⟩:=JaW gu hi;obtain⟨b,B,b1,b2,b3,b4,_⟩:=JaW gu hk;have hA:=gu.itr (Gd a2);have hB:=gu.itr (Gd b2);have jN:blw p i A:=KM.1 (by rw[Jfx gu hi a2,a3];simp);have jM:blw p k B:=KM.1 (by rw[Jfx gu hk b2,b3];simp);have h1:=YF g (h.rng A om) (tm_blw gu g h om jN);have h2:=YF g (h.rng B om) (tm_blw gu g h om jM);have kA:(nd u A).k=65:=gu.defs _ (Gd a2);have kB:(nd u B).k=65:=gu.defs _ (Gd b2)
 constructor
 ·intro he;rw[h1,h2]at he;obtain⟨x,hx,IL⟩:=Gq (Jdi g (h.rng A om) (by rw[h.k A om];exact kA)).2;obtain⟨y,hy,gU⟩:=Gq (Jdi g (h.rng B om) (by rw[h.k B om];exact kB)).2;have AY:t.items[x]? = some ((ψ A:Nat):Int):=by rw[Gp hx,IL]
  have OV:t.items[y]? = some ((ψ B:Nat):Int):=by rw[Gp hy,gU]
  rw[JdM g AY,JdM g OV]at he;subst he;rw[AY]at OV;have dF:=h.inj A B om om (by have:=Option.some.inj OV;omega);subst dF;rw[a3,b3];have hn:u.items.Nodup:=XI gu.ord.ok gu.olen _ _ _ gu.its;exact(Gv a1 hn).1 (a2.trans b2.symm)
 ·intro he;rw[a3,b3]at he;subst he;rw[a2]at b2;obtain rfl:A=B:=by have:=Option.some.inj b2;omega
  rw[h1,h2]
end
def twP (t:Tr)(i k:Nat):Prop:=(nd t k).text=(nd t i).text/\(((nd t i).k=44/\(nd t k).k=44/\Kg t k=Kg t i)\/((nd t i).k=65/\(nd t k).k=65)\/(((nd t i).k≠65/\KV (nd t i).k=true)/\((nd t k).k≠65/\KV (nd t k).k=true)/\Qn t k=Qn t i))
theorem twP_symm(h:twP t i k):twP t k i:=by
 obtain⟨h1,h2⟩:=h;refine⟨h1.symm,?_⟩;rcases h2 with ⟨a,b,c⟩|⟨a,b⟩|⟨a,b,c⟩
 ·exact .inl ⟨b,a,c.symm⟩
 ·exact .inr (.inl ⟨b,a⟩)
 ·exact .inr (.inr ⟨b,a,c.symm⟩)
theorem twN_iff:twN t i=true↔∃k,k<i/\twP t i k:=by
 have e44:KV 44=false:=vk
 have e65:KV 65=true:=vk
 unfold twN twP;by_cases hc:(nd t i).k≠44/\KV (nd t i).k=false
 ·rw[if_pos hc];refine⟨λh=>(by cases h),?_⟩;rintro⟨k,_,_,h⟩;rcases h with ⟨a,_⟩|⟨a,_⟩|⟨⟨_,a⟩,_⟩
  ·exact absurd a hc.1
  ·rw[a,e65]at hc;exact absurd hc.2 sM
  ·rw[a]at hc;exact absurd hc.2 sM
 rw[if_neg hc,Gy];simp only[Gg,Gb,beq_iff_eq]
 constructor
 ·rintro⟨k,h1,h2,h3⟩;refine⟨k,h1,h2,?_⟩;by_cases h4:(nd t i).k=44
  ·rw[if_pos h4]at h3;simp only[Gb,beq_iff_eq]at h3;exact .inl ⟨h4,h3⟩
  rw[if_neg h4]at h3;by_cases h5:(nd t i).k=65
  ·rw[if_pos h5]at h3;exact .inr (.inl ⟨h5,by simpa using h3⟩)
  rw[if_neg h5]at h3;simp only[Gb,beq_iff_eq,Gm,beq_eq_false_iff_ne]at h3;have hd:KV (nd t i).k=true:=by
   cases hd:KV (nd t i).k with
   |true=>rfl
   |false=>exact absurd ⟨h4,hd⟩ hc
  exact .inr (.inr ⟨⟨h5,hd⟩,⟨h3.1,h3.2.1⟩,h3.2.2⟩)
 ·rintro⟨k,h1,h2,h3⟩;refine⟨k,h1,h2,?_⟩;rcases h3 with ⟨a,b,c⟩|⟨a,b⟩|⟨⟨a,a2⟩,⟨b,b2⟩,c⟩
  ·rw[if_pos a,b,c];simp
  ·rw[iN7,if_pos a,b];rfl
  ·have h4:(nd t i).k≠44:=by intro h4;rw[h4,e44]at a2;exact absurd a2 sM
   rw[if_neg h4,if_neg a,b2,c,beq_false_of_ne b];simp
theorem no_tw(h:∀i,i<t.nodes.length->twN t i=false)(hi:i<t.nodes.length)(hk:k<t.nodes.length)(hp:twP t i k):i=k:=by
 rcases Nat.lt_trichotomy i k with h1|h1|h1
 ·have:=twN_iff.2 ⟨i,h1,twP_symm hp⟩;rw[h k hk]at this;cases this
 ·exact h1
 ·have:=twN_iff.2 ⟨k,h1,hp⟩;rw[h i hi]at this;cases this
section
variable(gu:GoodT u p)(g:GoodT t o)(h:TMap u t ψ)
include gu g h
theorem tm_twP(hi:i<u.nodes.length)(hk:k<u.nodes.length)(hp:twP u i k):twP t (ψ i) (ψ k):=by
 obtain⟨h1,h2⟩:=hp;unfold twP;rw[h.k i hi,h.k k hk];refine⟨h.txe k i hk hi h1,?_⟩;rcases h2 with ⟨a,b,c⟩|⟨a,b⟩|⟨a,b,c⟩
 ·refine .inl ⟨a,b,?_⟩;rcases tm_up gu g h hi with ⟨q1,q2⟩|⟨m,q1,q2,_⟩ <;> rcases tm_up gu g h hk with ⟨r1,r2⟩|⟨n,r1,r2,_⟩
  ·rw[q2,r2]
  ·omega
  ·omega
  ·obtain rfl:m=n:=om
   rw[q2,r2]
 ·exact .inr (.inl ⟨a,b⟩)
 ·exact .inr (.inr ⟨a,b,(tm_item gu g h hk hi).2 c⟩)
theorem tm_tw (hn:∀i,i<t.nodes.length->twN t i=false)(hi:i<u.nodes.length):twN u i=false:=by rw[Gr];intro hx;obtain⟨k,h1,h2⟩:=twN_iff.1 hx;have:=h.inj _ _ hi om (no_tw hn (h.rng i hi) (h.rng k om) (tm_twP gu g h hi om h2));omega
end
theorem JeI(hn:∀i,i<t.nodes.length->twN t i=false)(hx:x<t.nodes.length)(hy:y<t.nodes.length)(ht:(nd t x).text=(nd t y).text)(hk:((nd t x).k=65/\(nd t y).k=65)\/(((nd t x).k≠65/\KV (nd t x).k=true)/\((nd t y).k≠65/\KV (nd t y).k=true)/\Qn t y=Qn t x)):x=y:=no_tw hn hx hy ⟨ht.symm,.inr hk⟩
theorem Jb8 {l:Lu}{q:Int->Bool}{d:Int}(hd:d∈l)(hq:q d=true)(ho:∀x∈l,q x=true->x=d):(match l.find? q with|some x=>x|none=>-1)=d:=by
 cases hf:l.find? q with
 |none=>exact absurd hq (by simpa using Gu.1 hf d hd)
 |some x=>exact ho x (Gh hf) (Gf hf)
structure Clear (t:Tr)(o:Lu):Prop where
 tw:∀i,i<t.nodes.length->twN t i=false
 mean:∀i,i<t.nodes.length->JN t i=true->JD t o i≠-1
theorem Xp(hE:(QO t o).2=0):Clear t o:=⟨λ_ hi=>(JhS hE hi).1,λ_ hi=>(JhS hE hi).2⟩
section
variable(g:GoodT t o)(c:Clear t o)
include g c
theorem sight_one{j:Nat}(hj:j<t.nodes.length)(BR:1<=(nd t j).k/\(nd t j).k<=29)(hx:(x:Int)∈Qz t j)(hy:(y:Int)∈Qz t j)(ht:(nd t x).text=(nd t y).text):x=y:=by have h1:=JcN g hj BR c.tw hx hy ht;have h2:=JcN g hj BR c.tw hy hx ht.symm;omega
theorem Jfs {j:Nat}(hj:j<t.nodes.length)(hk:(nd t j).k=3):JD t o j=d↔(d:Int)∈Qz t j/\(nd t d).text=(nd t j).text:=by
 have hm:JD t o j=Jac t (Qz t j) (nd t j).text:=by unfold JD;rw[if_pos hk,JaR g hj om]
 rw[hm];unfold Jac
 constructor
 ·intro h;generalize hf:(Qz t j).find? _=r at h
  cases r with
  |none=>simp only at h;omega
  |some x=>simp only at h;subst h;have h3:=Gf hf;rw[Ga]at h3;exact⟨Gh hf,by simpa using h3⟩
 ·rintro⟨h1,h2⟩;refine Jb8 h1 (by rw[Ga];simpa using h2) λx hx hq=>?_
  have h3:=Kh.1 (Gc.1 hx).1;obtain⟨x,rfl⟩:∃x':Nat,x=x':=⟨x.toNat,om⟩;rw[Ga]at hq;rw[sight_one g c hj om hx h1 ((by simpa using hq:(nd t x).text=_).trans h2.symm)]
omit g in
theorem Jby {j:Nat}(hj:j<t.nodes.length)(hk:(nd t j).k=26):JD t o j=d↔d<t.nodes.length/\(nd t d).text=(nd t j).text/\(nd t d).k=65:=by
 have hm:JD t o j=Jcn t j:=by unfold JD;rw[iN7,if_pos hk]
 rw[hm];unfold Jcn
 constructor
 ·intro h;generalize hf:(Qk t).find? _=r at h
  cases r with
  |none=>simp only at h;omega
  |some x=>simp only at h;subst h;have h3:=Gf hf;simp only[Gb,beq_iff_eq,Ga]at h3;exact⟨by have:=Kh.1 (Gh hf);omega,h3.1,h3.2.2⟩
 ·rintro⟨h1,h2,h3⟩;refine Jb8 (Kh.2 ⟨om,om⟩) (by rw[Ga,h2,h3];simp[KV]) λx hx hq=>?_
  have h4:=Kh.1 hx;obtain⟨x,rfl⟩:∃x':Nat,x=x':=⟨x.toNat,om⟩;simp only[Gb,beq_iff_eq,Ga]at hq;rw[JeI c.tw (x:=x) (y:=d) om h1 (hq.1.trans h2.symm) (.inl ⟨hq.2.2,h3⟩)]
theorem Jc4 {j:Nat}(hj:j<t.nodes.length)(hk:(nd t j).k=44):JD t o j=d↔d<t.nodes.length/\(nd t d).text=(nd t j).text/\(nd t d).k=43/\Kg t d=Kg t j:=by
 have hm:JD t o j=Jay t j:=by unfold JD;rw[iN7,iN7,if_pos hk]
 rw[hm];unfold Jay
 constructor
 ·intro h;generalize hf:(Qk t).find? _=r at h
  cases r with
  |none=>simp only at h;omega
  |some x=>simp only at h;subst h;have h3:=Gf hf;simp only[Gb,beq_iff_eq,Ga]at h3;exact⟨by have:=Kh.1 (Gh hf);omega,h3.1,h3.2.2.1,h3.2.2.2⟩
 ·rintro⟨h1,h2,h3,h4⟩;refine Jb8 (Kh.2 ⟨om,om⟩) (by rw[Ga,h2,h3,h4];simp[KV]) λx hx hq=>?_
  have h5:=Kh.1 hx;obtain⟨x,rfl⟩:∃x':Nat,x=x':=⟨x.toNat,om⟩;simp only[Gb,beq_iff_eq,Ga]at hq;obtain⟨v,v1,v2,v3,v4⟩:=Ql g h1 om;have Bz:x<t.nodes.length:=om
  obtain⟨w,w1,w2,w3,w4⟩:=Ql g Bz om;obtain rfl:v=w:=by have:=hq.2.2.2;omega
  have i1:=YF g v2 (KE g v2 v4);have i2:=YF g v2 (KE g v2 w4);rw[JeI c.tw (x:=x) (y:=d) Bz h1 (hq.1.trans h2.symm) (.inr ⟨⟨om,hq.2.1⟩,⟨om,by rw[h3];decide⟩,by rw[i1,i2]⟩)]
end
section
variable(gu:GoodT u p)(g:GoodT t o)(h:TMap u t ψ)
include gu g h
theorem tm_mean (c:Clear t o)(hc:∀j,j<u.nodes.length->(nd u j).k=26->∀L:Nat,JD t o (ψ j)=L->∃M,M<u.nodes.length/\ψ M=L)(cu:∀i,i<u.nodes.length->twN u i=false)(hT:∀j d,j<u.nodes.length->d<u.nodes.length->JN u j=true->JD t o (ψ j)=(ψ d:Nat)->(nd u d).text=(nd u j).text){j:Nat}(hj:j<u.nodes.length)(hs:JN u j=true):∃d:Nat,d<u.nodes.length/\JD u p j=d/\JD t o (ψ j)=(ψ d:Nat):=by
 have Al:JN t (ψ j)=true:=by unfold JN at hs|-;rw[h.k j hj];exact hs
 have Ag:=c.mean (ψ j) (h.rng j hj) Al;have hr:=JeB (t:=t) (o:=o) (i:=ψ j);obtain⟨D,hD⟩:∃D:Nat,JD t o (ψ j)=D:=⟨(JD t o (ψ j)).toNat,om⟩;have c0:∀{x y i:Nat},i<u.nodes.length->(1<=(nd u i).k/\(nd u i).k<=29)->(x:Int)∈Qz u i->(y:Int)∈Qz u i->(nd u x).text=(nd u y).text->x=y:=λ{x y i} hi BS hx hy ht=>by have h1:=JcN gu hi BS cu hx hy ht;have h2:=JcN gu hi BS cu hy hx ht.symm;omega
 have hk:(nd u j).k=3\/(nd u j).k=26\/(nd u j).k=44:=by unfold JN at hs;simpa [or_assoc]using hs
 rcases hk with hk|hk|hk
 ·obtain⟨h1,h2⟩:=(Jfs g c (h.rng j hj) (by rw[h.k j hj];exact hk)).1 hD;obtain⟨d,q1,q2,q3⟩:=tm_sightB gu g h hj h1;obtain rfl:D=ψ d:=om
  replace h2:=hT j d hj q1 hs hD
  refine⟨d,q1,?_,hD⟩;have hm:JD u p j=Jac u (Qz u j) (nd u j).text:=by unfold JD;rw[if_pos hk,JaR gu hj om]
  rw[hm];unfold Jac;refine Jb8 q3 (by rw[Ga];simpa using h2) λx hx hq=>?_
  have h3:=Kh.1 (Gc.1 hx).1;obtain⟨x,rfl⟩:∃x':Nat,x=x':=⟨x.toNat,om⟩;rw[Ga]at hq;rw[c0 hj om hx q3 ((by simpa using hq:(nd u x).text=_).trans h2.symm)]
 ·obtain⟨h1,h2,h3⟩:=(Jby c (h.rng j hj) (by rw[h.k j hj];exact hk)).1 hD;obtain⟨d,q1,rfl⟩:=hc j hj hk D hD
  replace h2:=hT j d hj q1 hs hD
  rw[h.k d q1]at h3;refine⟨d,q1,?_,hD⟩;have hm:JD u p j=Jcn u j:=by unfold JD;rw[iN7,if_pos hk]
  rw[hm];unfold Jcn;refine Jb8 (Kh.2 ⟨om,om⟩) (by rw[Ga,h2,h3];simp[KV]) λx hx hq=>?_
  have h4:=Kh.1 hx;obtain⟨x,rfl⟩:∃x':Nat,x=x':=⟨x.toNat,om⟩;simp only[Gb,beq_iff_eq,Ga]at hq;rw[JeI cu (x:=x) (y:=d) om q1 (hq.1.trans h2.symm) (.inl ⟨hq.2.2,h3⟩)]
 ·obtain⟨h1,h2,h3,h4⟩:=(Jc4 g c (h.rng j hj) (by rw[h.k j hj];exact hk)).1 hD;obtain⟨v,v1,v2,v3,v4⟩:=Ql gu hj om;have ja:=(tm_par gu g h hj v1).1;obtain⟨V,w1,w2,w3,w4⟩:=Ql g h1 om;obtain rfl:V=ψ v:=om
  obtain⟨d,q1,rfl⟩:=h.back v v2 D w4;have hd:=JC gu v2 q1
  replace h2:=hT j d hj om hs hD
  rw[h.k d om]at h3;refine⟨d,om,?_,hD⟩;have hm:JD u p j=Jay u j:=by unfold JD;rw[iN7,iN7,if_pos hk]
  rw[hm];unfold Jay;refine Jb8 (Kh.2 ⟨om,om⟩) (by rw[Ga,h2,h3,hd.1,v1];simp[KV]) λx hx hq=>?_
  have h5:=Kh.1 hx;obtain⟨x,rfl⟩:∃x':Nat,x=x':=⟨x.toNat,om⟩;simp only[Gb,beq_iff_eq,Ga]at hq;have Bz:x<u.nodes.length:=om
  obtain⟨w,z1,z2,z3,z4⟩:=Ql gu Bz om;obtain rfl:v=w:=by have:=hq.2.2.2;omega
  have i1:=YF gu v2 (KE gu v2 q1);have i2:=YF gu v2 (KE gu v2 z4);rw[JeI cu (x:=x) (y:=d) Bz om (hq.1.trans h2.symm) (.inr ⟨⟨om,hq.2.1⟩,⟨om,by rw[h3];decide⟩,by rw[i1,i2]⟩)]
theorem tm_clear (c:Clear t o)(hc:∀j,j<u.nodes.length->(nd u j).k=26->∀L:Nat,JD t o (ψ j)=L->∃M,M<u.nodes.length/\ψ M=L)(hT:∀j d,j<u.nodes.length->d<u.nodes.length->JN u j=true->JD t o (ψ j)=(ψ d:Nat)->(nd u d).text=(nd u j).text):Clear u p:=by
 have cu:∀i,i<u.nodes.length->twN u i=false:=λi hi=>tm_tw gu g h c.tw hi
 refine⟨cu,λi hi hs=>?_⟩;obtain⟨d,_,h2,_⟩:=tm_mean gu g h c hc cu hT hi hs;omega
def OfMap (u t:Tr)(p o:Lu)(ψ:Nat->Nat):Prop:=∀j,j<u.nodes.length->(JD u p j = -1/\JD t o (ψ j) = -1)\/∃d:Nat,d<u.nodes.length/\JD u p j=d/\JD t o (ψ j)=(ψ d:Nat)
theorem tm_of (c:Clear t o)(hc:∀j,j<u.nodes.length->(nd u j).k=26->∀L:Nat,JD t o (ψ j)=L->∃M,M<u.nodes.length/\ψ M=L)(hT:∀j d,j<u.nodes.length->d<u.nodes.length->JN u j=true->JD t o (ψ j)=(ψ d:Nat)->(nd u d).text=(nd u j).text):OfMap u t p o ψ:=λj hj=>by
 have cu:∀i,i<u.nodes.length->twN u i=false:=λi hi=>tm_tw gu g h c.tw hi
 cases hs:JN u j with
 |true=>exact .inr (tm_mean gu g h c hc cu hT hj hs)
 |false=>
  have F9:JN t (ψ j)=false:=by unfold JN at hs|-;rw[h.k j hj];exact hs
  have Ce:∀(s:Tr) (q:Lu) (i:Nat),JN s i=false->JD s q i = -1:=λs q i hi=>by unfold JN at hi;simp only[Gl,beq_eq_false_iff_ne]at hi;unfold JD;rw[if_neg hi.1.1,if_neg hi.1.2,if_neg hi.2]
  exact .inl ⟨Ce _ _ _ hs,Ce _ _ _ F9⟩
theorem tm_upL {top:Nat}(Bl:top<u.nodes.length):∀(f f' j:Nat),blw p j top->u.nodes.length<=j+f->t.nodes.length<=ψ j+f'->(upL u top f j).map ψ=upL t (ψ top) f' (ψ j)
 |0,_,j,hb,hf,_=>by have:=hb.1;omega
 |f+1,0,j,hb,_,bE=>by have:=h.rng j (by have:=hb.1;omega);omega
 |f+1,f' + 1,j,hb,hf,bE=>by
  have hj:j<u.nodes.length:=by have:=hb.1;omega
  unfold upL;by_cases he:j=top
  ·rw[if_pos he,if_pos (by rw[he])];rfl
  ·obtain⟨m,h1,h2,h3,h4,h5⟩:=Xt gu Bl hb he;obtain⟨h6,h7,_,_⟩:=tm_par gu g h hj h1;have h8:=(JC g (h.rng m h7) (h.kid m h7 j h5)).2;rw[if_neg he,if_neg (λhx=>he (h.inj _ _ hj Bl hx)),h1,h6,Ga,Ga,Gj,tm_upL Bl f f' m h4 om om]
omit g in
theorem tm_bu:∀(l:Lx) (late:Bool),Jcv u (λv c=>(c:Int)∈(nd u v).kids/\v<u.nodes.length) l->buL t (l.map ψ) late=buL u l late
 |[],_,_=>rfl
 |[_],_,_=>rfl
 |c::v::l,late,hp=>by
  obtain⟨⟨hc,hv⟩,R7⟩:=hp;have Rb:=(JC gu hv hc).2;have hs:Jbk t (ψ v) (ψ c) late=Jbk u v c late:=by
   unfold Jbk;rw[h.k v hv,h.k c om];by_cases e:(nd u v).k=46\/(nd u v).k=47
   ·obtain⟨i,hi,_,_⟩:=JbB hc;have hl:=h.pos v hv om om ((nd u v).kids.length-1) om;have h1:Jh t (ψ v)=ψ (Jh u v):=by unfold Jh;rw[h.len v hv];exact hl.symm
    have h2:=Jt gu hv (i:=(nd u v).kids.length-1) om;have h3:Jh u v<u.nodes.length:=by have:=h2.2.1;unfold JH at this;unfold Jh;omega
    have h4:(ψ c == Jh t (ψ v))=(c == Jh u v):=by rw[h1,Gn,beq_iff_eq,beq_iff_eq];exact⟨λhx=>h.inj _ _ om h3 hx,λhx=>by rw[hx]⟩
    rw[if_neg (show ¬(nd u v).k=4 by omega),if_neg (show ¬(nd u v).k=4 by omega),if_pos e,if_pos e,h4]
   ·rw[if_neg e,if_neg e]
  have ih:=tm_bu (v::l) (Jbk u v c late) R7;rw[Gj]at ih;rw[Gj,Gj,buL,buL,hs,ih]
theorem tm_late {s j:Nat}(hs:s<u.nodes.length)(hk:(nd u s).k=41)(hb:blw p j (Jh u s)):buL t (upL t (Jh t (ψ s)) t.nodes.length (ψ j)) false=buL u (upL u (Jh u s) u.nodes.length j) false:=by
 obtain⟨a,_,hl,_,_⟩:=Y8 gu hs hk;change (nd u s).kids.length=a+1 at hl;have h2:=Jt gu hs (i:=(nd u s).kids.length-1) om;have h3:Jh u s<u.nodes.length:=by have:=h2.2.1;unfold JH at this;unfold Jh;omega
 have h1:Jh t (ψ s)=ψ (Jh u s):=by have hp:=h.pos s hs om om ((nd u s).kids.length-1) om;unfold Jh;rw[h.len s hs];exact hp.symm
 rw[h1,<-tm_upL gu g h h3 u.nodes.length t.nodes.length j hb om om,tm_bu gu h _ _ (up_kids gu _ _ _ h3 hb)]
end
def needP (t:Tr)(o:Lu)(s x:Nat):Prop:=x<t.nodes.length/\∃i m:Nat,i<t.nodes.length/\(nd t i).k=3/\JD t o i=m/\(nd t m).k=42/\blw o i s/\Kg t m=x/\Kg t x=Kg t s/\buL t (upL t (Jh t s) t.nodes.length i) false=false
theorem JeA{s:Nat}:(x:Int)∈QN t o (ofL t o) s↔needP t o s x:=by
 unfold QN needP;rw[Gc,Kh];simp only[Gy,Gg,Gb,beq_iff_eq,decide_eq_true_eq,Gm,KM];have hd:∀i,i<t.nodes.length->(ofL t o).getD i (-1)=JD t o i:=λi hi=>by rw[ofL_ok.dft (by rw[Xu];exact hi),Jh4 hi]
 constructor
 ·rintro⟨h0,i,hi,h1,h2,h3,h4,h5,h6,h7⟩;rw[hd i hi]at h2 h3 h5;obtain⟨m,hm⟩:∃m:Nat,JD t o i=m:=⟨(JD t o i).toNat,om⟩;rw[hm,Ga]at h3 h5;rw[Ga]at h6;exact⟨om,i,m,hi,h1,hm,h3,h4,h5,h6,h7⟩
 ·rintro⟨h0,i,m,hi,h1,hm,h3,h4,h5,h6,h7⟩;refine⟨⟨om,om⟩,i,hi,h1,?_⟩;rw[hd i hi,hm,Ga,Ga];exact⟨om,h3,h4,h5,h6,h7⟩
section
variable(gu:GoodT u p)(g:GoodT t o)(h:TMap u t ψ)(Cs:OfMap u t p o ψ)
include gu g h Cs
theorem tm_need{s:Nat}(hs:s<u.nodes.length)(hk:(nd u s).k=41)(hn:needP u p s x):needP t o (ψ s) (ψ x):=by
 obtain⟨h0,i,m,hi,h1,h2,h3,h4,h5,h6,h7⟩:=hn;have hb:=(JcS gu hs hk om).1 h4;have Ir:∀a,a<u.nodes.length->∀b,b<u.nodes.length->Kg u a=Kg u b->Kg t (ψ a)=Kg t (ψ b):=λa ha b Rh he=>by
  rcases tm_up gu g h ha with ⟨q1,q2⟩|⟨y,q1,q2,_⟩ <;> rcases tm_up gu g h Rh with ⟨r1,r2⟩|⟨z,r1,r2,_⟩
  ·rw[q2,r2]
  ·omega
  ·omega
  ·obtain rfl:y=z:=om
   rw[q2,r2]
 rcases Cs i hi with ⟨q1,_⟩|⟨d,q1,q2,q3⟩
 ·omega
 ·obtain rfl:d=m:=om
  refine⟨h.rng x h0,ψ i,ψ d,h.rng i hi,by rw[h.k i hi];exact h1,q3,by rw[h.k d q1];exact h3,tm_blw gu g h hs h4,(tm_par gu g h q1 h5).1,Ir x h0 s hs h6,?_⟩;rw[tm_late gu g h hs hk hb];exact h7
theorem tm_st {s:Nat}(hs:s<u.nodes.length)(hn:stN t o (ψ s)=false):stN u p s=false:=by
 cases hx:stN u p s with
 |false=>rfl
 |true=>
  unfold stN at hx hn;rw[Gb,beq_iff_eq,Gi]at hx;obtain⟨hk,hx⟩:=hx;rw[h.k s hs,hk]at hn;simp only[beq_self_eq_true,Bool.true_and,<-Gs,Gi]at hn;exfalso;apply hn;have IU:∀x∈QN t o (ofL t o) (ψ s),x∈Qk t:=λx hx=>(Gc.1 hx).1
  obtain⟨_,c2,c3⟩:=JdQ (N:=λx=>QN t o (ofL t o) x.toNat) (l:=Qk t) Jh5 (muB (Qk t) (QN t o (ofL t o) (ψ s)) []+1) (QN t o (ofL t o) (ψ s)) [] IU (Nat.lt_succ_self _) (λx hx=>by cases hx);have hl:=Jf3 (N:=λx=>QN u p (ofL u p) x.toNat) (q:=λx=>∃y:Nat,x=y/\y<u.nodes.length/\(nd u y).k=41/\((ψ y:Nat):Int)∈bfs (λx=>QN t o (ofL t o) x.toNat) (Qk t) (QN t o (ofL t o) (ψ s)) []) ?_ (muB (Qk u) (QN u p (ofL u p) s) []+1) (QN u p (ofL u p) s) [] ?_ (λx hx=>by cases hx) s hx
  ·obtain⟨y,h1,_,_,h2⟩:=hl;obtain rfl:s=y:=om
   exact h2
  ·rintro x ⟨y,rfl,h1,h2,h3⟩ z hz;simp only[Ga]at hz;have IJ:=Jb2 gu hz;obtain⟨z,rfl⟩:∃z':Nat,z=z':=⟨z.toNat,om⟩;have h4:=tm_need gu g h Cs h1 h2 (JeA.1 hz);refine⟨z,rfl,om,by simpa using IJ.2.2,c3 _ h3 _ ?_⟩;simp only[Ga];exact JeA.2 h4
  ·intro z hz;have IJ:=Jb2 gu hz;obtain⟨z,rfl⟩:∃z':Nat,z=z':=⟨z.toNat,om⟩;exact⟨z,rfl,om,by simpa using IJ.2.2,c2 _ (JeA.2 (tm_need gu g h Cs hs hk (JeA.1 hz)))⟩
end
theorem JgB(c:Clear t o):∀l:Lx,(∀i∈l,i<t.nodes.length)->Yc t o 6 10 l=none
 |[],_=>rfl
 |i::l,h=>by
  have hi:=h i sM;have h1:(JN t i && JD t o i == -1)=false:=by
   cases hs:JN t i with
   |false=>rfl
   |true=>simpa using c.mean i hi hs
  rw[Yc,c.tw i hi,h1];exact JgB c l λx hx=>h x (by simp[hx])
theorem res_clear(c:Clear t o)(hs:∀i,i<t.nodes.length->stN t o i=false):(QO t o).2=0:=by
 unfold QO;rw[JgB c _ λi hi=>Gg.1 hi];simp only;have:(List.range t.nodes.length).find? (stN t o)=none:=Gu.2 λi hi=>by rw[hs i (Gg.1 hi)];simp
 rw[this]
theorem tm_res(gu:GoodT u p)(g:GoodT t o)(h:TMap u t ψ)(hE:(QO t o).2=0)(hc:∀j,j<u.nodes.length->(nd u j).k=26->∀L:Nat,JD t o (ψ j)=L->∃M,M<u.nodes.length/\ψ M=L)(hT:∀j d,j<u.nodes.length->d<u.nodes.length->JN u j=true->JD t o (ψ j)=(ψ d:Nat)->(nd u d).text=(nd u j).text):(QO u p).2=0/\OfMap u t p o ψ:=by have c:=Xp hE;have Cs:=tm_of gu g h c hc hT;exact⟨res_clear (tm_clear gu g h c hc hT) λi hi=>tm_st gu g h Cs hi (res_st hE (h.rng i hi)),Cs⟩
theorem tm_same(gu:GoodT u p)(g:GoodT t o)(h:TMap u t ψ)(c:Clear t o)(hx:∀j,j<u.nodes.length->(nd t (ψ j)).text=(nd u j).text){j:Nat}(hj:j<u.nodes.length)(hd:d<u.nodes.length)(hs:JN u j=true)(hm:JD t o (ψ j)=(ψ d:Nat)):(nd u d).text=(nd u j).text:=by
 have hk:(nd u j).k=3\/(nd u j).k=26\/(nd u j).k=44:=by unfold JN at hs;simpa [or_assoc]using hs
 rw[<-hx j hj,<-hx d hd];rcases hk with hk|hk|hk
 ·exact((Jfs g c (h.rng j hj) (by rw[h.k j hj];exact hk)).1 hm).2
 ·exact((Jby c (h.rng j hj) (by rw[h.k j hj];exact hk)).1 hm).2.1
 ·exact((Jc4 g c (h.rng j hj) (by rw[h.k j hj];exact hk)).1 hm).2.1
section
variable(g:GoodT t o)(ht:t.Fit)
include g ht
end
section
variable(g:GoodT t o)
include g
theorem Jc3 (c:Clear t o){j:Nat}(hj:j<t.nodes.length)(h:JD t o j=d):(nd t d).text=(nd t j).text/\KV (nd t d).k=true/\JN t j=true/\d<t.nodes.length:=by
 have hr:=JeB (t:=t) (o:=o) (i:=j);by_cases h3:(nd t j).k=3
 ·have h1:=(Jfs g c hj h3).1 h;exact⟨h1.2,(JbS g hj om h1.1).2.1,by unfold JN;rw[h3];rfl,om⟩
 by_cases DJ:(nd t j).k=26
 ·have h1:=(Jby c hj DJ).1 h;exact⟨h1.2.1,by rw[h1.2.2];decide,by unfold JN;rw[DJ];rfl,om⟩
 by_cases BC:(nd t j).k=44
 ·have h1:=(Jc4 g c hj BC).1 h;exact⟨h1.2.1,by rw[h1.2.2.1];decide,by unfold JN;rw[BC];rfl,om⟩
 unfold JD at h;rw[if_neg h3,if_neg DJ,if_neg BC]at h;omega
end
end Go.Cm
end
end
