/-
  A part of the proof. Conditions: none.
-/
import Derived.Test.YtejfnfphmkjffaaGreatDoorVP43
set_option linter.unusedSimpArgs false
set_option linter.unusedVariables false
open Bool renaming and_eq_true->Gb,or_eq_false_iff->Gi,not_eq_true'->Gj,eq_iff_iff->Gl
open List renaming mem_of_find?_eq_some->Gf,mem_filter->Gc,find?_some->Gd,getElem?_eq_getElem->Gg,getD_eq_getElem?_getD->Gm,mem_range->Gh,getElem?_eq_some_iff->Gn,contains_iff_mem->Gp,mem_of_getElem?->Gq,find?_eq_none->Gr,getElem?_inj->Gs,any_eq_false->Gt
open Int renaming toNat_natCast->Ga
noncomputable section
section
set_option maxRecDepth 100000
set_option maxHeartbeats 4000000
open Go.Proofs
namespace Go.Cm
def Jft (t:Tr):Bool:=(decide (160<t.nodes.length) && decide (t.nodes.length<=700)) || decide (1400<t.nodes.length) || decide (40<t.items.length)
def JaC (t:Tr):Bool:=Jft t || t.nodes.any JcO
theorem Tr.Ty.fit3 {t:Tr}(h:t.Ty)(hv:JaC t=false):t.Fit:=by
 unfold JaC Jft at hv;simp only[Gi,Bool.and_eq_false_iff,decide_eq_false_iff_not,Gt]at hv;obtain⟨⟨⟨_,h2⟩,h3⟩,h4⟩:=hv;refine⟨by omega,by omega,λx hx=>?_,h.items⟩;have hn:=h4 x hx;unfold JcO at hn;simp only[Bool.not_eq_true,Gi,decide_eq_false_iff_not]at hn;have ty:=h.nodes x hx;exact⟨ty.k,by omega,ty.n,by omega,ty.kids,ty.pl⟩
section
section
variable {t:Tr}{o:List Int}(g:GoodT t o)(ht:t.Fit)
include g ht
end
end
section
section
variable {t:Tr}{o:List Int}(g:GoodT t o)
include g
theorem JdT {j u:Nat}(hu:u<t.nodes.length)(h:blw o j u):Qb t j=Qb t u:=by
 unfold Qb
 congr 1
 refine List.filter_congr λL hL=>?_
 rw[items_all g]at hL;have h1:=KE.1 (Gc.1 hL).1;have h2:(nd t L.toNat).k=65:=by simpa using (Gc.1 hL).2
 obtain⟨L,rfl⟩:∃L':Nat,L=L':=⟨L.toNat,by omega⟩;rw[Ga]at h2;have hj:=h.1;rw[Gl,decide_eq_true_eq,decide_eq_true_eq]
 constructor
 ·intro h3;omega
 ·intro h3;rcases Nat.lt_or_ge L j with h4|h4
  ·omega
  ·have hb:blw o L u:=⟨by omega,by have:=h.2;omega⟩;obtain⟨m,hm,_⟩:=XN g hu hb (by omega);have:=(Jhs g (d:=L) (by omega) h2).1;omega
theorem sight_top {d j:Nat}(hj:j<t.nodes.length)(h:(d:Int)∈QK t j):∃u:Nat,u<t.nodes.length/\blw o j u/\blw o d u:=by
 have h1:=(Gc.1 h).2;rw[Gp,Je4 g _ _ _ hj (by omega)]at h1;obtain⟨u,a,hu,ha,hb,hd⟩:=h1;refine⟨u,hu,Qn g hu hb (Qt g hu ha),?_⟩;rw[Qy g hu]at hd;rcases hd with ⟨_,s,hs,_,hk,_⟩|⟨_,hk,_⟩|⟨_,_,rfl⟩|⟨_,_,⟨hk,_⟩|⟨_,s,hs,_,hk,_⟩⟩
 ·have DU:=(JR g hu hs).2;exact Qn g hu (Qt g (by omega) hk) (Qt g hu hs)
 ·exact Qt g hu hk
 ·exact Jbw g hu
 ·exact Qt g hu hk
 ·have DU:=(JR g hu hs).2;exact Qn g hu (Qt g (by omega) hk) (Qt g hu hs)
theorem Jfy {d j:Nat}(hj:j<t.nodes.length)(h:(d:Int)∈QK t j):Qb t d=Qb t j:=by
 obtain⟨u,hu,h1,h2⟩:=sight_top g hj h;rw[JdT g hu h1,JdT g hu h2]
theorem Jbk {d j:Nat}(hj:j<t.nodes.length)(Co:1<=(nd t j).k/\(nd t j).k<=29)(h:(d:Int)∈QK t j):d<t.nodes.length/\KI (nd t d).k=true/\(nd t d).k≠65/\inB t o d j=true:=by
 obtain⟨h1,h2⟩:=Gc.1 h;have hd:=KE.1 h1;rw[sight_mem g (d:=d) (by omega) hj Co]at h2;simp only[Gb,Gj,beq_eq_false_iff_ne]at h2;exact⟨by omega,h2.1,h2.2.1,h2.2.2⟩
theorem sight_two {d e j:Nat}(hj:j<t.nodes.length)(Co:1<=(nd t j).k/\(nd t j).k<=29)(Ey:∀i,i<t.nodes.length->twN t i=false)(hd:(d:Int)∈QK t j)(he:(e:Int)∈QK t j)(hx:(nd t d).text=(nd t e).text):¬d<e:=by
 intro Ab;obtain⟨d1,d2,d3,_⟩:=Jbk g hj Co hd;obtain⟨e1,e2,e3,_⟩:=Jbk g hj Co he;have M5:Qb t d=Qb t e:=(Jfy g hj hd).trans (Jfy g hj he).symm;have h:=Ey e e1;have e44:(nd t e).k≠44:=by intro h4;rw[h4]at e2;exact absurd e2 (by decide)
 unfold twN at h;rw[if_neg (by rw[e2];simp),Gt]at h;have:=h d (Gh.2 Ab);rw[if_neg e44,if_neg e3,hx,M5,d2]at this;simp at this;exact d3 this
end
theorem scan_none {t:Tr}{o:List Int}{a b:Int}:∀{l:List Nat},JaG t o a b l=none->∀i∈l,twN t i=false/\(Kr t i=true->JN t o i≠-1)
 |[],_,i,hi=>by simp at hi
 |x::l,h,i,hi=>by
  unfold JaG at h
  split at h
  ·cases h
  ·rename_i h1
   split at h
   ·cases h
   ·rename_i h2;rcases List.mem_cons.1 hi with rfl|hi
    ·refine⟨by simpa using h1,λhs hm=>h2 (by rw[hs,hm];rfl)⟩
    ·exact scan_none h i hi
theorem scan_err {t:Tr}{o:List Int}{r:Nat×Int}:∀{l:List Nat},JaG t o 6 10 l=some r->r.2=6\/r.2=10
 |[],h=>by cases h
 |x::l,h=>by
  unfold JaG at h
  split at h
  ·cases h;exact .inl rfl
  ·split at h
   ·cases h;exact .inr rfl
   ·exact scan_err h
theorem JdL {t:Tr}{o:List Int}(hE:(XL t o).2=0){i:Nat}(hi:i<t.nodes.length):twN t i=false/\(Kr t i=true->JN t o i≠-1):=by
 unfold XL at hE
 cases hs:JaG t o 6 10 (List.range t.nodes.length) with
 |some r=>rw[hs]at hE;have:=scan_err hs;simp only at hE;omega
 |none=>exact scan_none hs i (Gh.2 hi)
section
variable {t:Tr}{o:List Int}(g:GoodT t o)
include g
theorem Y4 (hE:(XL t o).2=0){j:Nat}(hj:j<t.nodes.length)(hk:(nd t j).k=3):JN t o j∈QK t j/\0<=JN t o j/\JN t o j<t.nodes.length/\(nd t (JN t o j).toNat).text=(nd t j).text/\KI (nd t (JN t o j).toNat).k=true:=by
 have h1:=(JdL hE hj).2 (by unfold Kr;rw[hk];rfl);have hm:JN t o j=JaD t (QK t j) (nd t j).text:=by
  unfold JN;rw[if_pos hk,JbW g hj (by omega)]
 rw[hm]at h1|-;unfold JaD at h1|-
 cases hf:(QK t j).find? λd=>(nd t d.toNat).text == (nd t j).text with
 |none=>rw[hf]at h1;exact absurd rfl h1
 |some d=>
  simp only;have h2:=Gf hf;have h3:=Gd hf;have h4:=KE.1 (Gc.1 h2).1;obtain⟨d,rfl⟩:∃d':Nat,d=d':=⟨d.toNat,by omega⟩;exact⟨h2,h4.1,h4.2,by simpa using h3,by rw[Ga];exact(Jbk g hj (by omega) h2).2.1⟩
end
end
section
section
variable {t:Tr}{o:List Int}(g:GoodT t o)
include g
theorem item_place {k L:Nat}(h:t.items[k]? = some (L:Int)):Qb t L=k:=by
 have hk:k<t.items.length:=(Gn.1 h).1;have hr:=g.itr (Gq h);obtain⟨b,B,b1,b2,b3,b4,b5,b6⟩:=Jg2 g (i:=L) (by omega);have hn:t.items.Nodup:=Yy g.ord.ok g.olen _ _ _ g.its;have P7:Ye t o L=L:=by
  unfold Ye;have aG:=Y9 g.ord.ok g.olen _ _ _ g.its;have BJ:∀y∈t.items.take k,Jbx o L y.toNat=false:=λy hy=>by
   obtain⟨j,hj,rfl⟩:=List.getElem_of_mem hy;rw[List.getElem_take];rw[List.length_take]at hj;have h2:=List.pairwise_iff_getElem.1 aG j k (by omega) hk (by omega);rw[(Gn.1 h).2]at h2;rw[Bool.eq_false_iff];intro hb;have:=(Qp.1 hb).1;have:=g.itr (List.getElem_mem (l:=t.items) (show j<t.items.length by omega));omega
  rw[Jhk (q:=λM:Int=>Jbx o L M.toNat) h (by rw[Qp,Ga];exact Jbw g (by omega)) BJ]
 rw[b4]at P7;have:B=L:=by omega
 subst this;rw[b3];exact(Gs b1 hn).1 (b2.trans h.symm)
end
end
theorem refCheck3 (t:Tr)(e:Int)(l a:CV)(h:Fn Tryz.prog 9 [t.cv] (.tup [l,a,.int .i64 e])):Fn Tryz.prog 21 [t.cv] (.int .i64 e):=by
 refine Ja c21_ok rfl rfl λN=>?_
 simp only[c21,go_sem,Tr.cv,Tr.row];refine JV h ?_;simp only[go_sem]
section
structure TMap (u t:Tr)(ψ:Nat->Nat):Prop where
 rng:∀j,j<u.nodes.length->ψ j<t.nodes.length
 inj:∀i j,i<u.nodes.length->j<u.nodes.length->ψ i=ψ j->i=j
 k:∀j,j<u.nodes.length->(nd t (ψ j)).k=(nd u j).k
 txe:∀i j,i<u.nodes.length->j<u.nodes.length->(nd u i).text=(nd u j).text->(nd t (ψ i)).text=(nd t (ψ j)).text
 len:∀j,j<u.nodes.length->(nd t (ψ j)).kids.length=(nd u j).kids.length
 kid:∀j,j<u.nodes.length->∀c:Nat,(c:Int)∈(nd u j).kids->(ψ c:Int)∈(nd t (ψ j)).kids
 back:∀j,j<u.nodes.length->∀c:Nat,(c:Int)∈(nd t (ψ j)).kids->∃d:Nat,(d:Int)∈(nd u j).kids/\ψ d=c
 pos:∀j,j<u.nodes.length->(nd u j).k≠40->(nd u j).k≠28->∀i,i<(nd u j).kids.length->ψ (JG u j i)=JG t (ψ j) i
section
variable {u t:Tr}{p o:List Int}{ψ:Nat->Nat}(gu:GoodT u p)(g:GoodT t o)(h:TMap u t ψ)
include gu g h
omit gu h in
theorem mem_sight {d j:Nat}(hj:j<t.nodes.length):(d:Int)∈QK t j↔d<t.nodes.length/\inS t o (d:Int) j:=by
 unfold QK;rw[Gc,KE,Gp,Je4 g _ _ _ hj (by omega)]
 constructor
 ·rintro⟨h1,h2⟩;exact⟨by omega,h2⟩
 ·rintro⟨h1,h2⟩;exact⟨⟨by omega,by omega⟩,h2⟩
end
end
section
def twP (t:Tr)(i k:Nat):Prop:=(nd t k).text=(nd t i).text/\(((nd t i).k=44/\(nd t k).k=44/\Kk t k=Kk t i)\/((nd t i).k=65/\(nd t k).k=65)\/(((nd t i).k≠65/\KI (nd t i).k=true)/\((nd t k).k≠65/\KI (nd t k).k=true)/\Qb t k=Qb t i))
theorem twP_symm {t:Tr}{i k:Nat}(h:twP t i k):twP t k i:=by
 obtain⟨h1,h2⟩:=h;refine⟨h1.symm,?_⟩;rcases h2 with ⟨a,b,c⟩|⟨a,b⟩|⟨a,b,c⟩
 ·exact .inl ⟨b,a,c.symm⟩
 ·exact .inr (.inl ⟨b,a⟩)
 ·exact .inr (.inr ⟨b,a,c.symm⟩)
theorem twN_iff {t:Tr}{i:Nat}:twN t i=true↔∃k,k<i/\twP t i k:=by
 have e44:KI 44=false:=by decide
 have e65:KI 65=true:=by decide
 unfold twN twP;by_cases hc:(nd t i).k≠44/\KI (nd t i).k=false
 ·rw[if_pos hc];refine⟨λh=>(by cases h),?_⟩;rintro⟨k,_,_,h⟩;rcases h with ⟨a,_⟩|⟨a,_⟩|⟨⟨_,a⟩,_⟩
  ·exact absurd a hc.1
  ·rw[a,e65]at hc;exact absurd hc.2 (by simp)
  ·rw[a]at hc;exact absurd hc.2 (by simp)
 rw[if_neg hc,List.any_eq_true];simp only[Gh,Gb,beq_iff_eq]
 constructor
 ·rintro⟨k,h1,h2,h3⟩;refine⟨k,h1,h2,?_⟩;by_cases h4:(nd t i).k=44
  ·rw[if_pos h4]at h3;simp only[Gb,beq_iff_eq]at h3;exact .inl ⟨h4,h3⟩
  rw[if_neg h4]at h3;by_cases h5:(nd t i).k=65
  ·rw[if_pos h5]at h3;exact .inr (.inl ⟨h5,by simpa using h3⟩)
  rw[if_neg h5]at h3;simp only[Gb,beq_iff_eq,Gj,beq_eq_false_iff_ne]at h3;have hd:KI (nd t i).k=true:=by
   cases hd:KI (nd t i).k with
   |true=>rfl
   |false=>exact absurd ⟨h4,hd⟩ hc
  exact .inr (.inr ⟨⟨h5,hd⟩,⟨h3.1,h3.2.1⟩,h3.2.2⟩)
 ·rintro⟨k,h1,h2,h3⟩;refine⟨k,h1,h2,?_⟩;rcases h3 with ⟨a,b,c⟩|⟨a,b⟩|⟨⟨a,a2⟩,⟨b,b2⟩,c⟩
  ·rw[if_pos a,b,c];simp
  ·rw[iN7,if_pos a,b];rfl
  ·have h4:(nd t i).k≠44:=by intro h4;rw[h4,e44]at a2;exact absurd a2 (by simp)
   rw[if_neg h4,if_neg a,b2,c,beq_false_of_ne b];simp
theorem no_tw {t:Tr}(h:∀i,i<t.nodes.length->twN t i=false){i k:Nat}(hi:i<t.nodes.length)(hk:k<t.nodes.length)(hp:twP t i k):i=k:=by
 rcases Nat.lt_trichotomy i k with h1|h1|h1
 ·have:=twN_iff.2 ⟨i,h1,twP_symm hp⟩;rw[h k hk]at this;cases this
 ·exact h1
 ·have:=twN_iff.2 ⟨k,h1,hp⟩;rw[h i hi]at this;cases this
section
variable {u t:Tr}{p o:List Int}{ψ:Nat->Nat}(gu:GoodT u p)(g:GoodT t o)(h:TMap u t ψ)
include gu g h
end
theorem decl_one {t:Tr}(hn:∀i,i<t.nodes.length->twN t i=false){x y:Nat}(hx:x<t.nodes.length)(hy:y<t.nodes.length)(ht:(nd t x).text=(nd t y).text)(hk:((nd t x).k=65/\(nd t y).k=65)\/(((nd t x).k≠65/\KI (nd t x).k=true)/\((nd t y).k≠65/\KI (nd t y).k=true)/\Qb t y=Qb t x)):x=y:=
 no_tw hn hx hy ⟨ht.symm,.inr hk⟩
theorem Jhi {l:List Int}{q:Int->Bool}{d:Int}(hd:d∈l)(hq:q d=true)(ho:∀x∈l,q x=true->x=d):(match l.find? q with|some x=>x|none=>-1)=d:=by
 cases hf:l.find? q with
 |none=>exact absurd hq (by simpa using Gr.1 hf d hd)
 |some x=>exact ho x (Gf hf) (Gd hf)
structure Clear (t:Tr)(o:List Int):Prop where
 tw:∀i,i<t.nodes.length->twN t i=false
 mean:∀i,i<t.nodes.length->Kr t i=true->JN t o i≠-1
theorem JcE {t:Tr}{o:List Int}(hE:(XL t o).2=0):Clear t o:=⟨λ_ hi=>(JdL hE hi).1,λ_ hi=>(JdL hE hi).2⟩
section
variable {t:Tr}{o:List Int}(g:GoodT t o)(c:Clear t o)
include g c
theorem sight_one {x y j:Nat}(hj:j<t.nodes.length)(Co:1<=(nd t j).k/\(nd t j).k<=29)(hx:(x:Int)∈QK t j)(hy:(y:Int)∈QK t j)(ht:(nd t x).text=(nd t y).text):x=y:=by
 have h1:=sight_two g hj Co c.tw hx hy ht;have h2:=sight_two g hj Co c.tw hy hx ht.symm;omega
theorem meanN_iff {j:Nat}(hj:j<t.nodes.length)(hk:(nd t j).k=3){d:Nat}:JN t o j=d↔(d:Int)∈QK t j/\(nd t d).text=(nd t j).text:=by
 have hm:JN t o j=JaD t (QK t j) (nd t j).text:=by
  unfold JN;rw[if_pos hk,JbW g hj (by omega)]
 rw[hm];unfold JaD
 constructor
 ·intro h;generalize hf:(QK t j).find? _=r at h
  cases r with
  |none=>simp only at h;omega
  |some x=>
   simp only at h;subst h;have h3:=Gd hf;rw[Ga]at h3;exact⟨Gf hf,by simpa using h3⟩
 ·rintro⟨h1,h2⟩;refine Jhi h1 (by rw[Ga];simpa using h2) λx hx hq=>?_
  have h3:=KE.1 (Gc.1 hx).1;obtain⟨x,rfl⟩:∃x':Nat,x=x':=⟨x.toNat,by omega⟩;rw[Ga]at hq;rw[sight_one g c hj (by omega) hx h1 ((by simpa using hq:(nd t x).text=_).trans h2.symm)]
omit g in
theorem JeA {j:Nat}(hj:j<t.nodes.length)(hk:(nd t j).k=26){d:Nat}:JN t o j=d↔d<t.nodes.length/\(nd t d).text=(nd t j).text/\(nd t d).k=65:=by
 have hm:JN t o j=JbJ t j:=by unfold JN;rw[iN7,if_pos hk]
 rw[hm];unfold JbJ
 constructor
 ·intro h;generalize hf:(K6 t).find? _=r at h
  cases r with
  |none=>simp only at h;omega
  |some x=>
   simp only at h;subst h;have h3:=Gd hf;simp only[Gb,beq_iff_eq,Ga]at h3;exact⟨by have:=KE.1 (Gf hf);omega,h3.1,h3.2.2⟩
 ·rintro⟨h1,h2,h3⟩;refine Jhi (KE.2 ⟨by omega,by omega⟩) (by rw[Ga,h2,h3];simp[KI]) λx hx hq=>?_
  have h4:=KE.1 hx;obtain⟨x,rfl⟩:∃x':Nat,x=x':=⟨x.toNat,by omega⟩;simp only[Gb,beq_iff_eq,Ga]at hq;rw[decl_one c.tw (x:=x) (y:=d) (by omega) h1 (hq.1.trans h2.symm) (.inl ⟨hq.2.2,h3⟩)]
theorem meanX_iff {j:Nat}(hj:j<t.nodes.length)(hk:(nd t j).k=44){d:Nat}:JN t o j=d↔d<t.nodes.length/\(nd t d).text=(nd t j).text/\(nd t d).k=43/\Kk t d=Kk t j:=by
 have hm:JN t o j=Jcm t j:=by unfold JN;rw[iN7,iN7,if_pos hk]
 rw[hm];unfold Jcm
 constructor
 ·intro h;generalize hf:(K6 t).find? _=r at h
  cases r with
  |none=>simp only at h;omega
  |some x=>
   simp only at h;subst h;have h3:=Gd hf;simp only[Gb,beq_iff_eq,Ga]at h3;exact⟨by have:=KE.1 (Gf hf);omega,h3.1,h3.2.2.1,h3.2.2.2⟩
 ·rintro⟨h1,h2,h3,h4⟩;refine Jhi (KE.2 ⟨by omega,by omega⟩) (by rw[Ga,h2,h3,h4];simp[KI]) λx hx hq=>?_
  have h5:=KE.1 hx;obtain⟨x,rfl⟩:∃x':Nat,x=x':=⟨x.toNat,by omega⟩;simp only[Gb,beq_iff_eq,Ga]at hq;obtain⟨v,v1,v2,v3,v4⟩:=QV g h1 (by omega);have Bz:x<t.nodes.length:=by omega
  obtain⟨w,w1,w2,w3,w4⟩:=QV g Bz (by omega);obtain rfl:v=w:=by have:=hq.2.2.2;omega
  have i1:=JdT g v2 (Qt g v2 v4);have i2:=JdT g v2 (Qt g v2 w4);rw[decl_one c.tw (x:=x) (y:=d) Bz h1 (hq.1.trans h2.symm) (.inr ⟨⟨by omega,hq.2.1⟩,⟨by omega,by rw[h3];decide⟩,by rw[i1,i2]⟩)]
end
section
variable {u t:Tr}{p o:List Int}{ψ:Nat->Nat}(gu:GoodT u p)(g:GoodT t o)(h:TMap u t ψ)
include gu g h
def OfMap (u t:Tr)(p o:List Int)(ψ:Nat->Nat):Prop:=∀j,j<u.nodes.length->(JN u p j = -1/\JN t o (ψ j) = -1)\/∃d:Nat,d<u.nodes.length/\JN u p j=d/\JN t o (ψ j)=(ψ d:Nat)
end
section
variable {u t:Tr}{p o:List Int}{ψ:Nat->Nat}(gu:GoodT u p)(g:GoodT t o)(h:TMap u t ψ)(FP:OfMap u t p o ψ)
include gu g h FP
end
end
section
section
variable {t:Tr}{o:List Int}(g:GoodT t o)(ht:t.Fit)
include g ht
end
end
section
section
variable {t:Tr}{o:List Int}(g:GoodT t o)
include g
theorem mean_text (c:Clear t o){j d:Nat}(hj:j<t.nodes.length)(h:JN t o j=d):(nd t d).text=(nd t j).text/\KI (nd t d).k=true/\Kr t j=true/\d<t.nodes.length:=by
 have hr:=JgW (t:=t) (o:=o) (i:=j);by_cases h3:(nd t j).k=3
 ·have h1:=(meanN_iff g c hj h3).1 h;exact⟨h1.2,(Jbk g hj (by omega) h1.1).2.1,by unfold Kr;rw[h3];rfl,by omega⟩
 by_cases Cz:(nd t j).k=26
 ·have h1:=(JeA c hj Cz).1 h;exact⟨h1.2.1,by rw[h1.2.2];decide,by unfold Kr;rw[Cz];rfl,by omega⟩
 by_cases BO:(nd t j).k=44
 ·have h1:=(meanX_iff g c hj BO).1 h;exact⟨h1.2.1,by rw[h1.2.2.1];decide,by unfold Kr;rw[BO];rfl,by omega⟩
 unfold JN at h;rw[if_neg h3,if_neg Cz,if_neg BO]at h;omega
end
end
section
section
variable {t:Tr}{o:List Int}(g:GoodT t o)(ht:t.Fit)
include g
include ht
omit ht in
theorem index_item {L:Nat}(h:t.items[Qb t L]? = some (L:Int)):Xk (λy=>(L:Int) == y) t.items 0=(Qb t L:Int):=by
 have hn:t.items.Nodup:=Yy g.ord.ok g.olen _ _ _ g.its;rcases JeQ (q:=λy=>(L:Int) == y) t.items 0 with ⟨_,h2⟩|⟨j,h1,h2,h3⟩
 ·have:=Gr.1 h2 _ (Gq h);simp at this
 ·have h4:=Gd h3;have h5:t.items[j]? = some (L:Int):=by
   rw[Gg h1];rw[Gm,Gg h1]at h4;simp only[Option.getD_some,beq_iff_eq]at h4;rw[h4]
  have h6:=(Gs h1 hn).1 (h5.trans h.symm);rw[h2,Nat.zero_add,h6]
end
end
section
section
variable {t:Tr}{o:List Int}(g:GoodT t o)(ht:t.Fit)
include g ht
end
end
section
section
variable {t:Tr}{o:List Int}(g:GoodT t o)(ht:t.Fit)
include g ht
end
end
section
theorem JeR {q r:Int->Bool}(h:∀x,q x=r x):∀(l:List Int) (i:Nat),Xk q l i=Xk r l i
 |[],_=>rfl
 |x::l,i=>by unfold Xk;rw[h x,JeR h l (i+1)]
section
variable {t:Tr}{o:List Int}(g:GoodT t o)(ht:t.Fit)
include g ht
omit ht in
theorem refNumber3 {L:Nat}(h:t.items[Qb t L]? = some (L:Int)):Fn Tryz.prog 15 [t.cv,.int .i64 (L:Int)] (.int .i64 (Qb t L:Int)):=by
 have ME:=g.items;have Af:(iz t.items).length=t.items.length:=Jg;have bO:=index_item g h;rw[JeR (r:=λy=>y == (L:Int)) λy=>by rw[Gl,beq_iff_eq,beq_iff_eq];exact⟨Eq.symm,Eq.symm⟩]at bO;rw[<-bO];refine Ja c15_ok rfl rfl λN=>?_
 simp only[c15,go_sem,Tr.cv,Tr.row];refine Jd (id:=0) (z:=2) (els:=[t.row]) rfl rfl ?_;simp only[go_sem,JY,Ky,frz,Qc,List.map_cons,List.map_nil,Tr.row];refine JE (I:=λi:Nat=>i<=t.items.length/\Xk (λy=>y == (L:Int)) t.items 0=Xk (λy=>y == (L:Int)) (t.items.drop i) i) (inv:=λi=>gp [(1,.int .i64 (L:Int)),(0,.rptr t.row),(2,.int .i64 (i:Int))] 15) (hp:=λ_=>[.dead]) (μ:=λi=>t.items.length-i) 0 ⟨by omega,rfl⟩ ?_ rfl ?_
 ·simp[forget,gp,Tr.row]
 ·rintro i ⟨hi,Aa⟩;by_cases Ab:i<t.items.length
  ·have d1:=dtT i t.items.length;have Ar:=JH Ab;have Cb:t.items[i]? = some (t.items.getD i 0):=by rw[Gm,Gg Ab];rfl
   rw[QX Cb]at Aa;generalize t.items.getD i 0=y at Aa Ar
   cases he:(y == (L:Int)) with
   |true=>
    rw[he,if_pos rfl]at Aa;simp only[go_sem,d1,Tr.row,Af,Ar,he,Aa];omega
   |false=>
    rw[he]at Aa;simp only[go_sem,d1,Tr.row,Af,Ar,he];refine⟨by omega,Jh,i+1,⟨by omega,by simpa using Aa⟩,by omega,?_⟩;simp[forget]
  ·have d1:=dfF i t.items.length;rw[List.drop_eq_nil_of_le (by omega)]at Aa;simp only[go_sem,d1,Tr.row,Af,Aa,Xk]
end
end
end Go.Cm
end
end
