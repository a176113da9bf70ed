/-
  A part of the proof. Conditions: none.
-/
import Derived.Test.YtdnnimemociklaaGreatDoorVP43
set_option linter.unusedSimpArgs false
set_option linter.unusedVariables false
open Bool renaming and_eq_true->Gb,or_eq_false_iff->Gh,not_eq_true'->Gi
open List renaming mem_of_find?_eq_some->Gd,mem_filter->Gc,find?_some->Gf,mem_range->Gg,contains_iff_mem->Gj,any_eq_false->Gl
open Int renaming toNat_natCast->Ga
noncomputable section
section
set_option maxRecDepth 100000
set_option maxHeartbeats 4000000
open Go.Proofs
namespace Go.Cm
variable {t u:Tr}{o p:Lu}{d i k x y:Nat}{ψ:Nat->Nat}
def JfE (t:Tr):Bool:=(decide (160<t.nodes.length) && decide (t.nodes.length<=700)) || decide (1400<t.nodes.length) || decide (40<t.items.length)
def Jdp (t:Tr):Bool:=JfE t || t.nodes.any JcU
theorem Tr.Ty.fit3(h:t.Ty)(hv:Jdp t=false):t.Fit:=by unfold Jdp JfE at hv;simp only[Gh,Bool.and_eq_false_iff,decide_eq_false_iff_not,Gl]at hv;obtain⟨⟨⟨_,h2⟩,h3⟩,h4⟩:=hv;refine⟨om,om,λx hx=>?_,h.items⟩;have hn:=h4 x hx;unfold JcU at hn;simp only[Bool.not_eq_true,Gh,decide_eq_false_iff_not]at hn;have ty:=h.nodes x hx;exact⟨ty.k,om,ty.n,om,ty.kids,ty.pl⟩
section
variable(g:GoodT t o)(ht:t.Fit)
include g ht
end
section
variable(g:GoodT t o)
include g
theorem JdZ {j u:Nat}(hu:u<t.nodes.length)(h:blw o j u):QR t j=QR t u:=by
 unfold QR
 congr 1
 refine List.filter_congr λL hL=>?_
 rw[items_all g]at hL;have h1:=KO.1 (Gc.1 hL).1;have h2:(nd t L.toNat).k=65:=by simpa using (Gc.1 hL).2
 obtain⟨L,rfl⟩:∃L':Nat,L=L':=⟨L.toNat,om⟩;rw[Ga]at h2;have hj:=h.1;rw[Bool.eq_iff_iff,decide_eq_true_eq,decide_eq_true_eq]
 constructor
 ·intro h3;omega
 ·intro h3;rcases Nat.lt_or_ge L j with h4|h4
  ·omega
  ·have hb:blw o L u:=⟨om,by have:=h.2;omega⟩;obtain⟨m,hm,_⟩:=XX g hu hb om;have:=(def_root g (d:=L) om h2).1;omega
theorem sight_top{j:Nat}(hj:j<t.nodes.length)(h:(d:Int)∈QW t j):∃u:Nat,u<t.nodes.length/\blw o j u/\blw o d u:=by
 have h1:=(Gc.1 h).2;rw[Gj,Jfh g _ _ _ hj om]at h1;obtain⟨u,a,hu,ha,hb,hd⟩:=h1;refine⟨u,hu,Qx g hu hb (Qz g hu ha),?_⟩;rw[QM g hu]at hd;rcases hd with ⟨_,s,hs,_,hk,_⟩|⟨_,hk,_⟩|⟨_,_,rfl⟩|⟨_,_,⟨hk,_⟩|⟨_,s,hs,_,hk,_⟩⟩
 ·have CG:=(JX g hu hs).2;exact Qx g hu (Qz g om hk) (Qz g hu hs)
 ·exact Qz g hu hk
 ·exact JcL g hu
 ·exact Qz g hu hk
 ·have CG:=(JX g hu hs).2;exact Qx g hu (Qz g om hk) (Qz g hu hs)
theorem JfK{j:Nat}(hj:j<t.nodes.length)(h:(d:Int)∈QW t j):QR t d=QR t j:=by obtain⟨u,hu,h1,h2⟩:=sight_top g hj h;rw[JdZ g hu h1,JdZ g hu h2]
theorem Jbs{j:Nat}(hj:j<t.nodes.length)(Cf:1<=(nd t j).k/\(nd t j).k<=29)(h:(d:Int)∈QW t j):d<t.nodes.length/\KU (nd t d).k=true/\(nd t d).k≠65/\inB t o d j=true:=by obtain⟨h1,h2⟩:=Gc.1 h;have hd:=KO.1 h1;rw[sight_mem g (d:=d) om hj Cf]at h2;simp only[Gb,Gi,beq_eq_false_iff_ne]at h2;exact⟨om,h2.1,h2.2.1,h2.2.2⟩
theorem sight_two{e j:Nat}(hj:j<t.nodes.length)(Cf:1<=(nd t j).k/\(nd t j).k<=29)(ED:∀i,i<t.nodes.length->twN t i=false)(hd:(d:Int)∈QW t j)(he:(e:Int)∈QW t j)(hx:(nd t d).text=(nd t e).text):¬d<e:=by
 intro Ab;obtain⟨d1,d2,d3,_⟩:=Jbs g hj Cf hd;obtain⟨e1,e2,e3,_⟩:=Jbs g hj Cf he;have M3:QR t d=QR t e:=(JfK g hj hd).trans (JfK g hj he).symm;have h:=ED e e1;have e44:(nd t e).k≠44:=by intro h4;rw[h4]at e2;exact absurd e2 vk
 unfold twN at h;rw[if_neg (by rw[e2];simp),Gl]at h;have:=h d (Gg.2 Ab);rw[if_neg e44,if_neg e3,hx,M3,d2]at this;simp at this;exact d3 this
end
theorem scan_none{a b:Int}:∀{l:Lx},JaO t o a b l=none->∀i∈l,twN t i=false/\(KH t i=true->J2 t o i≠-1)
 |[],_,i,hi=>by simp at hi
 |x::l,h,i,hi=>by
  unfold JaO at h
  split at h
  ·cases h
  ·rename_i h1
   split at h
   ·cases h
   ·rename_i h2;rcases List.mem_cons.1 hi with rfl|hi
    ·refine⟨by simpa using h1,λhs hm=>h2 (by rw[hs,hm];rfl)⟩
    ·exact scan_none h i hi
theorem scan_err{r:Nat×Int}:∀{l:Lx},JaO t o 6 10 l=some r->r.2=6\/r.2=10
 |[],h=>by cases h
 |x::l,h=>by
  unfold JaO at h
  split at h
  ·cases h;exact .inl rfl
  ·split at h
   ·cases h;exact .inr rfl
   ·exact scan_err h
theorem Jg6(hE:(YP t o).2=0)(hi:i<t.nodes.length):twN t i=false/\(KH t i=true->J2 t o i≠-1):=by
 unfold YP at hE
 cases hs:JaO t o 6 10 (List.range t.nodes.length) with
 |some r=>rw[hs]at hE;have:=scan_err hs;simp only at hE;omega
 |none=>exact scan_none hs i (Gg.2 hi)
section
variable(g:GoodT t o)
include g
theorem Jba (hE:(YP t o).2=0){j:Nat}(hj:j<t.nodes.length)(hk:(nd t j).k=3):J2 t o j∈QW t j/\0<=J2 t o j/\J2 t o j<t.nodes.length/\(nd t (J2 t o j).toNat).text=(nd t j).text/\KU (nd t (J2 t o j).toNat).k=true:=by
 have h1:=(Jg6 hE hj).2 (by unfold KH;rw[hk];rfl);have hm:J2 t o j=JaL t (QW t j) (nd t j).text:=by unfold J2;rw[if_pos hk,Jb1 g hj om]
 rw[hm]at h1|-;unfold JaL at h1|-
 cases hf:(QW t j).find? λd=>(nd t d.toNat).text == (nd t j).text with
 |none=>rw[hf]at h1;exact absurd rfl h1
 |some d=>simp only;have h2:=Gd hf;have h3:=Gf hf;have h4:=KO.1 (Gc.1 h2).1;obtain⟨d,rfl⟩:∃d':Nat,d=d':=⟨d.toNat,om⟩;exact⟨h2,h4.1,h4.2,by simpa using h3,by rw[Ga];exact(Jbs g hj om h2).2.1⟩
end
section
variable(g:GoodT t o)
include g
end
structure TMap (u t:Tr)(ψ:Nat->Nat):Prop where
 rng:∀j,j<u.nodes.length->ψ j<t.nodes.length
 inj:∀i j,i<u.nodes.length->j<u.nodes.length->ψ i=ψ j->i=j
 k:∀j,j<u.nodes.length->(nd t (ψ j)).k=(nd u j).k
 txe:∀i j,i<u.nodes.length->j<u.nodes.length->(nd u i).text=(nd u j).text->(nd t (ψ i)).text=(nd t (ψ j)).text
 len:∀j,j<u.nodes.length->(nd t (ψ j)).kids.length=(nd u j).kids.length
 kid:∀j,j<u.nodes.length->∀c:Nat,(c:Int)∈(nd u j).kids->(ψ c:Int)∈(nd t (ψ j)).kids
 back:∀j,j<u.nodes.length->∀c:Nat,(c:Int)∈(nd t (ψ j)).kids->∃d:Nat,(d:Int)∈(nd u j).kids/\ψ d=c
 pos:∀j,j<u.nodes.length->(nd u j).k≠40->(nd u j).k≠28->∀i,i<(nd u j).kids.length->ψ (Ju u j i)=Ju t (ψ j) i
section
variable(gu:GoodT u p)(g:GoodT t o)(h:TMap u t ψ)
include gu g h
omit gu h in
theorem mem_sight{j:Nat}(hj:j<t.nodes.length):(d:Int)∈QW t j↔d<t.nodes.length/\inS t o (d:Int) j:=by
 unfold QW;rw[Gc,KO,Gj,Jfh g _ _ _ hj om]
 constructor
 ·rintro⟨h1,h2⟩;exact⟨om,h2⟩
 ·rintro⟨h1,h2⟩;exact⟨⟨om,om⟩,h2⟩
end
def twP (t:Tr)(i k:Nat):Prop:=(nd t k).text=(nd t i).text/\(((nd t i).k=44/\(nd t k).k=44/\Kv t k=Kv t i)\/((nd t i).k=65/\(nd t k).k=65)\/(((nd t i).k≠65/\KU (nd t i).k=true)/\((nd t k).k≠65/\KU (nd t k).k=true)/\QR t k=QR t i))
theorem twP_symm(h:twP t i k):twP t k i:=by
 obtain⟨h1,h2⟩:=h;refine⟨h1.symm,?_⟩;rcases h2 with ⟨a,b,c⟩|⟨a,b⟩|⟨a,b,c⟩
 ·exact .inl ⟨b,a,c.symm⟩
 ·exact .inr (.inl ⟨b,a⟩)
 ·exact .inr (.inr ⟨b,a,c.symm⟩)
theorem twN_iff:twN t i=true↔∃k,k<i/\twP t i k:=by
 have e44:KU 44=false:=vk
 have e65:KU 65=true:=vk
 unfold twN twP;by_cases hc:(nd t i).k≠44/\KU (nd t i).k=false
 ·rw[if_pos hc];refine⟨λh=>(by cases h),?_⟩;rintro⟨k,_,_,h⟩;rcases h with ⟨a,_⟩|⟨a,_⟩|⟨⟨_,a⟩,_⟩
  ·exact absurd a hc.1
  ·rw[a,e65]at hc;exact absurd hc.2 sM
  ·rw[a]at hc;exact absurd hc.2 sM
 rw[if_neg hc,List.any_eq_true];simp only[Gg,Gb,beq_iff_eq]
 constructor
 ·rintro⟨k,h1,h2,h3⟩;refine⟨k,h1,h2,?_⟩;by_cases h4:(nd t i).k=44
  ·rw[if_pos h4]at h3;simp only[Gb,beq_iff_eq]at h3;exact .inl ⟨h4,h3⟩
  rw[if_neg h4]at h3;by_cases h5:(nd t i).k=65
  ·rw[if_pos h5]at h3;exact .inr (.inl ⟨h5,by simpa using h3⟩)
  rw[if_neg h5]at h3;simp only[Gb,beq_iff_eq,Gi,beq_eq_false_iff_ne]at h3;have hd:KU (nd t i).k=true:=by
   cases hd:KU (nd t i).k with
   |true=>rfl
   |false=>exact absurd ⟨h4,hd⟩ hc
  exact .inr (.inr ⟨⟨h5,hd⟩,⟨h3.1,h3.2.1⟩,h3.2.2⟩)
 ·rintro⟨k,h1,h2,h3⟩;refine⟨k,h1,h2,?_⟩;rcases h3 with ⟨a,b,c⟩|⟨a,b⟩|⟨⟨a,a2⟩,⟨b,b2⟩,c⟩
  ·rw[if_pos a,b,c];simp
  ·rw[iN7,if_pos a,b];rfl
  ·have h4:(nd t i).k≠44:=by intro h4;rw[h4,e44]at a2;exact absurd a2 sM
   rw[if_neg h4,if_neg a,b2,c,beq_false_of_ne b];simp
theorem no_tw(h:∀i,i<t.nodes.length->twN t i=false)(hi:i<t.nodes.length)(hk:k<t.nodes.length)(hp:twP t i k):i=k:=by
 rcases Nat.lt_trichotomy i k with h1|h1|h1
 ·have:=twN_iff.2 ⟨i,h1,twP_symm hp⟩;rw[h k hk]at this;cases this
 ·exact h1
 ·have:=twN_iff.2 ⟨k,h1,hp⟩;rw[h i hi]at this;cases this
section
variable(gu:GoodT u p)(g:GoodT t o)(h:TMap u t ψ)
include gu g h
end
theorem decl_one(hn:∀i,i<t.nodes.length->twN t i=false)(hx:x<t.nodes.length)(hy:y<t.nodes.length)(ht:(nd t x).text=(nd t y).text)(hk:((nd t x).k=65/\(nd t y).k=65)\/(((nd t x).k≠65/\KU (nd t x).k=true)/\((nd t y).k≠65/\KU (nd t y).k=true)/\QR t y=QR t x)):x=y:=no_tw hn hx hy ⟨ht.symm,.inr hk⟩
theorem JhB {l:Lu}{q:Int->Bool}{d:Int}(hd:d∈l)(hq:q d=true)(ho:∀x∈l,q x=true->x=d):(match l.find? q with|some x=>x|none=>-1)=d:=by
 cases hf:l.find? q with
 |none=>exact absurd hq (by simpa using List.find?_eq_none.1 hf d hd)
 |some x=>exact ho x (Gd hf) (Gf hf)
structure Clear (t:Tr)(o:Lu):Prop where
 tw:∀i,i<t.nodes.length->twN t i=false
 mean:∀i,i<t.nodes.length->KH t i=true->J2 t o i≠-1
theorem Jd6(hE:(YP t o).2=0):Clear t o:=⟨λ_ hi=>(Jg6 hE hi).1,λ_ hi=>(Jg6 hE hi).2⟩
section
variable(g:GoodT t o)(c:Clear t o)
include g c
theorem sight_one{j:Nat}(hj:j<t.nodes.length)(Cf:1<=(nd t j).k/\(nd t j).k<=29)(hx:(x:Int)∈QW t j)(hy:(y:Int)∈QW t j)(ht:(nd t x).text=(nd t y).text):x=y:=by have h1:=sight_two g hj Cf c.tw hx hy ht;have h2:=sight_two g hj Cf c.tw hy hx ht.symm;omega
theorem meanN_iff {j:Nat}(hj:j<t.nodes.length)(hk:(nd t j).k=3):J2 t o j=d↔(d:Int)∈QW t j/\(nd t d).text=(nd t j).text:=by
 have hm:J2 t o j=JaL t (QW t j) (nd t j).text:=by unfold J2;rw[if_pos hk,Jb1 g hj om]
 rw[hm];unfold JaL
 constructor
 ·intro h;generalize hf:(QW t j).find? _=r at h
  cases r with
  |none=>simp only at h;omega
  |some x=>simp only at h;subst h;have h3:=Gf hf;rw[Ga]at h3;exact⟨Gd hf,by simpa using h3⟩
 ·rintro⟨h1,h2⟩;refine JhB h1 (by rw[Ga];simpa using h2) λx hx hq=>?_
  have h3:=KO.1 (Gc.1 hx).1;obtain⟨x,rfl⟩:∃x':Nat,x=x':=⟨x.toNat,om⟩;rw[Ga]at hq;rw[sight_one g c hj om hx h1 ((by simpa using hq:(nd t x).text=_).trans h2.symm)]
omit g in
theorem meanC_iff {j:Nat}(hj:j<t.nodes.length)(hk:(nd t j).k=26):J2 t o j=d↔d<t.nodes.length/\(nd t d).text=(nd t j).text/\(nd t d).k=65:=by
 have hm:J2 t o j=Jdy t j:=by unfold J2;rw[iN7,if_pos hk]
 rw[hm];unfold Jdy
 constructor
 ·intro h;generalize hf:(Ql t).find? _=r at h
  cases r with
  |none=>simp only at h;omega
  |some x=>simp only at h;subst h;have h3:=Gf hf;simp only[Gb,beq_iff_eq,Ga]at h3;exact⟨by have:=KO.1 (Gd hf);omega,h3.1,h3.2.2⟩
 ·rintro⟨h1,h2,h3⟩;refine JhB (KO.2 ⟨om,om⟩) (by rw[Ga,h2,h3];simp[KU]) λx hx hq=>?_
  have h4:=KO.1 hx;obtain⟨x,rfl⟩:∃x':Nat,x=x':=⟨x.toNat,om⟩;simp only[Gb,beq_iff_eq,Ga]at hq;rw[decl_one c.tw (x:=x) (y:=d) om h1 (hq.1.trans h2.symm) (.inl ⟨hq.2.2,h3⟩)]
theorem meanX_iff {j:Nat}(hj:j<t.nodes.length)(hk:(nd t j).k=44):J2 t o j=d↔d<t.nodes.length/\(nd t d).text=(nd t j).text/\(nd t d).k=43/\Kv t d=Kv t j:=by
 have hm:J2 t o j=Jct t j:=by unfold J2;rw[iN7,iN7,if_pos hk]
 rw[hm];unfold Jct
 constructor
 ·intro h;generalize hf:(Ql t).find? _=r at h
  cases r with
  |none=>simp only at h;omega
  |some x=>simp only at h;subst h;have h3:=Gf hf;simp only[Gb,beq_iff_eq,Ga]at h3;exact⟨by have:=KO.1 (Gd hf);omega,h3.1,h3.2.2.1,h3.2.2.2⟩
 ·rintro⟨h1,h2,h3,h4⟩;refine JhB (KO.2 ⟨om,om⟩) (by rw[Ga,h2,h3,h4];simp[KU]) λx hx hq=>?_
  have h5:=KO.1 hx;obtain⟨x,rfl⟩:∃x':Nat,x=x':=⟨x.toNat,om⟩;simp only[Gb,beq_iff_eq,Ga]at hq;obtain⟨v,v1,v2,v3,v4⟩:=QO g h1 om;have Bn:x<t.nodes.length:=om
  obtain⟨w,w1,w2,w3,w4⟩:=QO g Bn om;obtain rfl:v=w:=by have:=hq.2.2.2;omega
  have i1:=JdZ g v2 (Qz g v2 v4);have i2:=JdZ g v2 (Qz g v2 w4);rw[decl_one c.tw (x:=x) (y:=d) Bn h1 (hq.1.trans h2.symm) (.inr ⟨⟨om,hq.2.1⟩,⟨om,by rw[h3];decide⟩,by rw[i1,i2]⟩)]
end
section
variable(gu:GoodT u p)(g:GoodT t o)(h:TMap u t ψ)
include gu g h
def OfMap (u t:Tr)(p o:Lu)(ψ:Nat->Nat):Prop:=∀j,j<u.nodes.length->(J2 u p j = -1/\J2 t o (ψ j) = -1)\/∃d:Nat,d<u.nodes.length/\J2 u p j=d/\J2 t o (ψ j)=(ψ d:Nat)
end
section
variable(gu:GoodT u p)(g:GoodT t o)(h:TMap u t ψ)(CK:OfMap u t p o ψ)
include gu g h CK
end
section
variable(g:GoodT t o)(ht:t.Fit)
include g ht
end
section
variable(g:GoodT t o)
include g
theorem mean_text (c:Clear t o){j:Nat}(hj:j<t.nodes.length)(h:J2 t o j=d):(nd t d).text=(nd t j).text/\KU (nd t d).k=true/\KH t j=true/\d<t.nodes.length:=by
 have hr:=Jhi (t:=t) (o:=o) (i:=j);by_cases h3:(nd t j).k=3
 ·have h1:=(meanN_iff g c hj h3).1 h;exact⟨h1.2,(Jbs g hj om h1.1).2.1,by unfold KH;rw[h3];rfl,om⟩
 by_cases Db:(nd t j).k=26
 ·have h1:=(meanC_iff c hj Db).1 h;exact⟨h1.2.1,by rw[h1.2.2];decide,by unfold KH;rw[Db];rfl,om⟩
 by_cases BB:(nd t j).k=44
 ·have h1:=(meanX_iff g c hj BB).1 h;exact⟨h1.2.1,by rw[h1.2.2.1];decide,by unfold KH;rw[BB];rfl,om⟩
 unfold J2 at h;rw[if_neg h3,if_neg Db,if_neg BB]at h;omega
end
end Go.Cm
end
end
