/-
  A part of the proof. Conditions: none.
-/
import Derived.Test.YtdnnimemociklaaGreatDoorWP12
import Derived.Lib.SlicesCompact
set_option linter.unusedSimpArgs false
set_option linter.unusedVariables false
open List renaming getD_eq_getElem?_getD->Gc,getElem?_eq_getElem->Gf,replicate->Gg,range->Ga,mem_cons->Gh,mem_range->Gi,mem_append->Gj,drop_eq_getElem_cons->Gr,length_cons->Gm,mem_singleton->Gn,mem_replicate->Gs,mem_filter->Gp,drop_of_length_le->GD,getElem?_eq_none->GG,length_take->Gu,cons_append->Gv,any_eq_true->Gw,find?_cons->Gx,pairwise_cons->GH,length_append->GI,getElem_range->GJ,getElem?_eq_some_iff->GZ,length_range->GK,getElem_mem->GL,ext_getElem->GM,filter_eq_nil_iff->G5,nil_append->GN,mem_map->Gy,getElem_of_mem->G6,map_cons->GQ,reverse_cons->G7,nodup_append->G8,getElem?_map->G9,find?_filter->Ha,append_assoc->Hd,getElem_map->He,map_append->Hf,length_set->Hg,tail_cons->Hl,pairwise_lt_range->Ht,take_append_drop->Hu,contains_eq_mem->Hw,filter_eq_self->Hy,drop_replicate->Hz,getElem?_take->HV,filter_append->HY,pairwise_map->HZ,getElem?_set->H5,filter_congr->H6,mem_flatten->H7,nodup_cons->H8,length_nil->H9,length_map->La,append_nil->Lb,drop_zero->Lc,map_take->Ld,any_cons->Le,map_nil->Lf
open Option renaming map_some->Gz,getD_some->GR
open Option.some renaming injEq->GA,inj->Hm
open Bool renaming and_eq_true->Gd,eq_iff_iff->Gl,not_eq_true'->GU,or_eq_true->Ho,eq_false_iff->Lg,false_and->Lh
open Int renaming toNat_natCast->Gb,toNat_of_nonneg->GV
open Nat renaming mul_le_mul_right->GX,le_refl->Gq,le_of_lt->GY,add_zero->Hq,add_mul->Hr,lt_succ_self->Li,zero_mul->Lj,lt_or_ge->Ll
open Go.Proofs.Tryz renaming prog->Gt
noncomputable section
namespace Go.Cm
variable {a d i k m n u:Nat}{t:Tr}{l o todo:Lu}{v x:Int}{N:Int->Lu}{q:Int->Prop}
theorem Jam {k : Nat}(c : UInt8)(m : Nat)(h : Jdo k = c)(hm : (c, m) ∈ ([(66, 40), (83, 41), (98, 42), (73, 43), (78, 44), (71, 45), (79, 48), (80, 64)] : List (UInt8 × Nat))) : k = m := by
  unfold Jdo letter at h
  simp only [Gh, List.not_mem_nil, or_false, Prod.mk.injEq] at hm
  by_cases a1 : 1 <= k /\ k <= 29
  · rw [if_pos a1] at h; rcases hm with ⟨rfl, rfl⟩ | ⟨rfl, rfl⟩ | ⟨rfl, rfl⟩ | ⟨rfl, rfl⟩ | ⟨rfl, rfl⟩ | ⟨rfl, rfl⟩ | ⟨rfl, rfl⟩ | ⟨rfl, rfl⟩ <;> exact absurd h vk
  rw [if_neg a1] at h
  by_cases a2 : 60 <= k /\ k <= 63
  · rw [if_pos a2] at h; rcases hm with ⟨rfl, rfl⟩ | ⟨rfl, rfl⟩ | ⟨rfl, rfl⟩ | ⟨rfl, rfl⟩ | ⟨rfl, rfl⟩ | ⟨rfl, rfl⟩ | ⟨rfl, rfl⟩ | ⟨rfl, rfl⟩ <;> exact absurd h vk
  rw [if_neg a2] at h
  by_cases a3 : k = 46 \/ k = 47
  · rw [if_pos a3] at h; rcases hm with ⟨rfl, rfl⟩ | ⟨rfl, rfl⟩ | ⟨rfl, rfl⟩ | ⟨rfl, rfl⟩ | ⟨rfl, rfl⟩ | ⟨rfl, rfl⟩ | ⟨rfl, rfl⟩ | ⟨rfl, rfl⟩ <;> exact absurd h vk
  rw [if_neg a3] at h
  rcases (show k = 40 \/ k = 41 \/ k = 42 \/ k = 43 \/ k = 44 \/ k = 45 \/ k = 48 \/ k = 64 \/ k = 65 \/ (k ≠ 40 /\ k ≠ 41 /\ k ≠ 42 /\ k ≠ 43 /\ k ≠ 44 /\ k ≠ 45 /\ k ≠ 48 /\ k ≠ 64 /\ k ≠ 65) by omega) with rfl | rfl | rfl | rfl | rfl | rfl | rfl | rfl | rfl | ⟨b1, b2, b3, b4, b5, b6, b7, b8, b9⟩
  all_goals first
    | (rcases hm with ⟨rfl, rfl⟩ | ⟨rfl, rfl⟩ | ⟨rfl, rfl⟩ | ⟨rfl, rfl⟩ | ⟨rfl, rfl⟩ | ⟨rfl, rfl⟩ | ⟨rfl, rfl⟩ | ⟨rfl, rfl⟩ <;> first | rfl | exact absurd h vk)
    | (rw [if_neg b1, if_neg b2, if_neg b3, if_neg b4, if_neg b5, if_neg b6, if_neg b7, if_neg b8, if_neg b9] at h
       rcases hm with ⟨rfl, rfl⟩ | ⟨rfl, rfl⟩ | ⟨rfl, rfl⟩ | ⟨rfl, rfl⟩ | ⟨rfl, rfl⟩ | ⟨rfl, rfl⟩ | ⟨rfl, rfl⟩ | ⟨rfl, rfl⟩ <;> exact absurd h vk)
theorem Jc6(h:Jdo k=116):60<=k/\k<=63:=by
 unfold Jdo letter at h;by_cases a1:1<=k/\k<=29
 ·rw[if_pos a1]at h;exact absurd h vk
 rw[if_neg a1]at h;by_cases a2:60<=k/\k<=63
 ·exact a2
 exfalso;rw[if_neg a2]at h
 repeat' (split at h)
 all_goals exact absurd h vk
theorem Jbz(h:Jdo k=101):1<=k/\k<=29:=by
 by_cases a1:1<=k/\k<=29
 ·exact a1
 exfalso;unfold Jdo letter at h;rw[if_neg a1]at h
 repeat' (split at h)
 all_goals exact absurd h vk
section
variable(g:GoodT t o)
include g
omit g in
theorem QQ(hu:u<t.nodes.length){a b:Int}{c:UInt8}(h:Ka (lets t.nodes (t.nodes.getD u default)) a b c=true)(h1:a<=i)(h2:(i:Int)<b):i<(t.nodes.getD u default).kids.length/\Jdo (Jo t.nodes ((t.nodes.getD u default).kids.getD i 0))=c:=by
 obtain⟨p1,p2,p3,p4⟩:=J5.1 h;rw[KP]at p3;have hi:i<(t.nodes.getD u default).kids.length:=om
 refine⟨hi,?_⟩;have hg:((lets t.nodes (t.nodes.getD u default)).take b.toNat).drop a.toNat=Gg (b.toNat-a.toNat) c:=p4;have hx:(((lets t.nodes (t.nodes.getD u default)).take b.toNat).drop a.toNat)[i-a.toNat]? = some c:=by rw[hg,List.getElem?_replicate,iP7]
 rw[List.getElem?_drop,HV,iP7,show a.toNat+(i-a.toNat)=i by omega]at hx;unfold lets at hx;rw[G9,Gf hi]at hx;simp only[Gz,GA]at hx;rw[Gc,Gf hi];exact hx
theorem JdL(hu:u<t.nodes.length):Qs (t.nodes.getD u default).k (t.nodes.getD u default).n (lets t.nodes (t.nodes.getD u default))=true:=by have h:=g.nds (t.nodes.getD u default) (by rw[rowN hu];exact GL hu);unfold ndI at h;rw[node_eq]at h;simp only[Ku,Gd]at h;exact h.1.1
theorem Yl(hu:u<t.nodes.length)(hk:(t.nodes.getD u default).k=28):∃a b:Nat,(t.nodes.getD u default).n=(a:Int)/\a+1<=b/\b<(t.nodes.getD u default).kids.length/\
  (∀i,i<a->Jo t.nodes ((t.nodes.getD u default).kids.getD i 0)=43)/\(1<=Jo t.nodes ((t.nodes.getD u default).kids.getD a 0)/\Jo t.nodes ((t.nodes.getD u default).kids.getD a 0)<=29)/\
  (∀i,a+1<=i->i<b->Jo t.nodes ((t.nodes.getD u default).kids.getD i 0)=41)/\(∀i,b<=i->i+1<(t.nodes.getD u default).kids.length->Jo t.nodes ((t.nodes.getD u default).kids.getD i 0)=44)/\
  Jo t.nodes ((t.nodes.getD u default).kids.getD ((t.nodes.getD u default).kids.length-1) 0)=45:=by
 have h:=JdL g hu;rw[hk]at h;unfold Qs at h;rw[iN7,iN7,iN7,iN7,iN7,iN7,iN7,iN7,iN7,iN7,iN7,iN7,if_pos rfl]at h;simp only[Gd,decide_eq_true_eq,KP]at h;obtain⟨⟨⟨⟨⟨⟨q0,q1⟩,q2⟩,q3⟩,q4⟩,q5⟩,q6⟩:=h;generalize hb:QD 83 (lets t.nodes (t.nodes.getD u default))=c at q4 q5;obtain⟨a,ha⟩:∃a:Nat,(t.nodes.getD u default).n=(a:Int):=⟨_,(GV q0).symm⟩;rw[ha]at q1 q2 q3 q4 q5;have r5:=J5.1 q5;have r6:=J5.1 q6;rw[KP]at r5 r6;refine⟨a,a+1+c,ha,om,om,λi hi=>?_,?_,λi h1 h2=>?_,λi h1 h2=>?_,?_⟩
 ·exact Jam 73 43 (QQ hu q2 om om).2 sM
 ·exact Jbz (QQ hu q3 (i:=a) om om).2
 ·exact Jam 83 41 (QQ hu q4 om om).2 sM
 ·exact Jam 78 44 (QQ hu q5 om om).2 sM
 ·exact Jam 71 45 (QQ hu q6 (i:=(t.nodes.getD u default).kids.length-1) om om).2 sM
theorem Jhj(hu:u<t.nodes.length)(hk:(t.nodes.getD u default).k=40):∃a:Nat,(t.nodes.getD u default).n=(a:Int)/\a<=(t.nodes.getD u default).kids.length/\
  (∀i,i<a->Jo t.nodes ((t.nodes.getD u default).kids.getD i 0)=41)/\(∀i,a<=i->i<(t.nodes.getD u default).kids.length->1<=Jo t.nodes ((t.nodes.getD u default).kids.getD i 0)/\Jo t.nodes ((t.nodes.getD u default).kids.getD i 0)<=29):=by
 have h:=JdL g hu;rw[hk]at h;unfold Qs at h;rw[iN7,iN7,iN7,iN7,iN7,iN7,if_pos rfl]at h;simp only[Gd,KP]at h;have r:=J5.1 h.1;rw[KP]at r;obtain⟨a,ha⟩:∃a:Nat,(t.nodes.getD u default).n=(a:Int):=⟨_,(GV r.2.1).symm⟩;rw[ha]at h r;refine⟨a,ha,om,λi hi=>?_,λi h1 h2=>?_⟩
 ·exact Jam 83 41 (QQ hu h.1 om om).2 sM
 ·exact Jbz (QQ hu h.2 om om).2
theorem Y8(hu:u<t.nodes.length)(hk:(t.nodes.getD u default).k=41):∃a:Nat,(t.nodes.getD u default).n=(a:Int)/\(t.nodes.getD u default).kids.length=a+1/\
  (∀i,i<a->Jo t.nodes ((t.nodes.getD u default).kids.getD i 0)=42)/\(1<=Jo t.nodes ((t.nodes.getD u default).kids.getD a 0)/\Jo t.nodes ((t.nodes.getD u default).kids.getD a 0)<=29):=by
 have h:=JdL g hu;rw[hk]at h;unfold Qs at h;rw[iN7,iN7,iN7,iN7,iN7,iN7,iN7,if_pos rfl]at h;simp only[Gd,beq_iff_eq,KP]at h;have r:=J5.1 h.1.2;obtain⟨a,ha⟩:∃a:Nat,(t.nodes.getD u default).n=(a:Int):=⟨_,(GV r.2.1).symm⟩;rw[ha]at h;refine⟨a,ha,om,λi hi=>?_,?_⟩
 ·exact Jam 98 42 (QQ hu h.1.2 om om).2 sM
 ·exact Jbz (QQ hu h.2 (i:=a) om om).2
theorem JeH(hu:u<t.nodes.length)(hk:(t.nodes.getD u default).k=65):∃a:Nat,(t.nodes.getD u default).n=(a:Int)/\a<(t.nodes.getD u default).kids.length/\
  (∀i,i<a->Jo t.nodes ((t.nodes.getD u default).kids.getD i 0)=64)/\(∀i,a<=i->i+1<(t.nodes.getD u default).kids.length->60<=Jo t.nodes ((t.nodes.getD u default).kids.getD i 0)/\Jo t.nodes ((t.nodes.getD u default).kids.getD i 0)<=63)/\Jo t.nodes ((t.nodes.getD u default).kids.getD ((t.nodes.getD u default).kids.length-1) 0)=40:=by
 have h:=JdL g hu;rw[hk]at h;unfold Qs at h;rw[iN7,iN7,iN7,iN7,iN7,iN7,iN7,iN7,iN7,iN7,iN7,if_pos rfl]at h;simp only[Gd,KP]at h;have r:=J5.1 h.1.1;have r2:=J5.1 h.2;rw[KP]at r r2;obtain⟨a,ha⟩:∃a:Nat,(t.nodes.getD u default).n=(a:Int):=⟨_,(GV r.2.1).symm⟩;have r3:=J5.1 h.1.2;rw[ha]at h r r3;refine⟨a,ha,om,λi hi=>?_,λi h1 h2=>?_,?_⟩
 ·exact Jam 80 64 (QQ hu h.1.1 om om).2 sM
 ·exact Jc6 (QQ hu h.1.2 om om).2
 ·exact Jam 66 40 (QQ hu h.2 (i:=(t.nodes.getD u default).kids.length-1) om om).2 sM
theorem Jbm(hu:u<t.nodes.length)(hk:(t.nodes.getD u default).k=47):(t.nodes.getD u default).kids.length=3/\(∀i,i<2->Jo t.nodes ((t.nodes.getD u default).kids.getD i 0)=48)/\
  (1<=Jo t.nodes ((t.nodes.getD u default).kids.getD 2 0)/\Jo t.nodes ((t.nodes.getD u default).kids.getD 2 0)<=29):=by
 have h:=JdL g hu;rw[hk]at h;unfold Qs at h;rw[iN7,iN7,iN7,iN7,iN7,iN7,iN7,iN7,iN7,iN7,if_pos rfl]at h;simp only[Gd,beq_iff_eq,KP]at h;refine⟨om,λi hi=>?_,?_⟩
 ·exact Jam 79 48 (QQ hu h.1.2 om om).2 sM
 ·exact Jbz (QQ hu h.2 (i:=2) om om).2
omit g in
theorem Yg{hv:Lv}{c:UInt8}(h:c∈Qo k hv):(c=80->k=65)/\(c=73->k=28)/\(c=98->k=41)/\(c=83->k=40\/k=28)/\(c=99->k=29)/\(c=78->k=28)/\(c=116->k=25\/k=62\/k=63\/k=64\/k=42\/k=65)/\(c=79->k=46\/k=47)/\c≠68:=by
 unfold Qo at h
 dsimp only at h
 by_cases e0:4<=k/\k<=18
 ·rw[if_pos e0]at h;refine⟨?_,?_,?_,?_,?_,?_,?_,?_,?_⟩ <;> rintro rfl <;> first|omega|simp[]at h
 rw[if_neg e0]at h;by_cases e1:(19<=k/\k<=24)\/k=43\/k=44
 ·rw[if_pos e1]at h;refine⟨?_,?_,?_,?_,?_,?_,?_,?_,?_⟩ <;> rintro rfl <;> first|omega|simp[]at h
 rw[if_neg e1]at h;by_cases e2:k=25\/k=62\/k=63\/k=64
 ·rw[if_pos e2]at h;refine⟨?_,?_,?_,?_,?_,?_,?_,?_,?_⟩ <;> rintro rfl <;> first|omega|simp[]at h
 rw[if_neg e2]at h;by_cases e3:k=26\/k=45
 ·rw[if_pos e3]at h;refine⟨?_,?_,?_,?_,?_,?_,?_,?_,?_⟩ <;> rintro rfl <;> first|omega|simp[Gs]at h
 rw[if_neg e3]at h;by_cases e4:k=27
 ·rw[if_pos e4]at h;refine⟨?_,?_,?_,?_,?_,?_,?_,?_,?_⟩ <;> rintro rfl <;> first|omega|simp[]at h
 rw[if_neg e4]at h;by_cases e5:k=28
 ·rw[if_pos e5]at h;refine⟨?_,?_,?_,?_,?_,?_,?_,?_,?_⟩ <;> rintro rfl <;> first|omega|simp[Gs]at h
 rw[if_neg e5]at h;by_cases e6:k=29
 ·rw[if_pos e6]at h;refine⟨?_,?_,?_,?_,?_,?_,?_,?_,?_⟩ <;> rintro rfl <;> first|omega|simp[Gs]at h
 rw[if_neg e6]at h;by_cases e7:k=40
 ·rw[if_pos e7]at h;refine⟨?_,?_,?_,?_,?_,?_,?_,?_,?_⟩ <;> rintro rfl <;> first|omega|simp[Gs]at h
 rw[if_neg e7]at h;by_cases e8:k=41
 ·rw[if_pos e8]at h;refine⟨?_,?_,?_,?_,?_,?_,?_,?_,?_⟩ <;> rintro rfl <;> first|omega|simp[Gs]at h
 rw[if_neg e8]at h;by_cases e9:k=42/\hv≠[]
 ·rw[if_pos e9]at h;refine⟨?_,?_,?_,?_,?_,?_,?_,?_,?_⟩ <;> rintro rfl <;> first|omega|simp[]at h
 rw[if_neg e9]at h;by_cases e10:k=46
 ·rw[if_pos e10]at h;refine⟨?_,?_,?_,?_,?_,?_,?_,?_,?_⟩ <;> rintro rfl <;> first|omega|simp[]at h
 rw[if_neg e10]at h;by_cases e11:k=47
 ·rw[if_pos e11]at h;refine⟨?_,?_,?_,?_,?_,?_,?_,?_,?_⟩ <;> rintro rfl <;> first|omega|simp[]at h
 rw[if_neg e11]at h;by_cases e12:k=65
 ·rw[if_pos e12]at h;refine⟨?_,?_,?_,?_,?_,?_,?_,?_,?_⟩ <;> rintro rfl <;> first|omega|simp[Gs]at h
 rw[if_neg e12]at h;simp at h
theorem par_kind(hu:u<t.nodes.length){c:Int}(hc:c∈(t.nodes.getD u default).kids):Jdo (Jo t.nodes c)∈Qo (t.nodes.getD u default).k (lets t.nodes (t.nodes.getD u default)):=by have h:=g.nds (t.nodes.getD u default) (by rw[rowN hu];exact GL hu);unfold ndI Kb at h;simp only[Gd,beq_iff_eq]at h;rw[<-h.1.1.1.2];unfold lets;exact List.mem_map_of_mem hc
end
section
variable(g:GoodT t o)
def nd (t:Tr)(j:Nat):Nd:=t.nodes.getD j default
def blw (o:Lu)(j a:Nat):Prop:=j<=a/\fs o a<=j
include g
theorem JC(hm:m<t.nodes.length)(h:(n:Int)∈(nd t m).kids):Kg t n=m/\n<m:=by
 have hr:=g.kid hm h;rcases Q0 g (n:=n) om with ⟨_,h2⟩|⟨m',h1,h2,h3,h4⟩
 ·exact absurd h (h2 m hm)
 ·have:=g.ord.parent_one (JK hm) (JK h3) h h4;subst this;exact⟨h1,h2⟩
theorem Jgk(ha:a<t.nodes.length):0<=fs o a/\fs o a<=a:=Jik g.ord.ok om (by rw[g.olen];omega)
theorem Q6(ha:a<t.nodes.length):blw o a a:=⟨Gq _,(Jgk g ha).2⟩
theorem Kw{j:Nat}(ha:a<t.nodes.length)(h1:blw o i j)(h2:blw o j a):blw o i a:=by have:=g.ord.nest a j (by rw[Kj];exact ha) om h2.2 (by have:=h2.1;omega);refine⟨Nat.le_trans h1.1 h2.1,?_⟩;have:=h1.2;omega
theorem KE(hm:m<t.nodes.length)(h:(n:Int)∈(nd t m).kids):blw o n m:=by have h1:=g.ord.kid_rng (JK hm) h;have h2:=(Jgk g (a:=n) om).2;exact⟨om,om⟩
theorem JbN{j:Nat}(hu:u<t.nodes.length)(h:blw o j u):j=u\/∃c:Nat,(c:Int)∈(nd t u).kids/\blw o j c:=by
 by_cases he:j=u
 ·exact .inl he
 ·have h1:=h.1;obtain⟨c,hc,h3,h4⟩:=XO g.ord.ok rfl _ _ _ (j:Int) (g.ord.kids (JK hu)) h.2 om;have hr:=g.kid hu hc;obtain⟨c,rfl⟩:∃k:Nat,c=(k:Int):=⟨c.toNat,om⟩;exact .inr ⟨c,hc,om,h3⟩
theorem Jia{j c:Nat}(hu:u<t.nodes.length)(hc:(c:Int)∈(nd t u).kids)(hd:(d:Int)∈(nd t u).kids)(h1:blw o j c)(h2:blw o j d):c=d:=by have a1:=h1.1;have a2:=h2.1;have:=JfX g.ord.ok rfl _ _ _ (j:Int) c d (g.ord.kids (JK hu)) hc hd h1.2 om h2.2 om;omega
theorem Xt{j:Nat}(ha:a<t.nodes.length)(h:blw o j a)(Ag:j≠a):∃m:Nat,Kg t j=m/\j<m/\m<=a/\blw o m a/\(j:Int)∈(nd t m).kids:=by have h1:=h.1;obtain⟨m,q1,q2,q3⟩:=par_in g a j ha h.2 om;have:=(JC g (show m<t.nodes.length by omega) q3).1;exact⟨m,this,q1,q2,⟨q2,by have:=h.2;omega⟩,q3⟩
def XF (t:Tr)(u k:Nat):Lu:=(nd t u).kids.filter λc=>Jo t.nodes c == k
def JaH (t:Tr)(u:Nat):Lu:=((XF t u 41).map λs=>XF t s.toNat 42).flatten
def Jcj (t:Tr)(u a:Nat):Lu:=
 if (nd t u).k=40 then JaH t u
 else if (nd t u).k=65 then XF t u 64
 else if (nd t u).k=47 then(if (a:Int)=(nd t u).kids.getD 2 0 then [(u:Int)] else [])
 else if (nd t u).k=28 then(if (nd t a).k=43 then [] else if (nd t a).k=41\/(nd t a).k=44 then XF t u 43++JaH t u else XF t u 43)
 else []
def Yt (t:Tr):Nat->Nat->Lu
 |0,_=>[]
 |f+1,a=>if Kg t a<0 then [] else Jcj t (Kg t a).toNat a++Yt t f (Kg t a).toNat
def inS (t:Tr)(o:Lu)(d:Int)(j:Nat):Prop:=∃u a:Nat,u<t.nodes.length/\(a:Int)∈(nd t u).kids/\blw o j a/\d∈Jcj t u a
theorem JfV:∀(f j:Nat) (d:Int),j<t.nodes.length->t.nodes.length<=j+f->(d∈Yt t f j↔inS t o d j):=by
 intro f
 induction f with
 |zero=>intro j d h1 h2;omega
 |succ f ih=>
  intro j d h1 h2;unfold Yt;rcases Q0 g h1 with ⟨hp,Ce⟩|⟨m,hp,IA,BZ,Ow⟩
  ·rw[hp,if_pos vk];refine⟨λh=>by simp at h,λ⟨u,a,hu,ha,hb,_⟩=>?_⟩;exfalso;have Ug:=(JC g hu ha).2;by_cases he:j=a
   ·subst he;exact Ce u hu ha
   ·obtain⟨m,q1,_⟩:=Xt g (show a<t.nodes.length by omega) hb he;rw[hp]at q1;omega
  ·rw[hp,iN7,Gj,Gb,ih m d BZ om]
   constructor
   ·rintro(h|⟨u,a,hu,ha,hb,hd⟩)
    ·exact⟨m,j,BZ,Ow,Q6 g h1,h⟩
    ·have Ug:=(JC g hu ha).2;exact⟨u,a,hu,ha,Kw g om (KE g BZ Ow) hb,hd⟩
   ·rintro⟨u,a,hu,ha,hb,hd⟩;have Ug:=(JC g hu ha);by_cases he:j=a
    ·subst he;have:u=m:=by rw[hp]at Ug;omega
     subst this;exact .inl hd
    ·obtain⟨m',q1,_,_,q4,_⟩:=Xt g (show a<t.nodes.length by omega) hb he;have:m'=m:=by rw[hp]at q1;omega
     subst this;exact .inr ⟨u,a,hu,ha,q4,hd⟩
omit g in
theorem QB{c:Int}:c∈XF t u k↔c∈(nd t u).kids/\Jo t.nodes c=k:=by unfold XF;simp
theorem Jc2(hu:u<t.nodes.length){d:Int}:d∈JaH t u↔∃s:Nat,(s:Int)∈(nd t u).kids/\(nd t s).k=41/\d∈(nd t s).kids/\Jo t.nodes d=42:=by
 unfold JaH;simp only[H7,Gy]
 constructor
 ·rintro⟨l,⟨s,hs,rfl⟩,hd⟩;rw[QB]at hs hd;have hr:=g.kid hu hs.1;refine⟨s.toNat,?_,?_,hd.1,hd.2⟩
  ·rw[show ((s.toNat:Nat):Int)=s by omega];exact hs.1
  ·exact hs.2
 ·rintro⟨s,h1,h2,h3,h4⟩;refine⟨_,⟨(s:Int),(QB).2 ⟨h1,by unfold Jo;rw[Gb];exact h2⟩,rfl⟩,?_⟩;rw[QB,Gb];exact⟨h3,h4⟩
end
section
variable(g:GoodT t o)
def Jh (t:Tr)(u:Nat):Nat:=((nd t u).kids.getD ((nd t u).kids.length-1) 0).toNat
def JH (t:Tr)(u i:Nat):Nat:=((nd t u).kids.getD i 0).toNat
def inR (t : Tr)(o : Lu)(d j : Nat) : Prop :=
  if (nd t d).k = 65 then True
  else if (nd t d).k = 64 then blw o j (Jh t (Kg t d).toNat)
  else if (nd t d).k = 43 then ∃i : Nat, (nd t (Kg t d).toNat).n <= i /\ i < (nd t (Kg t d).toNat).kids.length /\ blw o j (JH t (Kg t d).toNat i)
  else if (nd t d).k = 47 then blw o j (Jh t d)
  else if (nd t d).k = 42 then
    (if (nd t (Kg t (Kg t d).toNat).toNat).k = 40 then blw o j (Kg t (Kg t d).toNat).toNat
     else ∃i : Nat, (nd t (Kg t (Kg t d).toNat).toNat).n + 1 <= i /\ i + 1 < (nd t (Kg t (Kg t d).toNat).toNat).kids.length /\ blw o j (JH t (Kg t (Kg t d).toNat).toNat i))
  else False
include g
theorem Jt(hu:u<t.nodes.length)(hi:i<(nd t u).kids.length):((JH t u i:Nat):Int)∈(nd t u).kids/\JH t u i<u/\(nd t (JH t u i)).k=Jo t.nodes ((nd t u).kids.getD i 0):=by
 have hm:(nd t u).kids.getD i 0∈(nd t u).kids:=by rw[Gc,Gf hi];exact GL hi
 have hr:=g.kid hu hm;unfold JH;refine⟨?_,om,rfl⟩;rw[show ((((nd t u).kids.getD i 0).toNat:Nat):Int)=(nd t u).kids.getD i 0 by omega];exact hm
omit g in
theorem JbB(ha:(a:Int)∈(nd t u).kids):∃i,i<(nd t u).kids.length/\JH t u i=a/\(nd t u).kids.getD i 0=(a:Int):=by
 obtain⟨i,hi,he⟩:=G6 ha;refine⟨i,hi,?_,?_⟩
 ·unfold JH;rw[Gc,Gf hi,GR,he];rfl
 ·rw[Gc,Gf hi,GR,he]
theorem JeT:∀(a j:Nat),a<t.nodes.length->60<=(nd t a).k->(nd t a).k<=64->blw o j a->60<=(nd t j).k/\(nd t j).k<=64:=by
 intro a
 induction a using Nat.strongRecOn with
 |_ a ih=>
  intro j ha h1 h2 hb;rcases JbN g ha hb with rfl|⟨c,hc,Cb⟩
  ·exact⟨h1,h2⟩
  ·have hl:=par_kind g ha hc;have hr:=g.kid ha hc;change Jdo (Jo t.nodes (c:Int))∈Qo (nd t a).k _ at hl;have hk:Jdo (Jo t.nodes (c:Int))=116:=by
    unfold Qo at hl
    dsimp only at hl
    rcases (show (nd t a).k=60\/(nd t a).k=61\/(nd t a).k=62\/(nd t a).k=63\/(nd t a).k=64 by omega) with e|e|e|e|e <;> rw[e]at hl <;> simp at hl
    all_goals exact hl
   have Am:=Jc6 hk;have Mc:Jo t.nodes (c:Int)=(nd t c).k:=by unfold Jo nd;rw[Gb]
   rw[Mc]at Am;exact ih c om j om om om Cb
theorem Ql(hd:d<t.nodes.length)(hk:(nd t d).k≠65):∃u:Nat,Kg t d=u/\u<t.nodes.length/\d<u/\(d:Int)∈(nd t u).kids:=by
 rcases Q0 g hd with ⟨h1,h2⟩|⟨u,h1,h2,h3,h4⟩
 ·exfalso;obtain⟨L,hL,h5,h6⟩:=XO g.ord.ok g.olen _ _ _ (d:Int) g.its om om;have hr:=g.itr hL;obtain⟨L,rfl⟩:∃k:Nat,L=(k:Int):=⟨L.toNat,om⟩;by_cases he:d=L
  ·subst he;have:=g.defs _ hL;unfold Jo at this;rw[Gb]at this;exact hk this
  ·obtain⟨m,q1,q2,q3⟩:=par_in g L d om h5 om;exact h2 m om q3
 ·exact⟨u,h1,h3,h2,h4⟩
theorem Jcu(hu:u<t.nodes.length)(h:(d:Int)∈(nd t u).kids):Jdo (nd t d).k∈Qo (nd t u).k (lets t.nodes (nd t u)):=by have:=par_kind g hu h;unfold Jo at this;rw[Gb]at this;exact this
theorem KS(hu:u<t.nodes.length):(d:Int)∈Jcj t u a↔
  ((nd t u).k=40/\∃s:Nat,(s:Int)∈(nd t u).kids/\(nd t s).k=41/\(d:Int)∈(nd t s).kids/\(nd t d).k=42)\/
  ((nd t u).k=65/\(d:Int)∈(nd t u).kids/\(nd t d).k=64)\/
  ((nd t u).k=47/\(a:Int)=(nd t u).kids.getD 2 0/\d=u)\/
  ((nd t u).k=28/\(nd t a).k≠43/\(((d:Int)∈(nd t u).kids/\(nd t d).k=43)\/(((nd t a).k=41\/(nd t a).k=44)/\∃s:Nat,(s:Int)∈(nd t u).kids/\(nd t s).k=41/\(d:Int)∈(nd t s).kids/\(nd t d).k=42))):=by
 have Fu:Jo t.nodes (d:Int)=(nd t d).k:=by unfold Jo nd;rw[Gb]
 unfold Jcj;by_cases e1:(nd t u).k=40
 ·rw[if_pos e1,Jc2 g hu,Fu];simp[e1]
 rw[if_neg e1];by_cases e2:(nd t u).k=65
 ·rw[if_pos e2,QB,Fu];simp[e2]
 rw[if_neg e2];by_cases e3:(nd t u).k=47
 ·rw[if_pos e3];by_cases e4:(a:Int)=(nd t u).kids.getD 2 0
  ·rw[if_pos e4];simp only[Gn,e3,e4];simp;omega
  ·rw[if_neg e4];refine⟨λh=>by simp at h,λh=>?_⟩;rcases h with ⟨q,_⟩|⟨q,_⟩|⟨_,q,_⟩|⟨q,_⟩
   ·omega
   ·omega
   ·exact absurd q e4
   ·omega
 rw[if_neg e3];by_cases e5:(nd t u).k=28
 ·rw[if_pos e5];by_cases e6:(nd t a).k=43
  ·rw[if_pos e6];simp[e5,e6]
  ·rw[if_neg e6];by_cases e7:(nd t a).k=41\/(nd t a).k=44
   ·rw[if_pos e7,Gj,QB,Jc2 g hu,Fu];simp[e5,e6,e7]
   ·rw[if_neg e7,QB,Fu];simp[e5,e6,e7]
 ·rw[if_neg e5];simp[e1,e2,e3,e5]
theorem inS_inR{j:Nat}(hd:d<t.nodes.length)(hj:j<t.nodes.length)(BR:1<=(nd t j).k/\(nd t j).k<=29)(hk:(nd t d).k=64\/(nd t d).k=43\/(nd t d).k=47\/(nd t d).k=42):inS t o (d:Int) j↔inR t o d j:=by
 obtain⟨u,hp,hu,MG,M9⟩:=Ql g hd om;have Pn:=Yg (Jcu g hu M9);unfold inR;rw[hp,Gb,iN7];rcases hk with e|e|e|e
 ·
  rw[if_pos e];have Rt:(nd t u).k=65:=Pn.1 (by rw[e];rfl);obtain⟨N,hN,kw,k1,k2,k3⟩:=JeH g hu Rt;change N<(nd t u).kids.length at kw
  constructor
  ·rintro⟨v,a,hv,ha,hb,Bh⟩;rw[KS g hv]at Bh;have aa:v=u/\(nd t v).k=65:=by
    rcases Bh with ⟨_,s,_,_,_,q⟩|⟨q1,q2,_⟩|⟨q1,_,q2⟩|⟨_,_,⟨_,q⟩|⟨_,s,_,_,_,q⟩⟩
    ·omega
    ·have:=(JC g hv q2).1;exact⟨om,q1⟩
    ·subst q2;omega
    ·omega
    ·omega
   obtain⟨rfl,_⟩:=aa;obtain⟨i,hi,DN,AA⟩:=JbB ha;by_cases hl:i+1<(nd t v).kids.length
   ·exfalso;have Sz:60<=(nd t a).k/\(nd t a).k<=64:=by
     have h3:=(Jt g hv hi).2.2;rw[DN]at h3;by_cases P8:i<N
     ·have:=k1 i P8;change Jo t.nodes ((nd t v).kids.getD i 0)=64 at this;omega
     ·have:=k2 i om hl;change 60<=Jo t.nodes ((nd t v).kids.getD i 0)/\Jo t.nodes ((nd t v).kids.getD i 0)<=63 at this;omega
    have:=JeT g a j (by have:=(JC g hv ha).2;omega) Sz.1 Sz.2 hb;omega
   ·have Aj:i=(nd t v).kids.length-1:=om
    have:Jh t v=a:=by rw[<-DN,Aj];rfl
    rw[this];exact hb
  ·intro h;have hm:=Jt g hu (i:=(nd t u).kids.length-1) om;exact⟨u,Jh t u,hu,hm.1,h,(KS g hu).2 (.inr (.inl ⟨Rt,M9,e⟩))⟩
 ·
  rw[iN7,if_pos e];have Ru:(nd t u).k=28:=Pn.2.1 (by rw[e];rfl);obtain⟨N,M,hN,fH,fI,k1,k2,k3,k4,k5⟩:=Yl g hu Ru;change (nd t u).n=(N:Int) at hN;rw[hN]
  constructor
  ·rintro⟨v,a,hv,ha,hb,Bh⟩;rw[KS g hv]at Bh;have aa:v=u/\(nd t a).k≠43:=by
    rcases Bh with ⟨_,s,_,_,_,q⟩|⟨_,_,q⟩|⟨q1,_,q2⟩|⟨q0,q1,⟨q2,q⟩|⟨_,s,_,_,_,q⟩⟩
    ·omega
    ·omega
    ·subst q2;omega
    ·have:=(JC g hv q2).1;exact⟨om,q1⟩
    ·omega
   obtain⟨rfl,UO⟩:=aa;obtain⟨i,hi,DN,AA⟩:=JbB ha;have h3:=(Jt g hv hi).2.2;rw[DN]at h3;refine⟨i,?_,hi,by rw[DN];exact hb⟩;by_cases P8:i<N
   ·have:=k1 i P8;change Jo t.nodes ((nd t v).kids.getD i 0)=43 at this;omega
   ·omega
  ·rintro⟨i,h1,h2,h3⟩;have hm:=Jt g hu h2;have UO:(nd t (JH t u i)).k≠43:=by
    rw[hm.2.2];rcases (show i=N\/(N+1<=i/\i<M)\/(M<=i/\i+1<(nd t u).kids.length)\/i=(nd t u).kids.length-1 by omega) with rfl|h|h|rfl
    ·have:=k2.2;change Jo t.nodes ((nd t u).kids.getD i 0)<=29 at this;omega
    ·have:=k3 i h.1 h.2;change Jo t.nodes ((nd t u).kids.getD i 0)=41 at this;omega
    ·have:=k4 i h.1 h.2;change Jo t.nodes ((nd t u).kids.getD i 0)=44 at this;omega
    ·have:=k5;change Jo t.nodes ((nd t u).kids.getD ((nd t u).kids.length-1) 0)=45 at this;omega
   exact⟨u,JH t u i,hu,hm.1,h3,(KS g hu).2 (.inr (.inr (.inr ⟨Ru,UO,.inl ⟨M9,e⟩⟩)))⟩
 ·
  rw[iN7,iN7,if_pos e];obtain⟨M3,_,_⟩:=Jbm g hd e;change (nd t d).kids.length=3 at M3
  constructor
  ·rintro⟨v,a,hv,ha,hb,Bh⟩;rw[KS g hv]at Bh;rcases Bh with ⟨_,s,_,_,_,q⟩|⟨_,_,q⟩|⟨q1,q3,q2⟩|⟨q0,q1,⟨q2,q⟩|⟨_,s,_,_,_,q⟩⟩
   ·omega
   ·omega
   ·subst q2;have:Jh t d=a:=by unfold Jh;rw[M3];change ((nd t d).kids.getD 2 0).toNat=a;rw[<-q3];rfl
    rw[this];exact hb
   ·omega
   ·omega
  ·intro h;have hm:=Jt g hd (i:=2) om;have Dm:Jh t d=JH t d 2:=by unfold Jh JH;rw[M3]
   rw[Dm]at h;refine⟨d,JH t d 2,hd,hm.1,h,(KS g hd).2 (.inr (.inr (.inl ⟨e,?_,rfl⟩)))⟩;have hr:=g.kid hd (k:=(nd t d).kids.getD 2 0) (by change (nd t d).kids.getD 2 0∈(nd t d).kids;rw[Gc,Gf (show 2<(nd t d).kids.length by omega)];exact GL _)
   unfold JH;omega
 ·
  rw[iN7,iN7,iN7,if_pos e];have OY:(nd t u).k=41:=Pn.2.2.1 (by rw[e];rfl);obtain⟨w,iY,hw,ah,aj⟩:=Ql g hu om;have Su:=Yg (Jcu g hw aj);have EM:(nd t w).k=40\/(nd t w).k=28:=Su.2.2.2.1 (by rw[OY];rfl);rw[iY,Gb];have UH:∀v s:Nat,v<t.nodes.length->(s:Int)∈(nd t v).kids->(d:Int)∈(nd t s).kids->v=w/\s=u:=λv s hv q1 q2=>by
   have iH:=JC g hv q1;have hs:=(JC g (show s<t.nodes.length by omega) q2).1;have:s=u:=om
   subst this;exact⟨by have:=iH.1;omega,rfl⟩
  constructor
  ·rintro⟨v,a,hv,ha,hb,Bh⟩;rw[KS g hv]at Bh;rcases Bh with ⟨q0,s,q1,q2,q3,q⟩|⟨_,_,q⟩|⟨q1,_,q2⟩|⟨q0,q4,⟨_,q⟩|⟨q5,s,q1,q2,q3,q⟩⟩
   ·obtain⟨rfl,rfl⟩:=UH v s hv q1 q3;rw[if_pos q0];exact Kw g hv hb (KE g hv ha)
   ·omega
   ·subst q2;omega
   ·omega
   ·obtain⟨rfl,rfl⟩:=UH v s hv q1 q3;rw[iN7];obtain⟨N,M,hN,fH,fI,k1,k2,k3,k4,k5⟩:=Yl g hv q0;change (nd t v).n=(N:Int) at hN;obtain⟨i,hi,DN,AA⟩:=JbB ha;have h3:=(Jt g hv hi).2.2;rw[DN]at h3;refine⟨i,?_,?_,by rw[DN];exact hb⟩
    ·rw[hN];by_cases P8:i<N
     ·have:=k1 i P8;change Jo t.nodes ((nd t v).kids.getD i 0)=43 at this;omega
     ·by_cases bg:i=N
      ·subst bg;have:=k2.2;change Jo t.nodes ((nd t v).kids.getD i 0)<=29 at this;omega
      ·omega
    ·by_cases hl:i+1<(nd t v).kids.length
     ·exact hl
     ·have Aj:i=(nd t v).kids.length-1:=om
      have:=k5;change Jo t.nodes ((nd t v).kids.getD ((nd t v).kids.length-1) 0)=45 at this;rw[<-Aj]at this;omega
  ·rcases EM with Ro|MO
   ·rw[if_pos Ro];intro h;rcases JbN g hw h with rfl|⟨c,hc,hb⟩
    ·omega
    ·exact⟨w,c,hw,hc,hb,(KS g hw).2 (.inl ⟨Ro,u,aj,OY,M9,e⟩)⟩
   ·rw[iN7];obtain⟨N,M,hN,fH,fI,k1,k2,k3,k4,k5⟩:=Yl g hw MO;change (nd t w).n=(N:Int) at hN;rw[hN];rintro⟨i,h1,h2,h3⟩;have hm:=Jt g hw (show i<(nd t w).kids.length by omega);have DN:(nd t (JH t w i)).k=41\/(nd t (JH t w i)).k=44:=by
     rw[hm.2.2];by_cases jv:i<M
     ·exact .inl (k3 i om jv)
     ·exact .inr (k4 i om h2)
    exact⟨w,JH t w i,hw,hm.1,h3,(KS g hw).2 (.inr (.inr (.inr ⟨MO,om,.inr ⟨DN,u,aj,OY,M9,e⟩⟩)))⟩
end
theorem JgP {α β:Type}{f:α->List β}:∀{l:List α},l.Nodup->(∀x∈l,(f x).Nodup)->(∀x∈l,∀y∈l,x≠y->∀z∈f x,z∉f y)->((l.map f).flatten).Nodup
 |[],_,_,_=>sM
 |x::l,h1,h2,h3=>by rw[H8]at h1;simp only[GQ,List.flatten_cons];rw[G8];refine⟨h2 x sM,JgP h1.2 (λy hy=>h2 y (by simp[hy])) (λy hy z hz gP=>h3 y (by simp[hy]) z (by simp[hz]) gP),?_⟩;intro a ha b hb Uk;subst Uk;simp only[H7,Gy]at hb;obtain⟨_,⟨y,hy,rfl⟩,hb⟩:=hb;exact h3 x sM y (by simp[hy]) (λe=>h1.1 (e▸hy)) a ha hb
theorem XI(ho:Q8 o)(hm:o.length=m):∀(l:Lu) (a e:Int),chain o m a l e->l.Nodup
 |[],_,_,_=>sM
 |i::l,a,e,h=>by simp only[chain]at h;rw[H8];refine⟨λhi=>?_,XI ho hm l _ e h.2⟩;have h1:=QT ho hm l _ e h.2 i hi;have h2:=Jik ho h1.2.1 om;omega
section
variable(g:GoodT t o)
include g
theorem kids_nodup(hu:u<t.nodes.length):(nd t u).kids.Nodup:=XI g.ord.ok rfl _ _ _ (g.ord.kids (JK hu))
theorem YS(hu:u<t.nodes.length):(XF t u k).Nodup:=(kids_nodup g hu).filter _
theorem Jf2(hu:u<t.nodes.length):(JaH t u).Nodup:=by
 unfold JaH;have hr:∀s∈XF t u 41,0<=s/\s<u:=λs hs=>g.kid hu (QB.1 hs).1
 refine JgP (YS g hu) (λs hs=>YS g (by have:=hr s hs;omega)) λs hs s' AC Ag z hz Et=>?_
 have h1:=hr s hs;have h2:=hr s' AC;have:=g.ord.parent_one (JK (show s.toNat<t.nodes.length by omega)) (JK (show s'.toNat<t.nodes.length by omega)) (QB.1 hz).1 (QB.1 Et).1;omega
def whoD (t:Tr)(d:Nat):Int:=if (nd t d).k=47 then d else if (nd t d).k=42 then Kg t (Kg t d).toNat else Kg t d
theorem decl_who{d:Int}(hu:u<t.nodes.length)(h:d∈Jcj t u a):0<=d/\d<t.nodes.length/\whoD t d.toNat=u:=by
 have hd:0<=d/\d<=u:=by
  have hb:d∈JaH t u->0<=d/\d<=u:=λh=>by rw[Jc2 g hu]at h;obtain⟨s,q1,_,q3,_⟩:=h;have h1:=(JC g hu q1).2;have h2:=g.kid (show s<t.nodes.length by omega) q3;omega
  have hk:∀k,d∈XF t u k->0<=d/\d<=u:=λk h=>by have:=g.kid hu (QB.1 h).1;omega
  unfold Jcj at h
  split at h
  ·exact hb h
  split at h
  ·exact hk _ h
  split at h
  ·split at h
   ·simp at h;omega
   ·simp at h
  split at h
  ·split at h
   ·simp at h
   split at h
   ·rcases Gj.1 h with h|h
    ·exact hk _ h
    ·exact hb h
   ·exact hk _ h
  ·simp at h
 obtain⟨d,rfl⟩:∃n:Nat,d=(n:Int):=⟨d.toNat,om⟩;rw[KS g hu]at h;refine⟨om,om,?_⟩;rw[Gb];unfold whoD;have bind:(∃s:Nat,(s:Int)∈(nd t u).kids/\(nd t s).k=41/\(d:Int)∈(nd t s).kids/\(nd t d).k=42)->(if (nd t d).k=47 then(d:Int) else if (nd t d).k=42 then Kg t (Kg t d).toNat else Kg t d)=u:=by rintro⟨s,q1,_,q3,q4⟩;have hs:=JC g hu q1;have Px:=(JC g (show s<t.nodes.length by omega) q3).1;rw[iN7,if_pos q4,Px,Gb];exact hs.1
 rcases h with ⟨_,hb⟩|⟨_,q,q2⟩|⟨q1,_,rfl⟩|⟨_,_,⟨q,q2⟩|⟨_,hb⟩⟩
 ·exact bind hb
 ·rw[iN7,iN7];exact(JC g hu q).1
 ·rw[if_pos q1]
 ·rw[iN7,iN7];exact(JC g hu q).1
 ·exact bind hb
theorem decl_nodup(hu:u<t.nodes.length):(Jcj t u a).Nodup:=by
 unfold Jcj
 split
 ·exact Jf2 g hu
 split
 ·exact YS g hu
 split
 ·split <;> simp
 split
 ·split
  ·simp
  split
  ·rw[G8];refine⟨YS g hu,Jf2 g hu,λx hx y hy he=>?_⟩;subst he;have h1:=(QB.1 hx).2;have h0:=g.kid hu (QB.1 hx).1;rw[Jc2 g hu]at hy;obtain⟨s,_,_,_,h2⟩:=hy;omega
  ·exact YS g hu
 ·simp
theorem climb_who:∀(f j:Nat) (d:Int),j<t.nodes.length->d∈Yt t f j->0<=d/\d<t.nodes.length/\(j:Int)<whoD t d.toNat:=by
 intro f
 induction f with
 |zero=>intro j d _ h;simp[Yt]at h
 |succ f ih=>
  intro j d hj h;unfold Yt at h;rcases Q0 g hj with ⟨hp,_⟩|⟨m,hp,IA,BZ,_⟩
  ·rw[hp,if_pos vk]at h;simp at h
  ·rw[hp,iN7,Gj,Gb]at h;rcases h with h|h
   ·have:=decl_who g BZ h;exact⟨this.1,this.2.1,om⟩
   ·have:=ih m d BZ h;exact⟨this.1,this.2.1,om⟩
theorem climb_nodup:∀(f j:Nat),j<t.nodes.length->(Yt t f j).Nodup:=by
 intro f
 induction f with
 |zero=>intro j _;simp[Yt]
 |succ f ih=>
  intro j hj;unfold Yt;rcases Q0 g hj with ⟨hp,_⟩|⟨m,hp,IA,BZ,_⟩
  ·rw[hp,if_pos vk];simp
  ·rw[hp,iN7,Gb,G8];refine⟨decl_nodup g BZ,ih m BZ,λx hx y hy he=>?_⟩;subst he;have h1:=(decl_who g BZ hx).2.2;have h2:=(climb_who g f m x BZ hy).2.2;omega
theorem Jdi(hd:d<t.nodes.length)(hk:(nd t d).k=65):Kg t d = -1/\(d:Int)∈t.items:=by
 have hp:Kg t d = -1:=by
  rcases Q0 g hd with ⟨h,_⟩|⟨m,_,_,hm,BZ⟩
  ·exact h
  ·exfalso;exact(Yg (Jcu g hm BZ)).2.2.2.2.2.2.2.2 (by rw[hk];rfl)
 refine⟨hp,?_⟩;obtain⟨L,hL,h5,h6⟩:=XO g.ord.ok g.olen _ _ _ (d:Int) g.its om om;have hr:=g.itr hL;obtain⟨L,rfl⟩:∃k:Nat,L=(k:Int):=⟨L.toNat,om⟩;by_cases he:d=L
 ·subst he;exact hL
 ·exfalso;obtain⟨m,q1,q2,q3⟩:=par_in g L d om h5 om;have:=(JC g (show m<t.nodes.length by omega) q3).1;omega
end
def JbO (o:Lu)(j a:Nat):Bool:=decide (j<=a) && decide (fs o a<=j)
theorem KM{j:Nat}:JbO o j a=true↔blw o j a:=by simp[JbO,blw]
def bkB (t:Tr)(o:Lu)(j u:Nat)(m:Int)(last:Bool):Bool:=(Ga (nd t u).kids.length).any λi=>decide (m<=i) && ((last || decide (i+1<(nd t u).kids.length)) && JbO o j (JH t u i))
def inB (t : Tr)(o : Lu)(d j : Nat) : Bool :=
  if (nd t d).k = 65 then true
  else if (nd t d).k = 64 then JbO o j (Jh t (Kg t d).toNat)
  else if (nd t d).k = 43 then bkB t o j (Kg t d).toNat (nd t (Kg t d).toNat).n true
  else if (nd t d).k = 47 then JbO o j (Jh t d)
  else if (nd t d).k = 42 then
    (if (nd t (Kg t (Kg t d).toNat).toNat).k = 40 then JbO o j (Kg t (Kg t d).toNat).toNat
     else bkB t o j (Kg t (Kg t d).toNat).toNat ((nd t (Kg t (Kg t d).toNat).toNat).n + 1) false)
  else false
def KV (k:Nat):Bool:=k == 65 || k == 64 || k == 42 || k == 43 || k == 47
theorem bkB_iff{j:Nat}{m:Int}{last:Bool}:bkB t o j u m last=true↔∃i:Nat,m<=i/\i<(nd t u).kids.length/\(last=true\/i+1<(nd t u).kids.length)/\blw o j (JH t u i):=by
 unfold bkB;simp only[Gw,Gi,Gd,Ho,decide_eq_true_eq,KM]
 constructor
 ·rintro⟨i,h1,h2,h3,h4⟩;exact⟨i,h2,h1,h3,h4⟩
 ·rintro⟨i,h1,h2,h3,h4⟩;exact⟨i,h2,h1,h3,h4⟩
theorem inB_iff{j:Nat}:inB t o d j=true↔inR t o d j:=by
 unfold inB inR;by_cases e1:(nd t d).k=65
 ·simp[e1]
 by_cases e2:(nd t d).k=64
 ·rw[if_neg e1,if_pos e2,if_neg e1,if_pos e2];exact KM
 by_cases e3:(nd t d).k=43
 ·rw[if_neg e1,if_neg e2,if_pos e3,if_neg e1,if_neg e2,if_pos e3,bkB_iff]
  constructor
  ·rintro⟨i,h1,h2,_,h4⟩;exact⟨i,h1,h2,h4⟩
  ·rintro⟨i,h1,h2,h4⟩;exact⟨i,h1,h2,.inl rfl,h4⟩
 by_cases e4:(nd t d).k=47
 ·rw[if_neg e1,if_neg e2,if_neg e3,if_pos e4,if_neg e1,if_neg e2,if_neg e3,if_pos e4];exact KM
 by_cases e5:(nd t d).k=42
 ·rw[if_neg e1,if_neg e2,if_neg e3,if_neg e4,if_pos e5,if_neg e1,if_neg e2,if_neg e3,if_neg e4,if_pos e5];by_cases e6:(nd t (Kg t (Kg t d).toNat).toNat).k=40
  ·rw[if_pos e6,if_pos e6];exact KM
  ·rw[if_neg e6,if_neg e6,bkB_iff]
   constructor
   ·rintro⟨i,h1,h2,h3,h4⟩;rcases h3 with h3|h3
    ·cases h3
    ·exact⟨i,h1,h3,h4⟩
   ·rintro⟨i,h1,h3,h4⟩;exact⟨i,h1,om,.inr h3,h4⟩
 ·rw[if_neg e1,if_neg e2,if_neg e3,if_neg e4,if_neg e5,if_neg e1,if_neg e2,if_neg e3,if_neg e4,if_neg e5];simp
section
variable(g:GoodT t o)
def Qk (t:Tr):Lu:=(Ga t.nodes.length).map λi:Nat=>(i:Int)
def Qz (t:Tr)(j:Nat):Lu:=(Qk t).filter λd=>(Yt t t.nodes.length j).contains d
def Jac (t:Tr)(l:Lu)(s:Lv):Int:=match l.find? λd=>(nd t d.toNat).text == s with|some d=>d|none=>-1
def JgS (t:Tr)(o:Lu)(j:Nat):Int:=match (Qk t).find? λd=>(nd t d.toNat).text == (nd t j).text && (KV (nd t d.toNat).k && (!((nd t d.toNat).k == 65) && inB t o d.toNat j)) with|some d=>d|none=>-1
include g
theorem decl_kind(hu:u<t.nodes.length)(h:(d:Int)∈Jcj t u a):(nd t d).k=64\/(nd t d).k=43\/(nd t d).k=47\/(nd t d).k=42:=by
 rw[KS g hu]at h;rcases h with ⟨_,s,_,_,_,q⟩|⟨_,_,q⟩|⟨q1,_,rfl⟩|⟨_,_,⟨_,q⟩|⟨_,s,_,_,_,q⟩⟩
 ·exact .inr (.inr (.inr q))
 ·exact .inl q
 ·exact .inr (.inr (.inl q1))
 ·exact .inr (.inl q)
 ·exact .inr (.inr (.inr q))
theorem sight_mem{j:Nat}(hd:d<t.nodes.length)(hj:j<t.nodes.length)(BR:1<=(nd t j).k/\(nd t j).k<=29):(Yt t t.nodes.length j).contains (d:Int)=(KV (nd t d).k && (!((nd t d).k == 65) && inB t o d j)):=by
 rw[Gl];simp only[Hw,decide_eq_true_eq,Gd,GU,beq_eq_false_iff_ne,inB_iff];rw[JfV g t.nodes.length j (d:Int) hj om]
 constructor
 ·intro h;obtain⟨u,a,hu,ha,hb,Bh⟩:=h;have hk:=decl_kind g hu Bh;refine⟨?_,om,(inS_inR g hd hj BR hk).1 ⟨u,a,hu,ha,hb,Bh⟩⟩;unfold KV;rcases hk with e|e|e|e <;> rw[e] <;> rfl
 ·rintro⟨h1,h2,h3⟩;have hk:(nd t d).k=64\/(nd t d).k=43\/(nd t d).k=47\/(nd t d).k=42:=by unfold KV at h1;simp only[Ho,beq_iff_eq]at h1;omega
  exact(inS_inR g hd hj BR hk).2 h3
theorem JaR {j:Nat}(hj:j<t.nodes.length)(BR:1<=(nd t j).k/\(nd t j).k<=29):Jac t (Qz t j) (nd t j).text=JgS t o j:=by
 unfold Jac JgS Qz;rw[Ha];have:∀l:Lu,(∀d∈l,0<=d/\d<t.nodes.length)->l.find? (λd=>decide ((Yt t t.nodes.length j).contains d=true/\((nd t d.toNat).text == (nd t j).text)=true))=l.find? λd=>(nd t d.toNat).text == (nd t j).text && (KV (nd t d.toNat).k && (!((nd t d.toNat).k == 65) && inB t o d.toNat j)):=by
  intro l
  induction l with
  |nil=>intro _;rfl
  |cons d l ih=>
   intro hl;obtain⟨d,rfl⟩:∃n:Nat,d=(n:Int):=⟨d.toNat,by have:=hl d sM;omega⟩;have hd:=hl d sM;have hs:=sight_mem g (show d<t.nodes.length by omega) hj BR;rw[Gx,Gx,ih λx hx=>hl x (by simp[hx])];simp only[Gb];rw[hs]
   congr 1
   rw[Gl];simp[and_comm]
 rw[this];intro d hd;unfold Qk at hd;simp only[Gy,Gi]at hd;obtain⟨i,hi,rfl⟩:=hd;omega
end
theorem asc_eq:∀{l m:Lu},l.Pairwise (· < ·)->m.Pairwise (· < ·)->(∀x,x∈l↔x∈m)->l=m
 |[],[],_,_,_=>rfl
 |[],y::m,_,_,h=>by simpa using (h y).2 sM
 |x::l,[],_,_,h=>by simpa using (h x).1 sM
 |x::l,y::m,h1,h2,h=>by
  rw[GH]at h1 h2;have e:x=y:=by
   have a:=(h x).1 sM;have b:=(h y).2 sM;rcases Gh.1 a with a|a
   ·exact a
   ·rcases Gh.1 b with b|b
    ·exact b.symm
    ·have:=h1.1 y b;have:=h2.1 x a;omega
  subst e;rw[asc_eq h1.2 h2.2 λz=>?_]
  constructor
  ·intro hz;have:=h1.1 z hz;rcases Gh.1 ((h z).1 (by simp[hz])) with e|e
   ·omega
   ·exact e
  ·intro hz;have:=h2.1 z hz;rcases Gh.1 ((h z).2 (by simp[hz])) with e|e
   ·omega
   ·exact e
theorem JaG(ho:Q8 o)(hm:o.length=m):∀(l:Lu) (a e:Int),chain o m a l e->l.Pairwise (· < ·)
 |[],_,_,_=>.nil
 |i::l,a,e,h=>by simp only[chain]at h;rw[GH];refine⟨λx hx=>?_,JaG ho hm l _ e h.2⟩;have h1:=QT ho hm l _ e h.2 x hx;have h2:=Jik ho h1.2.1 om;omega
theorem JeM:(Qk t).Pairwise (· < ·):=by unfold Qk;rw[HZ];exact Ht.imp λh=>om
theorem Kh{d:Int}:d∈Qk t↔0<=d/\d<t.nodes.length:=by
 unfold Qk;simp only[Gy,Gi]
 constructor
 ·rintro⟨i,hi,rfl⟩;omega
 ·intro h;exact⟨d.toNat,om,om⟩
section
variable(g:GoodT t o)
def Jcn (t:Tr)(j:Nat):Int:=match (Qk t).find? λd=>(nd t d.toNat).text == (nd t j).text && (KV (nd t d.toNat).k && (nd t d.toNat).k == 65) with|some d=>d|none=>-1
def Jay (t:Tr)(j:Nat):Int:=match (Qk t).find? λd=>(nd t d.toNat).text == (nd t j).text && (KV (nd t d.toNat).k && ((nd t d.toNat).k == 43 && Kg t d.toNat == Kg t j)) with|some d=>d|none=>-1
include g
theorem items_all:t.items=(Qk t).filter λd=>(nd t d.toNat).k == 65:=by
 refine asc_eq (JaG g.ord.ok g.olen _ _ _ g.its) (JeM.filter _) λx=>?_
 rw[Gp,Kh,beq_iff_eq]
 constructor
 ·intro h;have h1:=g.itr h;have h2:=g.defs x h;exact⟨h1,h2⟩
 ·rintro⟨h1,h2⟩;have:=(Jdi g (show x.toNat<t.nodes.length by omega) h2).2
  rwa [show ((x.toNat:Nat):Int)=x by omega]at this
theorem call_means {j:Nat}:Jac t t.items (nd t j).text=Jcn t j:=by
 unfold Jac Jcn;rw[items_all g,Ha]
 congr 2
 funext d
 rw[Gl];simp only[decide_eq_true_eq,Gd,beq_iff_eq]
 constructor
 ·rintro⟨h1,h2⟩;exact⟨h2,by rw[h1];rfl,h1⟩
 ·rintro⟨h1,_,h2⟩;exact⟨h2,h1⟩
theorem Jc9(hu:u<t.nodes.length):(nd t u).kids.Pairwise (· < ·):=JaG g.ord.ok rfl _ _ _ (g.ord.kids (JK hu))
theorem kidsK_all(hu:u<t.nodes.length)(hk:k≠65):XF t u k=(Qk t).filter λd=>(nd t d.toNat).k == k && Kg t d.toNat == u:=by
 refine asc_eq ((Jc9 g hu).filter _) (JeM.filter _) λx=>?_
 rw[QB,Gp,Kh,Gd,beq_iff_eq,beq_iff_eq]
 constructor
 ·rintro⟨h1,h2⟩;have hr:=g.kid hu h1;obtain⟨x,rfl⟩:∃n:Nat,x=(n:Int):=⟨x.toNat,om⟩;exact⟨om,h2,(JC g hu h1).1⟩
 ·rintro⟨h1,h2,h3⟩;obtain⟨x,rfl⟩:∃n:Nat,x=(n:Int):=⟨x.toNat,om⟩;rw[Gb]at h2 h3;obtain⟨u',q1,_,_,q2⟩:=Ql g (show x<t.nodes.length by omega) om;have:u'=u:=om
  subst this;exact⟨q2,h2⟩
theorem next_means{j:Nat}(hu:u<t.nodes.length)(hp:Kg t j=u):Jac t (XF t u 43) (nd t j).text=Jay t j:=by
 unfold Jac Jay;rw[kidsK_all g hu vk,Ha,hp]
 congr 2
 funext d
 rw[Gl];simp only[decide_eq_true_eq,Gd,beq_iff_eq]
 constructor
 ·rintro⟨⟨h1,h3⟩,h2⟩;exact⟨h2,by rw[h1];rfl,h1,h3⟩
 ·rintro⟨h1,_,h2,h3⟩;exact⟨⟨h2,h3⟩,h1⟩
end
def Qn (t:Tr)(i:Nat):Nat:=(t.items.filter λL=>decide (L<(i:Int))).length
def Yo (t:Tr)(o:Lu)(i:Nat):Int:=match t.items.find? λL=>JbO o i L.toNat with|some L=>L|none=>-1
def twN (t:Tr)(i:Nat):Bool:=
 if (nd t i).k≠44/\KV (nd t i).k=false then false
 else(Ga i).any λk=>(nd t k).text == (nd t i).text && (if (nd t i).k=44 then(nd t k).k == 44 && Kg t k == Kg t i else if (nd t i).k=65 then(nd t k).k == 65 else !((nd t k).k == 65) && (KV (nd t k).k && Qn t k == Qn t i))
def twR (t:Tr)(o:Lu)(i:Nat):Bool:=
 if (nd t i).k≠44/\KV (nd t i).k=false then false
 else(Ga i).any λk=>(nd t k).text == (nd t i).text && (if (nd t i).k=65 then(nd t k).k == 65 else if (nd t i).k=44 then(nd t k).k == 44 && Kg t k == Kg t i else KV (nd t k).k && (!((nd t k).k == 65) && Yo t o k == Yo t o i))
theorem Jir {α:Type}{q:α->Bool}:∀{l:List α}{k:Nat}{x:α},l[k]? = some x->q x=true->(∀y∈l.take k,q y=false)->l.find? q=some x
 |[],_,_,h,_,_=>by simp at h
 |y::l,0,x,h,hq,_=>by simp at h;subst h;simp[hq]
 |y::l,k+1,x,h,hq,hn=>by rw[Gx,hn y sM];exact Jir (k:=k) (by simpa using h) hq λz hz=>hn z (by simp[hz])
section
variable(g:GoodT t o)
include g
theorem JaW(hi:i<t.nodes.length):∃k L:Nat,k<t.items.length/\t.items[k]? = some (L:Int)/\Qn t i=k/\Yo t o i=L/\Yu t k<=i/\i<=L:=by
 obtain⟨L,hL,h5,h6⟩:=XO g.ord.ok g.olen _ _ _ (i:Int) g.its om om;obtain⟨k,hk,he⟩:=G6 hL;obtain⟨L',e1,e2,e3,e4,e5⟩:=Jfy g hk;have eL:L=(L':Int):=by rw[<-e1,Gc,Gf hk,<-he];rfl
 subst eL;rw[e2]at h5;have AV:t.items[k]? = some (L':Int):=by rw[Gf hk,he]
 have Ab:∀x∈t.items.take k,x<(i:Int):=λx hx=>by have:=(QT g.ord.ok g.olen _ _ _ (YO g k (GY hk)).1 x hx).2.2.1;omega
 have Cn:∀x∈t.items.drop k,(i:Int)<=x:=λx hx=>by
  have ha:=JaG g.ord.ok g.olen _ _ _ (YO g k (GY hk)).2;rw[Gr hk,he]at hx ha;rw[GH]at ha;rcases Gh.1 hx with rfl|hx
  ·exact h6
  ·have:=ha.1 x hx;omega
 refine⟨k,L',hk,AV,?_,?_,om,om⟩
 ·unfold Qn;rw[<-Hu k t.items,HY,Hy.2 (λx hx=>by simpa using Ab x hx),G5.2 (λx hx=>by have:=Cn x hx;simp;omega),Lb,Gu];omega
 ·unfold Yo;rw[Jir AV (by rw[KM,Gb];exact⟨om,by rw[e2];omega⟩) λy hy=>?_];have h1:=Ab y hy;have h2:=(QT g.ord.ok g.olen _ _ _ (YO g k (GY hk)).1 y hy).2.1;rw[Lg];intro hb;have:=(KM.1 hb).1;omega
theorem item_same(hi:i<t.nodes.length)(hk:k<t.nodes.length):(Qn t k == Qn t i)=(Yo t o k == Yo t o i):=by
 obtain⟨a,A,a1,a2,a3,a4,a5,a6⟩:=JaW g hi;obtain⟨b,B,b1,b2,b3,b4,b5,b6⟩:=JaW g hk;rw[a3,a4,b3,b4,Gl,beq_iff_eq,beq_iff_eq]
 constructor
 ·rintro rfl;rw[a2]at b2;exact(Hm b2).symm
 ·intro h;have hn:t.items.Nodup:=XI g.ord.ok g.olen _ _ _ g.its;rw[h]at b2;exact(List.getElem?_inj b1 hn).1 (b2.trans a2.symm)
theorem tw_eq(hi:i<t.nodes.length):twN t i=twR t o i:=by
 unfold twN twR;by_cases h:(nd t i).k≠44/\KV (nd t i).k=false
 ·rw[if_pos h,if_pos h]
 rw[if_neg h,if_neg h];have hl:∀l:Lx,(∀k∈l,k<i)->(l.any λk=>(nd t k).text == (nd t i).text && (if (nd t i).k=44 then(nd t k).k == 44 && Kg t k == Kg t i else if (nd t i).k=65 then(nd t k).k == 65 else !((nd t k).k == 65) && (KV (nd t k).k && Qn t k == Qn t i)))=(l.any λk=>(nd t k).text == (nd t i).text && (if (nd t i).k=65 then(nd t k).k == 65 else if (nd t i).k=44 then(nd t k).k == 44 && Kg t k == Kg t i else KV (nd t k).k && (!((nd t k).k == 65) && Yo t o k == Yo t o i))):=by
  intro l
  induction l with
  |nil=>intro _;rfl
  |cons k l ih=>
   intro hk;have EA:=hk k sM;rw[Le,Le,ih λx hx=>hk x (by simp[hx]),item_same g hi (show k<t.nodes.length by omega)]
   congr 2
   by_cases e1:(nd t i).k=44
   ·rw[if_pos e1,iN7,if_pos e1]
   ·rw[if_neg e1];by_cases e2:(nd t i).k=65
    ·rw[if_pos e2,if_pos e2]
    ·rw[if_neg e2,if_neg e2,if_neg e1]
     cases KV (nd t k).k <;> cases ((nd t k).k == 65) <;> simp
 exact hl _ λk hk=>Gi.1 hk
end
def Jbk (t:Tr)(u c:Nat)(late:Bool):Bool:=if (nd t u).k=4 then true else if (nd t u).k=46\/(nd t u).k=47 then late || c == Jh t u else if (nd t u).k=28 then late && (nd t c).k == 43 else late
def JiH (t:Tr)(u c:Nat):Option Bool:=if (nd t u).k=4 then some true else if (nd t u).k=46\/(nd t u).k=47 then some (c == Jh t u) else if (nd t u).k=28 then(if (nd t c).k=43 then none else some false) else none
def buL (t:Tr):Lx->Bool->Bool
 |c::u::l,late=>buL t (u::l) (Jbk t u c late)
 |_,late=>late
def tdL (t:Tr):Lx->Bool->Bool
 |u::c::l,late=>match JiH t u c with
  |some b=>b
  |none=>tdL t (c::l) late
 |_,late=>late
theorem tdL_snoc{late:Bool}{c:Nat}:∀l:Lx,tdL t (l++[u,c]) late=tdL t (l++[u]) (match JiH t u c with|some b=>b|none=>late)
 |[]=>by simp only[GN,tdL]
 |[x]=>by simp only[Gv,GN,tdL]
 |x::y::l=>by have:=tdL_snoc (late:=late) (c:=c) (y::l);simp only[Gv]at this;simp only[Gv,tdL];rw[this]
def Jcv (t:Tr)(q:Nat->Nat->Prop):Lx->Prop
 |c::u::l=>q u c/\Jcv t q (u::l)
 |_=>True
theorem bu_td:∀(l:Lx) (late:Bool),Jcv t (λu c=>(nd t u).k=46\/(nd t u).k=47->c=Jh t u) l->buL t l late=tdL t l.reverse late
 |[],_,_=>rfl
 |[x],_,_=>rfl
 |c::u::l,late,h=>by
  have hs:Jbk t u c late=(match JiH t u c with|some b=>b|none=>late):=by
   have h1:=h.1;unfold Jbk JiH;by_cases e1:(nd t u).k=4
   ·rw[if_pos e1,if_pos e1]
   rw[if_neg e1,if_neg e1];by_cases e2:(nd t u).k=46\/(nd t u).k=47
   ·rw[if_pos e2,if_pos e2,h1 e2];simp
   rw[if_neg e2,if_neg e2];by_cases e3:(nd t u).k=28
   ·rw[if_pos e3,if_pos e3];by_cases e4:(nd t c).k=43
    ·rw[if_pos e4,e4];simp
    ·rw[if_neg e4];simp[e4]
   ·rw[if_neg e3,if_neg e3]
  rw[buL,bu_td (u::l) _ h.2,hs];simp only[G7,Hd,Gv,GN];rw[tdL_snoc]
section
variable(g:GoodT t o)
def upL (t:Tr)(top:Nat):Nat->Nat->Lx
 |0,n=>[n]
 |f+1,n=>if n=top then [n] else n::upL t top f (Kg t n).toNat
include g
theorem bound_below{j:Nat}(ha:a<t.nodes.length)(hk:(nd t a).k=48)(hb:blw o j a):j=a:=by
 rcases JbN g ha hb with h|⟨c,hc,_⟩
 ·exact h
 ·exfalso;have hl:=Jcu g ha hc;rw[hk]at hl;unfold Qo at hl;simp at hl
theorem bind_below{j:Nat}(ha:a<t.nodes.length)(hk:(nd t a).k=42)(hb:blw o j a):(nd t j).k=42\/(60<=(nd t j).k/\(nd t j).k<=64):=by
 rcases JbN g ha hb with rfl|⟨c,hc,Cb⟩
 ·exact .inl hk
 ·refine .inr ?_;have hl:=Jcu g ha hc;have hr:=(JC g ha hc).2;rw[hk]at hl;have Am:Jdo (nd t c).k=116:=by
   unfold Qo at hl
   dsimp only at hl
   rw[iN7,iN7,iN7,iN7,iN7,iN7,iN7,iN7,iN7]at hl
   split at hl
   ·simpa using hl
   ·simp at hl
  have h3:=Jc6 Am;exact JeT g c j om om om Cb
theorem JfZ{c j:Nat}(hu:u<t.nodes.length)(hk:(nd t u).k=46\/(nd t u).k=47)(hc:(c:Int)∈(nd t u).kids)(hb:blw o j c)(BR:1<=(nd t j).k/\(nd t j).k<=29):c=Jh t u:=by
 obtain⟨i,hi,DN,AA⟩:=JbB hc;have h3:=(Jt g hu hi).2.2;rw[DN]at h3;have hr:=(JC g hu hc).2;by_cases hl:i+1<(nd t u).kids.length
 ·exfalso;have Rk:(nd t c).k=48:=by
   rcases hk with e|e
   ·have h:=JdL g hu;change Qs (nd t u).k (nd t u).n (lets t.nodes (nd t u))=true at h;rw[e]at h;unfold Qs at h;rw[iN7,iN7,iN7,iN7,iN7,iN7,iN7,iN7,iN7,if_pos rfl]at h;simp only[Gd,beq_iff_eq,KP]at h;have:=Jam 79 48 (QQ hu h.1.2 (i:=i) om om).2 sM;rw[h3];exact this
   ·have h:=Jbm g hu e;change (nd t u).kids.length=3/\_ at h;have:=h.2.1 i om;rw[h3];exact this
  have:=bound_below g (show c<t.nodes.length by omega) Rk hb;subst this;omega
 ·have Aj:i=(nd t u).kids.length-1:=om
  rw[<-DN,Aj];rfl
theorem JcS {s j:Nat}(hs:s<t.nodes.length)(hk:(nd t s).k=41)(BR:1<=(nd t j).k/\(nd t j).k<=29):blw o j s↔blw o j (Jh t s):=by
 obtain⟨a,hN,hl,k1,k2⟩:=Y8 g hs hk;change (nd t s).kids.length=a+1 at hl;have hm:=Jt g hs (i:=(nd t s).kids.length-1) om
 constructor
 ·intro h;rcases JbN g hs h with rfl|⟨c,hc,hb⟩
  ·omega
  ·obtain⟨i,hi,DN,AA⟩:=JbB hc;by_cases Aj:i<a
   ·exfalso;have h3:=(Jt g hs hi).2.2;rw[DN]at h3;have:=k1 i Aj;change Jo t.nodes ((nd t s).kids.getD i 0)=42 at this;have:=bind_below g (show c<t.nodes.length by have:=(JC g hs hc).2;omega) om hb;omega
   ·have:i=(nd t s).kids.length-1:=om
    rw[<-DN,this]at hb;exact hb
 ·intro h;exact Kw g hs h (KE g hs hm.1)
end
section
variable(g:GoodT t o)
include g
theorem up_pairs {j:Nat}(BR:1<=(nd t j).k/\(nd t j).k<=29):∀(f c top:Nat),top<t.nodes.length->blw o c top->blw o j c->Jcv t (λu c=>(nd t u).k=46\/(nd t u).k=47->c=Jh t u) (upL t top f c)
 |0,_,_,_,_,_=>trivial
 |f+1,c,top,Bl,DC,UT=>by
  unfold upL;by_cases he:c=top
  ·rw[if_pos he];trivial
  ·rw[if_neg he];obtain⟨m,hp,eZ,EQ,Sn,hk⟩:=Xt g Bl DC he;rw[hp,Gb];have hm:m<t.nodes.length:=om
   have UR:=Kw g hm UT (KE g hm hk);have ih:=up_pairs BR f m top Bl Sn UR
   cases f with
   |zero=>
    refine⟨λh=>JfZ g hm h hk UT BR,?_⟩
    trivial
   |succ f=>
    unfold upL at ih|-;by_cases ES:m=top
    ·rw[if_pos ES]at ih|-;exact⟨λh=>JfZ g hm h hk UT BR,trivial⟩
    ·rw[if_neg ES]at ih|-;exact⟨λh=>JfZ g hm h hk UT BR,ih⟩
theorem late_eq {j s:Nat}(hs:s<t.nodes.length)(hk:(nd t s).k=41)(BR:1<=(nd t j).k/\(nd t j).k<=29)(hb:blw o j s)(f:Nat):buL t (upL t (Jh t s) f j) false=tdL t (upL t (Jh t s) f j).reverse false:=by
 have h1:=(JcS g hs hk BR).1 hb;obtain⟨a,hN,hl,_,_⟩:=Y8 g hs hk;change (nd t s).kids.length=a+1 at hl;have hm:=Jt g hs (i:=(nd t s).kids.length-1) om;have Ab:Jh t s<t.nodes.length:=by have:=hm.2.1;change Jh t s<s at this;omega
 have hj:j<t.nodes.length:=by have:=h1.1;omega
 exact bu_td _ _ (up_pairs g BR f j (Jh t s) Ab h1 (Q6 g hj))
end
def QN (t:Tr)(o:Lu)(of:Lu)(s:Nat):Lu:=(Qk t).filter λx=>(Ga t.nodes.length).any λi=>(nd t i).k == 3 && (decide (0<=of.getD i (-1)) && ((nd t (of.getD i (-1)).toNat).k == 42 && (JbO o i s && (Kg t (of.getD i (-1)).toNat == x && (Kg t x.toNat == Kg t s && !buL t (upL t (Jh t s) t.nodes.length i) false)))))
def Y3 (t:Tr)(o:Lu)(of:Lu)(s:Nat):Lu:=(Qk t).filter λx=>(Ga t.nodes.length).any λi=>(nd t i).k == 3 && (decide (0<=of.getD i (-1)) && (JbO o i (Jh t s) && ((nd t (of.getD i (-1)).toNat).k == 42 && (Kg t (of.getD i (-1)).toNat == x && (Kg t x.toNat == Kg t s && !tdL t (upL t (Jh t s) t.nodes.length i).reverse false)))))
theorem need_eq(g:GoodT t o){of:Lu}{s:Nat}(hs:s<t.nodes.length)(hk:(nd t s).k=41):QN t o of s=Y3 t o of s:=by
 unfold QN Y3;refine H6 λx _=>?_
 rw[Gl];simp only[Gw,Gi,Gd,beq_iff_eq,decide_eq_true_eq,GU,KM]
 constructor
 ·rintro⟨i,hi,h1,h2,h3,h4,h5,h6,h7⟩;have he:1<=(nd t i).k/\(nd t i).k<=29:=om
  exact⟨i,hi,h1,h2,(JcS g hs hk he).1 h4,h3,h5,h6,by rw[<-late_eq g hs hk he h4];exact h7⟩
 ·rintro⟨i,hi,h1,h2,h4,h3,h5,h6,h7⟩;have he:1<=(nd t i).k/\(nd t i).k<=29:=om
  have hb:=(JcS g hs hk he).2 h4;exact⟨i,hi,h1,h2,h3,hb,h5,h6,by rw[late_eq g hs hk he hb];exact h7⟩
def Jgb (N:Int->Lu):Nat->Lu->Lu->Lu
 |0,_,out=>out
 |_+1,[],out=>out
 |f+1,x::todo,out=>if out.contains x then Jgb N f todo out else Jgb N f (todo++N x) (out++[x])
def YE:Lu->Lu->Nat
 |[],_=>0
 |y::l,out=>(if out.contains y=true then 0 else 1)+YE l out
def muB (l todo out:Lu):Nat:=YE l out*(l.length+1)+todo.length
theorem left_le {out:Lu}:∀m:Lu,YE m (out++[x])<=YE m out
 |[]=>Gq _
 |y::m=>by
  have ih:=left_le (out:=out) m;simp only[YE];by_cases h1:out.contains y=true
  ·have h2:(out++[x]).contains y=true:=by simp at h1|-;exact .inl h1
   rw[if_pos h1,if_pos h2];omega
  ·rw[if_neg h1];split <;> omega
theorem YR {out:Lu}:∀{l:Lu},x∈l->out.contains x=false->YE l (out++[x])<YE l out
 |[],hx,_=>by cases hx
 |y::l,hx,hn=>by
  have Bd:=left_le (out:=out) (x:=x) l;simp only[YE];by_cases he:y=x
  ·subst he;have h2:(out++[y]).contains y=true:=sM
   rw[if_pos h2,if_neg (by rw[hn];simp)];omega
  ·have Bz:x∈l:=by
    rcases Gh.1 hx with h|h
    ·exact absurd h.symm he
    ·exact h
   have:=YR Bz hn;have h3:(out++[x]).contains y=out.contains y:=by rw[Gl];simp[he]
   rw[h3];omega
theorem JeK(hN:∀x∈l,(∀y∈N x,y∈l)/\(N x).length<=l.length):∀(f f':Nat) (todo out:Lu),(∀x∈todo,x∈l)->muB l todo out<f->muB l todo out<f'->Jgb N f todo out=Jgb N f' todo out
 |0,_,_,_,_,h,_=>om
 |_,0,_,_,_,_,h=>om
 |f+1,f' + 1,[],out,_,_,_=>rfl
 |f+1,f' + 1,x::todo,out,ht,h1,h2=>by
  simp only[Jgb];have hx:=ht x sM;by_cases hc:out.contains x=true
  ·rw[if_pos hc,if_pos hc];refine JeK hN f f' todo out (λy hy=>ht y (by simp[hy])) ?_ ?_ <;> (unfold muB at *;simp only[Gm]at *;omega)
  ·rw[if_neg hc,if_neg hc];have hl:=YR hx (by simpa using hc);have hn:=hN x hx;have hm:(YE l (out++[x])+1)*(l.length+1)<=YE l out*(l.length+1):=GX _ hl;refine JeK hN f f' (todo++N x) (out++[x]) (λy hy=>?_) ?_ ?_
   ·rcases Gj.1 hy with hy|hy
    ·exact ht y (by simp[hy])
    ·exact hn.1 y hy
   all_goals
    unfold muB at *;simp only[Gm,GI,Hr]at *;omega
def bfs (N:Int->Lu)(l todo out:Lu):Lu:=Jgb N (muB l todo out+1) todo out
theorem bfs_nil{out:Lu}:bfs N l [] out=out:=rfl
theorem bfs_old{out:Lu}(hN:∀x∈l,(∀y∈N x,y∈l)/\(N x).length<=l.length)(ht:∀y∈x::todo,y∈l)(hc:out.contains x=true):bfs N l (x::todo) out=bfs N l todo out:=by unfold bfs;rw[Jgb,if_pos hc];refine JeK hN _ _ todo out (λy hy=>ht y (by simp[hy])) ?_ (Li _);unfold muB;simp only[Gm];omega
theorem bfs_new{out:Lu}(hN:∀x∈l,(∀y∈N x,y∈l)/\(N x).length<=l.length)(ht:∀y∈x::todo,y∈l)(hc:out.contains x=false):bfs N l (x::todo) out=bfs N l (todo++N x) (out++[x]):=by
 unfold bfs;rw[Jgb,if_neg (by rw[hc];simp)];have hx:=ht x sM;have hl:=YR hx hc;have hn:=hN x hx;have hm:(YE l (out++[x])+1)*(l.length+1)<=YE l out*(l.length+1):=GX _ hl;refine JeK hN _ _ _ _ (λy hy=>?_) ?_ (Li _)
 ·rcases Gj.1 hy with hy|hy
  ·exact ht y (by simp[hy])
  ·exact hn.1 y hy
 ·unfold muB;simp only[Gm,GI,Hr]at *;omega
def JD (t:Tr)(o:Lu)(i:Nat):Int:=if (nd t i).k=3 then JgS t o i else if (nd t i).k=26 then Jcn t i else if (nd t i).k=44 then Jay t i else -1
def JN (t:Tr)(i:Nat):Bool:=(nd t i).k == 3 || (nd t i).k == 26 || (nd t i).k == 44
def Yc (t:Tr)(o:Lu)(a b:Int):Lx->Option (Nat×Int)
 |[]=>none
 |i::l=>if twN t i=true then some (i,a) else if (JN t i && JD t o i == -1)=true then some (i,b) else Yc t o a b l
def JhK (t:Tr)(o:Lu)(a b:Int):Lx->Option (Nat×Int)
 |[]=>none
 |i::l=>if (JN t i && decide (JD t o i<0))=true then some (i,b) else if twR t o i=true then some (i,a) else JhK t o a b l
theorem Jiq{q:Int->Bool}(h:∀x∈l,0<=x):(match l.find? q with|some d=>d|none=>-1)<0↔(match l.find? q with|some d=>d|none=>-1) = -1:=by
 cases hf:l.find? q with
 |none=>simp
 |some d=>have:=h d (List.mem_of_find?_eq_some hf);simp only;omega
theorem mean_neg:JD t o i<0↔JD t o i = -1:=by
 have h:∀x∈Qk t,0<=x:=λx hx=>(Kh.1 hx).1
 unfold JD
 split
 ·exact Jiq h
 split
 ·exact Jiq h
 split
 ·exact Jiq h
 ·omega
section
variable(g:GoodT t o)
include g
omit g in
theorem tw_next(hk:(nd t i).k=44)(h:twN t i=true):∃k,k<i/\(nd t k).k=44/\JD t o k=JD t o i:=by unfold twN at h;rw[if_neg (by rintro⟨h1,_⟩;exact h1 hk),Gw]at h;obtain⟨k,EA,hb⟩:=h;rw[if_pos hk]at hb;simp only[Gd,beq_iff_eq]at hb;obtain⟨h1,h2,h3⟩:=hb;refine⟨k,Gi.1 EA,h2,?_⟩;unfold JD;rw[hk,h2,if_neg vk,if_neg vk,if_pos rfl,if_neg vk,if_neg vk,if_pos rfl];unfold Jay;rw[h1,h3]
theorem scan_eq (a b:Int):∀(n m:Nat),n+m=t.nodes.length->(∀k,k<n->(JN t k && JD t o k == -1)=false)->Yc t o a b ((Ga t.nodes.length).drop n)=JhK t o a b ((Ga t.nodes.length).drop n)
 |n,0,Fb,_=>by rw[GD (by rw[GK];omega)];rfl
 |n,m+1,Fb,Ot=>by
  have Ab:n<(Ga t.nodes.length).length:=by rw[GK];omega
  rw[Gr Ab,GJ];have BF:n<t.nodes.length:=om
  have I7:(JN t n && decide (JD t o n<0))=(JN t n && JD t o n == -1):=by
   congr 1
   rw[Gl,decide_eq_true_eq,beq_iff_eq];exact mean_neg
  simp only[Yc,JhK];rw[I7,<-tw_eq g BF];by_cases h1:(JN t n && JD t o n == -1)=true
  ·rw[if_pos h1];by_cases h2:twN t n=true
   ·exfalso;have hk:(nd t n).k=44:=by
     unfold twN at h2;by_cases h3:(nd t n).k≠44/\KV (nd t n).k=false
     ·rw[if_pos h3]at h2;cases h2
     ·unfold JN at h1;simp only[Gd,Ho,beq_iff_eq]at h1;by_cases h4:(nd t n).k=44
      ·exact h4
      ·exfalso;apply h3;refine⟨h4,?_⟩;rcases h1.1 with (e|e)|e
       ·rw[e];rfl
       ·rw[e];rfl
       ·exact absurd e h4
    obtain⟨k,BL,Bv,Cv⟩:=tw_next (o:=o) hk h2;have hp:=Ot k BL;rw[Cv]at hp;unfold JN at hp h1;rw[Bv]at hp;simp only[Gd]at h1;rw[h1.2]at hp;simp at hp
   ·rw[if_neg h2,if_pos h1]
  ·rw[if_neg h1,if_neg h1];by_cases h2:twN t n=true
   ·rw[if_pos h2,if_pos h2]
   ·rw[if_neg h2,if_neg h2];refine scan_eq a b (n+1) m om λk hk=>?_
    by_cases BL:k<n
    ·exact Ot k BL
    ·have:k=n:=om
     subst this;simpa using h1
end
theorem Jf4{M:Int->Lu}(hN:∀x,q x->N x=M x/\∀y∈N x,q y):∀(f:Nat) (todo out:Lu),(∀x∈todo,q x)->Jgb N f todo out=Jgb M f todo out
 |0,_,_,_=>rfl
 |_+1,[],_,_=>rfl
 |f+1,x::todo,out,h=>by
  have hx:=hN x (h x sM);simp only[Jgb]
  split
  ·exact Jf4 hN f todo out λy hy=>h y (by simp[hy])
  ·rw[<-hx.1];refine Jf4 hN f _ _ λy hy=>?_
   rcases Gj.1 hy with hy|hy
   ·exact h y (by simp[hy])
   ·exact hx.2 y hy
def ofL (t:Tr)(o:Lu):Lu:=(Ga t.nodes.length).map λi=>JD t o i
def stN (t:Tr)(o:Lu)(i:Nat):Bool:=(nd t i).k == 41 && (bfs (λx=>QN t o (ofL t o) x.toNat) (Qk t) (QN t o (ofL t o) i) []).contains (i:Int)
def stR (t:Tr)(o:Lu)(i:Nat):Bool:=(nd t i).k == 41 && ((Qk t).filter λx=>(bfs (λx=>Y3 t o (ofL t o) x.toNat) (Qk t) (Y3 t o (ofL t o) i) []).contains x).contains (i:Int)
theorem nd_in(h:(nd t i).k≠0):i<t.nodes.length:=by
 rcases Ll i t.nodes.length with h1|h1
 ·exact h1
 ·exfalso;apply h;unfold nd;rw[Gc,GG h1];rfl
section
variable(g:GoodT t o)
include g
theorem Jb2 {of:Lu}{s:Nat}(h:x∈QN t o of s):0<=x/\x<t.nodes.length/\(nd t x.toNat).k=41:=by
 unfold QN at h;rw[Gp,Kh]at h;obtain⟨h0,h⟩:=h;simp only[Gw,Gi,Gd,beq_iff_eq,decide_eq_true_eq,GU,KM]at h;obtain⟨i,hi,h1,h2,h3,h4,h5,h6,h7⟩:=h;refine⟨h0.1,h0.2,?_⟩;generalize (of.getD i (-1)).toNat=m at h3 h5;have hm:=nd_in (t:=t) (i:=m) om;obtain⟨u,q1,q2,q3,q4⟩:=Ql g hm om;have:x.toNat=u:=om
 rw[this];exact(Yg (Jcu g q2 q4)).2.2.1 (by rw[h3];rfl)
theorem st_eq(hi:i<t.nodes.length):stN t o i=stR t o i:=by
 unfold stN stR;by_cases hk:(nd t i).k=41
 ·have hq:∀x:Int,(0<=x/\x<t.nodes.length/\(nd t x.toNat).k=41)->QN t o (ofL t o) x.toNat=Y3 t o (ofL t o) x.toNat/\∀y∈QN t o (ofL t o) x.toNat,(0<=y/\y<t.nodes.length/\(nd t y.toNat).k=41):=λx hx=>⟨need_eq g om hx.2.2,λy hy=>Jb2 g hy⟩
  rw[<-need_eq g hi hk];unfold bfs;rw[Jf4 hq _ _ _ λx hx=>Jb2 g hx]
  congr 1
  rw[Gl];simp only[Hw,decide_eq_true_eq,Gp,Kh]
  constructor
  ·intro h;exact⟨om,h⟩
  ·intro h;exact h.2
 ·have e:((nd t i).k == 41)=false:=by simpa using hk
  rw[e,Lh,Lh]
end
def QO (t:Tr)(o:Lu):Nat×Int:=match Yc t o 6 10 (Ga t.nodes.length) with
 |some r=>r
 |none=>match (Ga t.nodes.length).find? (stN t o) with
  |some i=>(i,9)
  |none=>(0,0)
def resR (t:Tr)(o:Lu):Nat×Int:=match JhK t o 6 10 (Ga t.nodes.length) with
 |some r=>r
 |none=>match (Ga t.nodes.length).find? (stR t o) with
  |some i=>(i,9)
  |none=>(0,0)
theorem res_eq(g:GoodT t o):QO t o=resR t o:=by
 have h:=scan_eq g 6 10 0 t.nodes.length om (λk hk=>by omega);rw[Lc]at h;have hf:∀l:Lx,(∀i∈l,i<t.nodes.length)->l.find? (stN t o)=l.find? (stR t o):=by
  intro l
  induction l with
  |nil=>intro _;rfl
  |cons i l ih=>intro hl;rw[Gx,Gx,st_eq g (hl i sM),ih λx hx=>hl x (by simp[hx])]
 unfold QO resR;rw[h,hf _ λi hi=>Gi.1 hi]
theorem Jf3(hq:∀x,q x->∀y∈N x,q y):∀(f:Nat) (todo out:Lu),(∀x∈todo,q x)->(∀x∈out,q x)->∀x∈Jgb N f todo out,q x
 |0,_,_,_,h2,x,hx=>h2 x hx
 |_+1,[],_,_,h2,x,hx=>h2 x hx
 |f+1,y::todo,out,h1,h2,x,hx=>by
  simp only[Jgb]at hx
  split at hx
  ·exact Jf3 hq f todo out (λz hz=>h1 z (by simp[hz])) h2 x hx
  ·refine Jf3 hq f _ _ (λz hz=>?_) (λz hz=>?_) x hx
   ·rcases Gj.1 hz with hz|hz
    ·exact h1 z (by simp[hz])
    ·exact hq y (h1 y sM) z hz
   ·rcases Gj.1 hz with hz|hz
    ·exact h2 z hz
    ·rw[Gn]at hz;rw[hz];exact h1 y sM
theorem JdQ(hN:∀x∈l,(∀y∈N x,y∈l)/\(N x).length<=l.length):∀(f:Nat) (todo out:Lu),(∀x∈todo,x∈l)->muB l todo out<f->(∀x∈out,∀y∈N x,y∈out\/y∈todo)->
  (∀x∈out,x∈Jgb N f todo out)/\(∀x∈todo,x∈Jgb N f todo out)/\∀x∈Jgb N f todo out,∀y∈N x,y∈Jgb N f todo out
 |0,_,_,_,h,_=>om
 |f+1,[],out,_,_,h3=>by
  simp only[Jgb];refine⟨λx hx=>hx,λx hx=>(by cases hx),λx hx y hy=>?_⟩;rcases h3 x hx y hy with h|h
  ·exact h
  ·cases h
 |f+1,x::todo,out,ht,h1,h3=>by
  simp only[Jgb];have hx:=ht x sM;by_cases hc:out.contains x=true
  ·rw[if_pos hc];have Og:x∈out:=by simpa using hc
   obtain⟨a1,a2,a3⟩:=JdQ hN f todo out (λy hy=>ht y (by simp[hy])) (by unfold muB at *;simp only[Gm]at *;omega) (λz hz y hy=>by
    rcases h3 z hz y hy with h|h
    ·exact .inl h
    ·rcases Gh.1 h with rfl|h
     ·exact .inl Og
     ·exact .inr h)
   refine⟨a1,λz hz=>?_,a3⟩;rcases Gh.1 hz with rfl|hz
   ·exact a1 _ Og
   ·exact a2 z hz
  ·rw[if_neg hc];have hl:=YR hx (by simpa using hc);have hn:=hN x hx;have hm:(YE l (out++[x])+1)*(l.length+1)<=YE l out*(l.length+1):=GX _ hl;obtain⟨a1,a2,a3⟩:=JdQ hN f (todo++N x) (out++[x]) (λy hy=>by
    rcases Gj.1 hy with hy|hy
    ·exact ht y (by simp[hy])
    ·exact hn.1 y hy) (by unfold muB at *;simp only[Gm,GI,Hr]at *;omega) (λz hz y hy=>by
    rcases Gj.1 hz with hz|hz
    ·rcases h3 z hz y hy with h|h
     ·exact .inl (by simp[h])
     ·rcases Gh.1 h with rfl|h
      ·exact .inl sM
      ·exact .inr (by simp[h])
    ·rw[Gn]at hz;subst hz;exact .inr (by simp[hy]))
   refine⟨λz hz=>a1 z (by simp[hz]),λz hz=>?_,a3⟩;rcases Gh.1 hz with rfl|hz
   ·exact a1 _ sM
   ·exact a2 z (by simp[hz])
def upT (t:Tr):Lu:=(Ga t.nodes.length).map λj=>Kg t j
def upTo (t:Tr)(i:Nat):Lu:=(Ga t.nodes.length).map λj=>if Kg t j<i then Kg t j else -1
def XK (v:Int):Lu->Lu->Lu
 |r,[]=>r
 |r,k::ks=>XK v (r.set k.toNat v) ks
theorem JbT:∀(ks r:Lu),(XK v r ks).length=r.length
 |[],_=>rfl
 |k::ks,r=>by rw[XK,JbT ks,Hg]
theorem Jcs{k:Int}:∀(ks r:Lu),XK v r (ks++[k])=(XK v r ks).set k.toNat v
 |[],_=>rfl
 |_::ks,_=>Jcs ks _
theorem JbU:∀(ks r:Lu) (j:Nat),(∀k∈ks,0<=k)->(XK v r ks)[j]? = if (j:Int)∈ks/\j<r.length then some v else r[j]?
 |[],_,_,_=>by simp[XK]
 |k::ks,r,j,h=>by
  rw[XK,JbU ks _ j λx hx=>h x (by simp[hx]),Hg,H5];have hk:=h k sM;by_cases h1:(j:Int)∈ks/\j<r.length
  ·rw[if_pos h1,if_pos ⟨by simp[h1.1],h1.2⟩]
  ·rw[if_neg h1];by_cases h2:k.toNat=j
   ·rw[if_pos h2];by_cases h3:j<r.length
    ·rw[iP7,if_pos ⟨by simp;left;omega,h3⟩]
    ·rw[iN7,if_neg (λh=>h3 h.2),GG om]
   ·rw[if_neg h2,if_neg];rintro⟨h3,h4⟩;rcases Gh.1 h3 with h5|h5
    ·omega
    ·exact h1 ⟨h5,h4⟩
def Yn (t:Tr)(i:Nat):Lu:=(Ga i).map (λj=>(Qn t j:Int))++Gg (t.nodes.length-i) 0
def Jek (t:Tr):Lu:=(Ga t.nodes.length).map λj=>(Qn t j:Int)
theorem itemTo_zero:Yn t 0=Gg t.nodes.length 0:=by simp[Yn]
theorem itemTo_all:Yn t t.nodes.length=Jek t:=by simp[Yn,Jek]
theorem JgY(h:i<=t.nodes.length):(Yn t i).length=t.nodes.length:=by simp[Yn];omega
theorem itemTo_succ(h:i<t.nodes.length):(Yn t i).set i (Qn t i:Int)=Yn t (i+1):=by unfold Yn;rw[List.set_append_right _ _ sM];simp only[La,GK,Nat.sub_self];rw[show t.nodes.length-i=(t.nodes.length-(i+1))+1 by omega,List.replicate_succ,List.set_cons_zero,List.range_succ,Hf];simp
theorem Y7:(upTo t i).length=t.nodes.length:=by simp[upTo]
theorem JeR:(upT t).length=t.nodes.length:=by simp[upT]
theorem Jdb:(Jek t).length=t.nodes.length:=by simp[Jek]
theorem upT_get(h:i<t.nodes.length):(upT t).getD i 0=Kg t i:=by simp[upT,Gc,h]
theorem itemT_get(h:i<t.nodes.length):(Jek t).getD i 0=Qn t i:=by simp[Jek,Gc,h]
section
variable(g:GoodT t o)
include g
theorem par_rng {j:Nat}(hj:j<t.nodes.length) : -1<=Kg t j/\Kg t j<t.nodes.length:=by rcases Q0 g hj with ⟨h,_⟩|⟨m,h,h1,h2,_⟩ <;> omega
theorem upTo_zero:upTo t 0=Gg t.nodes.length (-1):=by
 refine GM (by simp[upTo]) λj h1 h2=>?_
 have hj:j<t.nodes.length:=by rwa [Y7]at h1
 have:=par_rng g hj;simp only[upTo,He,GJ,List.getElem_replicate]
 split <;> omega
theorem upTo_all:upTo t t.nodes.length=upT t:=by
 refine GM (by simp[upTo,upT]) λj h1 h2=>?_
 have hj:j<t.nodes.length:=by rwa [Y7]at h1
 have:=par_rng g hj;simp only[upTo,upT,He,GJ]
 split <;> omega
theorem upTo_succ(hi:i<t.nodes.length):upTo t (i+1)=XK i (upTo t i) (nd t i).kids:=by
 refine List.ext_getElem? λj=>?_
 rw[JbU (nd t i).kids _ _ λk hk=>(g.kid hi hk).1,Y7];by_cases hj:j<t.nodes.length
 ·simp only[upTo,G9,List.getElem?_range hj,Gz];by_cases hm:(j:Int)∈(nd t i).kids
  ·have:=(JC g hi hm).1;rw[if_pos (show (j:Int)∈(nd t i).kids/\j<t.nodes.length from⟨hm,hj⟩),if_pos (show Kg t j<((i+1:Nat):Int) by omega),this]
  ·rw[if_neg (show ¬((j:Int)∈(nd t i).kids/\j<t.nodes.length) from λh=>hm h.1)];have Ag:Kg t j≠i:=by
    intro he;rcases Q0 g hj with ⟨h,_⟩|⟨m,h,_,_,h4⟩
    ·omega
    ·have:m=i:=om
     subst this;exact hm h4
   by_cases h1:Kg t j<i
   ·rw[if_pos h1,if_pos (show Kg t j<((i+1:Nat):Int) by omega)]
   ·rw[if_neg h1,if_neg (show ¬Kg t j<((i+1:Nat):Int) by omega)]
 ·rw[if_neg (λh=>hj h.2),GG (by rw[Y7];omega),GG (by rw[Y7];omega)]
theorem JgZ:Qn t 0=0:=by unfold Qn;rw[List.length_eq_zero_iff,G5];intro L hL;have:=g.itr hL;simp;omega
theorem itemN_step(hi:i<t.nodes.length):∃L:Nat,Qn t i<t.items.length/\t.items.getD (Qn t i) 0=(L:Int)/\i<=L/\L<t.nodes.length/\Qn t (i+1)=if i=L then Qn t i+1 else Qn t i:=by
 obtain⟨k,L,hk,AV,h1,h2,h3,h4⟩:=JaW g hi;have hL:(L:Int)∈t.items:=List.mem_of_getElem? AV;have lJ:=g.itr hL;refine⟨L,om,by rw[h1,Gc,AV];rfl,h4,om,?_⟩;rw[h1];have ha:=JaG g.ord.ok g.olen _ _ _ g.its;have Aw:t.items=t.items.take k++(L:Int)::t.items.drop (k+1):=by have h6:=Gr hk;have h7:=Gf hk;rw[AV]at h7;rw[<-Hm h7]at h6;rw[<-h6,Hu]
 rw[Aw,List.pairwise_append]at ha;obtain⟨_,Dr,lD⟩:=ha;rw[GH]at Dr;have Ab:∀x∈t.items.take k,x<(i:Int):=λx hx=>by have:=(QT g.ord.ok g.olen _ _ _ (YO g k (GY hk)).1 x hx).2.2.1;omega
 unfold Qn;rw[Aw,HY,List.filter_cons,Hy.2 (λx hx=>by have:=Ab x hx;simp;omega),G5.2 (λx hx=>by have:=Dr.1 x hx;simp;omega)];have Dm:(t.items.take k).length=k:=by rw[Gu];omega
 by_cases he:i=L
 ·rw[if_pos he,if_pos (by simp;omega),GI,Dm];rfl
 ·rw[if_neg he,if_neg (by simp;omega),Lb,Dm]
end
end Go.Cm
section
open Go.Proofs
namespace Go.Cm
variable {α:Type}{f:Nat}{l:Lu}{cap:Option Nat}
section
variable {P:Program}{E:Env}{H:Lt}
theorem putCells_get[Inhabited α](enc:α->Value)(off:Nat)(d:Array α)(c:LG)(k:Nat):(Sort.putCells enc off d c)[k]? = (c[k]?).map λx=>if off<=k/\k<off+d.size then enc d[k-off]! else x:=by simp[Sort.putCells]
theorem putRow_heap[Inhabited α](enc:α->Value)(w:World)(B off:Nat)(d:Array α){c:LG}{e:TypeId}{fr:Nat×Nat}(hb:w.heap[B]? = some (.cells c e fr)):(Sort.putRow enc w B off d).heap[B]? = some (.cells (Sort.putCells enc off d c) e fr):=by simp[Sort.putRow,Sort.mapBlock,Array.getElem?_modify,hb,Sort.onCells]
theorem putRow_other[Inhabited α](enc:α->Value)(w:World)(B off:Nat)(d:Array α)(B':Nat)(h:B'≠B):(Sort.putRow enc w B off d).heap[B']? = w.heap[B']?:=by simp[Sort.putRow,Sort.mapBlock,Array.getElem?_modify,Ne.symm h]
theorem rels_ints {own:LA}{imm:Nat->Nat->LD}:∀{ys:Lu}{vs:LF},JX own imm (ys.map (CV.int .i64)) vs->vs=ys.map (Value.int .i64)
 |[],_,h=>h
 |y::ys,_,h=>by simp only[GQ,JX,rel]at h;obtain⟨r,rs,rfl,rfl,h2⟩:=h;rw[rels_ints h2];rfl
theorem Jdl{id:Nat}{l' ys:Lu}{v:CV}(R:Nat->Nat->Nat->Value)(hl:l≠[])(Ad:l'.length=l.length)(hH:H[id]? = some (.arr 1 (iz l)))
  (hR:∀(own:LA) imm (x:Own) c,own[id]? = some x->x.z=1->l.length<=c->(∀n,cap=some n->c=n)->x.o+c<=x.n->rel own imm v (R x.B x.o c))
  (h:∀(blk off c:Nat) (w:World),l.length<=c->Sort.Holds (Value.int .i64) w blk off l.toArray->blk<w.heap.size->Calls P f (Value.slice (some ⟨blk,off,none⟩) l.length c::ys.map (Value.int .i64)).toArray w λe w'=>e=.returned (R blk off c)/\∃n os,w'=Sort.grow (Sort.putRow (Value.int .i64) (Sort.ahead w n) blk off l'.toArray) os) :
  CallsC P E f (.slc id 0 l.length cap::ys.map (CV.int .i64)) H λv' H'=>v'=v/\H'=H.set id (.arr 1 (iz l')):=by
 intro m w vs hs hv;have ll:0<l.length:=List.length_pos_iff.2 hl;simp only[JX,rel]at hv;obtain⟨r,rs,BK,⟨x,a,c,hx,rfl,CR,Bi,ha,Bu⟩,gQ⟩:=hv;obtain rfl:=rels_ints gQ;obtain⟨hz,cells,elem,hb,BX,Bd,AR,Bn⟩:=hs.obj id _ x hH hx;rw[hz]at Bd AR ha Bu;have ha:=ha om;rw[Lj,Hq]at ha;have BK:vs=(Value.slice (some a) l.length c::ys.map (Value.int .i64)).toArray:=by cases vs;simp only[]at BK;rw[BK]
 subst BK ha;have dU:∀j,j<l.length->cells[x.o+j]? = some (Value.int .i64 (l.getD j 0)):=by intro j hj;obtain⟨r,h1,h2⟩:=(AR j [.int .i64 (l.getD j 0)] (by simp[iz,Gf hj])).2 0 _ rfl;simp only[rel]at h2;subst h2;simpa using h1
 have hB:x.B<w.heap.size:=(Array.getElem?_eq_some_iff.1 hb).1;have PQ:Sort.Holds (Value.int .i64) w x.B x.o l.toArray:=by
  intro j hj;have Oz:j<l.length:=by simpa using hj
  refine⟨?_,?_⟩
  ·simp only[World.cell?,hb];rw[dU j Oz];simp[getElem!_pos,Oz,Gc]
  ·simp[World.frozen?,hb]
 refine⟨trivial,λcs _=>?_⟩;obtain⟨e,w',fr,⟨rfl,n,os,rfl⟩,Al,Ec⟩:=h x.B x.o c w CR PQ hB cs;have IG:(Sort.putRow (Value.int .i64) (Sort.ahead w n) x.B x.o l'.toArray).heap[x.B]? = some (.cells (Sort.putCells (Value.int .i64) x.o l'.toArray cells) elem (0,0)):=putRow_heap _ _ _ _ _ (by rw[Sort.heap_ahead];exact hb);have F7:(Sort.putRow (Value.int .i64) (Sort.ahead w n) x.B x.o l'.toArray).heap.size=w.heap.size:=by rw[Sort.size_putRow];rfl
 have Ia:∀B,B≠x.B->(Sort.putRow (Value.int .i64) (Sort.ahead w n) x.B x.o l'.toArray).heap[B]? = w.heap[B]?:=λB hB=>by rw[putRow_other _ _ _ _ _ _ hB];rfl
 have AV:∀k,(Sort.putCells (Value.int .i64) x.o l'.toArray cells)[k]? = if x.o<=k/\k<x.o+l.length then some (Value.int .i64 (l'.getD (k-x.o) 0)) else cells[k]?:=by
  intro k;rw[putCells_get];by_cases hk:x.o<=k/\k<x.o+l.length
  ·have h1:=dU (k-x.o) om;rw[show x.o+(k-x.o)=k by omega]at h1;have h3:k-x.o<l'.length:=om
   rw[h1,if_pos hk,Gz,if_pos (by simp;omega)];simp[getElem!_pos,h3,Gc]
  ·rw[if_neg hk]
   cases jI:cells[k]? with
   |none=>rfl
   |some v=>rw[Gz,if_neg (by simp;omega)]
 have Pb:Jab m.own m.imm x (.arr 1 (iz l')) (Sort.putRow (Value.int .i64) (Sort.ahead w n) x.B x.o l'.toArray):=by
  refine⟨hz,_,elem,IG,?_,?_,?_,?_⟩
  ·simp only[Sort.putCells,Array.size_mapIdx];exact BX
  ·rw[hz,Jf,Ad];rw[Jf]at Bd;exact Bd
  ·intro j e he;rw[hz];have hj:j<l'.length:=by
    have:=(GZ.1 he).1
    rwa [Jf]at this
   simp only[iz,G9,Gf hj,Gz,GA]at he;subst he;refine⟨rfl,λt c hc=>?_⟩
   cases t with
   |zero=>simp only[List.getElem?_cons_zero,GA]at hc;subst hc;refine⟨.int .i64 (l'[j]),?_,by simp only[rel]⟩;show (Sort.putCells (Value.int .i64) x.o l'.toArray cells)[x.o+j*1+0]? = _;rw[AV,iP7,show x.o+j*1+0-x.o=j by omega,Gc,Gf hj];rfl
   |succ t=>simp at hc
  ·intro i v hv;rw[AV]at hv
   split at hv
   ·simp only[GA]at hv;subst hv;rfl
   ·exact Bn i v hv
 have AP:(Sort.putRow (Value.int .i64) (Sort.ahead w n) x.B x.o l'.toArray).os=w.os/\(Sort.putRow (Value.int .i64) (Sort.ahead w n) x.B x.o l'.toArray).output=w.output/\(Sort.putRow (Value.int .i64) (Sort.ahead w n) x.B x.o l'.toArray).tape=w.tape:=⟨rfl,rfl,rfl⟩;have EP:=hs.put hH rfl hx F7 Ia (λi hi=>by simp only[World.cell?,IG,hb];rw[AV,if_neg (show ¬(x.o<=i/\i<x.o+l.length) by omega)]) Pb (by intro s b h;cases h);have Ik:Ext H.length m H w m (H.set id (.arr 1 (iz l'))) _:=Ext.put hH rfl hx F7 Ia AP;have hg:∀B,B<(Sort.putRow (Value.int .i64) (Sort.ahead w n) x.B x.o l'.toArray).heap.size->(Sort.grow (Sort.putRow (Value.int .i64) (Sort.ahead w n) x.B x.o l'.toArray) os).heap[B]? = (Sort.putRow (Value.int .i64) (Sort.ahead w n) x.B x.o l'.toArray).heap[B]?:=λB hB=>Sort.heap_grow_old _ _ hB
 have DR:(Sort.putRow (Value.int .i64) (Sort.ahead w n) x.B x.o l'.toArray).heap.size<=(Sort.grow (Sort.putRow (Value.int .i64) (Sort.ahead w n) x.B x.o l'.toArray) os).heap.size:=by rw[Sort.size_grow];omega
 exact⟨_,_,fr,⟨R x.B x.o c,m,v,_,rfl,Ik.trans (Ext.grown DR hg ⟨rfl,rfl,rfl⟩),EP.grown DR hg,hR _ _ x c hx hz CR Bi (by simp only[Nat.mul_one,Hq]at Bu;exact Bu),rfl,rfl⟩,(show StepsIn _ _ _ _ from Jhz Al),Ec⟩
theorem callsC_sort{id:Nat}(hl:l≠[])(Di:l.length<=1000000)(hH:H[id]? = some (.arr 1 (iz l)))
  (h:∀(blk off c:Nat) (w:World),Sort.Holds (Value.int .i64) w blk off l.toArray->blk<w.heap.size->l.length<4611686018427387904->Calls P f #[.slice (some ⟨blk,off,none⟩) l.length c] w λe w'=>e=.returned (.tuple #[])/\∃n os,w'=Sort.grow (Sort.putRow (Value.int .i64) (Sort.ahead w n) blk off (l.mergeSort λx y=>decide (x<=y)).toArray) os) :
  CallsC P E f [.slc id 0 l.length cap] H λv' H'=>v'=.tup []/\H'=H.set id (.arr 1 (iz (l.mergeSort λx y=>decide (x<=y)))):=
 Jdl (ys:=[]) (λ_ _ _=>.tuple #[]) hl (List.length_mergeSort _) hH (λown imm x c _ _ _ _ _=>by simp only[rel,JX];exact⟨_,rfl,rfl⟩) λblk off c w _ h1 h2=>h blk off c w h1 h2 om
theorem compact_len (l:Lu):(Lib.compact l).length<=l.length:=by
 unfold Lib.compact Lib.compactUpTo;rw[La];have:=List.length_filter_le (Lib.keeps l.toArray) (Ga l.length)
 rwa [GK]at this
theorem Jgm{id:Nat}(hl:l≠[])(Di:l.length<=1000000)(hH:H[id]? = some (.arr 1 (iz l)))
  (h:∀(blk off c:Nat) (w:World),Sort.Holds (Value.int .i64) w blk off l.toArray->l.length<=9223372036854775807->l.length<=c->Calls P f #[.slice (some ⟨blk,off,none⟩) l.length c] w λe w'=>e=.returned (.slice (some ⟨blk,off,none⟩) (Lib.compact l).length c)/\∃n,w'=Sort.putRow (Value.int .i64) (Sort.ahead w n) blk off (Lib.compact l++Gg (l.length-(Lib.compact l).length) 0).toArray) :
  CallsC P E f [.slc id 0 l.length cap] H λv' H'=>v'=.slc id 0 (Lib.compact l).length cap/\H'=H.set id (.arr 1 (iz (Lib.compact l++Gg (l.length-(Lib.compact l).length) 0))):=
 have Bd:=compact_len l
 Jdl (ys:=[]) (λblk off c=>.slice (some ⟨blk,off,none⟩) (Lib.compact l).length c) hl (by simp;omega) hH (λown imm x c hx hz hc Bi Bu=>by simp only[rel];exact⟨x,_,c,hx,rfl,om,Bi,λ_=>by rw[Lj,Hq],by rw[hz];omega⟩) λblk off c w hc h1 _=>(h blk off c w h1 om hc).mono λe w' ⟨h3,n,h4⟩=>⟨h3,n,#[],by rw[Sort.grow_empty];exact h4⟩
theorem JfS{x:Int}:x∈Lib.compact l↔x∈l:=by
 unfold Lib.compact Lib.compactUpTo;simp only[Gy,Gp,Gi]
 constructor
 ·rintro⟨i,⟨hi,_⟩,rfl⟩;rw[getElem!_pos l.toArray i (by simpa using hi)];simp
 ·intro hx;have key:∀(n i:Nat),i<=n->i<l.length->l.toArray[i]! = x->∃i,(i<l.length/\Lib.keeps l.toArray i=true)/\l.toArray[i]! = x:=by
   intro n
   induction n with
   |zero=>intro i h1 h2 h3;exact⟨i,⟨h2,by simp[Lib.keeps];left;omega⟩,h3⟩
   |succ n ih=>
    intro i h1 h2 h3;by_cases hk:Lib.keeps l.toArray i=true
    ·exact⟨i,⟨h2,hk⟩,h3⟩
    ·simp only[Lib.keeps,decide_eq_true_eq,not_or,ne_eq,Classical.not_not]at hk;exact ih (i-1) om om (by rw[<-hk.2];exact h3)
  obtain⟨i,hi,rfl⟩:=G6 hx;exact key i i (Gq _) hi (by rw[getElem!_pos l.toArray i (by simpa using hi)];simp)
theorem compact_asc(h:l.Pairwise (·<=·)):(Lib.compact l).Pairwise (· < ·):=by
 unfold Lib.compact Lib.compactUpTo;rw[HZ];refine List.Pairwise.imp_of_mem ?_ (Ht.filter _);intro a b ha hb Uk;simp only[Gp,Gi]at ha hb;have hk:=hb.2;simp only[Lib.keeps,decide_eq_true_eq]at hk;have hk:=hk.resolve_left om;have hg:∀i,i<l.length->l.toArray[i]! = l.getD i 0:=λi hi=>by rw[getElem!_pos l.toArray i (by simpa using hi),Gc,Gf hi];simp
 rw[hg b hb.1,hg (b-1) om]at hk;rw[hg a ha.1,hg b hb.1];rw[List.pairwise_iff_getElem]at h;have Bd:∀i j,i<=j->j<l.length->l.getD i 0<=l.getD j 0:=λi j Cw hj=>by
  rw[Gc,Gc,Gf hj,Gf (show i<l.length by omega)];by_cases he:i=j
  ·subst he;exact Int.le_refl _
  ·exact h i j _ _ om
 have h1:=Bd a (b-1) om om;have h2:=Bd (b-1) b om hb.1;omega
theorem sort_asc (l:Lu):(l.mergeSort λx y=>decide (x<=y)).Pairwise (·<=·):=by have:=List.pairwise_mergeSort (le:=λx y:Int=>decide (x<=y)) (λa b c h1 h2=>by simp at *;omega) (λa b=>by simp;omega) l;exact this.imp λh=>by simpa using h
theorem sort_mem{x:Int}:x∈(l.mergeSort λx y=>decide (x<=y))↔x∈l:=List.mem_mergeSort
theorem sort_strict(h:l.Nodup):(l.mergeSort λx y=>decide (x<=y)).Pairwise (· < ·):=by have h1:=sort_asc l;have h2:(l.mergeSort λx y=>decide (x<=y)).Nodup:=(List.mergeSort_perm l _).nodup_iff.2 h;exact(h1.and h2).imp λ⟨a,b⟩=>by have:_≠_:=b;omega
end
end Go.Cm
end
namespace Go.Cm
variable {t:Tr}{o:Lu}{a f i n top z:Nat}{q:Nat->Nat->Prop}{l:Lx}{els:LM}
def XW (t:Tr)(o:Lu)(of:Lu)(s:Nat):Lx->Lu
 |[]=>[]
 |i::l=>if (decide (0<=of.getD i (-1)) && ((nd t (of.getD i (-1)).toNat).k == 42 && ((nd t i).k == 3 && (JbO o i s && (Kg t (Kg t (of.getD i (-1)).toNat).toNat == Kg t s && !buL t (upL t (Jh t s) t.nodes.length i) false)))))=true
  then Kg t (of.getD i (-1)).toNat::XW t o of s l else XW t o of s l
theorem needC_app{of:Lu}{s:Nat}:∀(l m:Lx),XW t o of s (l++m)=XW t o of s l++XW t o of s m
 |[],_=>rfl
 |i::l,m=>by
  simp only[Gv,XW,needC_app l m]
  split <;> simp
theorem Jfo{of:Lu}{s:Nat}{x:Int}:∀(l:Lx),x∈XW t o of s l↔∃i∈l,(decide (0<=of.getD i (-1)) && ((nd t (of.getD i (-1)).toNat).k == 42 && ((nd t i).k == 3 && (JbO o i s && (Kg t (Kg t (of.getD i (-1)).toNat).toNat == Kg t s && !buL t (upL t (Jh t s) t.nodes.length i) false)))))=true/\Kg t (of.getD i (-1)).toNat=x
 |[]=>by simp[XW]
 |i::l=>by
  simp only[XW,Gh,exists_eq_or_imp]
  split
  ·rename_i h;rw[Gh,Jfo l]
   constructor
   ·rintro(e|e)
    ·exact .inl ⟨h,e.symm⟩
    ·exact .inr e
   ·rintro(⟨_,e⟩|e)
    ·exact .inl e.symm
    ·exact .inr e
  ·rename_i h;rw[Jfo l]
   constructor
   ·exact .inr
   ·rintro(⟨e,_⟩|e)
    ·exact absurd e h
    ·exact e
theorem Jfp{of:Lu}{s:Nat}:∀(l:Lx),(XW t o of s l).length<=l.length
 |[]=>Gq _
 |i::l=>by
  have:=Jfp (of:=of) (s:=s) l;simp only[XW]
  split <;> simp only[Gm] <;> omega
section
variable(g:GoodT t o)
include g
theorem blw_up{j:Nat}(hj:j<t.nodes.length)(ha:a<t.nodes.length)(Ag:j≠a):JbO o j a=if Kg t j<0 then false else JbO o (Kg t j).toNat a:=by
 rcases Q0 g hj with ⟨hp,_⟩|⟨m,hp,UR,hm,hk⟩
 ·rw[hp,if_pos vk,Lg];intro h;obtain⟨m,q,_⟩:=Xt g ha (KM.1 h) Ag;omega
 ·rw[hp,iN7,Gb,Gl,KM,KM]
  constructor
  ·intro h;obtain⟨m',q1,_,_,q4,_⟩:=Xt g ha h Ag;have:m'=m:=om
   rw[<-this];exact q4
  ·intro h;exact Kw g ha (KE g hm hk) h
omit g in
theorem Jht{m:Nat}:∃l,upL t top f m=m::l:=by
 cases f with
 |zero=>exact⟨_,rfl⟩
 |succ f=>unfold upL;split <;> exact⟨_,rfl⟩
omit g in
theorem late_end{late:Bool}:buL t (upL t top f top) late=late:=by
 cases f with
 |zero=>rfl
 |succ f=>unfold upL;rw[if_pos rfl];rfl
theorem late_step{s:Nat}{late:Bool}(hs:s<t.nodes.length)(Bl:(Jh t s:Int)∈(nd t s).kids)(hb:blw o a (Jh t s))(hf:t.nodes.length<=a+f) :
  (a=Jh t s/\Kg t a=s)\/(a≠Jh t s/\∃m f':Nat,Kg t a=m/\m≠s/\a<m/\m<t.nodes.length/\blw o m (Jh t s)/\(a:Int)∈(nd t m).kids/\t.nodes.length<=m+f'/\buL t (upL t (Jh t s) f a) late=buL t (upL t (Jh t s) f' m) (Jbk t m a late)):=by
 have hk:=JC g hs Bl;by_cases he:a=Jh t s
 ·exact .inl ⟨he,by rw[he];exact hk.1⟩
 ·have CK:Jh t s<t.nodes.length:=om
  obtain⟨m,q1,q2,q3,q4,q5⟩:=Xt g CK hb he;have Ao:a<t.nodes.length:=by have:=hb.1;omega
  obtain⟨f',rfl⟩:∃f',f=f' + 1:=⟨f-1,om⟩;refine .inr ⟨he,m,f',q1,om,q2,om,q4,q5,om,?_⟩;have hu:upL t (Jh t s) (f' + 1) a=a::upL t (Jh t s) f' m:=by rw[upL,if_neg he,q1,Gb]
  obtain⟨l,hl⟩:=Jht (top:=Jh t s) (f:=f') (m:=m);rw[hu,hl,buL]
theorem set_kid {s:Nat}(hs:s<t.nodes.length)(hk:(nd t s).k=41):(Jh t s:Int)∈(nd t s).kids/\0<(nd t s).kids.length:=by obtain⟨a,hN,hl,k1,k2⟩:=Y8 g hs hk;change (nd t s).kids.length=a+1 at hl;exact⟨(Jt g hs (i:=(nd t s).kids.length-1) om).1,om⟩
theorem need_done {of:Lu}{s:Nat}:Lib.compact ((XW t o of s (Ga t.nodes.length)).mergeSort λx y=>decide (x<=y))=QN t o of s:=by
 refine asc_eq (compact_asc (sort_asc _)) (JeM.filter _) λx=>?_
 unfold QN;rw[JfS,sort_mem,Jfo,Gp,Kh];simp only[Gw,Gi,Gd,beq_iff_eq,decide_eq_true_eq,GU]
 constructor
 ·rintro⟨i,hi,⟨h1,h2,h3,h4,h5,h6⟩,rfl⟩;have hm:=nd_in (t:=t) (i:=(of.getD i (-1)).toNat) om;obtain⟨u,q1,q2,q3,q4⟩:=Ql g hm om;exact⟨⟨om,om⟩,i,hi,h3,h1,h2,h4,rfl,h5,h6⟩
 ·rintro⟨_,i,hi,h3,h1,h2,h4,rfl,h5,h6⟩;exact⟨i,hi,⟨h1,h2,h3,h4,h5,h6⟩,rfl⟩
end
theorem pairs_get:∀(l:Lx) (k:Nat),Jcv t q l->k+1<l.length->q (l.getD (k+1) 0) (l.getD k 0)
 |[],_,_,h=>by simp at h
 |[x],_,_,h=>by simp at h
 |c::u::l,0,h,_=>h.1
 |c::u::l,k+1,h,hk=>by have:=pairs_get (u::l) k h.2 (by simpa using hk);simpa using this
theorem rev_get(h:i<l.length):l.reverse.getD i 0=l.getD (l.length-1-i) 0:=by rw[Gc,List.getElem?_reverse h,Gc]
theorem pairs_rev(h:Jcv t q l)(hi:i+1<l.reverse.length):q (l.reverse.getD i 0) (l.reverse.getD (i+1) 0):=by
 rw[List.length_reverse]at hi;rw[rev_get om,rev_get om];have:=pairs_get l (l.length-1-(i+1)) h om
 rwa [show l.length-1-(i+1)+1=l.length-1-i by omega]at this
theorem tdL_drop(hi:i+1<l.length):tdL t (l.drop i) false=match JiH t (l.getD i 0) (l.getD (i+1) 0) with|some b=>b|none=>tdL t (l.drop (i+1)) false:=by
 rw[Gr (show i<l.length by omega),Gr hi,tdL];simp only[Gc,Gf (show i<l.length by omega),Gf hi,GR]
 all_goals (cases JiH t l[i] l[i+1] <;> rfl)
theorem tdL_end(hi:l.length<=i+1):tdL t (l.drop i) false=false:=by
 rcases Ll i l.length with h|h
 ·rw[Gr h,GD om];rfl
 ·rw[GD h];rfl
def setL (b:LH):Lu:=((Ga b.length).filter λi=>b.getD i false).map λi:Nat=>(i:Int)
def K7 (n:Nat)(f:Int->Bool):LH:=(Ga n).map λi:Nat=>f i
theorem QW{f:Int->Bool}:(K7 n f).length=n:=by simp[K7]
theorem Jhi{f:Int->Bool}(h:i<n):(K7 n f).getD i false=f i:=by simp[K7,Gc,h]
theorem Jhh{g:Int->Bool}{f:Int->Bool}(h:i<n)(h1:∀j:Nat,j<n->j≠i->g j=f j)(h2:g i=true):(K7 n f).set i true=K7 n g:=by
 refine GM (by simp[K7]) λj a1 a2=>?_
 rw[QW]at a2;rw[List.getElem_set];simp only[K7,He,GJ]
 split
 ·rename_i e;subst e;exact h2.symm
 ·rename_i e;exact(h1 j a2 (λx=>e x.symm)).symm
theorem boolsN_congr{g:Int->Bool}{f:Int->Bool}(h:∀j:Nat,j<n->f j=g j):K7 n f=K7 n g:=by unfold K7;exact List.map_congr_left λj hj=>h j (Gi.1 hj)
theorem Jd5:K7 n (λ_=>false)=Gg n false:=by
 refine GM (by simp[K7]) λj a1 a2=>?_
 simp[K7]
theorem Jgz{f:Int->Bool}:setL (K7 t.nodes.length f)=(Qk t).filter f:=by
 unfold setL Qk;rw[List.filter_map,QW]
 congr 1
 refine H6 λi hi=>?_
 rw[Jhi (Gi.1 hi)];rfl
def Jcf (t:Tr)(o of:Lu)(s:Nat)(x:Int)(i:Nat):Bool:=(nd t i).k == 3 && (decide (0<=of.getD i (-1)) && (JbO o i (Jh t s) && ((nd t (of.getD i (-1)).toNat).k == 42 && (Kg t (of.getD i (-1)).toNat == x && (Kg t x.toNat == Kg t s && !tdL t (upL t (Jh t s) t.nodes.length i).reverse false)))))
theorem needR_eq{of:Lu}{s:Nat}:Y3 t o of s=setL (K7 t.nodes.length λx=>(Ga t.nodes.length).any (Jcf t o of s x)):=by rw[Jgz];rfl
section
variable(g:GoodT t o)
include g
theorem up_kids:∀(f c top:Nat),top<t.nodes.length->blw o c top->Jcv t (λu c=>(c:Int)∈(nd t u).kids/\u<t.nodes.length) (upL t top f c)
 |0,_,_,_,_=>trivial
 |f+1,c,top,Bl,DC=>by
  unfold upL;by_cases he:c=top
  ·rw[if_pos he];trivial
  ·rw[if_neg he];obtain⟨m,hp,eZ,EQ,Sn,hk⟩:=Xt g Bl DC he;rw[hp,Gb];have hm:m<t.nodes.length:=om
   have ih:=up_kids f m top Bl Sn;obtain⟨l,hl⟩:=Jht (top:=top) (f:=f) (m:=m);rw[hl]at ih|-;exact⟨⟨hk,hm⟩,ih⟩
theorem up_rng:∀(f c top:Nat),top<t.nodes.length->blw o c top->∀x∈upL t top f c,x<t.nodes.length
 |0,c,top,Bl,DC,x,hx=>by simp only[upL,Gn]at hx;have:=DC.1;omega
 |f+1,c,top,Bl,DC,x,hx=>by
  unfold upL at hx;have:=DC.1;by_cases he:c=top
  ·rw[if_pos he,Gn]at hx;omega
  ·rw[if_neg he]at hx;obtain⟨m,hp,eZ,EQ,Sn,hk⟩:=Xt g Bl DC he;rw[hp,Gb]at hx;rcases Gh.1 hx with h|h
   ·omega
   ·exact up_rng f m top Bl Sn x h
theorem way_step(Bl:top<t.nodes.length)(hb:blw o a top)(hf:t.nodes.length<=a+f)(Ag:a≠top):∃m f':Nat,Kg t a=m/\a<m/\m<t.nodes.length/\blw o m top/\t.nodes.length<=m+f'/\∀w:Lx,(upL t top f a).tail.reverse++w=(upL t top f' m).tail.reverse++(m::w):=by obtain⟨m,q1,q2,q3,q4,q5⟩:=Xt g Bl hb Ag;obtain⟨f',rfl⟩:∃f',f=f' + 1:=⟨f-1,by have:=hb.1;omega⟩;refine⟨m,f',q1,q2,om,q4,om,λw=>?_⟩;obtain⟨l,hl⟩:=Jht (top:=top) (f:=f') (m:=m);rw[upL,if_neg Ag,q1,Gb,Hl,hl,Hl,G7,Hd];rfl
omit g in
theorem way_start:(upL t top f a).reverse=(upL t top f a).tail.reverse++[a]:=by obtain⟨l,hl⟩:=Jht (top:=top) (f:=f) (m:=a);rw[hl,G7,Hl]
omit g in
theorem way_end:(upL t top f top).tail=[]:=by
 cases f with
 |zero=>rfl
 |succ f=>rw[upL,if_pos rfl];rfl
theorem up_len(Bl:top<t.nodes.length)(hb:blw o a top)(hf:t.nodes.length<=a+f):(upL t top f a).length<=t.nodes.length-a:=by
 induction f generalizing a with
 |zero=>have:=hb.1;omega
 |succ f ih=>
  unfold upL;have:=hb.1;by_cases he:a=top
  ·rw[if_pos he];simp;omega
  ·rw[if_neg he];obtain⟨m,q1,q2,q3,q4,q5⟩:=Xt g Bl hb he;rw[q1,Gb,Gm];have:=ih q4 om;omega
end
section
variable {P:Program}{E:Env}{n0:Nat}{N:Fr}{Q:Exit->Ls->Lt->Prop}{H:Lt}{T:Ls}{k:LJ}{m:Bk}{w:World}
theorem JhH {id k:Nat}{o o':CObj}(h:(H.set id o')[k]? = some o):(k=id/\o=o')\/(k≠id/\H[k]? = some o):=by
 rw[H5]at h
 split at h
 ·rename_i e
  split at h
  ·exact .inl ⟨e.symm,(Hm h).symm⟩
  ·cases h
 ·rename_i e;exact .inr ⟨λx=>e x.symm,h⟩
theorem Sim.trunc{id:Nat}(hs:Sim E m H w)(hH:H[id]? = some (.arr z els))(j:Nat):Sim E m (H.set id (.arr z (els.take j))) w/\Ext n0 m H w m (H.set id (.arr z (els.take j))) w:=by
 have key:∀(k:Nat) o,(H.set id (.arr z (els.take j)))[k]? = some o->∃o',H[k]? = some o'/\o'.alive=o.alive/\(k≠id->o'=o):=by
  intro k o h;rcases JhH h with ⟨rfl,rfl⟩|⟨h1,h2⟩
  ·exact⟨_,hH,rfl,λh=>absurd rfl h⟩
  ·exact⟨o,h2,rfl,λ_=>rfl⟩
 refine⟨⟨by rw[Hg];exact hs.len,λk o x hk hx=>?_,hs.imm,hs.one,λk k' o o' x x' hk AL ha AX hx Av hB=>?_,λk o x hk ha hx=>?_,λk s b hk=>?_,λk o x hk ha hx=>?_,hs.extlt,hs.gl⟩,
  ⟨Gq _,λ_ _ _=>rfl,KN.refl _,λB hB=>.inl ?_,λB i v hv=>.inl hv,λk x _ hx=>hx,λh=>h,rfl,rfl,rfl⟩⟩
 ·rcases JhH hk with ⟨rfl,rfl⟩|⟨_,h2⟩
  ·obtain⟨hz,c,elem,h1,h2,h3,h4,h5⟩:=hs.obj k _ x hH hx;refine⟨hz,c,elem,h1,h2,?_,λi e he=>?_,h5⟩
   ·have:(els.take j).length*x.z<=els.length*x.z:=GX _ (by rw[Gu];omega);omega
   ·have Cw:i<j:=by have:=(GZ.1 he).1;rw[Gu]at this;omega
    rw[HV,if_pos Cw]at he;exact h4 i e he
  ·exact hs.obj k o x h2 hx
 ·obtain⟨p,hp,CY,_⟩:=key k o hk;obtain⟨p',E9,I1,_⟩:=key k' o' AL;exact hs.sep k k' p p' x x' hp E9 (CY.trans ha) (I1.trans AX) hx Av hB
 ·obtain⟨p,hp,CY,_⟩:=key k o hk;exact hs.ro k p x hp (CY.trans ha) hx
 ·rcases JhH hk with ⟨_,h2⟩|⟨_,h2⟩
  ·cases h2
  ·exact hs.ext k s b h2
 ·obtain⟨p,hp,CY,_⟩:=key k o hk;exact hs.extsep k p x hp (CY.trans ha) hx
 ·rcases hB with h|⟨k,o,x,hk,ha,hx,hB⟩
  ·exact .inl h
  ·obtain⟨p,hp,CY,_⟩:=key k o hk;exact .inr ⟨k,p,x,hp,CY.trans ha,hx,hB⟩
theorem CallsC.trunc{id j:Nat}{args:Ls}{v:CV}{R R':CV->Lt->Prop}(h:CallsC P E f args H R)(hR:∀v H',R v H'->R' v H'\/∃id z els j,H'[id]? = some (.arr z els)/\R' v (H'.set id (.arr z (els.take j)))):CallsC P E f args H R':=by
 intro m w vs hs hv;refine(h m w vs hs hv).mono ?_;rintro e w' ⟨r,m',v,H',h1,h2,h3,h4,h5⟩;rcases hR _ _ h5 with g|⟨id,z,els,j,g1,g2⟩
 ·exact⟨r,m',v,H',h1,h2,h3,h4,g⟩
 ·obtain⟨t1,t2⟩:=h3.trunc (n0:=H.length) g1 j;exact⟨r,m',v,_,h1,h2.trans t2,t1,h4,g2⟩
def rowW (id:Nat)(els:LM):CV:=.slc id 0 els.length (JaJ els)
def Jga (P:Program)(f:Nat)(args:Ls)(z:Nat)(els:LM):Prop:=∀(E:Env) (H:Lt),CallsC P E f args H λv H'=>v=rowW H.length els/\H'=H++[.arr z els]
theorem rowW_shift(i n:Nat){own own':LA}{imm:Nat->Nat->LD}{r:Value}(ho:∀(k:Nat) x,own[k]? = some x->own'[n+k]? = some x)(h:rel own imm (rowW i els) r):rel own' imm (rowW (n+i) els) r:=by simp only[rowW,rel]at h|-;obtain⟨x,a,c,hx,g⟩:=h;exact⟨x,a,c,ho _ _ hx,g⟩
theorem JfH{args:Ls}(h:CallsC P Env.none f args [] λv H'=>∃id,v=rowW id els/\H'[id]? = some (.arr z els))(ha:Jp args=true)(hc:Jq els=true):Jga P f args z els:=λE H=>by
 refine CallsC.frameG (mk:=λn=>rowW n els) (G:=[.arr z els]) (h.ren λv H' ⟨id,hv,hH⟩=>⟨[id],?_,?_,?_⟩) ha (λo ho=>by simp only[Gn]at ho;rw[ho];exact .inr ⟨_,_,rfl,hc⟩) λn own own' imm r ho h=>rowW_shift 0 n ho h
 ·have:=(GZ.1 hH).1;simp[JdC,this]
 ·rw[hv];simp[rowW,ren,Jm]
 ·simp only[Ko,GQ,Lf,Gc,hH,GR,Jj,Ja hc]
theorem Jga.fn{args:Ls}(h:Jga P f args z els)(ha:Jp args=true)(hc:Jq els=true):Fn P f args (.rslc z els none):=by refine YW (((h Env.none []).mono λv H' ⟨h1,h2⟩=>?_)) ha rfl;subst h1 h2;refine .inr ⟨0,z,els,rfl,hc,?_⟩;simp only[rowW,frz,H9,if_true,Nat.zero_add,Gq,Lc,List.take_length];exact wk.refl _
theorem vr_rowW {d:Option Nat}{g:Option (Nat×Bool)}{xa:LK}{l:LB}(hg:GOk T g)(Af:Jga P f (xa.map (Ke T)) z els)(h:KA P E n0 N Q (.ops l::k) (put T d (rowW H.length els)) (H++[.arr z els])):Ok P E n0 N Q (.ops (⟨d,.call f xa,g⟩::l)::k) T H:=Ky hg (Af E H) λv H' ⟨h1,h2⟩=>by rw[h1,h2];exact h
end
end Go.Cm
section
set_option maxRecDepth 100000
open Go.RowKit Go.Proofs
namespace Go.Cm
variable {cap:Option Nat}{k m:Nat}
theorem inrU64 {x:Int}(h1:0<=x)(h2:x<=18446744073709551615):InR .u64 x:=⟨h1,h2⟩
section
variable {P:Program}{E:Env}{H:Lt}{T:Ls}
theorem CallsC.wk {f:Nat}{args:Ls}{R R':CV->Lt->Prop}(h:CallsC P E f args H R)(hR:∀v H',R v H'->∃v',Cm.wk v v'/\R' v' H'):CallsC P E f args H R':=by intro m w vs hs hv;refine(h m w vs hs hv).mono ?_;rintro e w' ⟨r,m',v,H',h1,h2,h3,h4,h5⟩;obtain⟨v',w1,w2⟩:=hR _ _ h5;exact⟨r,m',v',H',h1,h2,h3,w1 _ _ _ h4,w2⟩
theorem wk_cap {i o l c:Nat}:wk (.slc i o l (some c)) (.slc i o l none):=by intro own imm v h;simp only[rel]at h|-;obtain⟨x,a,c',h1,h2,h3,h4,h5⟩:=h;exact⟨x,a,c',h1,h2,h3,λ_ h=>(by cases h),h5⟩
theorem hs_sl {d:Option Nat}{z:Nat}{x:IArg}{lo hi mx:Option IArg}{id off len:Nat}{c:Cond}{v:CV}(ha:Ke T x=.slc id off len cap)(he:exec (.slice z x lo hi mx) T H=some (c,v,H))(hc:c.holds) :
  HS P E ⟨d,.slice z x lo hi mx,none⟩ T H v H (.on [id+1],.on []):=by
 refine⟨λ_ _=>rfl,λT2 H2 Dk hx=>⟨H2,λy hy=>(by cases hy),λ_ _=>rfl,λ_ _ _ _ _ Aq=>?_⟩⟩;have hH:H2[id]? = H[id]?:=by have:=hx (id+1) (by simp[Foot.has]);simpa [hat]using this
 have hE:∀lo hi mx,Yh z H2 (.slc id off len cap) lo hi mx=Yh z H (.slc id off len cap) lo hi mx:=λlo hi mx=>by simp only[Yh,hH]
 have ES:exec (.slice z x lo hi mx) T2 H2=some (c,v,H2):=by
  rw[<-QM (Jl Dk).2];simp only[exec,ha,hE]at he|-
  split at he
  ·split at he
   ·rename_i h1;simp only[GA,Prod.mk.injEq]at he;obtain⟨rfl,rfl,_⟩:=he;simp[]
   ·cases he
  ·cases he
 exact Jfm (.inl rfl) ES hc Aq
theorem sortRow {id:Nat}{l:Lu}(hl:l≠[])(Di:l.length<=1000000)(hH:H[id]? = some (.arr 1 (iz l))):CallsC Gt E 175 [.slc id 0 l.length cap] H λv' H'=>v'=.tup []/\H'=H.set id (.arr 1 (iz (l.mergeSort λx y=>decide (x<=y)))):=callsC_sort hl Di hH λblk off c w h1 h2 h3=>Tryz.slices_Sort_int blk off c l w h1 h2 h3
theorem compactRow {id:Nat}{l:Lu}(hl:l≠[])(Di:l.length<=1000000)(hH:H[id]? = some (.arr 1 (iz l))):CallsC Gt E 179 [.slc id 0 l.length cap] H λv' H'=>v'=.slc id 0 (Lib.compact l).length cap/\H'=H.set id (.arr 1 (iz (Lib.compact l++Gg (l.length-(Lib.compact l).length) 0))):=Jgm hl Di hH λblk off c w h1 h2 h3=>Tryz.slices_Compact_int blk off c l w h1 h2 h3
theorem sortNil:Fn Gt 175 [.nils] (.tup []):=by
 intro E H;refine Qb λm w vs hs hv=>?_
 simp only[JX,rel]at hv;obtain⟨r,rs,e,rfl,rfl⟩:=hv;have BK:vs=#[.slice none 0 0]:=by cases vs;simp_all
 subst BK;exact⟨_,(Tryz.slices_Sort_int_none none 0 w).mono λe w' ⟨h1,h2⟩=>⟨h1,by rw[h2];exact Below.refl _ _⟩,by simp only[rel,JX];exact⟨_,rfl,rfl⟩⟩
theorem compactNil:Fn Gt 179 [.nils] .nils:=by
 intro E H;refine Qb λm w vs hs hv=>?_
 simp only[JX,rel]at hv;obtain⟨r,rs,e,rfl,rfl⟩:=hv;have BK:vs=#[.slice none 0 0]:=by cases vs;simp_all
 subst BK;exact⟨_,(Tryz.slices_Compact_int_empty none 0 w).mono λe w' ⟨h1,h2⟩=>⟨h1,by rw[h2];exact Below.refl _ _⟩,by simp only[rel]⟩
theorem mulOne (m:Nat)(hm:m<18446744073709551616):Fn Gt 172 [.int .u64 1,.int .u64 (m:Int)] (.tup [.int .u64 0,.int .u64 (m:Int)]):=by
 intro E H;refine Qb λm' w vs hs hv=>?_
 simp only[JX,rel]at hv;obtain⟨r,rs,e,rfl,r2,rs2,rfl,rfl,rfl⟩:=hv;have BK:vs=#[.int .u64 ((1:Nat):Int),.int .u64 (m:Int)]:=by cases vs;simp_all
 subst BK;have h:=Tryz.bits_Mul 1 m om hm w;rw[Nat.one_mul,Nat.div_eq_of_lt hm,Nat.mod_eq_of_lt hm]at h;exact⟨_,h.mono λe w' ⟨h1,h2⟩=>⟨h1,by rw[h2];exact Below.refl _ _⟩,by simp only[rel,JX];exact⟨_,rfl,_,_,rfl,rfl,_,_,rfl,rfl,rfl⟩⟩
end
def repS (v:Int)(m k:Nat):Lu:=Gg k v++Gg (m-k) 0
theorem repS_len {v:Int}(h:k<=m):(repS v m k).length=m:=by simp[repS];omega
theorem repS_step {v:Int}{q:Nat}(h:k+q<=m)(hq:q<=k):(iz (repS v m k)).take k++((((iz (repS v m k)).take k).take q)++(iz (repS v m k)).drop (k+q))=iz (repS v m (k+q)):=by
 have h1:(repS v m k).take k=Gg k v:=by unfold repS;rw[List.take_left' sM]
 have h2:(repS v m k).drop (k+q)=Gg (m-(k+q)) 0:=by
  unfold repS;rw[List.drop_append,GD sM,List.length_replicate,GN,Hz]
  congr 1;omega
 unfold iz;rw[<-Ld,<-Ld,<-List.map_drop,<-Hf,<-Hf,h1,h2,List.take_replicate,Nat.min_eq_left hq,<-Hd,List.replicate_append_replicate];rfl
theorem repeatO (v:Int)(m:Nat)(hm:m<=100000)(E:Env)(H:Lt):CallsC Gt E 129 [.rslc 1 (iz [v]) none,.int .i64 (m:Int)] H λv' H'=>v'=.slc H.length 0 m none/\H'=H++[.arr 1 (iz (Gg m v))]:=by
 refine CallsC.frameG (mk:=λn=>.slc n 0 m none) (G:=[.arr 1 (iz (Gg m v))]) (CallsC.wk (R:=λv' H'=>v'=.slc 0 0 m (some m)/\H'=[.arr 1 (iz (Gg m v))]) (J8 c129_ok λN=>?_) λv' H' ⟨e1,e2⟩=>⟨.slc 0 0 m none,by rw[e1];exact wk_cap,rfl,e2⟩) rfl (λo ho=>by simp only[Gn]at ho;rw[ho];exact .inr ⟨_,_,rfl,Jd _⟩) (λn own own' imm r ho h=>by simp only[rel]at h|-;obtain⟨x,a,c,hx,g⟩:=h;exact⟨x,a,c,ho _ _ hx,g⟩)
 have d0:((m:Int)<0)=False:=Kq;have d1:((m:Int) > 9223372036854775807)=False:=Kq;have d1':((9223372036854775807:Int)<(m:Int))=False:=Kq;have dm:decide ((9223372036854775807:Int)<(m:Int))=false:=decide_eq_false om;simp -implicitDefEqProofs only[c129,go_sem,d0,iz,GQ,Lf,Gm,H9];refine⟨inrU64 om om,inrU64 om om,?_⟩;refine Kk (mulOne m om) ?_;simp -implicitDefEqProofs only[go_sem,d1];refine⟨Ji,⟨om,Int.le_refl _,om,om⟩,sM,?_⟩;refine JO (I:=λk:Nat=>(m=0\/1<=k)/\k<=m) (inv:=λk=>gp [(7,.slc 0 0 m (some m)),(0,.int .i64 (k:Int))] 39) (hp:=λk=>[.arr 1 (iz (repS v m k))]) (μ:=λk=>m-k) (min 1 m) ⟨om,om⟩ ?_ ?_ ?_
 ·simp[forget,gp]
 ·rcases Nat.eq_zero_or_pos m with rfl|h
  ·simp[repS,iz]
  ·rw[show min 1 m=1 by omega];simp[repS,iz,Hz]
 ·rintro k ⟨Dg,Am⟩;by_cases Ab:k<m
  ·have e1:=dtT k m;obtain⟨q,hq⟩:∃q,q=min k (m-k):=⟨_,rfl⟩;have iV:q<=k:=om
   have Al:=repS_step (v:=v) (m:=m) (k:=k) (q:=q) om iV;have hL:(iz (repS v m k)).length=m:=by rw[Jf,repS_len Am]
   simp -implicitDefEqProofs only[go_sem,e1];refine JbR [Foot.no,Foot.no,Foot.no,(.on [1],.on []),Foot.no,Foot.no,(.on [1],.on []),Foot.any,Foot.no,Foot.no] Jr vM ?_;refine⟨_,_,Jan rfl rfl trivial,_,_,Jan rfl rfl trivial,_,_,Jan rfl rfl trivial,_,_,hs_sl (id:=0) (off:=0) (len:=m) (cap:=some m) rfl rfl ?_,_,_,Jan rfl rfl trivial,_,_,Jan rfl rfl trivial,_,_,hs_sl (id:=0) (off:=0) (len:=m) (cap:=some m) rfl rfl ?_,.int .i64 (q:Int),[.arr 1 (iz (repS v m (k+q)))],?_,_,_,Jan rfl rfl ?_,_,_,Jan rfl rfl trivial,?_⟩
   ·show 0<=(k:Int)/\(k:Int)<=(m:Int)/\(m:Int)<=(m:Int);omega
   ·show 0<=(0:Int)/\(0:Int)<=(k:Int)/\(k:Int)<=(m:Int);omega
   ·refine hs_any (.inl rfl) (c:=.le m m) ?_ (Gq m);simp -implicitDefEqProofs only[go_sem];have hx:(List.take k (iz (repS v m k))).length=k:=by rw[Gu,hL];omega
    rw[Nat.sub_zero,iP7];simp only[hx,hL,<-hq,Al];rw[show k+(m-k)=m by omega]
   ·exact Ji
   ·simp -implicitDefEqProofs only[vdf,go_sem];refine⟨k+q,⟨om,om⟩,om,?_⟩;simp[forget]
  ·have e1:=dfF k m;have Cv:k=m:=om
   subst Cv;simp -implicitDefEqProofs only[go_sem,e1];simp[repS,iz]
end Go.Cm
end
end
