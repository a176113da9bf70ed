/-
  A part of the proof. Conditions: none.
-/
import Derived.Test.YtdnnimemociklaaGreatDoorVP12
import Derived.Lib.SlicesCompact
set_option linter.unusedSimpArgs false
set_option linter.unusedVariables false
open List renaming getD_eq_getElem?_getD->Gc,getElem?_eq_getElem->Gf,replicate->Gg,range->Ga,mem_range->Gh,drop_eq_getElem_cons->Gq,mem_cons->Gi,length_cons->Gl,mem_replicate->Gr,mem_filter->Gm,mem_append->Gn,mem_singleton->Gt,drop_of_length_le->GD,getElem?_eq_none->GG,length_take->Gu,cons_append->Gv,any_eq_true->Gw,find?_cons->Gx,pairwise_cons->GH,getElem_range->GI,getElem?_eq_some_iff->GX,length_range->GJ,getElem_mem->GK,ext_getElem->GL,filter_eq_nil_iff->GY,nil_append->GM,mem_map->Gy,getElem_of_mem->GZ,map_cons->GN,length_append->G5,reverse_cons->G6,nodup_append->G7,getElem?_map->G8,find?_filter->G9,append_assoc->Ha,getElem_map->Hd,map_append->He,length_set->Hf,tail_cons->Hg,pairwise_lt_range->Hr,take_append_drop->Ht,contains_eq_mem->Hu,filter_eq_self->Hw,drop_replicate->Hy,getElem?_take->Hz,filter_append->HV,pairwise_map->HY,getElem?_set->HZ,filter_congr->H5,mem_flatten->H6,nodup_cons->H7,length_nil->H8,length_map->H9,append_nil->La,drop_zero->Lb,map_take->Lc,any_cons->Ld,map_nil->Le
open Option renaming map_some->Gz,getD_some->GQ
open Option.some renaming injEq->GA,inj->Hl
open Bool renaming and_eq_true->Gd,eq_iff_iff->Gj,not_eq_true'->GR,or_eq_true->Hm,eq_false_iff->Lf,false_and->Lg
open Int renaming toNat_natCast->Gb,toNat_of_nonneg->GU
open Nat renaming le_refl->Gp,mul_le_mul_right->Ho,le_of_lt->GV,add_zero->Hq,lt_succ_self->Lh,zero_mul->Li,lt_or_ge->Lj
open Go.Proofs.Tryz renaming prog->Gs
noncomputable section
namespace Go.Cm
variable {a d i k m n u:Nat}{t:Tr}{l o todo:Lu}{v x:Int}{N:Int->Lu}
theorem Y6 {k : Nat}(c : UInt8)(m : Nat)(h : JdF k = c)(hm : (c, m) ∈ ([(66, 40), (83, 41), (98, 42), (73, 43), (78, 44), (71, 45), (79, 48), (80, 64)] : List (UInt8 × Nat))) : k = m := by
  unfold JdF letter at h
  simp only [Gi, List.not_mem_nil, or_false, Prod.mk.injEq] at hm
  by_cases a1 : 1 <= k /\ k <= 29
  · rw [if_pos a1] at h; rcases hm with ⟨rfl, rfl⟩ | ⟨rfl, rfl⟩ | ⟨rfl, rfl⟩ | ⟨rfl, rfl⟩ | ⟨rfl, rfl⟩ | ⟨rfl, rfl⟩ | ⟨rfl, rfl⟩ | ⟨rfl, rfl⟩ <;> exact absurd h vk
  rw [if_neg a1] at h
  by_cases a2 : 60 <= k /\ k <= 63
  · rw [if_pos a2] at h; rcases hm with ⟨rfl, rfl⟩ | ⟨rfl, rfl⟩ | ⟨rfl, rfl⟩ | ⟨rfl, rfl⟩ | ⟨rfl, rfl⟩ | ⟨rfl, rfl⟩ | ⟨rfl, rfl⟩ | ⟨rfl, rfl⟩ <;> exact absurd h vk
  rw [if_neg a2] at h
  by_cases a3 : k = 46 \/ k = 47
  · rw [if_pos a3] at h; rcases hm with ⟨rfl, rfl⟩ | ⟨rfl, rfl⟩ | ⟨rfl, rfl⟩ | ⟨rfl, rfl⟩ | ⟨rfl, rfl⟩ | ⟨rfl, rfl⟩ | ⟨rfl, rfl⟩ | ⟨rfl, rfl⟩ <;> exact absurd h vk
  rw [if_neg a3] at h
  rcases (show k = 40 \/ k = 41 \/ k = 42 \/ k = 43 \/ k = 44 \/ k = 45 \/ k = 48 \/ k = 64 \/ k = 65 \/ (k ≠ 40 /\ k ≠ 41 /\ k ≠ 42 /\ k ≠ 43 /\ k ≠ 44 /\ k ≠ 45 /\ k ≠ 48 /\ k ≠ 64 /\ k ≠ 65) by omega) with rfl | rfl | rfl | rfl | rfl | rfl | rfl | rfl | rfl | ⟨b1, b2, b3, b4, b5, b6, b7, b8, b9⟩
  all_goals first
    | (rcases hm with ⟨rfl, rfl⟩ | ⟨rfl, rfl⟩ | ⟨rfl, rfl⟩ | ⟨rfl, rfl⟩ | ⟨rfl, rfl⟩ | ⟨rfl, rfl⟩ | ⟨rfl, rfl⟩ | ⟨rfl, rfl⟩ <;> first | rfl | exact absurd h vk)
    | (rw [if_neg b1, if_neg b2, if_neg b3, if_neg b4, if_neg b5, if_neg b6, if_neg b7, if_neg b8, if_neg b9] at h
       rcases hm with ⟨rfl, rfl⟩ | ⟨rfl, rfl⟩ | ⟨rfl, rfl⟩ | ⟨rfl, rfl⟩ | ⟨rfl, rfl⟩ | ⟨rfl, rfl⟩ | ⟨rfl, rfl⟩ | ⟨rfl, rfl⟩ <;> exact absurd h vk)
theorem Jcv(h:JdF k=116):60<=k/\k<=63:=by
 unfold JdF letter at h;by_cases a1:1<=k/\k<=29
 ·rw[if_pos a1]at h;exact absurd h vk
 rw[if_neg a1]at h;by_cases a2:60<=k/\k<=63
 ·exact a2
 exfalso;rw[if_neg a2]at h
 repeat' (split at h)
 all_goals exact absurd h vk
theorem Jbb(h:JdF k=101):1<=k/\k<=29:=by
 by_cases a1:1<=k/\k<=29
 ·exact a1
 exfalso;unfold JdF letter at h;rw[if_neg a1]at h
 repeat' (split at h)
 all_goals exact absurd h vk
section
variable(g:GoodT t o)
include g
omit g in
theorem QN(hu:u<t.nodes.length){a b:Int}{c:UInt8}(h:Kc (lets t.nodes (t.nodes.getD u default)) a b c=true)(h1:a<=i)(h2:(i:Int)<b):i<(t.nodes.getD u default).kids.length/\JdF (Jv t.nodes ((t.nodes.getD u default).kids.getD i 0))=c:=by
 obtain⟨p1,p2,p3,p4⟩:=J8.1 h;rw[KG]at p3;have hi:i<(t.nodes.getD u default).kids.length:=om
 refine⟨hi,?_⟩;have hg:((lets t.nodes (t.nodes.getD u default)).take b.toNat).drop a.toNat=Gg (b.toNat-a.toNat) c:=p4;have hx:(((lets t.nodes (t.nodes.getD u default)).take b.toNat).drop a.toNat)[i-a.toNat]? = some c:=by rw[hg,List.getElem?_replicate,iP7]
 rw[List.getElem?_drop,Hz,iP7,show a.toNat+(i-a.toNat)=i by omega]at hx;unfold lets at hx;rw[G8,Gf hi]at hx;simp only[Gz,GA]at hx;rw[Gc,Gf hi];exact hx
theorem Jdf(hu:u<t.nodes.length):Qk (t.nodes.getD u default).k (t.nodes.getD u default).n (lets t.nodes (t.nodes.getD u default))=true:=by have h:=g.nds (t.nodes.getD u default) (by rw[rowN hu];exact GK hu);unfold ndI at h;rw[node_eq]at h;simp only[Kr,Gd]at h;exact h.1.1
theorem X7(hu:u<t.nodes.length)(hk:(t.nodes.getD u default).k=28):∃a b:Nat,(t.nodes.getD u default).n=(a:Int)/\a+1<=b/\b<(t.nodes.getD u default).kids.length/\
  (∀i,i<a->Jv t.nodes ((t.nodes.getD u default).kids.getD i 0)=43)/\(1<=Jv t.nodes ((t.nodes.getD u default).kids.getD a 0)/\Jv t.nodes ((t.nodes.getD u default).kids.getD a 0)<=29)/\
  (∀i,a+1<=i->i<b->Jv t.nodes ((t.nodes.getD u default).kids.getD i 0)=41)/\(∀i,b<=i->i+1<(t.nodes.getD u default).kids.length->Jv t.nodes ((t.nodes.getD u default).kids.getD i 0)=44)/\
  Jv t.nodes ((t.nodes.getD u default).kids.getD ((t.nodes.getD u default).kids.length-1) 0)=45:=by
 have h:=Jdf g hu;rw[hk]at h;unfold Qk at h;rw[iN7,iN7,iN7,iN7,iN7,iN7,iN7,iN7,iN7,iN7,iN7,iN7,if_pos rfl]at h;simp only[Gd,decide_eq_true_eq,KG]at h;obtain⟨⟨⟨⟨⟨⟨q0,q1⟩,q2⟩,q3⟩,q4⟩,q5⟩,q6⟩:=h;generalize hb:Qy 83 (lets t.nodes (t.nodes.getD u default))=c at q4 q5;obtain⟨a,ha⟩:∃a:Nat,(t.nodes.getD u default).n=(a:Int):=⟨_,(GU q0).symm⟩;rw[ha]at q1 q2 q3 q4 q5;have r5:=J8.1 q5;have r6:=J8.1 q6;rw[KG]at r5 r6;refine⟨a,a+1+c,ha,om,om,λi hi=>?_,?_,λi h1 h2=>?_,λi h1 h2=>?_,?_⟩
 ·exact Y6 73 43 (QN hu q2 om om).2 sM
 ·exact Jbb (QN hu q3 (i:=a) om om).2
 ·exact Y6 83 41 (QN hu q4 om om).2 sM
 ·exact Y6 78 44 (QN hu q5 om om).2 sM
 ·exact Y6 71 45 (QN hu q6 (i:=(t.nodes.getD u default).kids.length-1) om om).2 sM
theorem Jgq(hu:u<t.nodes.length)(hk:(t.nodes.getD u default).k=40):∃a:Nat,(t.nodes.getD u default).n=(a:Int)/\a<=(t.nodes.getD u default).kids.length/\
  (∀i,i<a->Jv t.nodes ((t.nodes.getD u default).kids.getD i 0)=41)/\(∀i,a<=i->i<(t.nodes.getD u default).kids.length->1<=Jv t.nodes ((t.nodes.getD u default).kids.getD i 0)/\Jv t.nodes ((t.nodes.getD u default).kids.getD i 0)<=29):=by
 have h:=Jdf g hu;rw[hk]at h;unfold Qk at h;rw[iN7,iN7,iN7,iN7,iN7,iN7,if_pos rfl]at h;simp only[Gd,KG]at h;have r:=J8.1 h.1;rw[KG]at r;obtain⟨a,ha⟩:∃a:Nat,(t.nodes.getD u default).n=(a:Int):=⟨_,(GU r.2.1).symm⟩;rw[ha]at h r;refine⟨a,ha,om,λi hi=>?_,λi h1 h2=>?_⟩
 ·exact Y6 83 41 (QN hu h.1 om om).2 sM
 ·exact Jbb (QN hu h.2 om om).2
theorem Yp(hu:u<t.nodes.length)(hk:(t.nodes.getD u default).k=41):∃a:Nat,(t.nodes.getD u default).n=(a:Int)/\(t.nodes.getD u default).kids.length=a+1/\
  (∀i,i<a->Jv t.nodes ((t.nodes.getD u default).kids.getD i 0)=42)/\(1<=Jv t.nodes ((t.nodes.getD u default).kids.getD a 0)/\Jv t.nodes ((t.nodes.getD u default).kids.getD a 0)<=29):=by
 have h:=Jdf g hu;rw[hk]at h;unfold Qk at h;rw[iN7,iN7,iN7,iN7,iN7,iN7,iN7,if_pos rfl]at h;simp only[Gd,beq_iff_eq,KG]at h;have r:=J8.1 h.1.2;obtain⟨a,ha⟩:∃a:Nat,(t.nodes.getD u default).n=(a:Int):=⟨_,(GU r.2.1).symm⟩;rw[ha]at h;refine⟨a,ha,om,λi hi=>?_,?_⟩
 ·exact Y6 98 42 (QN hu h.1.2 om om).2 sM
 ·exact Jbb (QN hu h.2 (i:=a) om om).2
theorem JbD(hu:u<t.nodes.length)(hk:(t.nodes.getD u default).k=65):∃a:Nat,(t.nodes.getD u default).n=(a:Int)/\a<(t.nodes.getD u default).kids.length/\
  (∀i,i<a->Jv t.nodes ((t.nodes.getD u default).kids.getD i 0)=64)/\(∀i,a<=i->i+1<(t.nodes.getD u default).kids.length->60<=Jv t.nodes ((t.nodes.getD u default).kids.getD i 0)/\Jv t.nodes ((t.nodes.getD u default).kids.getD i 0)<=63)/\Jv t.nodes ((t.nodes.getD u default).kids.getD ((t.nodes.getD u default).kids.length-1) 0)=40:=by
 have h:=Jdf g hu;rw[hk]at h;unfold Qk at h;rw[iN7,iN7,iN7,iN7,iN7,iN7,iN7,iN7,iN7,iN7,iN7,if_pos rfl]at h;simp only[Gd,KG]at h;have r:=J8.1 h.1.1;have r2:=J8.1 h.2;rw[KG]at r r2;obtain⟨a,ha⟩:∃a:Nat,(t.nodes.getD u default).n=(a:Int):=⟨_,(GU r.2.1).symm⟩;have r3:=J8.1 h.1.2;rw[ha]at h r r3;refine⟨a,ha,om,λi hi=>?_,λi h1 h2=>?_,?_⟩
 ·exact Y6 80 64 (QN hu h.1.1 om om).2 sM
 ·exact Jcv (QN hu h.1.2 om om).2
 ·exact Y6 66 40 (QN hu h.2 (i:=(t.nodes.getD u default).kids.length-1) om om).2 sM
theorem Jcg(hu:u<t.nodes.length)(hk:(t.nodes.getD u default).k=47):(t.nodes.getD u default).kids.length=3/\(∀i,i<2->Jv t.nodes ((t.nodes.getD u default).kids.getD i 0)=48)/\
  (1<=Jv t.nodes ((t.nodes.getD u default).kids.getD 2 0)/\Jv t.nodes ((t.nodes.getD u default).kids.getD 2 0)<=29):=by
 have h:=Jdf g hu;rw[hk]at h;unfold Qk at h;rw[iN7,iN7,iN7,iN7,iN7,iN7,iN7,iN7,iN7,iN7,if_pos rfl]at h;simp only[Gd,beq_iff_eq,KG]at h;refine⟨om,λi hi=>?_,?_⟩
 ·exact Y6 79 48 (QN hu h.1.2 om om).2 sM
 ·exact Jbb (QN hu h.2 (i:=2) om om).2
omit g in
theorem YL{hv:Lv}{c:UInt8}(h:c∈Qi k hv):(c=80->k=65)/\(c=73->k=28)/\(c=98->k=41)/\(c=83->k=40\/k=28)/\(c=99->k=29)/\(c=78->k=28)/\(c=116->k=25\/k=62\/k=63\/k=64\/k=42\/k=65)/\(c=79->k=46\/k=47)/\c≠68:=by
 unfold Qi at h
 dsimp only at h
 by_cases e0:4<=k/\k<=18
 ·rw[if_pos e0]at h;refine⟨?_,?_,?_,?_,?_,?_,?_,?_,?_⟩ <;> rintro rfl <;> first|omega|simp[]at h
 rw[if_neg e0]at h;by_cases e1:(19<=k/\k<=24)\/k=43\/k=44
 ·rw[if_pos e1]at h;refine⟨?_,?_,?_,?_,?_,?_,?_,?_,?_⟩ <;> rintro rfl <;> first|omega|simp[]at h
 rw[if_neg e1]at h;by_cases e2:k=25\/k=62\/k=63\/k=64
 ·rw[if_pos e2]at h;refine⟨?_,?_,?_,?_,?_,?_,?_,?_,?_⟩ <;> rintro rfl <;> first|omega|simp[]at h
 rw[if_neg e2]at h;by_cases e3:k=26\/k=45
 ·rw[if_pos e3]at h;refine⟨?_,?_,?_,?_,?_,?_,?_,?_,?_⟩ <;> rintro rfl <;> first|omega|simp[Gr]at h
 rw[if_neg e3]at h;by_cases e4:k=27
 ·rw[if_pos e4]at h;refine⟨?_,?_,?_,?_,?_,?_,?_,?_,?_⟩ <;> rintro rfl <;> first|omega|simp[]at h
 rw[if_neg e4]at h;by_cases e5:k=28
 ·rw[if_pos e5]at h;refine⟨?_,?_,?_,?_,?_,?_,?_,?_,?_⟩ <;> rintro rfl <;> first|omega|simp[Gr]at h
 rw[if_neg e5]at h;by_cases e6:k=29
 ·rw[if_pos e6]at h;refine⟨?_,?_,?_,?_,?_,?_,?_,?_,?_⟩ <;> rintro rfl <;> first|omega|simp[Gr]at h
 rw[if_neg e6]at h;by_cases e7:k=40
 ·rw[if_pos e7]at h;refine⟨?_,?_,?_,?_,?_,?_,?_,?_,?_⟩ <;> rintro rfl <;> first|omega|simp[Gr]at h
 rw[if_neg e7]at h;by_cases e8:k=41
 ·rw[if_pos e8]at h;refine⟨?_,?_,?_,?_,?_,?_,?_,?_,?_⟩ <;> rintro rfl <;> first|omega|simp[Gr]at h
 rw[if_neg e8]at h;by_cases e9:k=42/\hv≠[]
 ·rw[if_pos e9]at h;refine⟨?_,?_,?_,?_,?_,?_,?_,?_,?_⟩ <;> rintro rfl <;> first|omega|simp[]at h
 rw[if_neg e9]at h;by_cases e10:k=46
 ·rw[if_pos e10]at h;refine⟨?_,?_,?_,?_,?_,?_,?_,?_,?_⟩ <;> rintro rfl <;> first|omega|simp[]at h
 rw[if_neg e10]at h;by_cases e11:k=47
 ·rw[if_pos e11]at h;refine⟨?_,?_,?_,?_,?_,?_,?_,?_,?_⟩ <;> rintro rfl <;> first|omega|simp[]at h
 rw[if_neg e11]at h;by_cases e12:k=65
 ·rw[if_pos e12]at h;refine⟨?_,?_,?_,?_,?_,?_,?_,?_,?_⟩ <;> rintro rfl <;> first|omega|simp[Gr]at h
 rw[if_neg e12]at h;simp at h
theorem par_kind(hu:u<t.nodes.length){c:Int}(hc:c∈(t.nodes.getD u default).kids):JdF (Jv t.nodes c)∈Qi (t.nodes.getD u default).k (lets t.nodes (t.nodes.getD u default)):=by have h:=g.nds (t.nodes.getD u default) (by rw[rowN hu];exact GK hu);unfold ndI Kg at h;simp only[Gd,beq_iff_eq]at h;rw[<-h.1.1.1.2];unfold lets;exact List.mem_map_of_mem hc
end
section
variable(g:GoodT t o)
def nd (t:Tr)(j:Nat):Nd:=t.nodes.getD j default
def blw (o:Lu)(j a:Nat):Prop:=j<=a/\fs o a<=j
include g
theorem JX(hm:m<t.nodes.length)(h:(n:Int)∈(nd t m).kids):Kv t n=m/\n<m:=by
 have hr:=g.kid hm h;rcases Xq g (n:=n) om with ⟨_,h2⟩|⟨m',h1,h2,h3,h4⟩
 ·exact absurd h (h2 m hm)
 ·have:=g.ord.parent_one (Km hm) (Km h3) h h4;subst this;exact⟨h1,h2⟩
theorem fs_le(ha:a<t.nodes.length):0<=fs o a/\fs o a<=a:=Jhw g.ord.ok om (by rw[g.olen];omega)
theorem JcL(ha:a<t.nodes.length):blw o a a:=⟨Gp _,(fs_le g ha).2⟩
theorem Qx{j:Nat}(ha:a<t.nodes.length)(h1:blw o i j)(h2:blw o j a):blw o i a:=by have:=g.ord.nest a j (by rw[QD];exact ha) om h2.2 (by have:=h2.1;omega);refine⟨Nat.le_trans h1.1 h2.1,?_⟩;have:=h1.2;omega
theorem Qz(hm:m<t.nodes.length)(h:(n:Int)∈(nd t m).kids):blw o n m:=by have h1:=g.ord.kid_rng (Km hm) h;have h2:=(fs_le g (a:=n) om).2;exact⟨om,om⟩
theorem Jdj{j:Nat}(hu:u<t.nodes.length)(h:blw o j u):j=u\/∃c:Nat,(c:Int)∈(nd t u).kids/\blw o j c:=by
 by_cases he:j=u
 ·exact .inl he
 ·have h1:=h.1;obtain⟨c,hc,h3,h4⟩:=XC g.ord.ok rfl _ _ _ (j:Int) (g.ord.kids (Km hu)) h.2 om;have hr:=g.kid hu hc;obtain⟨c,rfl⟩:∃k:Nat,c=(k:Int):=⟨c.toNat,om⟩;exact .inr ⟨c,hc,om,h3⟩
theorem kid_one{j c:Nat}(hu:u<t.nodes.length)(hc:(c:Int)∈(nd t u).kids)(hd:(d:Int)∈(nd t u).kids)(h1:blw o j c)(h2:blw o j d):c=d:=by have a1:=h1.1;have a2:=h2.1;have:=Jfi g.ord.ok rfl _ _ _ (j:Int) c d (g.ord.kids (Km hu)) hc hd h1.2 om h2.2 om;omega
theorem XX{j:Nat}(ha:a<t.nodes.length)(h:blw o j a)(Ai:j≠a):∃m:Nat,Kv t j=m/\j<m/\m<=a/\blw o m a/\(j:Int)∈(nd t m).kids:=by have h1:=h.1;obtain⟨m,q1,q2,q3⟩:=par_in g a j ha h.2 om;have:=(JX g (show m<t.nodes.length by omega) q3).1;exact⟨m,this,q1,q2,⟨q2,by have:=h.2;omega⟩,q3⟩
def Xw (t:Tr)(u k:Nat):Lu:=(nd t u).kids.filter λc=>Jv t.nodes c == k
def Jan (t:Tr)(u:Nat):Lu:=((Xw t u 41).map λs=>Xw t s.toNat 42).flatten
def JcH (t:Tr)(u a:Nat):Lu:=
 if (nd t u).k=40 then Jan t u
 else if (nd t u).k=65 then Xw t u 64
 else if (nd t u).k=47 then(if (a:Int)=(nd t u).kids.getD 2 0 then [(u:Int)] else [])
 else if (nd t u).k=28 then(if (nd t a).k=43 then [] else if (nd t a).k=41\/(nd t a).k=44 then Xw t u 43++Jan t u else Xw t u 43)
 else []
def Yd (t:Tr):Nat->Nat->Lu
 |0,_=>[]
 |f+1,a=>if Kv t a<0 then [] else JcH t (Kv t a).toNat a++Yd t f (Kv t a).toNat
def inS (t:Tr)(o:Lu)(d:Int)(j:Nat):Prop:=∃u a:Nat,u<t.nodes.length/\(a:Int)∈(nd t u).kids/\blw o j a/\d∈JcH t u a
theorem Jfh:∀(f j:Nat) (d:Int),j<t.nodes.length->t.nodes.length<=j+f->(d∈Yd t f j↔inS t o d j):=by
 intro f
 induction f with
 |zero=>intro j d h1 h2;omega
 |succ f ih=>
  intro j d h1 h2;unfold Yd;rcases Xq g h1 with ⟨hp,Cg⟩|⟨m,hp,FX,Cc,Mr⟩
  ·rw[hp,if_pos vk];refine⟨λh=>by simp at h,λ⟨u,a,hu,ha,hb,_⟩=>?_⟩;exfalso;have Sm:=(JX g hu ha).2;by_cases he:j=a
   ·subst he;exact Cg u hu ha
   ·obtain⟨m,q1,_⟩:=XX g (show a<t.nodes.length by omega) hb he;rw[hp]at q1;omega
  ·rw[hp,iN7,Gn,Gb,ih m d Cc om]
   constructor
   ·rintro(h|⟨u,a,hu,ha,hb,hd⟩)
    ·exact⟨m,j,Cc,Mr,JcL g h1,h⟩
    ·have Sm:=(JX g hu ha).2;exact⟨u,a,hu,ha,Qx g om (Qz g Cc Mr) hb,hd⟩
   ·rintro⟨u,a,hu,ha,hb,hd⟩;have Sm:=(JX g hu ha);by_cases he:j=a
    ·subst he;have:u=m:=by rw[hp]at Sm;omega
     subst this;exact .inl hd
    ·obtain⟨m',q1,_,_,q4,_⟩:=XX g (show a<t.nodes.length by omega) hb he;have:m'=m:=by rw[hp]at q1;omega
     subst this;exact .inr ⟨u,a,hu,ha,q4,hd⟩
omit g in
theorem Qw{c:Int}:c∈Xw t u k↔c∈(nd t u).kids/\Jv t.nodes c=k:=by unfold Xw;simp
theorem Jcs(hu:u<t.nodes.length){d:Int}:d∈Jan t u↔∃s:Nat,(s:Int)∈(nd t u).kids/\(nd t s).k=41/\d∈(nd t s).kids/\Jv t.nodes d=42:=by
 unfold Jan;simp only[H6,Gy]
 constructor
 ·rintro⟨l,⟨s,hs,rfl⟩,hd⟩;rw[Qw]at hs hd;have hr:=g.kid hu hs.1;refine⟨s.toNat,?_,?_,hd.1,hd.2⟩
  ·rw[show ((s.toNat:Nat):Int)=s by omega];exact hs.1
  ·exact hs.2
 ·rintro⟨s,h1,h2,h3,h4⟩;refine⟨_,⟨(s:Int),(Qw).2 ⟨h1,by unfold Jv;rw[Gb];exact h2⟩,rfl⟩,?_⟩;rw[Qw,Gb];exact⟨h3,h4⟩
end
section
variable(g:GoodT t o)
def Ji (t:Tr)(u:Nat):Nat:=((nd t u).kids.getD ((nd t u).kids.length-1) 0).toNat
def Ju (t:Tr)(u i:Nat):Nat:=((nd t u).kids.getD i 0).toNat
def inR (t : Tr)(o : Lu)(d j : Nat) : Prop :=
  if (nd t d).k = 65 then True
  else if (nd t d).k = 64 then blw o j (Ji t (Kv t d).toNat)
  else if (nd t d).k = 43 then ∃i : Nat, (nd t (Kv t d).toNat).n <= i /\ i < (nd t (Kv t d).toNat).kids.length /\ blw o j (Ju t (Kv t d).toNat i)
  else if (nd t d).k = 47 then blw o j (Ji t d)
  else if (nd t d).k = 42 then
    (if (nd t (Kv t (Kv t d).toNat).toNat).k = 40 then blw o j (Kv t (Kv t d).toNat).toNat
     else ∃i : Nat, (nd t (Kv t (Kv t d).toNat).toNat).n + 1 <= i /\ i + 1 < (nd t (Kv t (Kv t d).toNat).toNat).kids.length /\ blw o j (Ju t (Kv t (Kv t d).toNat).toNat i))
  else False
include g
theorem Jz(hu:u<t.nodes.length)(hi:i<(nd t u).kids.length):((Ju t u i:Nat):Int)∈(nd t u).kids/\Ju t u i<u/\(nd t (Ju t u i)).k=Jv t.nodes ((nd t u).kids.getD i 0):=by
 have hm:(nd t u).kids.getD i 0∈(nd t u).kids:=by rw[Gc,Gf hi];exact GK hi
 have hr:=g.kid hu hm;unfold Ju;refine⟨?_,om,rfl⟩;rw[show ((((nd t u).kids.getD i 0).toNat:Nat):Int)=(nd t u).kids.getD i 0 by omega];exact hm
omit g in
theorem Jcx(ha:(a:Int)∈(nd t u).kids):∃i,i<(nd t u).kids.length/\Ju t u i=a/\(nd t u).kids.getD i 0=(a:Int):=by
 obtain⟨i,hi,he⟩:=GZ ha;refine⟨i,hi,?_,?_⟩
 ·unfold Ju;rw[Gc,Gf hi,GQ,he];rfl
 ·rw[Gc,Gf hi,GQ,he]
theorem Jef:∀(a j:Nat),a<t.nodes.length->60<=(nd t a).k->(nd t a).k<=64->blw o j a->60<=(nd t j).k/\(nd t j).k<=64:=by
 intro a
 induction a using Nat.strongRecOn with
 |_ a ih=>
  intro j ha h1 h2 hb;rcases Jdj g ha hb with rfl|⟨c,hc,BX⟩
  ·exact⟨h1,h2⟩
  ·have hl:=par_kind g ha hc;have hr:=g.kid ha hc;change JdF (Jv t.nodes (c:Int))∈Qi (nd t a).k _ at hl;have hk:JdF (Jv t.nodes (c:Int))=116:=by
    unfold Qi at hl
    dsimp only at hl
    rcases (show (nd t a).k=60\/(nd t a).k=61\/(nd t a).k=62\/(nd t a).k=63\/(nd t a).k=64 by omega) with e|e|e|e|e <;> rw[e]at hl <;> simp at hl
    all_goals exact hl
   have Au:=Jcv hk;have F9:Jv t.nodes (c:Int)=(nd t c).k:=by unfold Jv nd;rw[Gb]
   rw[F9]at Au;exact ih c om j om om om BX
theorem QO(hd:d<t.nodes.length)(hk:(nd t d).k≠65):∃u:Nat,Kv t d=u/\u<t.nodes.length/\d<u/\(d:Int)∈(nd t u).kids:=by
 rcases Xq g hd with ⟨h1,h2⟩|⟨u,h1,h2,h3,h4⟩
 ·exfalso;obtain⟨L,hL,h5,h6⟩:=XC g.ord.ok g.olen _ _ _ (d:Int) g.its om om;have hr:=g.itr hL;obtain⟨L,rfl⟩:∃k:Nat,L=(k:Int):=⟨L.toNat,om⟩;by_cases he:d=L
  ·subst he;have:=g.defs _ hL;unfold Jv at this;rw[Gb]at this;exact hk this
  ·obtain⟨m,q1,q2,q3⟩:=par_in g L d om h5 om;exact h2 m om q3
 ·exact⟨u,h1,h3,h2,h4⟩
theorem Jc6(hu:u<t.nodes.length)(h:(d:Int)∈(nd t u).kids):JdF (nd t d).k∈Qi (nd t u).k (lets t.nodes (nd t u)):=by have:=par_kind g hu h;unfold Jv at this;rw[Gb]at this;exact this
theorem QM(hu:u<t.nodes.length):(d:Int)∈JcH t u a↔
  ((nd t u).k=40/\∃s:Nat,(s:Int)∈(nd t u).kids/\(nd t s).k=41/\(d:Int)∈(nd t s).kids/\(nd t d).k=42)\/
  ((nd t u).k=65/\(d:Int)∈(nd t u).kids/\(nd t d).k=64)\/
  ((nd t u).k=47/\(a:Int)=(nd t u).kids.getD 2 0/\d=u)\/
  ((nd t u).k=28/\(nd t a).k≠43/\(((d:Int)∈(nd t u).kids/\(nd t d).k=43)\/(((nd t a).k=41\/(nd t a).k=44)/\∃s:Nat,(s:Int)∈(nd t u).kids/\(nd t s).k=41/\(d:Int)∈(nd t s).kids/\(nd t d).k=42))):=by
 have E9:Jv t.nodes (d:Int)=(nd t d).k:=by unfold Jv nd;rw[Gb]
 unfold JcH;by_cases e1:(nd t u).k=40
 ·rw[if_pos e1,Jcs g hu,E9];simp[e1]
 rw[if_neg e1];by_cases e2:(nd t u).k=65
 ·rw[if_pos e2,Qw,E9];simp[e2]
 rw[if_neg e2];by_cases e3:(nd t u).k=47
 ·rw[if_pos e3];by_cases e4:(a:Int)=(nd t u).kids.getD 2 0
  ·rw[if_pos e4];simp only[Gt,e3,e4];simp;omega
  ·rw[if_neg e4];refine⟨λh=>by simp at h,λh=>?_⟩;rcases h with ⟨q,_⟩|⟨q,_⟩|⟨_,q,_⟩|⟨q,_⟩
   ·omega
   ·omega
   ·exact absurd q e4
   ·omega
 rw[if_neg e3];by_cases e5:(nd t u).k=28
 ·rw[if_pos e5];by_cases e6:(nd t a).k=43
  ·rw[if_pos e6];simp[e5,e6]
  ·rw[if_neg e6];by_cases e7:(nd t a).k=41\/(nd t a).k=44
   ·rw[if_pos e7,Gn,Qw,Jcs g hu,E9];simp[e5,e6,e7]
   ·rw[if_neg e7,Qw,E9];simp[e5,e6,e7]
 ·rw[if_neg e5];simp[e1,e2,e3,e5]
theorem inS_inR{j:Nat}(hd:d<t.nodes.length)(hj:j<t.nodes.length)(Cf:1<=(nd t j).k/\(nd t j).k<=29)(hk:(nd t d).k=64\/(nd t d).k=43\/(nd t d).k=47\/(nd t d).k=42):inS t o (d:Int) j↔inR t o d j:=by
 obtain⟨u,hp,hu,IZ,Pv⟩:=QO g hd om;have OJ:=YL (Jc6 g hu Pv);unfold inR;rw[hp,Gb,iN7];rcases hk with e|e|e|e
 ·
  rw[if_pos e];have PU:(nd t u).k=65:=OJ.1 (by rw[e];rfl);obtain⟨N,hN,je,k1,k2,k3⟩:=JbD g hu PU;change N<(nd t u).kids.length at je
  constructor
  ·rintro⟨v,a,hv,ha,hb,Be⟩;rw[QM g hv]at Be;have UI:v=u/\(nd t v).k=65:=by
    rcases Be with ⟨_,s,_,_,_,q⟩|⟨q1,q2,_⟩|⟨q1,_,q2⟩|⟨_,_,⟨_,q⟩|⟨_,s,_,_,_,q⟩⟩
    ·omega
    ·have:=(JX g hv q2).1;exact⟨om,q1⟩
    ·subst q2;omega
    ·omega
    ·omega
   obtain⟨rfl,_⟩:=UI;obtain⟨i,hi,De,Ay⟩:=Jcx ha;by_cases hl:i+1<(nd t v).kids.length
   ·exfalso;have RN:60<=(nd t a).k/\(nd t a).k<=64:=by
     have h3:=(Jz g hv hi).2.2;rw[De]at h3;by_cases Po:i<N
     ·have:=k1 i Po;change Jv t.nodes ((nd t v).kids.getD i 0)=64 at this;omega
     ·have:=k2 i om hl;change 60<=Jv t.nodes ((nd t v).kids.getD i 0)/\Jv t.nodes ((nd t v).kids.getD i 0)<=63 at this;omega
    have:=Jef g a j (by have:=(JX g hv ha).2;omega) RN.1 RN.2 hb;omega
   ·have Af:i=(nd t v).kids.length-1:=om
    have:Ji t v=a:=by rw[<-De,Af];rfl
    rw[this];exact hb
  ·intro h;have hm:=Jz g hu (i:=(nd t u).kids.length-1) om;exact⟨u,Ji t u,hu,hm.1,h,(QM g hu).2 (.inr (.inl ⟨PU,Pv,e⟩))⟩
 ·
  rw[iN7,if_pos e];have PV:(nd t u).k=28:=OJ.2.1 (by rw[e];rfl);obtain⟨N,M,hN,dI,dJ,k1,k2,k3,k4,k5⟩:=X7 g hu PV;change (nd t u).n=(N:Int) at hN;rw[hN]
  constructor
  ·rintro⟨v,a,hv,ha,hb,Be⟩;rw[QM g hv]at Be;have UI:v=u/\(nd t a).k≠43:=by
    rcases Be with ⟨_,s,_,_,_,q⟩|⟨_,_,q⟩|⟨q1,_,q2⟩|⟨q0,q1,⟨q2,q⟩|⟨_,s,_,_,_,q⟩⟩
    ·omega
    ·omega
    ·subst q2;omega
    ·have:=(JX g hv q2).1;exact⟨om,q1⟩
    ·omega
   obtain⟨rfl,Uj⟩:=UI;obtain⟨i,hi,De,Ay⟩:=Jcx ha;have h3:=(Jz g hv hi).2.2;rw[De]at h3;refine⟨i,?_,hi,by rw[De];exact hb⟩;by_cases Po:i<N
   ·have:=k1 i Po;change Jv t.nodes ((nd t v).kids.getD i 0)=43 at this;omega
   ·omega
  ·rintro⟨i,h1,h2,h3⟩;have hm:=Jz g hu h2;have Uj:(nd t (Ju t u i)).k≠43:=by
    rw[hm.2.2];rcases (show i=N\/(N+1<=i/\i<M)\/(M<=i/\i+1<(nd t u).kids.length)\/i=(nd t u).kids.length-1 by omega) with rfl|h|h|rfl
    ·have:=k2.2;change Jv t.nodes ((nd t u).kids.getD i 0)<=29 at this;omega
    ·have:=k3 i h.1 h.2;change Jv t.nodes ((nd t u).kids.getD i 0)=41 at this;omega
    ·have:=k4 i h.1 h.2;change Jv t.nodes ((nd t u).kids.getD i 0)=44 at this;omega
    ·have:=k5;change Jv t.nodes ((nd t u).kids.getD ((nd t u).kids.length-1) 0)=45 at this;omega
   exact⟨u,Ju t u i,hu,hm.1,h3,(QM g hu).2 (.inr (.inr (.inr ⟨PV,Uj,.inl ⟨Pv,e⟩⟩)))⟩
 ·
  rw[iN7,iN7,if_pos e];obtain⟨Mt,_,_⟩:=Jcg g hd e;change (nd t d).kids.length=3 at Mt
  constructor
  ·rintro⟨v,a,hv,ha,hb,Be⟩;rw[QM g hv]at Be;rcases Be with ⟨_,s,_,_,_,q⟩|⟨_,_,q⟩|⟨q1,q3,q2⟩|⟨q0,q1,⟨q2,q⟩|⟨_,s,_,_,_,q⟩⟩
   ·omega
   ·omega
   ·subst q2;have:Ji t d=a:=by unfold Ji;rw[Mt];change ((nd t d).kids.getD 2 0).toNat=a;rw[<-q3];rfl
    rw[this];exact hb
   ·omega
   ·omega
  ·intro h;have hm:=Jz g hd (i:=2) om;have Dc:Ji t d=Ju t d 2:=by unfold Ji Ju;rw[Mt]
   rw[Dc]at h;refine⟨d,Ju t d 2,hd,hm.1,h,(QM g hd).2 (.inr (.inr (.inl ⟨e,?_,rfl⟩)))⟩;have hr:=g.kid hd (k:=(nd t d).kids.getD 2 0) (by change (nd t d).kids.getD 2 0∈(nd t d).kids;rw[Gc,Gf (show 2<(nd t d).kids.length by omega)];exact GK _)
   unfold Ju;omega
 ·
  rw[iN7,iN7,iN7,if_pos e];have Oq:(nd t u).k=41:=OJ.2.2.1 (by rw[e];rfl);obtain⟨w,gq,hw,UL,UM⟩:=QO g hu om;have RI:=YL (Jc6 g hw UM);have EA:(nd t w).k=40\/(nd t w).k=28:=RI.2.2.2.1 (by rw[Oq];rfl);rw[gq,Gb];have S9:∀v s:Nat,v<t.nodes.length->(s:Int)∈(nd t v).kids->(d:Int)∈(nd t s).kids->v=w/\s=u:=λv s hv q1 q2=>by
   have fB:=JX g hv q1;have hs:=(JX g (show s<t.nodes.length by omega) q2).1;have:s=u:=om
   subst this;exact⟨by have:=fB.1;omega,rfl⟩
  constructor
  ·rintro⟨v,a,hv,ha,hb,Be⟩;rw[QM g hv]at Be;rcases Be with ⟨q0,s,q1,q2,q3,q⟩|⟨_,_,q⟩|⟨q1,_,q2⟩|⟨q0,q4,⟨_,q⟩|⟨q5,s,q1,q2,q3,q⟩⟩
   ·obtain⟨rfl,rfl⟩:=S9 v s hv q1 q3;rw[if_pos q0];exact Qx g hv hb (Qz g hv ha)
   ·omega
   ·subst q2;omega
   ·omega
   ·obtain⟨rfl,rfl⟩:=S9 v s hv q1 q3;rw[iN7];obtain⟨N,M,hN,dI,dJ,k1,k2,k3,k4,k5⟩:=X7 g hv q0;change (nd t v).n=(N:Int) at hN;obtain⟨i,hi,De,Ay⟩:=Jcx ha;have h3:=(Jz g hv hi).2.2;rw[De]at h3;refine⟨i,?_,?_,by rw[De];exact hb⟩
    ·rw[hN];by_cases Po:i<N
     ·have:=k1 i Po;change Jv t.nodes ((nd t v).kids.getD i 0)=43 at this;omega
     ·by_cases ae:i=N
      ·subst ae;have:=k2.2;change Jv t.nodes ((nd t v).kids.getD i 0)<=29 at this;omega
      ·omega
    ·by_cases hl:i+1<(nd t v).kids.length
     ·exact hl
     ·have Af:i=(nd t v).kids.length-1:=om
      have:=k5;change Jv t.nodes ((nd t v).kids.getD ((nd t v).kids.length-1) 0)=45 at this;rw[<-Af]at this;omega
  ·rcases EA with PP|Me
   ·rw[if_pos PP];intro h;rcases Jdj g hw h with rfl|⟨c,hc,hb⟩
    ·omega
    ·exact⟨w,c,hw,hc,hb,(QM g hw).2 (.inl ⟨PP,u,UM,Oq,Pv,e⟩)⟩
   ·rw[iN7];obtain⟨N,M,hN,dI,dJ,k1,k2,k3,k4,k5⟩:=X7 g hw Me;change (nd t w).n=(N:Int) at hN;rw[hN];rintro⟨i,h1,h2,h3⟩;have hm:=Jz g hw (show i<(nd t w).kids.length by omega);have De:(nd t (Ju t w i)).k=41\/(nd t (Ju t w i)).k=44:=by
     rw[hm.2.2];by_cases gY:i<M
     ·exact .inl (k3 i om gY)
     ·exact .inr (k4 i om h2)
    exact⟨w,Ju t w i,hw,hm.1,h3,(QM g hw).2 (.inr (.inr (.inr ⟨Me,om,.inr ⟨De,u,UM,Oq,Pv,e⟩⟩)))⟩
end
theorem Jf1 {α β:Type}{f:α->List β}:∀{l:List α},l.Nodup->(∀x∈l,(f x).Nodup)->(∀x∈l,∀y∈l,x≠y->∀z∈f x,z∉f y)->((l.map f).flatten).Nodup
 |[],_,_,_=>sM
 |x::l,h1,h2,h3=>by rw[H7]at h1;simp only[GN,List.flatten_cons];rw[G7];refine⟨h2 x sM,Jf1 h1.2 (λy hy=>h2 y (by simp[hy])) (λy hy z hz eH=>h3 y (by simp[hy]) z (by simp[hz]) eH),?_⟩;intro a ha b hb Su;subst Su;simp only[H6,Gy]at hb;obtain⟨_,⟨y,hy,rfl⟩,hb⟩:=hb;exact h3 x sM y (by simp[hy]) (λe=>h1.1 (e▸hy)) a ha hb
theorem Jca(ho:Xf o)(hm:o.length=m):∀(l:Lu) (a e:Int),chain o m a l e->l.Nodup
 |[],_,_,_=>sM
 |i::l,a,e,h=>by simp only[chain]at h;rw[H7];refine⟨λhi=>?_,Jca ho hm l _ e h.2⟩;have h1:=QT ho hm l _ e h.2 i hi;have h2:=Jhw ho h1.2.1 om;omega
section
variable(g:GoodT t o)
include g
theorem Jf7(hu:u<t.nodes.length):(nd t u).kids.Nodup:=Jca g.ord.ok rfl _ _ _ (g.ord.kids (Km hu))
theorem YJ(hu:u<t.nodes.length):(Xw t u k).Nodup:=(Jf7 g hu).filter _
theorem Jfm(hu:u<t.nodes.length):(Jan t u).Nodup:=by
 unfold Jan;have hr:∀s∈Xw t u 41,0<=s/\s<u:=λs hs=>g.kid hu (Qw.1 hs).1
 refine Jf1 (YJ g hu) (λs hs=>YJ g (by have:=hr s hs;omega)) λs hs s' AA Ai z hz Ep=>?_
 have h1:=hr s hs;have h2:=hr s' AA;have:=g.ord.parent_one (Km (show s.toNat<t.nodes.length by omega)) (Km (show s'.toNat<t.nodes.length by omega)) (Qw.1 hz).1 (Qw.1 Ep).1;omega
def whoD (t:Tr)(d:Nat):Int:=if (nd t d).k=47 then d else if (nd t d).k=42 then Kv t (Kv t d).toNat else Kv t d
theorem decl_who{d:Int}(hu:u<t.nodes.length)(h:d∈JcH t u a):0<=d/\d<t.nodes.length/\whoD t d.toNat=u:=by
 have hd:0<=d/\d<=u:=by
  have hb:d∈Jan t u->0<=d/\d<=u:=λh=>by rw[Jcs g hu]at h;obtain⟨s,q1,_,q3,_⟩:=h;have h1:=(JX g hu q1).2;have h2:=g.kid (show s<t.nodes.length by omega) q3;omega
  have hk:∀k,d∈Xw t u k->0<=d/\d<=u:=λk h=>by have:=g.kid hu (Qw.1 h).1;omega
  unfold JcH at h
  split at h
  ·exact hb h
  split at h
  ·exact hk _ h
  split at h
  ·split at h
   ·simp at h;omega
   ·simp at h
  split at h
  ·split at h
   ·simp at h
   split at h
   ·rcases Gn.1 h with h|h
    ·exact hk _ h
    ·exact hb h
   ·exact hk _ h
  ·simp at h
 obtain⟨d,rfl⟩:∃n:Nat,d=(n:Int):=⟨d.toNat,om⟩;rw[QM g hu]at h;refine⟨om,om,?_⟩;rw[Gb];unfold whoD;have bind:(∃s:Nat,(s:Int)∈(nd t u).kids/\(nd t s).k=41/\(d:Int)∈(nd t s).kids/\(nd t d).k=42)->(if (nd t d).k=47 then(d:Int) else if (nd t d).k=42 then Kv t (Kv t d).toNat else Kv t d)=u:=by rintro⟨s,q1,_,q3,q4⟩;have hs:=JX g hu q1;have IK:=(JX g (show s<t.nodes.length by omega) q3).1;rw[iN7,if_pos q4,IK,Gb];exact hs.1
 rcases h with ⟨_,hb⟩|⟨_,q,q2⟩|⟨q1,_,rfl⟩|⟨_,_,⟨q,q2⟩|⟨_,hb⟩⟩
 ·exact bind hb
 ·rw[iN7,iN7];exact(JX g hu q).1
 ·rw[if_pos q1]
 ·rw[iN7,iN7];exact(JX g hu q).1
 ·exact bind hb
theorem decl_nodup(hu:u<t.nodes.length):(JcH t u a).Nodup:=by
 unfold JcH
 split
 ·exact Jfm g hu
 split
 ·exact YJ g hu
 split
 ·split <;> simp
 split
 ·split
  ·simp
  split
  ·rw[G7];refine⟨YJ g hu,Jfm g hu,λx hx y hy he=>?_⟩;subst he;have h1:=(Qw.1 hx).2;have h0:=g.kid hu (Qw.1 hx).1;rw[Jcs g hu]at hy;obtain⟨s,_,_,_,h2⟩:=hy;omega
  ·exact YJ g hu
 ·simp
theorem climb_who:∀(f j:Nat) (d:Int),j<t.nodes.length->d∈Yd t f j->0<=d/\d<t.nodes.length/\(j:Int)<whoD t d.toNat:=by
 intro f
 induction f with
 |zero=>intro j d _ h;simp[Yd]at h
 |succ f ih=>
  intro j d hj h;unfold Yd at h;rcases Xq g hj with ⟨hp,_⟩|⟨m,hp,FX,Cc,_⟩
  ·rw[hp,if_pos vk]at h;simp at h
  ·rw[hp,iN7,Gn,Gb]at h;rcases h with h|h
   ·have:=decl_who g Cc h;exact⟨this.1,this.2.1,om⟩
   ·have:=ih m d Cc h;exact⟨this.1,this.2.1,om⟩
theorem climb_nodup:∀(f j:Nat),j<t.nodes.length->(Yd t f j).Nodup:=by
 intro f
 induction f with
 |zero=>intro j _;simp[Yd]
 |succ f ih=>
  intro j hj;unfold Yd;rcases Xq g hj with ⟨hp,_⟩|⟨m,hp,FX,Cc,_⟩
  ·rw[hp,if_pos vk];simp
  ·rw[hp,iN7,Gb,G7];refine⟨decl_nodup g Cc,ih m Cc,λx hx y hy he=>?_⟩;subst he;have h1:=(decl_who g Cc hx).2.2;have h2:=(climb_who g f m x Cc hy).2.2;omega
theorem def_root(hd:d<t.nodes.length)(hk:(nd t d).k=65):Kv t d = -1/\(d:Int)∈t.items:=by
 have hp:Kv t d = -1:=by
  rcases Xq g hd with ⟨h,_⟩|⟨m,_,_,hm,Cc⟩
  ·exact h
  ·exfalso;exact(YL (Jc6 g hm Cc)).2.2.2.2.2.2.2.2 (by rw[hk];rfl)
 refine⟨hp,?_⟩;obtain⟨L,hL,h5,h6⟩:=XC g.ord.ok g.olen _ _ _ (d:Int) g.its om om;have hr:=g.itr hL;obtain⟨L,rfl⟩:∃k:Nat,L=(k:Int):=⟨L.toNat,om⟩;by_cases he:d=L
 ·subst he;exact hL
 ·exfalso;obtain⟨m,q1,q2,q3⟩:=par_in g L d om h5 om;have:=(JX g (show m<t.nodes.length by omega) q3).1;omega
end
def JbS (o:Lu)(j a:Nat):Bool:=decide (j<=a) && decide (fs o a<=j)
theorem QZ{j:Nat}:JbS o j a=true↔blw o j a:=by simp[JbS,blw]
def bkB (t:Tr)(o:Lu)(j u:Nat)(m:Int)(last:Bool):Bool:=(Ga (nd t u).kids.length).any λi=>decide (m<=i) && ((last || decide (i+1<(nd t u).kids.length)) && JbS o j (Ju t u i))
def inB (t : Tr)(o : Lu)(d j : Nat) : Bool :=
  if (nd t d).k = 65 then true
  else if (nd t d).k = 64 then JbS o j (Ji t (Kv t d).toNat)
  else if (nd t d).k = 43 then bkB t o j (Kv t d).toNat (nd t (Kv t d).toNat).n true
  else if (nd t d).k = 47 then JbS o j (Ji t d)
  else if (nd t d).k = 42 then
    (if (nd t (Kv t (Kv t d).toNat).toNat).k = 40 then JbS o j (Kv t (Kv t d).toNat).toNat
     else bkB t o j (Kv t (Kv t d).toNat).toNat ((nd t (Kv t (Kv t d).toNat).toNat).n + 1) false)
  else false
def KU (k:Nat):Bool:=k == 65 || k == 64 || k == 42 || k == 43 || k == 47
theorem bkB_iff{j:Nat}{m:Int}{last:Bool}:bkB t o j u m last=true↔∃i:Nat,m<=i/\i<(nd t u).kids.length/\(last=true\/i+1<(nd t u).kids.length)/\blw o j (Ju t u i):=by
 unfold bkB;simp only[Gw,Gh,Gd,Hm,decide_eq_true_eq,QZ]
 constructor
 ·rintro⟨i,h1,h2,h3,h4⟩;exact⟨i,h2,h1,h3,h4⟩
 ·rintro⟨i,h1,h2,h3,h4⟩;exact⟨i,h2,h1,h3,h4⟩
theorem inB_iff{j:Nat}:inB t o d j=true↔inR t o d j:=by
 unfold inB inR;by_cases e1:(nd t d).k=65
 ·simp[e1]
 by_cases e2:(nd t d).k=64
 ·rw[if_neg e1,if_pos e2,if_neg e1,if_pos e2];exact QZ
 by_cases e3:(nd t d).k=43
 ·rw[if_neg e1,if_neg e2,if_pos e3,if_neg e1,if_neg e2,if_pos e3,bkB_iff]
  constructor
  ·rintro⟨i,h1,h2,_,h4⟩;exact⟨i,h1,h2,h4⟩
  ·rintro⟨i,h1,h2,h4⟩;exact⟨i,h1,h2,.inl rfl,h4⟩
 by_cases e4:(nd t d).k=47
 ·rw[if_neg e1,if_neg e2,if_neg e3,if_pos e4,if_neg e1,if_neg e2,if_neg e3,if_pos e4];exact QZ
 by_cases e5:(nd t d).k=42
 ·rw[if_neg e1,if_neg e2,if_neg e3,if_neg e4,if_pos e5,if_neg e1,if_neg e2,if_neg e3,if_neg e4,if_pos e5];by_cases e6:(nd t (Kv t (Kv t d).toNat).toNat).k=40
  ·rw[if_pos e6,if_pos e6];exact QZ
  ·rw[if_neg e6,if_neg e6,bkB_iff]
   constructor
   ·rintro⟨i,h1,h2,h3,h4⟩;rcases h3 with h3|h3
    ·cases h3
    ·exact⟨i,h1,h3,h4⟩
   ·rintro⟨i,h1,h3,h4⟩;exact⟨i,h1,om,.inr h3,h4⟩
 ·rw[if_neg e1,if_neg e2,if_neg e3,if_neg e4,if_neg e5,if_neg e1,if_neg e2,if_neg e3,if_neg e4,if_neg e5];simp
section
variable(g:GoodT t o)
def Ql (t:Tr):Lu:=(Ga t.nodes.length).map λi:Nat=>(i:Int)
def QW (t:Tr)(j:Nat):Lu:=(Ql t).filter λd=>(Yd t t.nodes.length j).contains d
def JaL (t:Tr)(l:Lu)(s:Lv):Int:=match l.find? λd=>(nd t d.toNat).text == s with|some d=>d|none=>-1
def Jf4 (t:Tr)(o:Lu)(j:Nat):Int:=match (Ql t).find? λd=>(nd t d.toNat).text == (nd t j).text && (KU (nd t d.toNat).k && (!((nd t d.toNat).k == 65) && inB t o d.toNat j)) with|some d=>d|none=>-1
include g
theorem decl_kind(hu:u<t.nodes.length)(h:(d:Int)∈JcH t u a):(nd t d).k=64\/(nd t d).k=43\/(nd t d).k=47\/(nd t d).k=42:=by
 rw[QM g hu]at h;rcases h with ⟨_,s,_,_,_,q⟩|⟨_,_,q⟩|⟨q1,_,rfl⟩|⟨_,_,⟨_,q⟩|⟨_,s,_,_,_,q⟩⟩
 ·exact .inr (.inr (.inr q))
 ·exact .inl q
 ·exact .inr (.inr (.inl q1))
 ·exact .inr (.inl q)
 ·exact .inr (.inr (.inr q))
theorem sight_mem{j:Nat}(hd:d<t.nodes.length)(hj:j<t.nodes.length)(Cf:1<=(nd t j).k/\(nd t j).k<=29):(Yd t t.nodes.length j).contains (d:Int)=(KU (nd t d).k && (!((nd t d).k == 65) && inB t o d j)):=by
 rw[Gj];simp only[Hu,decide_eq_true_eq,Gd,GR,beq_eq_false_iff_ne,inB_iff];rw[Jfh g t.nodes.length j (d:Int) hj om]
 constructor
 ·intro h;obtain⟨u,a,hu,ha,hb,Be⟩:=h;have hk:=decl_kind g hu Be;refine⟨?_,om,(inS_inR g hd hj Cf hk).1 ⟨u,a,hu,ha,hb,Be⟩⟩;unfold KU;rcases hk with e|e|e|e <;> rw[e] <;> rfl
 ·rintro⟨h1,h2,h3⟩;have hk:(nd t d).k=64\/(nd t d).k=43\/(nd t d).k=47\/(nd t d).k=42:=by unfold KU at h1;simp only[Hm,beq_iff_eq]at h1;omega
  exact(inS_inR g hd hj Cf hk).2 h3
theorem Jb1 {j:Nat}(hj:j<t.nodes.length)(Cf:1<=(nd t j).k/\(nd t j).k<=29):JaL t (QW t j) (nd t j).text=Jf4 t o j:=by
 unfold JaL Jf4 QW;rw[G9];have:∀l:Lu,(∀d∈l,0<=d/\d<t.nodes.length)->l.find? (λd=>decide ((Yd t t.nodes.length j).contains d=true/\((nd t d.toNat).text == (nd t j).text)=true))=l.find? λd=>(nd t d.toNat).text == (nd t j).text && (KU (nd t d.toNat).k && (!((nd t d.toNat).k == 65) && inB t o d.toNat j)):=by
  intro l
  induction l with
  |nil=>intro _;rfl
  |cons d l ih=>
   intro hl;obtain⟨d,rfl⟩:∃n:Nat,d=(n:Int):=⟨d.toNat,by have:=hl d sM;omega⟩;have hd:=hl d sM;have hs:=sight_mem g (show d<t.nodes.length by omega) hj Cf;rw[Gx,Gx,ih λx hx=>hl x (by simp[hx])];simp only[Gb];rw[hs]
   congr 1
   rw[Gj];simp[and_comm]
 rw[this];intro d hd;unfold Ql at hd;simp only[Gy,Gh]at hd;obtain⟨i,hi,rfl⟩:=hd;omega
end
theorem asc_eq:∀{l m:Lu},l.Pairwise (· < ·)->m.Pairwise (· < ·)->(∀x,x∈l↔x∈m)->l=m
 |[],[],_,_,_=>rfl
 |[],y::m,_,_,h=>by simpa using (h y).2 sM
 |x::l,[],_,_,h=>by simpa using (h x).1 sM
 |x::l,y::m,h1,h2,h=>by
  rw[GH]at h1 h2;have e:x=y:=by
   have a:=(h x).1 sM;have b:=(h y).2 sM;rcases Gi.1 a with a|a
   ·exact a
   ·rcases Gi.1 b with b|b
    ·exact b.symm
    ·have:=h1.1 y b;have:=h2.1 x a;omega
  subst e;rw[asc_eq h1.2 h2.2 λz=>?_]
  constructor
  ·intro hz;have:=h1.1 z hz;rcases Gi.1 ((h z).1 (by simp[hz])) with e|e
   ·omega
   ·exact e
  ·intro hz;have:=h2.1 z hz;rcases Gi.1 ((h z).2 (by simp[hz])) with e|e
   ·omega
   ·exact e
theorem Jbo(ho:Xf o)(hm:o.length=m):∀(l:Lu) (a e:Int),chain o m a l e->l.Pairwise (· < ·)
 |[],_,_,_=>.nil
 |i::l,a,e,h=>by simp only[chain]at h;rw[GH];refine⟨λx hx=>?_,Jbo ho hm l _ e h.2⟩;have h1:=QT ho hm l _ e h.2 x hx;have h2:=Jhw ho h1.2.1 om;omega
theorem Jea:(Ql t).Pairwise (· < ·):=by unfold Ql;rw[HY];exact Hr.imp λh=>om
theorem KO{d:Int}:d∈Ql t↔0<=d/\d<t.nodes.length:=by
 unfold Ql;simp only[Gy,Gh]
 constructor
 ·rintro⟨i,hi,rfl⟩;omega
 ·intro h;exact⟨d.toNat,om,om⟩
section
variable(g:GoodT t o)
def Jdy (t:Tr)(j:Nat):Int:=match (Ql t).find? λd=>(nd t d.toNat).text == (nd t j).text && (KU (nd t d.toNat).k && (nd t d.toNat).k == 65) with|some d=>d|none=>-1
def Jct (t:Tr)(j:Nat):Int:=match (Ql t).find? λd=>(nd t d.toNat).text == (nd t j).text && (KU (nd t d.toNat).k && ((nd t d.toNat).k == 43 && Kv t d.toNat == Kv t j)) with|some d=>d|none=>-1
include g
theorem items_all:t.items=(Ql t).filter λd=>(nd t d.toNat).k == 65:=by
 refine asc_eq (Jbo g.ord.ok g.olen _ _ _ g.its) (Jea.filter _) λx=>?_
 rw[Gm,KO,beq_iff_eq]
 constructor
 ·intro h;have h1:=g.itr h;have h2:=g.defs x h;exact⟨h1,h2⟩
 ·rintro⟨h1,h2⟩;have:=(def_root g (show x.toNat<t.nodes.length by omega) h2).2
  rwa [show ((x.toNat:Nat):Int)=x by omega]at this
theorem call_means {j:Nat}:JaL t t.items (nd t j).text=Jdy t j:=by
 unfold JaL Jdy;rw[items_all g,G9]
 congr 2
 funext d
 rw[Gj];simp only[decide_eq_true_eq,Gd,beq_iff_eq]
 constructor
 ·rintro⟨h1,h2⟩;exact⟨h2,by rw[h1];rfl,h1⟩
 ·rintro⟨h1,_,h2⟩;exact⟨h2,h1⟩
theorem Jhm(hu:u<t.nodes.length):(nd t u).kids.Pairwise (· < ·):=Jbo g.ord.ok rfl _ _ _ (g.ord.kids (Km hu))
theorem kidsK_all(hu:u<t.nodes.length)(hk:k≠65):Xw t u k=(Ql t).filter λd=>(nd t d.toNat).k == k && Kv t d.toNat == u:=by
 refine asc_eq ((Jhm g hu).filter _) (Jea.filter _) λx=>?_
 rw[Qw,Gm,KO,Gd,beq_iff_eq,beq_iff_eq]
 constructor
 ·rintro⟨h1,h2⟩;have hr:=g.kid hu h1;obtain⟨x,rfl⟩:∃n:Nat,x=(n:Int):=⟨x.toNat,om⟩;exact⟨om,h2,(JX g hu h1).1⟩
 ·rintro⟨h1,h2,h3⟩;obtain⟨x,rfl⟩:∃n:Nat,x=(n:Int):=⟨x.toNat,om⟩;rw[Gb]at h2 h3;obtain⟨u',q1,_,_,q2⟩:=QO g (show x<t.nodes.length by omega) om;have:u'=u:=om
  subst this;exact⟨q2,h2⟩
theorem next_means{j:Nat}(hu:u<t.nodes.length)(hp:Kv t j=u):JaL t (Xw t u 43) (nd t j).text=Jct t j:=by
 unfold JaL Jct;rw[kidsK_all g hu vk,G9,hp]
 congr 2
 funext d
 rw[Gj];simp only[decide_eq_true_eq,Gd,beq_iff_eq]
 constructor
 ·rintro⟨⟨h1,h3⟩,h2⟩;exact⟨h2,by rw[h1];rfl,h1,h3⟩
 ·rintro⟨h1,_,h2,h3⟩;exact⟨⟨h2,h3⟩,h1⟩
end
def QR (t:Tr)(i:Nat):Nat:=(t.items.filter λL=>decide (L<(i:Int))).length
def Y0 (t:Tr)(o:Lu)(i:Nat):Int:=match t.items.find? λL=>JbS o i L.toNat with|some L=>L|none=>-1
def twN (t:Tr)(i:Nat):Bool:=
 if (nd t i).k≠44/\KU (nd t i).k=false then false
 else(Ga i).any λk=>(nd t k).text == (nd t i).text && (if (nd t i).k=44 then(nd t k).k == 44 && Kv t k == Kv t i else if (nd t i).k=65 then(nd t k).k == 65 else !((nd t k).k == 65) && (KU (nd t k).k && QR t k == QR t i))
def twR (t:Tr)(o:Lu)(i:Nat):Bool:=
 if (nd t i).k≠44/\KU (nd t i).k=false then false
 else(Ga i).any λk=>(nd t k).text == (nd t i).text && (if (nd t i).k=65 then(nd t k).k == 65 else if (nd t i).k=44 then(nd t k).k == 44 && Kv t k == Kv t i else KU (nd t k).k && (!((nd t k).k == 65) && Y0 t o k == Y0 t o i))
theorem find_idx {α:Type}{q:α->Bool}:∀{l:List α}{k:Nat}{x:α},l[k]? = some x->q x=true->(∀y∈l.take k,q y=false)->l.find? q=some x
 |[],_,_,h,_,_=>by simp at h
 |y::l,0,x,h,hq,_=>by simp at h;subst h;simp[hq]
 |y::l,k+1,x,h,hq,hn=>by rw[Gx,hn y sM];exact find_idx (k:=k) (by simpa using h) hq λz hz=>hn z (by simp[hz])
section
variable(g:GoodT t o)
include g
theorem item_of(hi:i<t.nodes.length):∃k L:Nat,k<t.items.length/\t.items[k]? = some (L:Int)/\QR t i=k/\Y0 t o i=L/\endI t k<=i/\i<=L:=by
 obtain⟨L,hL,h5,h6⟩:=XC g.ord.ok g.olen _ _ _ (i:Int) g.its om om;obtain⟨k,hk,he⟩:=GZ hL;obtain⟨L',e1,e2,e3,e4,e5⟩:=item_at g hk;have eL:L=(L':Int):=by rw[<-e1,Gc,Gf hk,<-he];rfl
 subst eL;rw[e2]at h5;have Bc:t.items[k]? = some (L':Int):=by rw[Gf hk,he]
 have Ab:∀x∈t.items.take k,x<(i:Int):=λx hx=>by have:=(QT g.ord.ok g.olen _ _ _ (Ja5 g k (GV hk)).1 x hx).2.2.1;omega
 have BS:∀x∈t.items.drop k,(i:Int)<=x:=λx hx=>by
  have ha:=Jbo g.ord.ok g.olen _ _ _ (Ja5 g k (GV hk)).2;rw[Gq hk,he]at hx ha;rw[GH]at ha;rcases Gi.1 hx with rfl|hx
  ·exact h6
  ·have:=ha.1 x hx;omega
 refine⟨k,L',hk,Bc,?_,?_,om,om⟩
 ·unfold QR;rw[<-Ht k t.items,HV,Hw.2 (λx hx=>by simpa using Ab x hx),GY.2 (λx hx=>by have:=BS x hx;simp;omega),La,Gu];omega
 ·unfold Y0;rw[find_idx Bc (by rw[QZ,Gb];exact⟨om,by rw[e2];omega⟩) λy hy=>?_];have h1:=Ab y hy;have h2:=(QT g.ord.ok g.olen _ _ _ (Ja5 g k (GV hk)).1 y hy).2.1;rw[Lf];intro hb;have:=(QZ.1 hb).1;omega
theorem item_same(hi:i<t.nodes.length)(hk:k<t.nodes.length):(QR t k == QR t i)=(Y0 t o k == Y0 t o i):=by
 obtain⟨a,A,a1,a2,a3,a4,a5,a6⟩:=item_of g hi;obtain⟨b,B,b1,b2,b3,b4,b5,b6⟩:=item_of g hk;rw[a3,a4,b3,b4,Gj,beq_iff_eq,beq_iff_eq]
 constructor
 ·rintro rfl;rw[a2]at b2;exact(Hl b2).symm
 ·intro h;have hn:t.items.Nodup:=Jca g.ord.ok g.olen _ _ _ g.its;rw[h]at b2;exact(List.getElem?_inj b1 hn).1 (b2.trans a2.symm)
theorem tw_eq(hi:i<t.nodes.length):twN t i=twR t o i:=by
 unfold twN twR;by_cases h:(nd t i).k≠44/\KU (nd t i).k=false
 ·rw[if_pos h,if_pos h]
 rw[if_neg h,if_neg h];have hl:∀l:Lx,(∀k∈l,k<i)->(l.any λk=>(nd t k).text == (nd t i).text && (if (nd t i).k=44 then(nd t k).k == 44 && Kv t k == Kv t i else if (nd t i).k=65 then(nd t k).k == 65 else !((nd t k).k == 65) && (KU (nd t k).k && QR t k == QR t i)))=(l.any λk=>(nd t k).text == (nd t i).text && (if (nd t i).k=65 then(nd t k).k == 65 else if (nd t i).k=44 then(nd t k).k == 44 && Kv t k == Kv t i else KU (nd t k).k && (!((nd t k).k == 65) && Y0 t o k == Y0 t o i))):=by
  intro l
  induction l with
  |nil=>intro _;rfl
  |cons k l ih=>
   intro hk;have ER:=hk k sM;rw[Ld,Ld,ih λx hx=>hk x (by simp[hx]),item_same g hi (show k<t.nodes.length by omega)]
   congr 2
   by_cases e1:(nd t i).k=44
   ·rw[if_pos e1,iN7,if_pos e1]
   ·rw[if_neg e1];by_cases e2:(nd t i).k=65
    ·rw[if_pos e2,if_pos e2]
    ·rw[if_neg e2,if_neg e2,if_neg e1]
     cases KU (nd t k).k <;> cases ((nd t k).k == 65) <;> simp
 exact hl _ λk hk=>Gh.1 hk
end
def JcY (t:Tr)(u c:Nat)(late:Bool):Bool:=if (nd t u).k=4 then true else if (nd t u).k=46\/(nd t u).k=47 then late || c == Ji t u else if (nd t u).k=28 then late && (nd t c).k == 43 else late
def JhS (t:Tr)(u c:Nat):Option Bool:=if (nd t u).k=4 then some true else if (nd t u).k=46\/(nd t u).k=47 then some (c == Ji t u) else if (nd t u).k=28 then(if (nd t c).k=43 then none else some false) else none
def buL (t:Tr):Lx->Bool->Bool
 |c::u::l,late=>buL t (u::l) (JcY t u c late)
 |_,late=>late
def tdL (t:Tr):Lx->Bool->Bool
 |u::c::l,late=>match JhS t u c with
  |some b=>b
  |none=>tdL t (c::l) late
 |_,late=>late
theorem tdL_snoc{late:Bool}{c:Nat}:∀l:Lx,tdL t (l++[u,c]) late=tdL t (l++[u]) (match JhS t u c with|some b=>b|none=>late)
 |[]=>by simp only[GM,tdL]
 |[x]=>by simp only[Gv,GM,tdL]
 |x::y::l=>by have:=tdL_snoc (late:=late) (c:=c) (y::l);simp only[Gv]at this;simp only[Gv,tdL];rw[this]
def Jc7 (t:Tr)(q:Nat->Nat->Prop):Lx->Prop
 |c::u::l=>q u c/\Jc7 t q (u::l)
 |_=>True
theorem bu_td:∀(l:Lx) (late:Bool),Jc7 t (λu c=>(nd t u).k=46\/(nd t u).k=47->c=Ji t u) l->buL t l late=tdL t l.reverse late
 |[],_,_=>rfl
 |[x],_,_=>rfl
 |c::u::l,late,h=>by
  have hs:JcY t u c late=(match JhS t u c with|some b=>b|none=>late):=by
   have h1:=h.1;unfold JcY JhS;by_cases e1:(nd t u).k=4
   ·rw[if_pos e1,if_pos e1]
   rw[if_neg e1,if_neg e1];by_cases e2:(nd t u).k=46\/(nd t u).k=47
   ·rw[if_pos e2,if_pos e2,h1 e2];simp
   rw[if_neg e2,if_neg e2];by_cases e3:(nd t u).k=28
   ·rw[if_pos e3,if_pos e3];by_cases e4:(nd t c).k=43
    ·rw[if_pos e4,e4];simp
    ·rw[if_neg e4];simp[e4]
   ·rw[if_neg e3,if_neg e3]
  rw[buL,bu_td (u::l) _ h.2,hs];simp only[G6,Ha,Gv,GM];rw[tdL_snoc]
section
variable(g:GoodT t o)
def upL (t:Tr)(top:Nat):Nat->Nat->Lx
 |0,n=>[n]
 |f+1,n=>if n=top then [n] else n::upL t top f (Kv t n).toNat
include g
theorem bound_below{j:Nat}(ha:a<t.nodes.length)(hk:(nd t a).k=48)(hb:blw o j a):j=a:=by
 rcases Jdj g ha hb with h|⟨c,hc,_⟩
 ·exact h
 ·exfalso;have hl:=Jc6 g ha hc;rw[hk]at hl;unfold Qi at hl;simp at hl
theorem bind_below{j:Nat}(ha:a<t.nodes.length)(hk:(nd t a).k=42)(hb:blw o j a):(nd t j).k=42\/(60<=(nd t j).k/\(nd t j).k<=64):=by
 rcases Jdj g ha hb with rfl|⟨c,hc,BX⟩
 ·exact .inl hk
 ·refine .inr ?_;have hl:=Jc6 g ha hc;have hr:=(JX g ha hc).2;rw[hk]at hl;have Au:JdF (nd t c).k=116:=by
   unfold Qi at hl
   dsimp only at hl
   rw[iN7,iN7,iN7,iN7,iN7,iN7,iN7,iN7,iN7]at hl
   split at hl
   ·simpa using hl
   ·simp at hl
  have h3:=Jcv Au;exact Jef g c j om om om BX
theorem Jfj{c j:Nat}(hu:u<t.nodes.length)(hk:(nd t u).k=46\/(nd t u).k=47)(hc:(c:Int)∈(nd t u).kids)(hb:blw o j c)(Cf:1<=(nd t j).k/\(nd t j).k<=29):c=Ji t u:=by
 obtain⟨i,hi,De,Ay⟩:=Jcx hc;have h3:=(Jz g hu hi).2.2;rw[De]at h3;have hr:=(JX g hu hc).2;by_cases hl:i+1<(nd t u).kids.length
 ·exfalso;have PH:(nd t c).k=48:=by
   rcases hk with e|e
   ·have h:=Jdf g hu;change Qk (nd t u).k (nd t u).n (lets t.nodes (nd t u))=true at h;rw[e]at h;unfold Qk at h;rw[iN7,iN7,iN7,iN7,iN7,iN7,iN7,iN7,iN7,if_pos rfl]at h;simp only[Gd,beq_iff_eq,KG]at h;have:=Y6 79 48 (QN hu h.1.2 (i:=i) om om).2 sM;rw[h3];exact this
   ·have h:=Jcg g hu e;change (nd t u).kids.length=3/\_ at h;have:=h.2.1 i om;rw[h3];exact this
  have:=bound_below g (show c<t.nodes.length by omega) PH hb;subst this;omega
 ·have Af:i=(nd t u).kids.length-1:=om
  rw[<-De,Af];rfl
theorem JdO {s j:Nat}(hs:s<t.nodes.length)(hk:(nd t s).k=41)(Cf:1<=(nd t j).k/\(nd t j).k<=29):blw o j s↔blw o j (Ji t s):=by
 obtain⟨a,hN,hl,k1,k2⟩:=Yp g hs hk;change (nd t s).kids.length=a+1 at hl;have hm:=Jz g hs (i:=(nd t s).kids.length-1) om
 constructor
 ·intro h;rcases Jdj g hs h with rfl|⟨c,hc,hb⟩
  ·omega
  ·obtain⟨i,hi,De,Ay⟩:=Jcx hc;by_cases Af:i<a
   ·exfalso;have h3:=(Jz g hs hi).2.2;rw[De]at h3;have:=k1 i Af;change Jv t.nodes ((nd t s).kids.getD i 0)=42 at this;have:=bind_below g (show c<t.nodes.length by have:=(JX g hs hc).2;omega) om hb;omega
   ·have:i=(nd t s).kids.length-1:=om
    rw[<-De,this]at hb;exact hb
 ·intro h;exact Qx g hs h (Qz g hs hm.1)
end
section
variable(g:GoodT t o)
include g
theorem up_pairs {j:Nat}(Cf:1<=(nd t j).k/\(nd t j).k<=29):∀(f c top:Nat),top<t.nodes.length->blw o c top->blw o j c->Jc7 t (λu c=>(nd t u).k=46\/(nd t u).k=47->c=Ji t u) (upL t top f c)
 |0,_,_,_,_,_=>trivial
 |f+1,c,top,Bu,I1,Um=>by
  unfold upL;by_cases he:c=top
  ·rw[if_pos he];trivial
  ·rw[if_neg he];obtain⟨m,hp,di,bU,RD,hk⟩:=XX g Bu I1 he;rw[hp,Gb];have hm:m<t.nodes.length:=om
   have Ul:=Qx g hm Um (Qz g hm hk);have ih:=up_pairs Cf f m top Bu RD Ul
   cases f with
   |zero=>
    refine⟨λh=>Jfj g hm h hk Um Cf,?_⟩
    trivial
   |succ f=>
    unfold upL at ih|-;by_cases En:m=top
    ·rw[if_pos En]at ih|-;exact⟨λh=>Jfj g hm h hk Um Cf,trivial⟩
    ·rw[if_neg En]at ih|-;exact⟨λh=>Jfj g hm h hk Um Cf,ih⟩
theorem late_eq {j s:Nat}(hs:s<t.nodes.length)(hk:(nd t s).k=41)(Cf:1<=(nd t j).k/\(nd t j).k<=29)(hb:blw o j s)(f:Nat):buL t (upL t (Ji t s) f j) false=tdL t (upL t (Ji t s) f j).reverse false:=by
 have h1:=(JdO g hs hk Cf).1 hb;obtain⟨a,hN,hl,_,_⟩:=Yp g hs hk;change (nd t s).kids.length=a+1 at hl;have hm:=Jz g hs (i:=(nd t s).kids.length-1) om;have Ab:Ji t s<t.nodes.length:=by have:=hm.2.1;change Ji t s<s at this;omega
 have hj:j<t.nodes.length:=by have:=h1.1;omega
 exact bu_td _ _ (up_pairs g Cf f j (Ji t s) Ab h1 (JcL g hj))
end
def XI (t:Tr)(o:Lu)(of:Lu)(s:Nat):Lu:=(Ql t).filter λx=>(Ga t.nodes.length).any λi=>(nd t i).k == 3 && (decide (0<=of.getD i (-1)) && ((nd t (of.getD i (-1)).toNat).k == 42 && (JbS o i s && (Kv t (of.getD i (-1)).toNat == x && (Kv t x.toNat == Kv t s && !buL t (upL t (Ji t s) t.nodes.length i) false)))))
def YS (t:Tr)(o:Lu)(of:Lu)(s:Nat):Lu:=(Ql t).filter λx=>(Ga t.nodes.length).any λi=>(nd t i).k == 3 && (decide (0<=of.getD i (-1)) && (JbS o i (Ji t s) && ((nd t (of.getD i (-1)).toNat).k == 42 && (Kv t (of.getD i (-1)).toNat == x && (Kv t x.toNat == Kv t s && !tdL t (upL t (Ji t s) t.nodes.length i).reverse false)))))
theorem need_eq(g:GoodT t o){of:Lu}{s:Nat}(hs:s<t.nodes.length)(hk:(nd t s).k=41):XI t o of s=YS t o of s:=by
 unfold XI YS;refine H5 λx _=>?_
 rw[Gj];simp only[Gw,Gh,Gd,beq_iff_eq,decide_eq_true_eq,GR,QZ]
 constructor
 ·rintro⟨i,hi,h1,h2,h3,h4,h5,h6,h7⟩;have he:1<=(nd t i).k/\(nd t i).k<=29:=om
  exact⟨i,hi,h1,h2,(JdO g hs hk he).1 h4,h3,h5,h6,by rw[<-late_eq g hs hk he h4];exact h7⟩
 ·rintro⟨i,hi,h1,h2,h4,h3,h5,h6,h7⟩;have he:1<=(nd t i).k/\(nd t i).k<=29:=om
  have hb:=(JdO g hs hk he).2 h4;exact⟨i,hi,h1,h2,h3,hb,h5,h6,by rw[late_eq g hs hk he hb];exact h7⟩
def bfsF (N:Int->Lu):Nat->Lu->Lu->Lu
 |0,_,out=>out
 |_+1,[],out=>out
 |f+1,x::todo,out=>if out.contains x then bfsF N f todo out else bfsF N f (todo++N x) (out++[x])
def YT:Lu->Lu->Nat
 |[],_=>0
 |y::l,out=>(if out.contains y=true then 0 else 1)+YT l out
def muB (l todo out:Lu):Nat:=YT l out*(l.length+1)+todo.length
theorem left_le {out:Lu}:∀m:Lu,YT m (out++[x])<=YT m out
 |[]=>Gp _
 |y::m=>by
  have ih:=left_le (out:=out) m;simp only[YT];by_cases h1:out.contains y=true
  ·have h2:(out++[x]).contains y=true:=by simp at h1|-;exact .inl h1
   rw[if_pos h1,if_pos h2];omega
  ·rw[if_neg h1];split <;> omega
theorem Jak {out:Lu}:∀{l:Lu},x∈l->out.contains x=false->YT l (out++[x])<YT l out
 |[],hx,_=>by cases hx
 |y::l,hx,hn=>by
  have Bb:=left_le (out:=out) (x:=x) l;simp only[YT];by_cases he:y=x
  ·subst he;have h2:(out++[y]).contains y=true:=sM
   rw[if_pos h2,if_neg (by rw[hn];simp)];omega
  ·have Bn:x∈l:=by
    rcases Gi.1 hx with h|h
    ·exact absurd h.symm he
    ·exact h
   have:=Jak Bn hn;have h3:(out++[x]).contains y=out.contains y:=by rw[Gj];simp[he]
   rw[h3];omega
theorem Jd9(hN:∀x∈l,(∀y∈N x,y∈l)/\(N x).length<=l.length):∀(f f':Nat) (todo out:Lu),(∀x∈todo,x∈l)->muB l todo out<f->muB l todo out<f'->bfsF N f todo out=bfsF N f' todo out
 |0,_,_,_,_,h,_=>om
 |_,0,_,_,_,_,h=>om
 |f+1,f' + 1,[],out,_,_,_=>rfl
 |f+1,f' + 1,x::todo,out,ht,h1,h2=>by
  simp only[bfsF];have hx:=ht x sM;by_cases hc:out.contains x=true
  ·rw[if_pos hc,if_pos hc];refine Jd9 hN f f' todo out (λy hy=>ht y (by simp[hy])) ?_ ?_ <;> (unfold muB at *;simp only[Gl]at *;omega)
  ·rw[if_neg hc,if_neg hc];have hl:=Jak hx (by simpa using hc);have hn:=hN x hx;have hm:(YT l (out++[x])+1)*(l.length+1)<=YT l out*(l.length+1):=Ho _ hl;refine Jd9 hN f f' (todo++N x) (out++[x]) (λy hy=>?_) ?_ ?_
   ·rcases Gn.1 hy with hy|hy
    ·exact ht y (by simp[hy])
    ·exact hn.1 y hy
   all_goals
    unfold muB at *;simp only[Gl,G5,Nat.add_mul]at *;omega
def bfs (N:Int->Lu)(l todo out:Lu):Lu:=bfsF N (muB l todo out+1) todo out
theorem bfs_nil{out:Lu}:bfs N l [] out=out:=rfl
theorem bfs_old{out:Lu}(hN:∀x∈l,(∀y∈N x,y∈l)/\(N x).length<=l.length)(ht:∀y∈x::todo,y∈l)(hc:out.contains x=true):bfs N l (x::todo) out=bfs N l todo out:=by unfold bfs;rw[bfsF,if_pos hc];refine Jd9 hN _ _ todo out (λy hy=>ht y (by simp[hy])) ?_ (Lh _);unfold muB;simp only[Gl];omega
theorem bfs_new{out:Lu}(hN:∀x∈l,(∀y∈N x,y∈l)/\(N x).length<=l.length)(ht:∀y∈x::todo,y∈l)(hc:out.contains x=false):bfs N l (x::todo) out=bfs N l (todo++N x) (out++[x]):=by
 unfold bfs;rw[bfsF,if_neg (by rw[hc];simp)];have hx:=ht x sM;have hl:=Jak hx hc;have hn:=hN x hx;have hm:(YT l (out++[x])+1)*(l.length+1)<=YT l out*(l.length+1):=Ho _ hl;refine Jd9 hN _ _ _ _ (λy hy=>?_) ?_ (Lh _)
 ·rcases Gn.1 hy with hy|hy
  ·exact ht y (by simp[hy])
  ·exact hn.1 y hy
 ·unfold muB;simp only[Gl,G5,Nat.add_mul]at *;omega
def J2 (t:Tr)(o:Lu)(i:Nat):Int:=if (nd t i).k=3 then Jf4 t o i else if (nd t i).k=26 then Jdy t i else if (nd t i).k=44 then Jct t i else -1
def KH (t:Tr)(i:Nat):Bool:=(nd t i).k == 3 || (nd t i).k == 26 || (nd t i).k == 44
def JaO (t:Tr)(o:Lu)(a b:Int):Lx->Option (Nat×Int)
 |[]=>none
 |i::l=>if twN t i=true then some (i,a) else if (KH t i && J2 t o i == -1)=true then some (i,b) else JaO t o a b l
def JgU (t:Tr)(o:Lu)(a b:Int):Lx->Option (Nat×Int)
 |[]=>none
 |i::l=>if (KH t i && decide (J2 t o i<0))=true then some (i,b) else if twR t o i=true then some (i,a) else JgU t o a b l
theorem JhC{q:Int->Bool}(h:∀x∈l,0<=x):(match l.find? q with|some d=>d|none=>-1)<0↔(match l.find? q with|some d=>d|none=>-1) = -1:=by
 cases hf:l.find? q with
 |none=>simp
 |some d=>have:=h d (List.mem_of_find?_eq_some hf);simp only;omega
theorem mean_neg:J2 t o i<0↔J2 t o i = -1:=by
 have h:∀x∈Ql t,0<=x:=λx hx=>(KO.1 hx).1
 unfold J2
 split
 ·exact JhC h
 split
 ·exact JhC h
 split
 ·exact JhC h
 ·omega
section
variable(g:GoodT t o)
include g
omit g in
theorem tw_next(hk:(nd t i).k=44)(h:twN t i=true):∃k,k<i/\(nd t k).k=44/\J2 t o k=J2 t o i:=by unfold twN at h;rw[if_neg (by rintro⟨h1,_⟩;exact h1 hk),Gw]at h;obtain⟨k,ER,hb⟩:=h;rw[if_pos hk]at hb;simp only[Gd,beq_iff_eq]at hb;obtain⟨h1,h2,h3⟩:=hb;refine⟨k,Gh.1 ER,h2,?_⟩;unfold J2;rw[hk,h2,if_neg vk,if_neg vk,if_pos rfl,if_neg vk,if_neg vk,if_pos rfl];unfold Jct;rw[h1,h3]
theorem scan_eq (a b:Int):∀(n m:Nat),n+m=t.nodes.length->(∀k,k<n->(KH t k && J2 t o k == -1)=false)->JaO t o a b ((Ga t.nodes.length).drop n)=JgU t o a b ((Ga t.nodes.length).drop n)
 |n,0,EP,_=>by rw[GD (by rw[GJ];omega)];rfl
 |n,m+1,EP,MS=>by
  have Ab:n<(Ga t.nodes.length).length:=by rw[GJ];omega
  rw[Gq Ab,GI];have DJ:n<t.nodes.length:=om
  have Iy:(KH t n && decide (J2 t o n<0))=(KH t n && J2 t o n == -1):=by
   congr 1
   rw[Gj,decide_eq_true_eq,beq_iff_eq];exact mean_neg
  simp only[JaO,JgU];rw[Iy,<-tw_eq g DJ];by_cases h1:(KH t n && J2 t o n == -1)=true
  ·rw[if_pos h1];by_cases h2:twN t n=true
   ·exfalso;have hk:(nd t n).k=44:=by
     unfold twN at h2;by_cases h3:(nd t n).k≠44/\KU (nd t n).k=false
     ·rw[if_pos h3]at h2;cases h2
     ·unfold KH at h1;simp only[Gd,Hm,beq_iff_eq]at h1;by_cases h4:(nd t n).k=44
      ·exact h4
      ·exfalso;apply h3;refine⟨h4,?_⟩;rcases h1.1 with (e|e)|e
       ·rw[e];rfl
       ·rw[e];rfl
       ·exact absurd e h4
    obtain⟨k,Bh,Bz,Dr⟩:=tw_next (o:=o) hk h2;have hp:=MS k Bh;rw[Dr]at hp;unfold KH at hp h1;rw[Bz]at hp;simp only[Gd]at h1;rw[h1.2]at hp;simp at hp
   ·rw[if_neg h2,if_pos h1]
  ·rw[if_neg h1,if_neg h1];by_cases h2:twN t n=true
   ·rw[if_pos h2,if_pos h2]
   ·rw[if_neg h2,if_neg h2];refine scan_eq a b (n+1) m om λk hk=>?_
    by_cases Bh:k<n
    ·exact MS k Bh
    ·have:k=n:=om
     subst this;simpa using h1
end
theorem Jfn{M:Int->Lu}{q:Int->Prop}(hN:∀x,q x->N x=M x/\∀y∈N x,q y):∀(f:Nat) (todo out:Lu),(∀x∈todo,q x)->bfsF N f todo out=bfsF M f todo out
 |0,_,_,_=>rfl
 |_+1,[],_,_=>rfl
 |f+1,x::todo,out,h=>by
  have hx:=hN x (h x sM);simp only[bfsF]
  split
  ·exact Jfn hN f todo out λy hy=>h y (by simp[hy])
  ·rw[<-hx.1];refine Jfn hN f _ _ λy hy=>?_
   rcases Gn.1 hy with hy|hy
   ·exact h y (by simp[hy])
   ·exact hx.2 y hy
def ofL (t:Tr)(o:Lu):Lu:=(Ga t.nodes.length).map λi=>J2 t o i
def stN (t:Tr)(o:Lu)(i:Nat):Bool:=(nd t i).k == 41 && (bfs (λx=>XI t o (ofL t o) x.toNat) (Ql t) (XI t o (ofL t o) i) []).contains (i:Int)
def stR (t:Tr)(o:Lu)(i:Nat):Bool:=(nd t i).k == 41 && ((Ql t).filter λx=>(bfs (λx=>YS t o (ofL t o) x.toNat) (Ql t) (YS t o (ofL t o) i) []).contains x).contains (i:Int)
theorem nd_in(h:(nd t i).k≠0):i<t.nodes.length:=by
 rcases Lj i t.nodes.length with h1|h1
 ·exact h1
 ·exfalso;apply h;unfold nd;rw[Gc,GG h1];rfl
section
variable(g:GoodT t o)
include g
theorem JdW {of:Lu}{s:Nat}(h:x∈XI t o of s):0<=x/\x<t.nodes.length/\(nd t x.toNat).k=41:=by
 unfold XI at h;rw[Gm,KO]at h;obtain⟨h0,h⟩:=h;simp only[Gw,Gh,Gd,beq_iff_eq,decide_eq_true_eq,GR,QZ]at h;obtain⟨i,hi,h1,h2,h3,h4,h5,h6,h7⟩:=h;refine⟨h0.1,h0.2,?_⟩;generalize (of.getD i (-1)).toNat=m at h3 h5;have hm:=nd_in (t:=t) (i:=m) om;obtain⟨u,q1,q2,q3,q4⟩:=QO g hm om;have:x.toNat=u:=om
 rw[this];exact(YL (Jc6 g q2 q4)).2.2.1 (by rw[h3];rfl)
theorem st_eq(hi:i<t.nodes.length):stN t o i=stR t o i:=by
 unfold stN stR;by_cases hk:(nd t i).k=41
 ·have hq:∀x:Int,(0<=x/\x<t.nodes.length/\(nd t x.toNat).k=41)->XI t o (ofL t o) x.toNat=YS t o (ofL t o) x.toNat/\∀y∈XI t o (ofL t o) x.toNat,(0<=y/\y<t.nodes.length/\(nd t y.toNat).k=41):=λx hx=>⟨need_eq g om hx.2.2,λy hy=>JdW g hy⟩
  rw[<-need_eq g hi hk];unfold bfs;rw[Jfn hq _ _ _ λx hx=>JdW g hx]
  congr 1
  rw[Gj];simp only[Hu,decide_eq_true_eq,Gm,KO]
  constructor
  ·intro h;exact⟨om,h⟩
  ·intro h;exact h.2
 ·have e:((nd t i).k == 41)=false:=by simpa using hk
  rw[e,Lg,Lg]
end
def YP (t:Tr)(o:Lu):Nat×Int:=match JaO t o 6 10 (Ga t.nodes.length) with
 |some r=>r
 |none=>match (Ga t.nodes.length).find? (stN t o) with
  |some i=>(i,9)
  |none=>(0,0)
def resR (t:Tr)(o:Lu):Nat×Int:=match JgU t o 6 10 (Ga t.nodes.length) with
 |some r=>r
 |none=>match (Ga t.nodes.length).find? (stR t o) with
  |some i=>(i,9)
  |none=>(0,0)
theorem res_eq(g:GoodT t o):YP t o=resR t o:=by
 have h:=scan_eq g 6 10 0 t.nodes.length om (λk hk=>by omega);rw[Lb]at h;have hf:∀l:Lx,(∀i∈l,i<t.nodes.length)->l.find? (stN t o)=l.find? (stR t o):=by
  intro l
  induction l with
  |nil=>intro _;rfl
  |cons i l ih=>intro hl;rw[Gx,Gx,st_eq g (hl i sM),ih λx hx=>hl x (by simp[hx])]
 unfold YP resR;rw[h,hf _ λi hi=>Gh.1 hi]
def upT (t:Tr):Lu:=(Ga t.nodes.length).map λj=>Kv t j
def upTo (t:Tr)(i:Nat):Lu:=(Ga t.nodes.length).map λj=>if Kv t j<i then Kv t j else -1
def Xz (v:Int):Lu->Lu->Lu
 |r,[]=>r
 |r,k::ks=>Xz v (r.set k.toNat v) ks
theorem Jbt:∀(ks r:Lu),(Xz v r ks).length=r.length
 |[],_=>rfl
 |k::ks,r=>by rw[Xz,Jbt ks,Hf]
theorem JbW{k:Int}:∀(ks r:Lu),Xz v r (ks++[k])=(Xz v r ks).set k.toNat v
 |[],_=>rfl
 |_::ks,_=>JbW ks _
theorem Jbu:∀(ks r:Lu) (j:Nat),(∀k∈ks,0<=k)->(Xz v r ks)[j]? = if (j:Int)∈ks/\j<r.length then some v else r[j]?
 |[],_,_,_=>by simp[Xz]
 |k::ks,r,j,h=>by
  rw[Xz,Jbu ks _ j λx hx=>h x (by simp[hx]),Hf,HZ];have hk:=h k sM;by_cases h1:(j:Int)∈ks/\j<r.length
  ·rw[if_pos h1,if_pos ⟨by simp[h1.1],h1.2⟩]
  ·rw[if_neg h1];by_cases h2:k.toNat=j
   ·rw[if_pos h2];by_cases h3:j<r.length
    ·rw[iP7,if_pos ⟨by simp;left;omega,h3⟩]
    ·rw[iN7,if_neg (λh=>h3 h.2),GG om]
   ·rw[if_neg h2,if_neg];rintro⟨h3,h4⟩;rcases Gi.1 h3 with h5|h5
    ·omega
    ·exact h1 ⟨h5,h4⟩
def X9 (t:Tr)(i:Nat):Lu:=(Ga i).map (λj=>(QR t j:Int))++Gg (t.nodes.length-i) 0
def JdG (t:Tr):Lu:=(Ga t.nodes.length).map λj=>(QR t j:Int)
theorem itemTo_zero:X9 t 0=Gg t.nodes.length 0:=by simp[X9]
theorem itemTo_all:X9 t t.nodes.length=JdG t:=by simp[X9,JdG]
theorem Jf9(h:i<=t.nodes.length):(X9 t i).length=t.nodes.length:=by simp[X9];omega
theorem itemTo_succ(h:i<t.nodes.length):(X9 t i).set i (QR t i:Int)=X9 t (i+1):=by unfold X9;rw[List.set_append_right _ _ sM];simp only[H9,GJ,Nat.sub_self];rw[show t.nodes.length-i=(t.nodes.length-(i+1))+1 by omega,List.replicate_succ,List.set_cons_zero,List.range_succ,He];simp
theorem YW:(upTo t i).length=t.nodes.length:=by simp[upTo]
theorem Jee:(upT t).length=t.nodes.length:=by simp[upT]
theorem Jcy:(JdG t).length=t.nodes.length:=by simp[JdG]
theorem upT_get(h:i<t.nodes.length):(upT t).getD i 0=Kv t i:=by simp[upT,Gc,h]
theorem itemT_get(h:i<t.nodes.length):(JdG t).getD i 0=QR t i:=by simp[JdG,Gc,h]
section
variable(g:GoodT t o)
include g
theorem par_rng {j:Nat}(hj:j<t.nodes.length) : -1<=Kv t j/\Kv t j<t.nodes.length:=by rcases Xq g hj with ⟨h,_⟩|⟨m,h,h1,h2,_⟩ <;> omega
theorem upTo_zero:upTo t 0=Gg t.nodes.length (-1):=by
 refine GL (by simp[upTo]) λj h1 h2=>?_
 have hj:j<t.nodes.length:=by rwa [YW]at h1
 have:=par_rng g hj;simp only[upTo,Hd,GI,List.getElem_replicate]
 split <;> omega
theorem upTo_all:upTo t t.nodes.length=upT t:=by
 refine GL (by simp[upTo,upT]) λj h1 h2=>?_
 have hj:j<t.nodes.length:=by rwa [YW]at h1
 have:=par_rng g hj;simp only[upTo,upT,Hd,GI]
 split <;> omega
theorem upTo_succ(hi:i<t.nodes.length):upTo t (i+1)=Xz i (upTo t i) (nd t i).kids:=by
 refine List.ext_getElem? λj=>?_
 rw[Jbu (nd t i).kids _ _ λk hk=>(g.kid hi hk).1,YW];by_cases hj:j<t.nodes.length
 ·simp only[upTo,G8,List.getElem?_range hj,Gz];by_cases hm:(j:Int)∈(nd t i).kids
  ·have:=(JX g hi hm).1;rw[if_pos (show (j:Int)∈(nd t i).kids/\j<t.nodes.length from⟨hm,hj⟩),if_pos (show Kv t j<((i+1:Nat):Int) by omega),this]
  ·rw[if_neg (show ¬((j:Int)∈(nd t i).kids/\j<t.nodes.length) from λh=>hm h.1)];have Ai:Kv t j≠i:=by
    intro he;rcases Xq g hj with ⟨h,_⟩|⟨m,h,_,_,h4⟩
    ·omega
    ·have:m=i:=om
     subst this;exact hm h4
   by_cases h1:Kv t j<i
   ·rw[if_pos h1,if_pos (show Kv t j<((i+1:Nat):Int) by omega)]
   ·rw[if_neg h1,if_neg (show ¬Kv t j<((i+1:Nat):Int) by omega)]
 ·rw[if_neg (λh=>hj h.2),GG (by rw[YW];omega),GG (by rw[YW];omega)]
theorem Jga:QR t 0=0:=by unfold QR;rw[List.length_eq_zero_iff,GY];intro L hL;have:=g.itr hL;simp;omega
theorem itemN_step(hi:i<t.nodes.length):∃L:Nat,QR t i<t.items.length/\t.items.getD (QR t i) 0=(L:Int)/\i<=L/\L<t.nodes.length/\QR t (i+1)=if i=L then QR t i+1 else QR t i:=by
 obtain⟨k,L,hk,Bc,h1,h2,h3,h4⟩:=item_of g hi;have hL:(L:Int)∈t.items:=List.mem_of_getElem? Bc;have kw:=g.itr hL;refine⟨L,om,by rw[h1,Gc,Bc];rfl,h4,om,?_⟩;rw[h1];have ha:=Jbo g.ord.ok g.olen _ _ _ g.its;have Aq:t.items=t.items.take k++(L:Int)::t.items.drop (k+1):=by have h6:=Gq hk;have h7:=Gf hk;rw[Bc]at h7;rw[<-Hl h7]at h6;rw[<-h6,Ht]
 rw[Aq,List.pairwise_append]at ha;obtain⟨_,Di,j6⟩:=ha;rw[GH]at Di;have Ab:∀x∈t.items.take k,x<(i:Int):=λx hx=>by have:=(QT g.ord.ok g.olen _ _ _ (Ja5 g k (GV hk)).1 x hx).2.2.1;omega
 unfold QR;rw[Aq,HV,List.filter_cons,Hw.2 (λx hx=>by have:=Ab x hx;simp;omega),GY.2 (λx hx=>by have:=Di.1 x hx;simp;omega)];have Dc:(t.items.take k).length=k:=by rw[Gu];omega
 by_cases he:i=L
 ·rw[if_pos he,if_pos (by simp;omega),G5,Dc];rfl
 ·rw[if_neg he,if_neg (by simp;omega),La,Dc]
end
end Go.Cm
section
open Go.Proofs
namespace Go.Cm
variable {α:Type}{f:Nat}{l:Lu}{cap:Option Nat}
section
variable {P:Program}{E:Env}{H:Lt}
theorem putCells_get[Inhabited α](enc:α->Value)(off:Nat)(d:Array α)(c:LG)(k:Nat):(Sort.putCells enc off d c)[k]? = (c[k]?).map λx=>if off<=k/\k<off+d.size then enc d[k-off]! else x:=by simp[Sort.putCells]
theorem putRow_heap[Inhabited α](enc:α->Value)(w:World)(B off:Nat)(d:Array α){c:LG}{e:TypeId}{fr:Nat×Nat}(hb:w.heap[B]? = some (.cells c e fr)):(Sort.putRow enc w B off d).heap[B]? = some (.cells (Sort.putCells enc off d c) e fr):=by simp[Sort.putRow,Sort.mapBlock,Array.getElem?_modify,hb,Sort.onCells]
theorem putRow_other[Inhabited α](enc:α->Value)(w:World)(B off:Nat)(d:Array α)(B':Nat)(h:B'≠B):(Sort.putRow enc w B off d).heap[B']? = w.heap[B']?:=by simp[Sort.putRow,Sort.mapBlock,Array.getElem?_modify,Ne.symm h]
theorem rels_ints {own:LA}{imm:Nat->Nat->LD}:∀{ys:Lu}{vs:LF},JY own imm (ys.map (CV.int .i64)) vs->vs=ys.map (Value.int .i64)
 |[],_,h=>h
 |y::ys,_,h=>by simp only[GN,JY,rel]at h;obtain⟨r,rs,rfl,rfl,h2⟩:=h;rw[rels_ints h2];rfl
theorem JcK{id:Nat}{l' ys:Lu}{v:CV}(R:Nat->Nat->Nat->Value)(hl:l≠[])(Ad:l'.length=l.length)(hH:H[id]? = some (.arr 1 (iz l)))
  (hR:∀(own:LA) imm (x:Own) c,own[id]? = some x->x.z=1->l.length<=c->(∀n,cap=some n->c=n)->x.o+c<=x.n->rel own imm v (R x.B x.o c))
  (h:∀(blk off c:Nat) (w:World),l.length<=c->Sort.Holds (Value.int .i64) w blk off l.toArray->blk<w.heap.size->Calls P f (Value.slice (some ⟨blk,off,none⟩) l.length c::ys.map (Value.int .i64)).toArray w λe w'=>e=.returned (R blk off c)/\∃n os,w'=Sort.grow (Sort.putRow (Value.int .i64) (Sort.ahead w n) blk off l'.toArray) os) :
  CallsC P E f (.slc id 0 l.length cap::ys.map (CV.int .i64)) H λv' H'=>v'=v/\H'=H.set id (.arr 1 (iz l')):=by
 intro m w vs hs hv;have jV:0<l.length:=List.length_pos_iff.2 hl;simp only[JY,rel]at hv;obtain⟨r,rs,BF,⟨x,a,c,hx,rfl,CY,Bp,ha,Bt⟩,eO⟩:=hv;obtain rfl:=rels_ints eO;obtain⟨hz,cells,elem,hb,BL,Bb,AP,Bi⟩:=hs.obj id _ x hH hx;rw[hz]at Bb AP ha Bt;have ha:=ha om;rw[Li,Hq]at ha;have BF:vs=(Value.slice (some a) l.length c::ys.map (Value.int .i64)).toArray:=by cases vs;simp only[]at BF;rw[BF]
 subst BF ha;have bO:∀j,j<l.length->cells[x.o+j]? = some (Value.int .i64 (l.getD j 0)):=by intro j hj;obtain⟨r,h1,h2⟩:=(AP j [.int .i64 (l.getD j 0)] (by simp[iz,Gf hj])).2 0 _ rfl;simp only[rel]at h2;subst h2;simpa using h1
 have hB:x.B<w.heap.size:=(Array.getElem?_eq_some_iff.1 hb).1;have O7:Sort.Holds (Value.int .i64) w x.B x.o l.toArray:=by
  intro j hj;have M0:j<l.length:=by simpa using hj
  refine⟨?_,?_⟩
  ·simp only[World.cell?,hb];rw[bO j M0];simp[getElem!_pos,M0,Gc]
  ·simp[World.frozen?,hb]
 refine⟨trivial,λcs _=>?_⟩;obtain⟨e,w',fr,⟨rfl,n,os,rfl⟩,Al,Eu⟩:=h x.B x.o c w CY O7 hB cs;have C8:(Sort.putRow (Value.int .i64) (Sort.ahead w n) x.B x.o l'.toArray).heap[x.B]? = some (.cells (Sort.putCells (Value.int .i64) x.o l'.toArray cells) elem (0,0)):=putRow_heap _ _ _ _ _ (by rw[Sort.heap_ahead];exact hb);have FH:(Sort.putRow (Value.int .i64) (Sort.ahead w n) x.B x.o l'.toArray).heap.size=w.heap.size:=by rw[Sort.size_putRow];rfl
 have FP:∀B,B≠x.B->(Sort.putRow (Value.int .i64) (Sort.ahead w n) x.B x.o l'.toArray).heap[B]? = w.heap[B]?:=λB hB=>by rw[putRow_other _ _ _ _ _ _ hB];rfl
 have Bc:∀k,(Sort.putCells (Value.int .i64) x.o l'.toArray cells)[k]? = if x.o<=k/\k<x.o+l.length then some (Value.int .i64 (l'.getD (k-x.o) 0)) else cells[k]?:=by
  intro k;rw[putCells_get];by_cases hk:x.o<=k/\k<x.o+l.length
  ·have h1:=bO (k-x.o) om;rw[show x.o+(k-x.o)=k by omega]at h1;have h3:k-x.o<l'.length:=om
   rw[h1,if_pos hk,Gz,if_pos (by simp;omega)];simp[getElem!_pos,h3,Gc]
  ·rw[if_neg hk]
   cases j3:cells[k]? with
   |none=>rfl
   |some v=>rw[Gz,if_neg (by simp;omega)]
 have OC:YY m.own m.imm x (.arr 1 (iz l')) (Sort.putRow (Value.int .i64) (Sort.ahead w n) x.B x.o l'.toArray):=by
  refine⟨hz,_,elem,C8,?_,?_,?_,?_⟩
  ·simp only[Sort.putCells,Array.size_mapIdx];exact BL
  ·rw[hz,Jf,Ad];rw[Jf]at Bb;exact Bb
  ·intro j e he;rw[hz];have hj:j<l'.length:=by
    have:=(GX.1 he).1
    rwa [Jf]at this
   simp only[iz,G8,Gf hj,Gz,GA]at he;subst he;refine⟨rfl,λt c hc=>?_⟩
   cases t with
   |zero=>simp only[List.getElem?_cons_zero,GA]at hc;subst hc;refine⟨.int .i64 (l'[j]),?_,by simp only[rel]⟩;show (Sort.putCells (Value.int .i64) x.o l'.toArray cells)[x.o+j*1+0]? = _;rw[Bc,iP7,show x.o+j*1+0-x.o=j by omega,Gc,Gf hj];rfl
   |succ t=>simp at hc
  ·intro i v hv;rw[Bc]at hv
   split at hv
   ·simp only[GA]at hv;subst hv;rfl
   ·exact Bi i v hv
 have AQ:(Sort.putRow (Value.int .i64) (Sort.ahead w n) x.B x.o l'.toArray).os=w.os/\(Sort.putRow (Value.int .i64) (Sort.ahead w n) x.B x.o l'.toArray).output=w.output/\(Sort.putRow (Value.int .i64) (Sort.ahead w n) x.B x.o l'.toArray).tape=w.tape:=⟨rfl,rfl,rfl⟩;have EE:=hs.put hH rfl hx FH FP (λi hi=>by simp only[World.cell?,C8,hb];rw[Bc,if_neg (show ¬(x.o<=i/\i<x.o+l.length) by omega)]) OC (by intro s b h;cases h);have F4:Ext H.length m H w m (H.set id (.arr 1 (iz l'))) _:=Ext.put hH rfl hx FH FP AQ;have hg:∀B,B<(Sort.putRow (Value.int .i64) (Sort.ahead w n) x.B x.o l'.toArray).heap.size->(Sort.grow (Sort.putRow (Value.int .i64) (Sort.ahead w n) x.B x.o l'.toArray) os).heap[B]? = (Sort.putRow (Value.int .i64) (Sort.ahead w n) x.B x.o l'.toArray).heap[B]?:=λB hB=>Sort.heap_grow_old _ _ hB
 have Df:(Sort.putRow (Value.int .i64) (Sort.ahead w n) x.B x.o l'.toArray).heap.size<=(Sort.grow (Sort.putRow (Value.int .i64) (Sort.ahead w n) x.B x.o l'.toArray) os).heap.size:=by rw[Sort.size_grow];omega
 exact⟨_,_,fr,⟨R x.B x.o c,m,v,_,rfl,F4.trans (Ext.grown Df hg ⟨rfl,rfl,rfl⟩),EE.grown Df hg,hR _ _ x c hx hz CY Bp (by simp only[Nat.mul_one,Hq]at Bt;exact Bt),rfl,rfl⟩,(show StepsIn _ _ _ _ from JgR Al),Eu⟩
theorem callsC_sort{id:Nat}(hl:l≠[])(CZ:l.length<=1000000)(hH:H[id]? = some (.arr 1 (iz l)))
  (h:∀(blk off c:Nat) (w:World),Sort.Holds (Value.int .i64) w blk off l.toArray->blk<w.heap.size->l.length<4611686018427387904->Calls P f #[.slice (some ⟨blk,off,none⟩) l.length c] w λe w'=>e=.returned (.tuple #[])/\∃n os,w'=Sort.grow (Sort.putRow (Value.int .i64) (Sort.ahead w n) blk off (l.mergeSort λx y=>decide (x<=y)).toArray) os) :
  CallsC P E f [.slc id 0 l.length cap] H λv' H'=>v'=.tup []/\H'=H.set id (.arr 1 (iz (l.mergeSort λx y=>decide (x<=y)))):=
 JcK (ys:=[]) (λ_ _ _=>.tuple #[]) hl (List.length_mergeSort _) hH (λown imm x c _ _ _ _ _=>by simp only[rel,JY];exact⟨_,rfl,rfl⟩) λblk off c w _ h1 h2=>h blk off c w h1 h2 om
theorem compact_len (l:Lu):(Lib.compact l).length<=l.length:=by
 unfold Lib.compact Lib.compactUpTo;rw[H9];have:=List.length_filter_le (Lib.keeps l.toArray) (Ga l.length)
 rwa [GJ]at this
theorem JfB{id:Nat}(hl:l≠[])(CZ:l.length<=1000000)(hH:H[id]? = some (.arr 1 (iz l)))
  (h:∀(blk off c:Nat) (w:World),Sort.Holds (Value.int .i64) w blk off l.toArray->l.length<=9223372036854775807->l.length<=c->Calls P f #[.slice (some ⟨blk,off,none⟩) l.length c] w λe w'=>e=.returned (.slice (some ⟨blk,off,none⟩) (Lib.compact l).length c)/\∃n,w'=Sort.putRow (Value.int .i64) (Sort.ahead w n) blk off (Lib.compact l++Gg (l.length-(Lib.compact l).length) 0).toArray) :
  CallsC P E f [.slc id 0 l.length cap] H λv' H'=>v'=.slc id 0 (Lib.compact l).length cap/\H'=H.set id (.arr 1 (iz (Lib.compact l++Gg (l.length-(Lib.compact l).length) 0))):=
 have Bb:=compact_len l
 JcK (ys:=[]) (λblk off c=>.slice (some ⟨blk,off,none⟩) (Lib.compact l).length c) hl (by simp;omega) hH (λown imm x c hx hz hc Bp Bt=>by simp only[rel];exact⟨x,_,c,hx,rfl,om,Bp,λ_=>by rw[Li,Hq],by rw[hz];omega⟩) λblk off c w hc h1 _=>(h blk off c w h1 om hc).mono λe w' ⟨h3,n,h4⟩=>⟨h3,n,#[],by rw[Sort.grow_empty];exact h4⟩
theorem Jfe{x:Int}:x∈Lib.compact l↔x∈l:=by
 unfold Lib.compact Lib.compactUpTo;simp only[Gy,Gm,Gh]
 constructor
 ·rintro⟨i,⟨hi,_⟩,rfl⟩;rw[getElem!_pos l.toArray i (by simpa using hi)];simp
 ·intro hx;have key:∀(n i:Nat),i<=n->i<l.length->l.toArray[i]! = x->∃i,(i<l.length/\Lib.keeps l.toArray i=true)/\l.toArray[i]! = x:=by
   intro n
   induction n with
   |zero=>intro i h1 h2 h3;exact⟨i,⟨h2,by simp[Lib.keeps];left;omega⟩,h3⟩
   |succ n ih=>
    intro i h1 h2 h3;by_cases hk:Lib.keeps l.toArray i=true
    ·exact⟨i,⟨h2,hk⟩,h3⟩
    ·simp only[Lib.keeps,decide_eq_true_eq,not_or,ne_eq,Classical.not_not]at hk;exact ih (i-1) om om (by rw[<-hk.2];exact h3)
  obtain⟨i,hi,rfl⟩:=GZ hx;exact key i i (Gp _) hi (by rw[getElem!_pos l.toArray i (by simpa using hi)];simp)
theorem compact_asc(h:l.Pairwise (·<=·)):(Lib.compact l).Pairwise (· < ·):=by
 unfold Lib.compact Lib.compactUpTo;rw[HY];refine List.Pairwise.imp_of_mem ?_ (Hr.filter _);intro a b ha hb Su;simp only[Gm,Gh]at ha hb;have hk:=hb.2;simp only[Lib.keeps,decide_eq_true_eq]at hk;have hk:=hk.resolve_left om;have hg:∀i,i<l.length->l.toArray[i]! = l.getD i 0:=λi hi=>by rw[getElem!_pos l.toArray i (by simpa using hi),Gc,Gf hi];simp
 rw[hg b hb.1,hg (b-1) om]at hk;rw[hg a ha.1,hg b hb.1];rw[List.pairwise_iff_getElem]at h;have Bb:∀i j,i<=j->j<l.length->l.getD i 0<=l.getD j 0:=λi j Cj hj=>by
  rw[Gc,Gc,Gf hj,Gf (show i<l.length by omega)];by_cases he:i=j
  ·subst he;exact Int.le_refl _
  ·exact h i j _ _ om
 have h1:=Bb a (b-1) om om;have h2:=Bb (b-1) b om hb.1;omega
theorem sort_asc (l:Lu):(l.mergeSort λx y=>decide (x<=y)).Pairwise (·<=·):=by have:=List.pairwise_mergeSort (le:=λx y:Int=>decide (x<=y)) (λa b c h1 h2=>by simp at *;omega) (λa b=>by simp;omega) l;exact this.imp λh=>by simpa using h
theorem sort_mem{x:Int}:x∈(l.mergeSort λx y=>decide (x<=y))↔x∈l:=List.mem_mergeSort
theorem sort_strict(h:l.Nodup):(l.mergeSort λx y=>decide (x<=y)).Pairwise (· < ·):=by have h1:=sort_asc l;have h2:(l.mergeSort λx y=>decide (x<=y)).Nodup:=(List.mergeSort_perm l _).nodup_iff.2 h;exact(h1.and h2).imp λ⟨a,b⟩=>by have:_≠_:=b;omega
end
end Go.Cm
end
namespace Go.Cm
variable {t:Tr}{o:Lu}{a f i n top z:Nat}{q:Nat->Nat->Prop}{l:Lx}{els:LM}
def XJ (t:Tr)(o:Lu)(of:Lu)(s:Nat):Lx->Lu
 |[]=>[]
 |i::l=>if (decide (0<=of.getD i (-1)) && ((nd t (of.getD i (-1)).toNat).k == 42 && ((nd t i).k == 3 && (JbS o i s && (Kv t (Kv t (of.getD i (-1)).toNat).toNat == Kv t s && !buL t (upL t (Ji t s) t.nodes.length i) false)))))=true
  then Kv t (of.getD i (-1)).toNat::XJ t o of s l else XJ t o of s l
theorem needC_app{of:Lu}{s:Nat}:∀(l m:Lx),XJ t o of s (l++m)=XJ t o of s l++XJ t o of s m
 |[],_=>rfl
 |i::l,m=>by
  simp only[Gv,XJ,needC_app l m]
  split <;> simp
theorem JeP{of:Lu}{s:Nat}{x:Int}:∀(l:Lx),x∈XJ t o of s l↔∃i∈l,(decide (0<=of.getD i (-1)) && ((nd t (of.getD i (-1)).toNat).k == 42 && ((nd t i).k == 3 && (JbS o i s && (Kv t (Kv t (of.getD i (-1)).toNat).toNat == Kv t s && !buL t (upL t (Ji t s) t.nodes.length i) false)))))=true/\Kv t (of.getD i (-1)).toNat=x
 |[]=>by simp[XJ]
 |i::l=>by
  simp only[XJ,Gi,exists_eq_or_imp]
  split
  ·rename_i h;rw[Gi,JeP l]
   constructor
   ·rintro(e|e)
    ·exact .inl ⟨h,e.symm⟩
    ·exact .inr e
   ·rintro(⟨_,e⟩|e)
    ·exact .inl e.symm
    ·exact .inr e
  ·rename_i h;rw[JeP l]
   constructor
   ·exact .inr
   ·rintro(⟨e,_⟩|e)
    ·exact absurd e h
    ·exact e
theorem JeQ{of:Lu}{s:Nat}:∀(l:Lx),(XJ t o of s l).length<=l.length
 |[]=>Gp _
 |i::l=>by
  have:=JeQ (of:=of) (s:=s) l;simp only[XJ]
  split <;> simp only[Gl] <;> omega
section
variable(g:GoodT t o)
include g
theorem blw_up{j:Nat}(hj:j<t.nodes.length)(ha:a<t.nodes.length)(Ai:j≠a):JbS o j a=if Kv t j<0 then false else JbS o (Kv t j).toNat a:=by
 rcases Xq g hj with ⟨hp,_⟩|⟨m,hp,Ul,hm,hk⟩
 ·rw[hp,if_pos vk,Lf];intro h;obtain⟨m,q,_⟩:=XX g ha (QZ.1 h) Ai;omega
 ·rw[hp,iN7,Gb,Gj,QZ,QZ]
  constructor
  ·intro h;obtain⟨m',q1,_,_,q4,_⟩:=XX g ha h Ai;have:m'=m:=om
   rw[<-this];exact q4
  ·intro h;exact Qx g ha (Qz g hm hk) h
omit g in
theorem JgD{m:Nat}:∃l,upL t top f m=m::l:=by
 cases f with
 |zero=>exact⟨_,rfl⟩
 |succ f=>unfold upL;split <;> exact⟨_,rfl⟩
omit g in
theorem late_end{late:Bool}:buL t (upL t top f top) late=late:=by
 cases f with
 |zero=>rfl
 |succ f=>unfold upL;rw[if_pos rfl];rfl
theorem late_step{s:Nat}{late:Bool}(hs:s<t.nodes.length)(Bu:(Ji t s:Int)∈(nd t s).kids)(hb:blw o a (Ji t s))(hf:t.nodes.length<=a+f) :
  (a=Ji t s/\Kv t a=s)\/(a≠Ji t s/\∃m f':Nat,Kv t a=m/\m≠s/\a<m/\m<t.nodes.length/\blw o m (Ji t s)/\(a:Int)∈(nd t m).kids/\t.nodes.length<=m+f'/\buL t (upL t (Ji t s) f a) late=buL t (upL t (Ji t s) f' m) (JcY t m a late)):=by
 have hk:=JX g hs Bu;by_cases he:a=Ji t s
 ·exact .inl ⟨he,by rw[he];exact hk.1⟩
 ·have DF:Ji t s<t.nodes.length:=om
  obtain⟨m,q1,q2,q3,q4,q5⟩:=XX g DF hb he;have Am:a<t.nodes.length:=by have:=hb.1;omega
  obtain⟨f',rfl⟩:∃f',f=f' + 1:=⟨f-1,om⟩;refine .inr ⟨he,m,f',q1,om,q2,om,q4,q5,om,?_⟩;have hu:upL t (Ji t s) (f' + 1) a=a::upL t (Ji t s) f' m:=by rw[upL,if_neg he,q1,Gb]
  obtain⟨l,hl⟩:=JgD (top:=Ji t s) (f:=f') (m:=m);rw[hu,hl,buL]
theorem set_kid {s:Nat}(hs:s<t.nodes.length)(hk:(nd t s).k=41):(Ji t s:Int)∈(nd t s).kids/\0<(nd t s).kids.length:=by obtain⟨a,hN,hl,k1,k2⟩:=Yp g hs hk;change (nd t s).kids.length=a+1 at hl;exact⟨(Jz g hs (i:=(nd t s).kids.length-1) om).1,om⟩
theorem need_done {of:Lu}{s:Nat}:Lib.compact ((XJ t o of s (Ga t.nodes.length)).mergeSort λx y=>decide (x<=y))=XI t o of s:=by
 refine asc_eq (compact_asc (sort_asc _)) (Jea.filter _) λx=>?_
 unfold XI;rw[Jfe,sort_mem,JeP,Gm,KO];simp only[Gw,Gh,Gd,beq_iff_eq,decide_eq_true_eq,GR]
 constructor
 ·rintro⟨i,hi,⟨h1,h2,h3,h4,h5,h6⟩,rfl⟩;have hm:=nd_in (t:=t) (i:=(of.getD i (-1)).toNat) om;obtain⟨u,q1,q2,q3,q4⟩:=QO g hm om;exact⟨⟨om,om⟩,i,hi,h3,h1,h2,h4,rfl,h5,h6⟩
 ·rintro⟨_,i,hi,h3,h1,h2,h4,rfl,h5,h6⟩;exact⟨i,hi,⟨h1,h2,h3,h4,h5,h6⟩,rfl⟩
end
theorem pairs_get:∀(l:Lx) (k:Nat),Jc7 t q l->k+1<l.length->q (l.getD (k+1) 0) (l.getD k 0)
 |[],_,_,h=>by simp at h
 |[x],_,_,h=>by simp at h
 |c::u::l,0,h,_=>h.1
 |c::u::l,k+1,h,hk=>by have:=pairs_get (u::l) k h.2 (by simpa using hk);simpa using this
theorem rev_get(h:i<l.length):l.reverse.getD i 0=l.getD (l.length-1-i) 0:=by rw[Gc,List.getElem?_reverse h,Gc]
theorem pairs_rev(h:Jc7 t q l)(hi:i+1<l.reverse.length):q (l.reverse.getD i 0) (l.reverse.getD (i+1) 0):=by
 rw[List.length_reverse]at hi;rw[rev_get om,rev_get om];have:=pairs_get l (l.length-1-(i+1)) h om
 rwa [show l.length-1-(i+1)+1=l.length-1-i by omega]at this
theorem tdL_drop(hi:i+1<l.length):tdL t (l.drop i) false=match JhS t (l.getD i 0) (l.getD (i+1) 0) with|some b=>b|none=>tdL t (l.drop (i+1)) false:=by
 rw[Gq (show i<l.length by omega),Gq hi,tdL];simp only[Gc,Gf (show i<l.length by omega),Gf hi,GQ]
 all_goals (cases JhS t l[i] l[i+1] <;> rfl)
theorem tdL_end(hi:l.length<=i+1):tdL t (l.drop i) false=false:=by
 rcases Lj i l.length with h|h
 ·rw[Gq h,GD om];rfl
 ·rw[GD h];rfl
def setL (b:LH):Lu:=((Ga b.length).filter λi=>b.getD i false).map λi:Nat=>(i:Int)
def KT (n:Nat)(f:Int->Bool):LH:=(Ga n).map λi:Nat=>f i
theorem QV{f:Int->Bool}:(KT n f).length=n:=by simp[KT]
theorem Jgp{f:Int->Bool}(h:i<n):(KT n f).getD i false=f i:=by simp[KT,Gc,h]
theorem Jgo{g:Int->Bool}{f:Int->Bool}(h:i<n)(h1:∀j:Nat,j<n->j≠i->g j=f j)(h2:g i=true):(KT n f).set i true=KT n g:=by
 refine GL (by simp[KT]) λj a1 a2=>?_
 rw[QV]at a2;rw[List.getElem_set];simp only[KT,Hd,GI]
 split
 ·rename_i e;subst e;exact h2.symm
 ·rename_i e;exact(h1 j a2 (λx=>e x.symm)).symm
theorem boolsN_congr{g:Int->Bool}{f:Int->Bool}(h:∀j:Nat,j<n->f j=g j):KT n f=KT n g:=by unfold KT;exact List.map_congr_left λj hj=>h j (Gh.1 hj)
theorem JdB:KT n (λ_=>false)=Gg n false:=by
 refine GL (by simp[KT]) λj a1 a2=>?_
 simp[KT]
theorem JfM{f:Int->Bool}:setL (KT t.nodes.length f)=(Ql t).filter f:=by
 unfold setL Ql;rw[List.filter_map,QV]
 congr 1
 refine H5 λi hi=>?_
 rw[Jgp (Gh.1 hi)];rfl
def JbK (t:Tr)(o of:Lu)(s:Nat)(x:Int)(i:Nat):Bool:=(nd t i).k == 3 && (decide (0<=of.getD i (-1)) && (JbS o i (Ji t s) && ((nd t (of.getD i (-1)).toNat).k == 42 && (Kv t (of.getD i (-1)).toNat == x && (Kv t x.toNat == Kv t s && !tdL t (upL t (Ji t s) t.nodes.length i).reverse false)))))
theorem needR_eq{of:Lu}{s:Nat}:YS t o of s=setL (KT t.nodes.length λx=>(Ga t.nodes.length).any (JbK t o of s x)):=by rw[JfM];rfl
section
variable(g:GoodT t o)
include g
theorem up_kids:∀(f c top:Nat),top<t.nodes.length->blw o c top->Jc7 t (λu c=>(c:Int)∈(nd t u).kids/\u<t.nodes.length) (upL t top f c)
 |0,_,_,_,_=>trivial
 |f+1,c,top,Bu,I1=>by
  unfold upL;by_cases he:c=top
  ·rw[if_pos he];trivial
  ·rw[if_neg he];obtain⟨m,hp,di,bU,RD,hk⟩:=XX g Bu I1 he;rw[hp,Gb];have hm:m<t.nodes.length:=om
   have ih:=up_kids f m top Bu RD;obtain⟨l,hl⟩:=JgD (top:=top) (f:=f) (m:=m);rw[hl]at ih|-;exact⟨⟨hk,hm⟩,ih⟩
theorem up_rng:∀(f c top:Nat),top<t.nodes.length->blw o c top->∀x∈upL t top f c,x<t.nodes.length
 |0,c,top,Bu,I1,x,hx=>by simp only[upL,Gt]at hx;have:=I1.1;omega
 |f+1,c,top,Bu,I1,x,hx=>by
  unfold upL at hx;have:=I1.1;by_cases he:c=top
  ·rw[if_pos he,Gt]at hx;omega
  ·rw[if_neg he]at hx;obtain⟨m,hp,di,bU,RD,hk⟩:=XX g Bu I1 he;rw[hp,Gb]at hx;rcases Gi.1 hx with h|h
   ·omega
   ·exact up_rng f m top Bu RD x h
theorem way_step(Bu:top<t.nodes.length)(hb:blw o a top)(hf:t.nodes.length<=a+f)(Ai:a≠top):∃m f':Nat,Kv t a=m/\a<m/\m<t.nodes.length/\blw o m top/\t.nodes.length<=m+f'/\∀w:Lx,(upL t top f a).tail.reverse++w=(upL t top f' m).tail.reverse++(m::w):=by obtain⟨m,q1,q2,q3,q4,q5⟩:=XX g Bu hb Ai;obtain⟨f',rfl⟩:∃f',f=f' + 1:=⟨f-1,by have:=hb.1;omega⟩;refine⟨m,f',q1,q2,om,q4,om,λw=>?_⟩;obtain⟨l,hl⟩:=JgD (top:=top) (f:=f') (m:=m);rw[upL,if_neg Ai,q1,Gb,Hg,hl,Hg,G6,Ha];rfl
omit g in
theorem way_start:(upL t top f a).reverse=(upL t top f a).tail.reverse++[a]:=by obtain⟨l,hl⟩:=JgD (top:=top) (f:=f) (m:=a);rw[hl,G6,Hg]
omit g in
theorem way_end:(upL t top f top).tail=[]:=by
 cases f with
 |zero=>rfl
 |succ f=>rw[upL,if_pos rfl];rfl
theorem up_len(Bu:top<t.nodes.length)(hb:blw o a top)(hf:t.nodes.length<=a+f):(upL t top f a).length<=t.nodes.length-a:=by
 induction f generalizing a with
 |zero=>have:=hb.1;omega
 |succ f ih=>
  unfold upL;have:=hb.1;by_cases he:a=top
  ·rw[if_pos he];simp;omega
  ·rw[if_neg he];obtain⟨m,q1,q2,q3,q4,q5⟩:=XX g Bu hb he;rw[q1,Gb,Gl];have:=ih q4 om;omega
end
section
variable {P:Program}{E:Env}{n0:Nat}{N:Fr}{Q:Exit->Ls->Lt->Prop}{H:Lt}{T:Ls}{k:LJ}{m:Bk}{w:World}
theorem JgS {id k:Nat}{o o':CObj}(h:(H.set id o')[k]? = some o):(k=id/\o=o')\/(k≠id/\H[k]? = some o):=by
 rw[HZ]at h
 split at h
 ·rename_i e
  split at h
  ·exact .inl ⟨e.symm,(Hl h).symm⟩
  ·cases h
 ·rename_i e;exact .inr ⟨λx=>e x.symm,h⟩
theorem Sim.trunc{id:Nat}(hs:Sim E m H w)(hH:H[id]? = some (.arr z els))(j:Nat):Sim E m (H.set id (.arr z (els.take j))) w/\Ext n0 m H w m (H.set id (.arr z (els.take j))) w:=by
 have key:∀(k:Nat) o,(H.set id (.arr z (els.take j)))[k]? = some o->∃o',H[k]? = some o'/\o'.alive=o.alive/\(k≠id->o'=o):=by
  intro k o h;rcases JgS h with ⟨rfl,rfl⟩|⟨h1,h2⟩
  ·exact⟨_,hH,rfl,λh=>absurd rfl h⟩
  ·exact⟨o,h2,rfl,λ_=>rfl⟩
 refine⟨⟨by rw[Hf];exact hs.len,λk o x hk hx=>?_,hs.imm,hs.one,λk k' o o' x x' hk AB ha AV hx Av hB=>?_,λk o x hk ha hx=>?_,λk s b hk=>?_,λk o x hk ha hx=>?_,hs.extlt,hs.gl⟩,
  ⟨Gp _,λ_ _ _=>rfl,KI.refl _,λB hB=>.inl ?_,λB i v hv=>.inl hv,λk x _ hx=>hx,λh=>h,rfl,rfl,rfl⟩⟩
 ·rcases JgS hk with ⟨rfl,rfl⟩|⟨_,h2⟩
  ·obtain⟨hz,c,elem,h1,h2,h3,h4,h5⟩:=hs.obj k _ x hH hx;refine⟨hz,c,elem,h1,h2,?_,λi e he=>?_,h5⟩
   ·have:(els.take j).length*x.z<=els.length*x.z:=Ho _ (by rw[Gu];omega);omega
   ·have Cj:i<j:=by have:=(GX.1 he).1;rw[Gu]at this;omega
    rw[Hz,if_pos Cj]at he;exact h4 i e he
  ·exact hs.obj k o x h2 hx
 ·obtain⟨p,hp,CJ,_⟩:=key k o hk;obtain⟨p',EN,Iq,_⟩:=key k' o' AB;exact hs.sep k k' p p' x x' hp EN (CJ.trans ha) (Iq.trans AV) hx Av hB
 ·obtain⟨p,hp,CJ,_⟩:=key k o hk;exact hs.ro k p x hp (CJ.trans ha) hx
 ·rcases JgS hk with ⟨_,h2⟩|⟨_,h2⟩
  ·cases h2
  ·exact hs.ext k s b h2
 ·obtain⟨p,hp,CJ,_⟩:=key k o hk;exact hs.extsep k p x hp (CJ.trans ha) hx
 ·rcases hB with h|⟨k,o,x,hk,ha,hx,hB⟩
  ·exact .inl h
  ·obtain⟨p,hp,CJ,_⟩:=key k o hk;exact .inr ⟨k,p,x,hp,CJ.trans ha,hx,hB⟩
theorem CallsC.trunc{id j:Nat}{args:Ls}{v:CV}{R R':CV->Lt->Prop}(h:CallsC P E f args H R)(hR:∀v H',R v H'->R' v H'\/∃id z els j,H'[id]? = some (.arr z els)/\R' v (H'.set id (.arr z (els.take j)))):CallsC P E f args H R':=by
 intro m w vs hs hv;refine(h m w vs hs hv).mono ?_;rintro e w' ⟨r,m',v,H',h1,h2,h3,h4,h5⟩;rcases hR _ _ h5 with g|⟨id,z,els,j,g1,g2⟩
 ·exact⟨r,m',v,H',h1,h2,h3,h4,g⟩
 ·obtain⟨t1,t2⟩:=h3.trunc (n0:=H.length) g1 j;exact⟨r,m',v,_,h1,h2.trans t2,t1,h4,g2⟩
def rowW (id:Nat)(els:LM):CV:=.slc id 0 els.length (Jd8 els)
def Jfu (P:Program)(f:Nat)(args:Ls)(z:Nat)(els:LM):Prop:=∀(E:Env) (H:Lt),CallsC P E f args H λv H'=>v=rowW H.length els/\H'=H++[.arr z els]
theorem rowW_shift(i n:Nat){own own':LA}{imm:Nat->Nat->LD}{r:Value}(ho:∀(k:Nat) x,own[k]? = some x->own'[n+k]? = some x)(h:rel own imm (rowW i els) r):rel own' imm (rowW (n+i) els) r:=by simp only[rowW,rel]at h|-;obtain⟨x,a,c,hx,g⟩:=h;exact⟨x,a,c,ho _ _ hx,g⟩
theorem Je2{args:Ls}(h:CallsC P Env.none f args [] λv H'=>∃id,v=rowW id els/\H'[id]? = some (.arr z els))(ha:Jl args=true)(hc:Jq els=true):Jfu P f args z els:=λE H=>by
 refine CallsC.frameG (mk:=λn=>rowW n els) (G:=[.arr z els]) (h.ren λv H' ⟨id,hv,hH⟩=>⟨[id],?_,?_,?_⟩) ha (λo ho=>by simp only[Gt]at ho;rw[ho];exact .inr ⟨_,_,rfl,hc⟩) λn own own' imm r ho h=>rowW_shift 0 n ho h
 ·have:=(GX.1 hH).1;simp[Jc3,this]
 ·rw[hv];simp[rowW,ren,Jk]
 ·simp only[KD,GN,Le,Gc,hH,GQ,Jo,Jb hc]
theorem Jfu.fn{args:Ls}(h:Jfu P f args z els)(ha:Jl args=true)(hc:Jq els=true):Fn P f args (.rslc z els none):=by refine Jbe (((h Env.none []).mono λv H' ⟨h1,h2⟩=>?_)) ha rfl;subst h1 h2;refine .inr ⟨0,z,els,rfl,hc,?_⟩;simp only[rowW,frz,H8,if_true,Nat.zero_add,Gp,Lb,List.take_length];exact wk.refl _
theorem vr_rowW {d:Option Nat}{g:Option (Nat×Bool)}{xa:LK}{l:LB}(hg:GOk T g)(Ah:Jfu P f (xa.map (Kb T)) z els)(h:Ky P E n0 N Q (.ops l::k) (put T d (rowW H.length els)) (H++[.arr z els])):Ok P E n0 N Q (.ops (⟨d,.call f xa,g⟩::l)::k) T H:=Kq hg (Ah E H) λv H' ⟨h1,h2⟩=>by rw[h1,h2];exact h
end
end Go.Cm
section
set_option maxRecDepth 100000
open Go.RowKit Go.Proofs
namespace Go.Cm
variable {cap:Option Nat}{k m:Nat}
theorem inrU64 {x:Int}(h1:0<=x)(h2:x<=18446744073709551615):InR .u64 x:=⟨h1,h2⟩
section
variable {P:Program}{E:Env}{H:Lt}{T:Ls}
theorem CallsC.wk {f:Nat}{args:Ls}{R R':CV->Lt->Prop}(h:CallsC P E f args H R)(hR:∀v H',R v H'->∃v',Cm.wk v v'/\R' v' H'):CallsC P E f args H R':=by intro m w vs hs hv;refine(h m w vs hs hv).mono ?_;rintro e w' ⟨r,m',v,H',h1,h2,h3,h4,h5⟩;obtain⟨v',w1,w2⟩:=hR _ _ h5;exact⟨r,m',v',H',h1,h2,h3,w1 _ _ _ h4,w2⟩
theorem wk_cap {i o l c:Nat}:wk (.slc i o l (some c)) (.slc i o l none):=by intro own imm v h;simp only[rel]at h|-;obtain⟨x,a,c',h1,h2,h3,h4,h5⟩:=h;exact⟨x,a,c',h1,h2,h3,λ_ h=>(by cases h),h5⟩
theorem hs_sl {d:Option Nat}{z:Nat}{x:IArg}{lo hi mx:Option IArg}{id off len:Nat}{c:Cond}{v:CV}(ha:Kb T x=.slc id off len cap)(he:exec (.slice z x lo hi mx) T H=some (c,v,H))(hc:c.holds) :
  HS P E ⟨d,.slice z x lo hi mx,none⟩ T H v H (.on [id+1],.on []):=by
 refine⟨λ_ _=>rfl,λT2 H2 CQ hx=>⟨H2,λy hy=>(by cases hy),λ_ _=>rfl,λ_ _ _ _ _ Ao=>?_⟩⟩;have hH:H2[id]? = H[id]?:=by have:=hx (id+1) (by simp[Foot.has]);simpa [hat]using this
 have hE:∀lo hi mx,X3 z H2 (.slc id off len cap) lo hi mx=X3 z H (.slc id off len cap) lo hi mx:=λlo hi mx=>by simp only[X3,hH]
 have En:exec (.slice z x lo hi mx) T2 H2=some (c,v,H2):=by
  rw[<-QF (Jj CQ).2];simp only[exec,ha,hE]at he|-
  split at he
  ·split at he
   ·rename_i h1;simp only[GA,Prod.mk.injEq]at he;obtain⟨rfl,rfl,_⟩:=he;simp[]
   ·cases he
  ·cases he
 exact JeN (.inl rfl) En hc Ao
theorem sortRow {id:Nat}{l:Lu}(hl:l≠[])(CZ:l.length<=1000000)(hH:H[id]? = some (.arr 1 (iz l))):CallsC Gs E 175 [.slc id 0 l.length cap] H λv' H'=>v'=.tup []/\H'=H.set id (.arr 1 (iz (l.mergeSort λx y=>decide (x<=y)))):=callsC_sort hl CZ hH λblk off c w h1 h2 h3=>Tryz.slices_Sort_int blk off c l w h1 h2 h3
theorem compactRow {id:Nat}{l:Lu}(hl:l≠[])(CZ:l.length<=1000000)(hH:H[id]? = some (.arr 1 (iz l))):CallsC Gs E 179 [.slc id 0 l.length cap] H λv' H'=>v'=.slc id 0 (Lib.compact l).length cap/\H'=H.set id (.arr 1 (iz (Lib.compact l++Gg (l.length-(Lib.compact l).length) 0))):=JfB hl CZ hH λblk off c w h1 h2 h3=>Tryz.slices_Compact_int blk off c l w h1 h2 h3
theorem sortNil:Fn Gs 175 [.nils] (.tup []):=by
 intro E H;refine KZ λm w vs hs hv=>?_
 simp only[JY,rel]at hv;obtain⟨r,rs,e,rfl,rfl⟩:=hv;have BF:vs=#[.slice none 0 0]:=by cases vs;simp_all
 subst BF;exact⟨_,(Tryz.slices_Sort_int_none none 0 w).mono λe w' ⟨h1,h2⟩=>⟨h1,by rw[h2];exact Below.refl _ _⟩,by simp only[rel,JY];exact⟨_,rfl,rfl⟩⟩
theorem compactNil:Fn Gs 179 [.nils] .nils:=by
 intro E H;refine KZ λm w vs hs hv=>?_
 simp only[JY,rel]at hv;obtain⟨r,rs,e,rfl,rfl⟩:=hv;have BF:vs=#[.slice none 0 0]:=by cases vs;simp_all
 subst BF;exact⟨_,(Tryz.slices_Compact_int_empty none 0 w).mono λe w' ⟨h1,h2⟩=>⟨h1,by rw[h2];exact Below.refl _ _⟩,by simp only[rel]⟩
theorem mulOne (m:Nat)(hm:m<18446744073709551616):Fn Gs 172 [.int .u64 1,.int .u64 (m:Int)] (.tup [.int .u64 0,.int .u64 (m:Int)]):=by
 intro E H;refine KZ λm' w vs hs hv=>?_
 simp only[JY,rel]at hv;obtain⟨r,rs,e,rfl,r2,rs2,rfl,rfl,rfl⟩:=hv;have BF:vs=#[.int .u64 ((1:Nat):Int),.int .u64 (m:Int)]:=by cases vs;simp_all
 subst BF;have h:=Tryz.bits_Mul 1 m om hm w;rw[Nat.one_mul,Nat.div_eq_of_lt hm,Nat.mod_eq_of_lt hm]at h;exact⟨_,h.mono λe w' ⟨h1,h2⟩=>⟨h1,by rw[h2];exact Below.refl _ _⟩,by simp only[rel,JY];exact⟨_,rfl,_,_,rfl,rfl,_,_,rfl,rfl,rfl⟩⟩
end
def repS (v:Int)(m k:Nat):Lu:=Gg k v++Gg (m-k) 0
theorem repS_len {v:Int}(h:k<=m):(repS v m k).length=m:=by simp[repS];omega
theorem repS_step {v:Int}{q:Nat}(h:k+q<=m)(hq:q<=k):(iz (repS v m k)).take k++((((iz (repS v m k)).take k).take q)++(iz (repS v m k)).drop (k+q))=iz (repS v m (k+q)):=by
 have h1:(repS v m k).take k=Gg k v:=by unfold repS;rw[List.take_left' sM]
 have h2:(repS v m k).drop (k+q)=Gg (m-(k+q)) 0:=by
  unfold repS;rw[List.drop_append,GD sM,List.length_replicate,GM,Hy]
  congr 1;omega
 unfold iz;rw[<-Lc,<-Lc,<-List.map_drop,<-He,<-He,h1,h2,List.take_replicate,Nat.min_eq_left hq,<-Ha,List.replicate_append_replicate];rfl
theorem repeatO (v:Int)(m:Nat)(hm:m<=100000)(E:Env)(H:Lt):CallsC Gs E 129 [.rslc 1 (iz [v]) none,.int .i64 (m:Int)] H λv' H'=>v'=.slc H.length 0 m none/\H'=H++[.arr 1 (iz (Gg m v))]:=by
 refine CallsC.frameG (mk:=λn=>.slc n 0 m none) (G:=[.arr 1 (iz (Gg m v))]) (CallsC.wk (R:=λv' H'=>v'=.slc 0 0 m (some m)/\H'=[.arr 1 (iz (Gg m v))]) (Ke c129_ok λN=>?_) λv' H' ⟨e1,e2⟩=>⟨.slc 0 0 m none,by rw[e1];exact wk_cap,rfl,e2⟩) rfl (λo ho=>by simp only[Gt]at ho;rw[ho];exact .inr ⟨_,_,rfl,Jh _⟩) (λn own own' imm r ho h=>by simp only[rel]at h|-;obtain⟨x,a,c,hx,g⟩:=h;exact⟨x,a,c,ho _ _ hx,g⟩)
 have d0:((m:Int)<0)=False:=J7;have d1:((m:Int) > 9223372036854775807)=False:=J7;have d1':((9223372036854775807:Int)<(m:Int))=False:=J7;have dm:decide ((9223372036854775807:Int)<(m:Int))=false:=decide_eq_false om;simp -implicitDefEqProofs only[c129,go_sem,d0,iz,GN,Le,Gl,H8];refine⟨inrU64 om om,inrU64 om om,?_⟩;refine J3 (mulOne m om) ?_;simp -implicitDefEqProofs only[go_sem,d1];refine⟨Jg,⟨om,Int.le_refl _,om,om⟩,sM,?_⟩;refine JL (I:=λk:Nat=>(m=0\/1<=k)/\k<=m) (inv:=λk=>gp [(7,.slc 0 0 m (some m)),(0,.int .i64 (k:Int))] 39) (hp:=λk=>[.arr 1 (iz (repS v m k))]) (μ:=λk=>m-k) (min 1 m) ⟨om,om⟩ ?_ ?_ ?_
 ·simp[forget,gp]
 ·rcases Nat.eq_zero_or_pos m with rfl|h
  ·simp[repS,iz]
  ·rw[show min 1 m=1 by omega];simp[repS,iz,Hy]
 ·rintro k ⟨Du,Au⟩;by_cases Ab:k<m
  ·have e1:=dtT k m;obtain⟨q,hq⟩:∃q,q=min k (m-k):=⟨_,rfl⟩;have fU:q<=k:=om
   have Al:=repS_step (v:=v) (m:=m) (k:=k) (q:=q) om fU;have hL:(iz (repS v m k)).length=m:=by rw[Jf,repS_len Au]
   simp -implicitDefEqProofs only[go_sem,e1];refine Jbq [Foot.no,Foot.no,Foot.no,(.on [1],.on []),Foot.no,Foot.no,(.on [1],.on []),Foot.any,Foot.no,Foot.no] Jm vM ?_;refine⟨_,_,Y8 rfl rfl trivial,_,_,Y8 rfl rfl trivial,_,_,Y8 rfl rfl trivial,_,_,hs_sl (id:=0) (off:=0) (len:=m) (cap:=some m) rfl rfl ?_,_,_,Y8 rfl rfl trivial,_,_,Y8 rfl rfl trivial,_,_,hs_sl (id:=0) (off:=0) (len:=m) (cap:=some m) rfl rfl ?_,.int .i64 (q:Int),[.arr 1 (iz (repS v m (k+q)))],?_,_,_,Y8 rfl rfl ?_,_,_,Y8 rfl rfl trivial,?_⟩
   ·show 0<=(k:Int)/\(k:Int)<=(m:Int)/\(m:Int)<=(m:Int);omega
   ·show 0<=(0:Int)/\(0:Int)<=(k:Int)/\(k:Int)<=(m:Int);omega
   ·refine hs_any (.inl rfl) (c:=.le m m) ?_ (Gp m);simp -implicitDefEqProofs only[go_sem];have hx:(List.take k (iz (repS v m k))).length=k:=by rw[Gu,hL];omega
    rw[Nat.sub_zero,iP7];simp only[hx,hL,<-hq,Al];rw[show k+(m-k)=m by omega]
   ·exact Jg
   ·simp -implicitDefEqProofs only[vdf,go_sem];refine⟨k+q,⟨om,om⟩,om,?_⟩;simp[forget]
  ·have e1:=dfF k m;have Dr:k=m:=om
   subst Dr;simp -implicitDefEqProofs only[go_sem,e1];simp[repS,iz]
end Go.Cm
end
end
