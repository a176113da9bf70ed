/-
  A part of the proof. Conditions: none.
-/
import Derived.Test.YtdnnimemociklaaGreatDoorYP3
import Derived.Lib.SlicesCompact
set_option linter.unusedSimpArgs false
set_option linter.unusedVariables false
open List renaming getD_eq_getElem?_getD->Gh,getElem?_eq_getElem->Gj,range->Ga,map_cons->Gd,length_cons->Gi,drop_zero->Gg,map_nil->Gf,drop_eq_nil_of_le->Gv,append_nil->Gr,drop_eq_getElem_cons->GH,take_of_length_le->GA,mem_filter->Gt,replicate->Gs,length_append->Gz,length_nil->Gw,getElem_mem->Gy,mem_range->Gx,length_filter_le->GM,nil_append->GI,mem_of_find?_eq_some->GZ,find?_cons->GJ,mem_cons->GK,any_cons->GL,mem_append->GN,length_take->GQ,cons_append->GR,take_succ_eq_append_getElem->H7,length_range->G5,set_cons_zero->G9,mem_replicate->Ha,getElem?_eq_none->Hl,getElem?_eq_some_iff->H8,find?_nil->G6,any_eq_true->Hd,drop_succ_cons->Hm,any_nil->GX,set_cons_succ->Ho,mem_singleton->Hq,getElem_range->Hr,drop_of_length_le->H9,length_mergeSort->La,mem_of_mem_drop->Lb,map_append->Ht,find?_some->Hu,pairwise_cons->Lc,filter_append->Ld,append_assoc->Le,ext_getElem->Lf,length_pos_of_mem->Lp,filter_eq_nil_iff->Lr,range_succ->Lg,mem_map->Hw,length_map->Lh,contains_iff_mem->Ls,mem_of_getElem?->Lt,length_reverse->VZ,getElem_of_mem->VY,reverse_cons->Vv,nodup_append->Vw,getElem?_map->Vx,find?_filter->VW,filter_congr->VU,any_eq_false->V3,getElem_map->Vz,filter_cons->vg,take->Hy,length_set->ve,tail_cons->vT,contains_eq_any_beq->Vu,length_eq_zero_iff->Vy,getElem?_cons_zero->LW,pairwise_lt_range->LX,take_append_drop->LY,contains_eq_mem->LZ,filter_eq_self->L6,drop_replicate->L8,mergeSort_nil->L9,getElem?_take->Na,contains_cons->Nb,pairwise_map->Nc,getElem?_set->Ng,flatten_cons->Nh,contains_nil->Ni,mem_flatten->Nj,length_drop->Nk,drop_length->Nl,take_left'->Nn,nodup_cons->Np,filter_nil->Nq,map_take->Nr,map_set->Ns,length->Nt
open Option renaming getD_some->Hz,map_some->HV
open Option.some renaming injEq->HY,inj->VT
open Bool renaming and_eq_true->Gp,not_true->Gl,not_false->Gm,false_and->Gq,true_and->Gn,false_or->Gu,eq_iff_iff->GD,true_or->GU,not_eq_true'->He,and_false->G7,or_false->Hf,or_eq_true->Li,or_eq_false_iff->VV,and_eq_true_iff->VX,eq_false_iff->Nu,or_true->Nv
open Int renaming toNat_natCast->Gc,le_refl->GV,toNat_of_nonneg->Lj,lt_or_le->Nw
open Nat renaming le_refl->GG,mul_le_mul_right->HZ,le_trans->GY,zero_add->G8,add_zero->Hg,lt_or_ge->H5,add_mul->H6,le_of_lt->Ll,one_mul->Lm,lt_trichotomy->Ny,lt_succ_self->Nz,le_add_right->NA,mul_le_mul->NB,zero_mul->NC
open Go.Proofs.Tryz renaming prog->Gb
noncomputable section
namespace Go.Cm
variable {a d i k m n u:Nat}{t:Tr}{l o todo:Lx}{v x:Int}{N:Int->Lx}
theorem Jag {k : Nat}(c : UInt8)(m : Nat)(h : JdR k = c)(hm : (c, m) ∈ ([(66, 40), (83, 41), (98, 42), (73, 43), (78, 44), (71, 45), (79, 48), (80, 64)] : List (UInt8 × Nat))) : k = m := by
  unfold JdR letter at h;simp only [GK, List.not_mem_nil, or_false, Prod.mk.injEq] at hm;by_cases a1 : 1 <= k /\ k <= 29
  · rw [if_pos a1] at h; rcases hm with ⟨rfl, rfl⟩ | ⟨rfl, rfl⟩ | ⟨rfl, rfl⟩ | ⟨rfl, rfl⟩ | ⟨rfl, rfl⟩ | ⟨rfl, rfl⟩ | ⟨rfl, rfl⟩ | ⟨rfl, rfl⟩ <;> exact absurd h vk
  rw [if_neg a1] at h;by_cases a2 : 60 <= k /\ k <= 63
  · rw [if_pos a2] at h; rcases hm with ⟨rfl, rfl⟩ | ⟨rfl, rfl⟩ | ⟨rfl, rfl⟩ | ⟨rfl, rfl⟩ | ⟨rfl, rfl⟩ | ⟨rfl, rfl⟩ | ⟨rfl, rfl⟩ | ⟨rfl, rfl⟩ <;> exact absurd h vk
  rw [if_neg a2] at h;by_cases a3 : k = 46 \/ k = 47
  · rw [if_pos a3] at h; rcases hm with ⟨rfl, rfl⟩ | ⟨rfl, rfl⟩ | ⟨rfl, rfl⟩ | ⟨rfl, rfl⟩ | ⟨rfl, rfl⟩ | ⟨rfl, rfl⟩ | ⟨rfl, rfl⟩ | ⟨rfl, rfl⟩ <;> exact absurd h vk
  rw [if_neg a3] at h;rcases (show k = 40 \/ k = 41 \/ k = 42 \/ k = 43 \/ k = 44 \/ k = 45 \/ k = 48 \/ k = 64 \/ k = 65 \/ (k ≠ 40 /\ k ≠ 41 /\ k ≠ 42 /\ k ≠ 43 /\ k ≠ 44 /\ k ≠ 45 /\ k ≠ 48 /\ k ≠ 64 /\ k ≠ 65) by omega) with rfl | rfl | rfl | rfl | rfl | rfl | rfl | rfl | rfl | ⟨b1, b2, b3, b4, b5, b6, b7, b8, b9⟩
  all_goals first
    | (rcases hm with ⟨rfl, rfl⟩ | ⟨rfl, rfl⟩ | ⟨rfl, rfl⟩ | ⟨rfl, rfl⟩ | ⟨rfl, rfl⟩ | ⟨rfl, rfl⟩ | ⟨rfl, rfl⟩ | ⟨rfl, rfl⟩ <;> first | rfl | exact absurd h vk)
    | (rw [if_neg b1, if_neg b2, if_neg b3, if_neg b4, if_neg b5, if_neg b6, if_neg b7, if_neg b8, if_neg b9] at h
       rcases hm with ⟨rfl, rfl⟩ | ⟨rfl, rfl⟩ | ⟨rfl, rfl⟩ | ⟨rfl, rfl⟩ | ⟨rfl, rfl⟩ | ⟨rfl, rfl⟩ | ⟨rfl, rfl⟩ | ⟨rfl, rfl⟩ <;> exact absurd h vk)
theorem JcF(h:JdR k=116):60<=k/\k<=63:=by
 unfold JdR letter at h;by_cases a1:1<=k/\k<=29
 ·rw[if_pos a1]at h;exact absurd h vk
 rw[if_neg a1]at h;by_cases a2:60<=k/\k<=63
 ·exact a2
 exfalso;rw[if_neg a2]at h
 repeat' (split at h)
 all_goals exact absurd h vk
theorem Jbh(h:JdR k=101):1<=k/\k<=29:=by
 by_cases a1:1<=k/\k<=29
 ·exact a1
 exfalso;unfold JdR letter at h;rw[if_neg a1]at h
 repeat' (split at h)
 all_goals exact absurd h vk
section
variable(g:GoodT t o)
include g
omit g in
theorem QN(hu:u<t.nodes.length){a b:Int}{c:UInt8}(h:Kh (lets t.nodes (t.nodes.getD u default)) a b c=true)(h1:a<=i)(h2:(i:Int)<b):i<(t.nodes.getD u default).kids.length/\JdR (Jw t.nodes ((t.nodes.getD u default).kids.getD i 0))=c:=by
 obtain⟨p1,p2,p3,p4⟩:=Kb.1 h;rw[KH]at p3;have hi:i<(t.nodes.getD u default).kids.length:=om;refine⟨hi,?_⟩;have hg:((lets t.nodes (t.nodes.getD u default)).take b.toNat).drop a.toNat=Gs (b.toNat-a.toNat) c:=p4;have hx:(((lets t.nodes (t.nodes.getD u default)).take b.toNat).drop a.toNat)[i-a.toNat]? = some c:=by rw[hg,List.getElem?_replicate,iP7]
 rw[List.getElem?_drop,Na,iP7,show a.toNat+(i-a.toNat)=i by omega]at hx;unfold lets at hx;rw[Vx,Gj hi]at hx;simp only[HV,HY]at hx;rw[Gh,Gj hi];exact hx
theorem Jdq(hu:u<t.nodes.length):Qk (t.nodes.getD u default).k (t.nodes.getD u default).n (lets t.nodes (t.nodes.getD u default))=true:=by have h:=g.nds (t.nodes.getD u default) (by rw[rowN hu];exact Gy hu);unfold ndI at h;rw[node_eq]at h;simp only[Ku,Gp]at h;exact h.1.1
theorem Ye(hu:u<t.nodes.length)(hk:(t.nodes.getD u default).k=28):∃a b:Nat,(t.nodes.getD u default).n=(a:Int)/\a+1<=b/\b<(t.nodes.getD u default).kids.length/\
  (∀i,i<a->Jw t.nodes ((t.nodes.getD u default).kids.getD i 0)=43)/\(1<=Jw t.nodes ((t.nodes.getD u default).kids.getD a 0)/\Jw t.nodes ((t.nodes.getD u default).kids.getD a 0)<=29)/\
  (∀i,a+1<=i->i<b->Jw t.nodes ((t.nodes.getD u default).kids.getD i 0)=41)/\(∀i,b<=i->i+1<(t.nodes.getD u default).kids.length->Jw t.nodes ((t.nodes.getD u default).kids.getD i 0)=44)/\
  Jw t.nodes ((t.nodes.getD u default).kids.getD ((t.nodes.getD u default).kids.length-1) 0)=45:=by
 have h:=Jdq g hu;rw[hk]at h;unfold Qk at h;rw[iN7,iN7,iN7,iN7,iN7,iN7,iN7,iN7,iN7,iN7,iN7,iN7,if_pos rfl]at h;simp only[Gp,decide_eq_true_eq,KH]at h;obtain⟨⟨⟨⟨⟨⟨q0,q1⟩,q2⟩,q3⟩,q4⟩,q5⟩,q6⟩:=h;generalize hb:Qz 83 (lets t.nodes (t.nodes.getD u default))=c at q4 q5;obtain⟨a,ha⟩:∃a:Nat,(t.nodes.getD u default).n=(a:Int):=⟨_,(Lj q0).symm⟩;rw[ha]at q1 q2 q3 q4 q5;have r5:=Kb.1 q5;have r6:=Kb.1 q6;rw[KH]at r5 r6;refine⟨a,a+1+c,ha,om,om,λi hi=>?_,?_,λi h1 h2=>?_,λi h1 h2=>?_,?_⟩
 ·exact Jag 73 43 (QN hu q2 om om).2 sM
 ·exact Jbh (QN hu q3 (i:=a) om om).2
 ·exact Jag 83 41 (QN hu q4 om om).2 sM
 ·exact Jag 78 44 (QN hu q5 om om).2 sM
 ·exact Jag 71 45 (QN hu q6 (i:=(t.nodes.getD u default).kids.length-1) om om).2 sM
theorem JgF(hu:u<t.nodes.length)(hk:(t.nodes.getD u default).k=40):∃a:Nat,(t.nodes.getD u default).n=(a:Int)/\a<=(t.nodes.getD u default).kids.length/\
  (∀i,i<a->Jw t.nodes ((t.nodes.getD u default).kids.getD i 0)=41)/\(∀i,a<=i->i<(t.nodes.getD u default).kids.length->1<=Jw t.nodes ((t.nodes.getD u default).kids.getD i 0)/\Jw t.nodes ((t.nodes.getD u default).kids.getD i 0)<=29):=by
 have h:=Jdq g hu;rw[hk]at h;unfold Qk at h;rw[iN7,iN7,iN7,iN7,iN7,iN7,if_pos rfl]at h;simp only[Gp,KH]at h;have r:=Kb.1 h.1;rw[KH]at r;obtain⟨a,ha⟩:∃a:Nat,(t.nodes.getD u default).n=(a:Int):=⟨_,(Lj r.2.1).symm⟩;rw[ha]at h r;refine⟨a,ha,om,λi hi=>?_,λi h1 h2=>?_⟩
 ·exact Jag 83 41 (QN hu h.1 om om).2 sM
 ·exact Jbh (QN hu h.2 om om).2
theorem Yu(hu:u<t.nodes.length)(hk:(t.nodes.getD u default).k=41):∃a:Nat,(t.nodes.getD u default).n=(a:Int)/\(t.nodes.getD u default).kids.length=a+1/\
  (∀i,i<a->Jw t.nodes ((t.nodes.getD u default).kids.getD i 0)=42)/\(1<=Jw t.nodes ((t.nodes.getD u default).kids.getD a 0)/\Jw t.nodes ((t.nodes.getD u default).kids.getD a 0)<=29):=by
 have h:=Jdq g hu;rw[hk]at h;unfold Qk at h;rw[iN7,iN7,iN7,iN7,iN7,iN7,iN7,if_pos rfl]at h;simp only[Gp,beq_iff_eq,KH]at h;have r:=Kb.1 h.1.2;obtain⟨a,ha⟩:∃a:Nat,(t.nodes.getD u default).n=(a:Int):=⟨_,(Lj r.2.1).symm⟩;rw[ha]at h;refine⟨a,ha,om,λi hi=>?_,?_⟩
 ·exact Jag 98 42 (QN hu h.1.2 om om).2 sM
 ·exact Jbh (QN hu h.2 (i:=a) om om).2
theorem Yc(hu:u<t.nodes.length)(hk:(t.nodes.getD u default).k=65):∃a:Nat,(t.nodes.getD u default).n=(a:Int)/\a<(t.nodes.getD u default).kids.length/\
  (∀i,i<a->Jw t.nodes ((t.nodes.getD u default).kids.getD i 0)=64)/\(∀i,a<=i->i+1<(t.nodes.getD u default).kids.length->60<=Jw t.nodes ((t.nodes.getD u default).kids.getD i 0)/\Jw t.nodes ((t.nodes.getD u default).kids.getD i 0)<=63)/\Jw t.nodes ((t.nodes.getD u default).kids.getD ((t.nodes.getD u default).kids.length-1) 0)=40:=by
 have h:=Jdq g hu;rw[hk]at h;unfold Qk at h;rw[iN7,iN7,iN7,iN7,iN7,iN7,iN7,iN7,iN7,iN7,iN7,if_pos rfl]at h;simp only[Gp,KH]at h;have r:=Kb.1 h.1.1;have r2:=Kb.1 h.2;rw[KH]at r r2;obtain⟨a,ha⟩:∃a:Nat,(t.nodes.getD u default).n=(a:Int):=⟨_,(Lj r.2.1).symm⟩;have r3:=Kb.1 h.1.2;rw[ha]at h r r3;refine⟨a,ha,om,λi hi=>?_,λi h1 h2=>?_,?_⟩
 ·exact Jag 80 64 (QN hu h.1.1 om om).2 sM
 ·exact JcF (QN hu h.1.2 om om).2
 ·exact Jag 66 40 (QN hu h.2 (i:=(t.nodes.getD u default).kids.length-1) om om).2 sM
theorem Jcq(hu:u<t.nodes.length)(hk:(t.nodes.getD u default).k=47):(t.nodes.getD u default).kids.length=3/\(∀i,i<2->Jw t.nodes ((t.nodes.getD u default).kids.getD i 0)=48)/\
  (1<=Jw t.nodes ((t.nodes.getD u default).kids.getD 2 0)/\Jw t.nodes ((t.nodes.getD u default).kids.getD 2 0)<=29):=by
 have h:=Jdq g hu;rw[hk]at h;unfold Qk at h;rw[iN7,iN7,iN7,iN7,iN7,iN7,iN7,iN7,iN7,iN7,if_pos rfl]at h;simp only[Gp,beq_iff_eq,KH]at h;refine⟨om,λi hi=>?_,?_⟩
 ·exact Jag 79 48 (QN hu h.1.2 om om).2 sM
 ·exact Jbh (QN hu h.2 (i:=2) om om).2
omit g in
theorem YU{hv:LA}{c:UInt8}(h:c∈Qi k hv):(c=80->k=65)/\(c=73->k=28)/\(c=98->k=41)/\(c=83->k=40\/k=28)/\(c=99->k=29)/\(c=78->k=28)/\(c=116->k=25\/k=62\/k=63\/k=64\/k=42\/k=65)/\(c=79->k=46\/k=47)/\c≠68:=by
 unfold Qi at h
 dsimp only at h
 by_cases e0:4<=k/\k<=18
 ·rw[if_pos e0]at h;refine⟨?_,?_,?_,?_,?_,?_,?_,?_,?_⟩ <;> rintro rfl <;> first|omega|simp[]at h
 rw[if_neg e0]at h;by_cases e1:(19<=k/\k<=24)\/k=43\/k=44
 ·rw[if_pos e1]at h;refine⟨?_,?_,?_,?_,?_,?_,?_,?_,?_⟩ <;> rintro rfl <;> first|omega|simp[]at h
 rw[if_neg e1]at h;by_cases e2:k=25\/k=62\/k=63\/k=64
 ·rw[if_pos e2]at h;refine⟨?_,?_,?_,?_,?_,?_,?_,?_,?_⟩ <;> rintro rfl <;> first|omega|simp[]at h
 rw[if_neg e2]at h;by_cases e3:k=26\/k=45
 ·rw[if_pos e3]at h;refine⟨?_,?_,?_,?_,?_,?_,?_,?_,?_⟩ <;> rintro rfl <;> first|omega|simp[Ha]at h
 rw[if_neg e3]at h;by_cases e4:k=27
 ·rw[if_pos e4]at h;refine⟨?_,?_,?_,?_,?_,?_,?_,?_,?_⟩ <;> rintro rfl <;> first|omega|simp[]at h
 rw[if_neg e4]at h;by_cases e5:k=28
 ·rw[if_pos e5]at h;refine⟨?_,?_,?_,?_,?_,?_,?_,?_,?_⟩ <;> rintro rfl <;> first|omega|simp[Ha]at h
 rw[if_neg e5]at h;by_cases e6:k=29
 ·rw[if_pos e6]at h;refine⟨?_,?_,?_,?_,?_,?_,?_,?_,?_⟩ <;> rintro rfl <;> first|omega|simp[Ha]at h
 rw[if_neg e6]at h;by_cases e7:k=40
 ·rw[if_pos e7]at h;refine⟨?_,?_,?_,?_,?_,?_,?_,?_,?_⟩ <;> rintro rfl <;> first|omega|simp[Ha]at h
 rw[if_neg e7]at h;by_cases e8:k=41
 ·rw[if_pos e8]at h;refine⟨?_,?_,?_,?_,?_,?_,?_,?_,?_⟩ <;> rintro rfl <;> first|omega|simp[Ha]at h
 rw[if_neg e8]at h;by_cases e9:k=42/\hv≠[]
 ·rw[if_pos e9]at h;refine⟨?_,?_,?_,?_,?_,?_,?_,?_,?_⟩ <;> rintro rfl <;> first|omega|simp[]at h
 rw[if_neg e9]at h;by_cases e10:k=46
 ·rw[if_pos e10]at h;refine⟨?_,?_,?_,?_,?_,?_,?_,?_,?_⟩ <;> rintro rfl <;> first|omega|simp[]at h
 rw[if_neg e10]at h;by_cases e11:k=47
 ·rw[if_pos e11]at h;refine⟨?_,?_,?_,?_,?_,?_,?_,?_,?_⟩ <;> rintro rfl <;> first|omega|simp[]at h
 rw[if_neg e11]at h;by_cases e12:k=65
 ·rw[if_pos e12]at h;refine⟨?_,?_,?_,?_,?_,?_,?_,?_,?_⟩ <;> rintro rfl <;> first|omega|simp[Ha]at h
 rw[if_neg e12]at h;simp at h
theorem par_kind(hu:u<t.nodes.length){c:Int}(hc:c∈(t.nodes.getD u default).kids):JdR (Jw t.nodes c)∈Qi (t.nodes.getD u default).k (lets t.nodes (t.nodes.getD u default)):=by have h:=g.nds (t.nodes.getD u default) (by rw[rowN hu];exact Gy hu);unfold ndI Kj at h;simp only[Gp,beq_iff_eq]at h;rw[<-h.1.1.1.2];unfold lets;exact List.mem_map_of_mem hc
end
section
variable(g:GoodT t o)
def nd (t:Tr)(j:Nat):Nd:=t.nodes.getD j default
def blw (o:Lx)(j a:Nat):Prop:=j<=a/\fs o a<=j
include g
theorem J3(hm:m<t.nodes.length)(h:(n:Int)∈(nd t m).kids):Ky t n=m/\n<m:=by
 have hr:=g.kid hm h;rcases Xt g (n:=n) om with ⟨_,h2⟩|⟨m',h1,h2,h3,h4⟩
 ·exact absurd h (h2 m hm)
 ·have:=g.ord.parent_one (Kq hm) (Kq h3) h h4;subst this;exact⟨h1,h2⟩
theorem JhN(ha:a<t.nodes.length):0<=fs o a/\fs o a<=a:=JhM g.ord.ok om (by rw[g.olen];omega)
theorem JcW(ha:a<t.nodes.length):blw o a a:=⟨GG _,(JhN g ha).2⟩
theorem Qy{j:Nat}(ha:a<t.nodes.length)(h1:blw o i j)(h2:blw o j a):blw o i a:=by have:=g.ord.nest a j (by rw[QF];exact ha) om h2.2 (by have:=h2.1;omega);refine⟨GY h1.1 h2.1,?_⟩;have:=h1.2;omega
theorem QA(hm:m<t.nodes.length)(h:(n:Int)∈(nd t m).kids):blw o n m:=by have h1:=g.ord.kid_rng (Kq hm) h;have h2:=(JhN g (a:=n) om).2;exact⟨om,om⟩
theorem Jck{j:Nat}(hu:u<t.nodes.length)(h:blw o j u):j=u\/∃c:Nat,(c:Int)∈(nd t u).kids/\blw o j c:=by
 by_cases he:j=u
 ·exact .inl he
 ·have h1:=h.1;obtain⟨c,hc,h3,h4⟩:=XE g.ord.ok rfl _ _ _ (j:Int) (g.ord.kids (Kq hu)) h.2 om;have hr:=g.kid hu hc;obtain⟨c,rfl⟩:∃k:Nat,c=(k:Int):=⟨c.toNat,om⟩;exact .inr ⟨c,hc,om,h3⟩
theorem kid_one{j c:Nat}(hu:u<t.nodes.length)(hc:(c:Int)∈(nd t u).kids)(hd:(d:Int)∈(nd t u).kids)(h1:blw o j c)(h2:blw o j d):c=d:=by have a1:=h1.1;have a2:=h2.1;have:=Jfu g.ord.ok rfl _ _ _ (j:Int) c d (g.ord.kids (Kq hu)) hc hd h1.2 om h2.2 om;omega
theorem X4{j:Nat}(ha:a<t.nodes.length)(h:blw o j a)(Ai:j≠a):∃m:Nat,Ky t j=m/\j<m/\m<=a/\blw o m a/\(j:Int)∈(nd t m).kids:=by have h1:=h.1;obtain⟨m,q1,q2,q3⟩:=par_in g a j ha h.2 om;have:=(J3 g (show m<t.nodes.length by omega) q3).1;exact⟨m,this,q1,q2,⟨q2,by have:=h.2;omega⟩,q3⟩
def Xx (t:Tr)(u k:Nat):Lx:=(nd t u).kids.filter λc=>Jw t.nodes c == k
def Jax (t:Tr)(u:Nat):Lx:=((Xx t u 41).map λs=>Xx t s.toNat 42).flatten
def JcS (t:Tr)(u a:Nat):Lx:=
 if (nd t u).k=40 then Jax t u
 else if (nd t u).k=65 then Xx t u 64
 else if (nd t u).k=47 then(if (a:Int)=(nd t u).kids.getD 2 0 then [(u:Int)] else [])
 else if (nd t u).k=28 then(if (nd t a).k=43 then [] else if (nd t a).k=41\/(nd t a).k=44 then Xx t u 43++Jax t u else Xx t u 43)
 else []
def Yk (t:Tr):Nat->Nat->Lx
 |0,_=>[]
 |f+1,a=>if Ky t a<0 then [] else JcS t (Ky t a).toNat a++Yk t f (Ky t a).toNat
def inS (t:Tr)(o:Lx)(d:Int)(j:Nat):Prop:=∃u a:Nat,u<t.nodes.length/\(a:Int)∈(nd t u).kids/\blw o j a/\d∈JcS t u a
theorem Jfs:∀(f j:Nat) (d:Int),j<t.nodes.length->t.nodes.length<=j+f->(d∈Yk t f j↔inS t o d j):=by
 intro f
 induction f with
 |zero=>intro j d h1 h2;omega
 |succ f ih=>
  intro j d h1 h2;unfold Yk;rcases Xt g h1 with ⟨hp,Cc⟩|⟨m,hp,F9,Co,MJ⟩
  ·rw[hp,if_pos vk];refine⟨λh=>by simp at h,λ⟨u,a,hu,ha,hb,_⟩=>?_⟩;exfalso;have SB:=(J3 g hu ha).2;by_cases he:j=a
   ·subst he;exact Cc u hu ha
   ·obtain⟨m,q1,_⟩:=X4 g (show a<t.nodes.length by omega) hb he;rw[hp]at q1;omega
  ·rw[hp,iN7,GN,Gc,ih m d Co om]
   constructor
   ·rintro(h|⟨u,a,hu,ha,hb,hd⟩)
    ·exact⟨m,j,Co,MJ,JcW g h1,h⟩
    ·have SB:=(J3 g hu ha).2;exact⟨u,a,hu,ha,Qy g om (QA g Co MJ) hb,hd⟩
   ·rintro⟨u,a,hu,ha,hb,hd⟩;have SB:=(J3 g hu ha);by_cases he:j=a
    ·subst he;have:u=m:=by rw[hp]at SB;omega
     subst this;exact .inl hd
    ·obtain⟨m',q1,_,_,q4,_⟩:=X4 g (show a<t.nodes.length by omega) hb he;have:m'=m:=by rw[hp]at q1;omega
     subst this;exact .inr ⟨u,a,hu,ha,q4,hd⟩
omit g in
theorem Qx{c:Int}:c∈Xx t u k↔c∈(nd t u).kids/\Jw t.nodes c=k:=by unfold Xx;simp
theorem JcB(hu:u<t.nodes.length){d:Int}:d∈Jax t u↔∃s:Nat,(s:Int)∈(nd t u).kids/\(nd t s).k=41/\d∈(nd t s).kids/\Jw t.nodes d=42:=by
 unfold Jax;simp only[Nj,Hw]
 constructor
 ·rintro⟨l,⟨s,hs,rfl⟩,hd⟩;rw[Qx]at hs hd;have hr:=g.kid hu hs.1;refine⟨s.toNat,?_,?_,hd.1,hd.2⟩
  ·rw[show ((s.toNat:Nat):Int)=s by omega];exact hs.1
  ·exact hs.2
 ·rintro⟨s,h1,h2,h3,h4⟩;refine⟨_,⟨(s:Int),(Qx).2 ⟨h1,by unfold Jw;rw[Gc];exact h2⟩,rfl⟩,?_⟩;rw[Qx,Gc];exact⟨h3,h4⟩
end
section
variable(g:GoodT t o)
def Ji (t:Tr)(u:Nat):Nat:=((nd t u).kids.getD ((nd t u).kids.length-1) 0).toNat
def Ju (t:Tr)(u i:Nat):Nat:=((nd t u).kids.getD i 0).toNat
def inR (t : Tr)(o : Lx)(d j : Nat) : Prop :=
  if (nd t d).k = 65 then True
  else if (nd t d).k = 64 then blw o j (Ji t (Ky t d).toNat)
  else if (nd t d).k = 43 then ∃i : Nat, (nd t (Ky t d).toNat).n <= i /\ i < (nd t (Ky t d).toNat).kids.length /\ blw o j (Ju t (Ky t d).toNat i)
  else if (nd t d).k = 47 then blw o j (Ji t d)
  else if (nd t d).k = 42 then
    (if (nd t (Ky t (Ky t d).toNat).toNat).k = 40 then blw o j (Ky t (Ky t d).toNat).toNat
     else ∃i : Nat, (nd t (Ky t (Ky t d).toNat).toNat).n + 1 <= i /\ i + 1 < (nd t (Ky t (Ky t d).toNat).toNat).kids.length /\ blw o j (Ju t (Ky t (Ky t d).toNat).toNat i))
  else False
include g
theorem Jz(hu:u<t.nodes.length)(hi:i<(nd t u).kids.length):((Ju t u i:Nat):Int)∈(nd t u).kids/\Ju t u i<u/\(nd t (Ju t u i)).k=Jw t.nodes ((nd t u).kids.getD i 0):=by
 have hm:(nd t u).kids.getD i 0∈(nd t u).kids:=by rw[Gh,Gj hi];exact Gy hi
 have hr:=g.kid hu hm;unfold Ju;refine⟨?_,om,rfl⟩;rw[show ((((nd t u).kids.getD i 0).toNat:Nat):Int)=(nd t u).kids.getD i 0 by omega];exact hm
omit g in
theorem JcH(ha:(a:Int)∈(nd t u).kids):∃i,i<(nd t u).kids.length/\Ju t u i=a/\(nd t u).kids.getD i 0=(a:Int):=by
 obtain⟨i,hi,he⟩:=VY ha;refine⟨i,hi,?_,?_⟩
 ·unfold Ju;rw[Gh,Gj hi,Hz,he];rfl
 ·rw[Gh,Gj hi,Hz,he]
theorem Jer:∀(a j:Nat),a<t.nodes.length->60<=(nd t a).k->(nd t a).k<=64->blw o j a->60<=(nd t j).k/\(nd t j).k<=64:=by
 intro a
 induction a using Nat.strongRecOn with
 |_ a ih=>
  intro j ha h1 h2 hb;rcases Jck g ha hb with rfl|⟨c,hc,Ca⟩
  ·exact⟨h1,h2⟩
  ·have hl:=par_kind g ha hc;have hr:=g.kid ha hc;change JdR (Jw t.nodes (c:Int))∈Qi (nd t a).k _ at hl;have hk:JdR (Jw t.nodes (c:Int))=116:=by
    unfold Qi at hl
    dsimp only at hl
    rcases (show (nd t a).k=60\/(nd t a).k=61\/(nd t a).k=62\/(nd t a).k=63\/(nd t a).k=64 by omega) with e|e|e|e|e <;> rw[e]at hl <;> simp at hl
    all_goals exact hl
   have Aq:=JcF hk;have Il:Jw t.nodes (c:Int)=(nd t c).k:=by unfold Jw nd;rw[Gc]
   rw[Il]at Aq;exact ih c om j om om om Ca
theorem QO(hd:d<t.nodes.length)(hk:(nd t d).k≠65):∃u:Nat,Ky t d=u/\u<t.nodes.length/\d<u/\(d:Int)∈(nd t u).kids:=by
 rcases Xt g hd with ⟨h1,h2⟩|⟨u,h1,h2,h3,h4⟩
 ·exfalso;obtain⟨L,hL,h5,h6⟩:=XE g.ord.ok g.olen _ _ _ (d:Int) g.its om om;have hr:=g.itr hL;obtain⟨L,rfl⟩:∃k:Nat,L=(k:Int):=⟨L.toNat,om⟩;by_cases he:d=L
  ·subst he;have:=g.defs _ hL;unfold Jw at this;rw[Gc]at this;exact hk this
  ·obtain⟨m,q1,q2,q3⟩:=par_in g L d om h5 om;exact h2 m om q3
 ·exact⟨u,h1,h3,h2,h4⟩
theorem Jdh(hu:u<t.nodes.length)(h:(d:Int)∈(nd t u).kids):JdR (nd t d).k∈Qi (nd t u).k (lets t.nodes (nd t u)):=by have:=par_kind g hu h;unfold Jw at this;rw[Gc]at this;exact this
theorem QM(hu:u<t.nodes.length):(d:Int)∈JcS t u a↔
  ((nd t u).k=40/\∃s:Nat,(s:Int)∈(nd t u).kids/\(nd t s).k=41/\(d:Int)∈(nd t s).kids/\(nd t d).k=42)\/
  ((nd t u).k=65/\(d:Int)∈(nd t u).kids/\(nd t d).k=64)\/
  ((nd t u).k=47/\(a:Int)=(nd t u).kids.getD 2 0/\d=u)\/
  ((nd t u).k=28/\(nd t a).k≠43/\(((d:Int)∈(nd t u).kids/\(nd t d).k=43)\/(((nd t a).k=41\/(nd t a).k=44)/\∃s:Nat,(s:Int)∈(nd t u).kids/\(nd t s).k=41/\(d:Int)∈(nd t s).kids/\(nd t d).k=42))):=by
 have Fs:Jw t.nodes (d:Int)=(nd t d).k:=by unfold Jw nd;rw[Gc]
 unfold JcS;by_cases e1:(nd t u).k=40
 ·rw[if_pos e1,JcB g hu,Fs];simp[e1]
 rw[if_neg e1];by_cases e2:(nd t u).k=65
 ·rw[if_pos e2,Qx,Fs];simp[e2]
 rw[if_neg e2];by_cases e3:(nd t u).k=47
 ·rw[if_pos e3];by_cases e4:(a:Int)=(nd t u).kids.getD 2 0
  ·rw[if_pos e4];simp only[Hq,e3,e4];simp;omega
  ·rw[if_neg e4];refine⟨λh=>by simp at h,λh=>?_⟩;rcases h with ⟨q,_⟩|⟨q,_⟩|⟨_,q,_⟩|⟨q,_⟩
   ·omega
   ·omega
   ·exact absurd q e4
   ·omega
 rw[if_neg e3];by_cases e5:(nd t u).k=28
 ·rw[if_pos e5];by_cases e6:(nd t a).k=43
  ·rw[if_pos e6];simp[e5,e6]
  ·rw[if_neg e6];by_cases e7:(nd t a).k=41\/(nd t a).k=44
   ·rw[if_pos e7,GN,Qx,JcB g hu,Fs];simp[e5,e6,e7]
   ·rw[if_neg e7,Qx,Fs];simp[e5,e6,e7]
 ·rw[if_neg e5];simp[e1,e2,e3,e5]
theorem inS_inR{j:Nat}(hd:d<t.nodes.length)(hj:j<t.nodes.length)(Cq:1<=(nd t j).k/\(nd t j).k<=29)(hk:(nd t d).k=64\/(nd t d).k=43\/(nd t d).k=47\/(nd t d).k=42):inS t o (d:Int) j↔inR t o d j:=by
 obtain⟨u,hp,hu,Mf,PK⟩:=QO g hd om;have OX:=YU (Jdh g hu PK);unfold inR;rw[hp,Gc,iN7];rcases hk with e|e|e|e
 ·
  rw[if_pos e];have P9:(nd t u).k=65:=OX.1 (by rw[e];rfl);obtain⟨N,hN,jr,k1,k2,k3⟩:=Yc g hu P9;change N<(nd t u).kids.length at jr
  constructor
  ·rintro⟨v,a,hv,ha,hb,AU⟩;rw[QM g hv]at AU;have UV:v=u/\(nd t v).k=65:=by
    rcases AU with ⟨_,s,_,_,_,q⟩|⟨q1,q2,_⟩|⟨q1,_,q2⟩|⟨_,_,⟨_,q⟩|⟨_,s,_,_,_,q⟩⟩
    ·omega
    ·have:=(J3 g hv q2).1;exact⟨om,q1⟩
    ·subst q2;omega
    ·omega
    ·omega
   obtain⟨rfl,_⟩:=UV;obtain⟨i,hi,Dl,Ar⟩:=JcH ha;by_cases hl:i+1<(nd t v).kids.length
   ·exfalso;have R5:60<=(nd t a).k/\(nd t a).k<=64:=by
     have h3:=(Jz g hv hi).2.2;rw[Dl]at h3;by_cases PD:i<N
     ·have:=k1 i PD;change Jw t.nodes ((nd t v).kids.getD i 0)=64 at this;omega
     ·have:=k2 i om hl;change 60<=Jw t.nodes ((nd t v).kids.getD i 0)/\Jw t.nodes ((nd t v).kids.getD i 0)<=63 at this;omega
    have:=Jer g a j (by have:=(J3 g hv ha).2;omega) R5.1 R5.2 hb;omega
   ·have Ae:i=(nd t v).kids.length-1:=om;have:Ji t v=a:=by rw[<-Dl,Ae];rfl
    rw[this];exact hb
  ·intro h;have hm:=Jz g hu (i:=(nd t u).kids.length-1) om;exact⟨u,Ji t u,hu,hm.1,h,(QM g hu).2 (.inr (.inl ⟨P9,PK,e⟩))⟩
 ·
  rw[iN7,if_pos e];have Ra:(nd t u).k=28:=OX.2.1 (by rw[e];rfl);obtain⟨N,M,hN,dX,dY,k1,k2,k3,k4,k5⟩:=Ye g hu Ra;change (nd t u).n=(N:Int) at hN;rw[hN]
  constructor
  ·rintro⟨v,a,hv,ha,hb,AU⟩;rw[QM g hv]at AU;have UV:v=u/\(nd t a).k≠43:=by
    rcases AU with ⟨_,s,_,_,_,q⟩|⟨_,_,q⟩|⟨q1,_,q2⟩|⟨q0,q1,⟨q2,q⟩|⟨_,s,_,_,_,q⟩⟩
    ·omega
    ·omega
    ·subst q2;omega
    ·have:=(J3 g hv q2).1;exact⟨om,q1⟩
    ·omega
   obtain⟨rfl,Uv⟩:=UV;obtain⟨i,hi,Dl,Ar⟩:=JcH ha;have h3:=(Jz g hv hi).2.2;rw[Dl]at h3;refine⟨i,?_,hi,by rw[Dl];exact hb⟩;by_cases PD:i<N
   ·have:=k1 i PD;change Jw t.nodes ((nd t v).kids.getD i 0)=43 at this;omega
   ·omega
  ·rintro⟨i,h1,h2,h3⟩;have hm:=Jz g hu h2;have Uv:(nd t (Ju t u i)).k≠43:=by
    rw[hm.2.2];rcases (show i=N\/(N+1<=i/\i<M)\/(M<=i/\i+1<(nd t u).kids.length)\/i=(nd t u).kids.length-1 by omega) with rfl|h|h|rfl
    ·have:=k2.2;change Jw t.nodes ((nd t u).kids.getD i 0)<=29 at this;omega
    ·have:=k3 i h.1 h.2;change Jw t.nodes ((nd t u).kids.getD i 0)=41 at this;omega
    ·have:=k4 i h.1 h.2;change Jw t.nodes ((nd t u).kids.getD i 0)=44 at this;omega
    ·have:=k5;change Jw t.nodes ((nd t u).kids.getD ((nd t u).kids.length-1) 0)=45 at this;omega
   exact⟨u,Ju t u i,hu,hm.1,h3,(QM g hu).2 (.inr (.inr (.inr ⟨Ra,Uv,.inl ⟨PK,e⟩⟩)))⟩
 ·
  rw[iN7,iN7,if_pos e];obtain⟨ML,_,_⟩:=Jcq g hd e;change (nd t d).kids.length=3 at ML
  constructor
  ·rintro⟨v,a,hv,ha,hb,AU⟩;rw[QM g hv]at AU;rcases AU with ⟨_,s,_,_,_,q⟩|⟨_,_,q⟩|⟨q1,q3,q2⟩|⟨q0,q1,⟨q2,q⟩|⟨_,s,_,_,_,q⟩⟩
   ·omega
   ·omega
   ·subst q2;have:Ji t d=a:=by unfold Ji;rw[ML];change ((nd t d).kids.getD 2 0).toNat=a;rw[<-q3];rfl
    rw[this];exact hb
   ·omega
   ·omega
  ·intro h;have hm:=Jz g hd (i:=2) om;have Dk:Ji t d=Ju t d 2:=by unfold Ji Ju;rw[ML]
   rw[Dk]at h;refine⟨d,Ju t d 2,hd,hm.1,h,(QM g hd).2 (.inr (.inr (.inl ⟨e,?_,rfl⟩)))⟩;have hr:=g.kid hd (k:=(nd t d).kids.getD 2 0) (by change (nd t d).kids.getD 2 0∈(nd t d).kids;rw[Gh,Gj (show 2<(nd t d).kids.length by omega)];exact Gy _);unfold Ju;omega
 ·
  rw[iN7,iN7,iN7,if_pos e];have OC:(nd t u).k=41:=OX.2.2.1 (by rw[e];rfl);obtain⟨w,gT,hw,UY,UZ⟩:=QO g hu om;have RZ:=YU (Jdh g hw UZ);have EH:(nd t w).k=40\/(nd t w).k=28:=RZ.2.2.2.1 (by rw[OC];rfl);rw[gT,Gc];have Ul:∀v s:Nat,v<t.nodes.length->(s:Int)∈(nd t v).kids->(d:Int)∈(nd t s).kids->v=w/\s=u:=λv s hv q1 q2=>by
   have fU:=J3 g hv q1;have hs:=(J3 g (show s<t.nodes.length by omega) q2).1;have:s=u:=om;subst this;exact⟨by have:=fU.1;omega,rfl⟩
  constructor
  ·rintro⟨v,a,hv,ha,hb,AU⟩;rw[QM g hv]at AU;rcases AU with ⟨q0,s,q1,q2,q3,q⟩|⟨_,_,q⟩|⟨q1,_,q2⟩|⟨q0,q4,⟨_,q⟩|⟨q5,s,q1,q2,q3,q⟩⟩
   ·obtain⟨rfl,rfl⟩:=Ul v s hv q1 q3;rw[if_pos q0];exact Qy g hv hb (QA g hv ha)
   ·omega
   ·subst q2;omega
   ·omega
   ·obtain⟨rfl,rfl⟩:=Ul v s hv q1 q3;rw[iN7];obtain⟨N,M,hN,dX,dY,k1,k2,k3,k4,k5⟩:=Ye g hv q0;change (nd t v).n=(N:Int) at hN;obtain⟨i,hi,Dl,Ar⟩:=JcH ha;have h3:=(Jz g hv hi).2.2;rw[Dl]at h3;refine⟨i,?_,?_,by rw[Dl];exact hb⟩
    ·rw[hN];by_cases PD:i<N
     ·have:=k1 i PD;change Jw t.nodes ((nd t v).kids.getD i 0)=43 at this;omega
     ·by_cases aD:i=N
      ·subst aD;have:=k2.2;change Jw t.nodes ((nd t v).kids.getD i 0)<=29 at this;omega
      ·omega
    ·by_cases hl:i+1<(nd t v).kids.length
     ·exact hl
     ·have Ae:i=(nd t v).kids.length-1:=om;have:=k5;change Jw t.nodes ((nd t v).kids.getD ((nd t v).kids.length-1) 0)=45 at this;rw[<-Ae]at this;omega
  ·rcases EH with P5|Mt
   ·rw[if_pos P5];intro h;rcases Jck g hw h with rfl|⟨c,hc,hb⟩
    ·omega
    ·exact⟨w,c,hw,hc,hb,(QM g hw).2 (.inl ⟨P5,u,UZ,OC,PK,e⟩)⟩
   ·rw[iN7];obtain⟨N,M,hN,dX,dY,k1,k2,k3,k4,k5⟩:=Ye g hw Mt;change (nd t w).n=(N:Int) at hN;rw[hN];rintro⟨i,h1,h2,h3⟩;have hm:=Jz g hw (show i<(nd t w).kids.length by omega);have Dl:(nd t (Ju t w i)).k=41\/(nd t (Ju t w i)).k=44:=by
     rw[hm.2.2];by_cases iH:i<M
     ·exact .inl (k3 i om iH)
     ·exact .inr (k4 i om h2)
    exact⟨w,Ju t w i,hw,hm.1,h3,(QM g hw).2 (.inr (.inr (.inr ⟨Mt,om,.inr ⟨Dl,u,UZ,OC,PK,e⟩⟩)))⟩
end
theorem Jgd {α β:Type}{f:α->List β}:∀{l:List α},l.Nodup->(∀x∈l,(f x).Nodup)->(∀x∈l,∀y∈l,x≠y->∀z∈f x,z∉f y)->((l.map f).flatten).Nodup
 |[],_,_,_=>sM
 |x::l,h1,h2,h3=>by rw[Np]at h1;simp only[Gd,Nh];rw[Vw];refine⟨h2 x sM,Jgd h1.2 (λy hy=>h2 y (by simp[hy])) (λy hy z hz fB=>h3 y (by simp[hy]) z (by simp[hz]) fB),?_⟩;intro a ha b hb SK;subst SK;simp only[Nj,Hw]at hb;obtain⟨_,⟨y,hy,rfl⟩,hb⟩:=hb;exact h3 x sM y (by simp[hy]) (λe=>h1.1 (e▸hy)) a ha hb
theorem Jch(ho:Xj o)(hm:o.length=m):∀(l:Lx) (a e:Int),chain o m a l e->l.Nodup
 |[],_,_,_=>sM
 |i::l,a,e,h=>by simp only[chain]at h;rw[Np];refine⟨λhi=>?_,Jch ho hm l _ e h.2⟩;have h1:=QT ho hm l _ e h.2 i hi;have h2:=JhM ho h1.2.1 om;omega
section
variable(g:GoodT t o)
include g
theorem Jgj(hu:u<t.nodes.length):(nd t u).kids.Nodup:=Jch g.ord.ok rfl _ _ _ (g.ord.kids (Kq hu))
theorem YR(hu:u<t.nodes.length):(Xx t u k).Nodup:=(Jgj g hu).filter _
theorem Jfy(hu:u<t.nodes.length):(Jax t u).Nodup:=by
 unfold Jax;have hr:∀s∈Xx t u 41,0<=s/\s<u:=λs hs=>g.kid hu (Qx.1 hs).1
 refine Jgd (YR g hu) (λs hs=>YR g (by have:=hr s hs;omega)) λs hs s' AB Ai z hz Ev=>?_
 have h1:=hr s hs;have h2:=hr s' AB;have:=g.ord.parent_one (Kq (show s.toNat<t.nodes.length by omega)) (Kq (show s'.toNat<t.nodes.length by omega)) (Qx.1 hz).1 (Qx.1 Ev).1;omega
def whoD (t:Tr)(d:Nat):Int:=if (nd t d).k=47 then d else if (nd t d).k=42 then Ky t (Ky t d).toNat else Ky t d
theorem decl_who{d:Int}(hu:u<t.nodes.length)(h:d∈JcS t u a):0<=d/\d<t.nodes.length/\whoD t d.toNat=u:=by
 have hd:0<=d/\d<=u:=by
  have hb:d∈Jax t u->0<=d/\d<=u:=λh=>by rw[JcB g hu]at h;obtain⟨s,q1,_,q3,_⟩:=h;have h1:=(J3 g hu q1).2;have h2:=g.kid (show s<t.nodes.length by omega) q3;omega
  have hk:∀k,d∈Xx t u k->0<=d/\d<=u:=λk h=>by have:=g.kid hu (Qx.1 h).1;omega
  unfold JcS at h
  split at h
  ·exact hb h
  split at h
  ·exact hk _ h
  split at h
  ·split at h
   ·simp at h;omega
   ·simp at h
  split at h
  ·split at h
   ·simp at h
   split at h
   ·rcases GN.1 h with h|h
    ·exact hk _ h
    ·exact hb h
   ·exact hk _ h
  ·simp at h
 obtain⟨d,rfl⟩:∃n:Nat,d=(n:Int):=⟨d.toNat,om⟩;rw[QM g hu]at h;refine⟨om,om,?_⟩;rw[Gc];unfold whoD;have bind:(∃s:Nat,(s:Int)∈(nd t u).kids/\(nd t s).k=41/\(d:Int)∈(nd t s).kids/\(nd t d).k=42)->(if (nd t d).k=47 then(d:Int) else if (nd t d).k=42 then Ky t (Ky t d).toNat else Ky t d)=u:=by rintro⟨s,q1,_,q3,q4⟩;have hs:=J3 g hu q1;have IZ:=(J3 g (show s<t.nodes.length by omega) q3).1;rw[iN7,if_pos q4,IZ,Gc];exact hs.1
 rcases h with ⟨_,hb⟩|⟨_,q,q2⟩|⟨q1,_,rfl⟩|⟨_,_,⟨q,q2⟩|⟨_,hb⟩⟩
 ·exact bind hb
 ·rw[iN7,iN7];exact(J3 g hu q).1
 ·rw[if_pos q1]
 ·rw[iN7,iN7];exact(J3 g hu q).1
 ·exact bind hb
theorem decl_nodup(hu:u<t.nodes.length):(JcS t u a).Nodup:=by
 unfold JcS
 split
 ·exact Jfy g hu
 split
 ·exact YR g hu
 split
 ·split <;> simp
 split
 ·split
  ·simp
  split
  ·rw[Vw];refine⟨YR g hu,Jfy g hu,λx hx y hy he=>?_⟩;subst he;have h1:=(Qx.1 hx).2;have h0:=g.kid hu (Qx.1 hx).1;rw[JcB g hu]at hy;obtain⟨s,_,_,_,h2⟩:=hy;omega
  ·exact YR g hu
 ·simp
theorem climb_who:∀(f j:Nat) (d:Int),j<t.nodes.length->d∈Yk t f j->0<=d/\d<t.nodes.length/\(j:Int)<whoD t d.toNat:=by
 intro f
 induction f with
 |zero=>intro j d _ h;simp[Yk]at h
 |succ f ih=>
  intro j d hj h;unfold Yk at h;rcases Xt g hj with ⟨hp,_⟩|⟨m,hp,F9,Co,_⟩
  ·rw[hp,if_pos vk]at h;simp at h
  ·rw[hp,iN7,GN,Gc]at h;rcases h with h|h
   ·have:=decl_who g Co h;exact⟨this.1,this.2.1,om⟩
   ·have:=ih m d Co h;exact⟨this.1,this.2.1,om⟩
theorem climb_nodup:∀(f j:Nat),j<t.nodes.length->(Yk t f j).Nodup:=by
 intro f
 induction f with
 |zero=>intro j _;simp[Yk]
 |succ f ih=>
  intro j hj;unfold Yk;rcases Xt g hj with ⟨hp,_⟩|⟨m,hp,F9,Co,_⟩
  ·rw[hp,if_pos vk];simp
  ·rw[hp,iN7,Gc,Vw];refine⟨decl_nodup g Co,ih m Co,λx hx y hy he=>?_⟩;subst he;have h1:=(decl_who g Co hx).2.2;have h2:=(climb_who g f m x Co hy).2.2;omega
theorem def_root(hd:d<t.nodes.length)(hk:(nd t d).k=65):Ky t d = -1/\(d:Int)∈t.items:=by
 have hp:Ky t d = -1:=by
  rcases Xt g hd with ⟨h,_⟩|⟨m,_,_,hm,Co⟩
  ·exact h
  ·exfalso;exact(YU (Jdh g hm Co)).2.2.2.2.2.2.2.2 (by rw[hk];rfl)
 refine⟨hp,?_⟩;obtain⟨L,hL,h5,h6⟩:=XE g.ord.ok g.olen _ _ _ (d:Int) g.its om om;have hr:=g.itr hL;obtain⟨L,rfl⟩:∃k:Nat,L=(k:Int):=⟨L.toNat,om⟩;by_cases he:d=L
 ·subst he;exact hL
 ·exfalso;obtain⟨m,q1,q2,q3⟩:=par_in g L d om h5 om;have:=(J3 g (show m<t.nodes.length by omega) q3).1;omega
end
def Jb0 (o:Lx)(j a:Nat):Bool:=decide (j<=a) && decide (fs o a<=j)
theorem Q0{j:Nat}:Jb0 o j a=true↔blw o j a:=by simp[Jb0,blw]
def bkB (t:Tr)(o:Lx)(j u:Nat)(m:Int)(last:Bool):Bool:=(Ga (nd t u).kids.length).any λi=>decide (m<=i) && ((last || decide (i+1<(nd t u).kids.length)) && Jb0 o j (Ju t u i))
def inB (t : Tr)(o : Lx)(d j : Nat) : Bool :=
  if (nd t d).k = 65 then true
  else if (nd t d).k = 64 then Jb0 o j (Ji t (Ky t d).toNat)
  else if (nd t d).k = 43 then bkB t o j (Ky t d).toNat (nd t (Ky t d).toNat).n true
  else if (nd t d).k = 47 then Jb0 o j (Ji t d)
  else if (nd t d).k = 42 then
    (if (nd t (Ky t (Ky t d).toNat).toNat).k = 40 then Jb0 o j (Ky t (Ky t d).toNat).toNat
     else bkB t o j (Ky t (Ky t d).toNat).toNat ((nd t (Ky t (Ky t d).toNat).toNat).n + 1) false)
  else false
def KX (k:Nat):Bool:=k == 65 || k == 64 || k == 42 || k == 43 || k == 47
theorem bkB_iff{j:Nat}{m:Int}{last:Bool}:bkB t o j u m last=true↔∃i:Nat,m<=i/\i<(nd t u).kids.length/\(last=true\/i+1<(nd t u).kids.length)/\blw o j (Ju t u i):=by
 unfold bkB;simp only[Hd,Gx,Gp,Li,decide_eq_true_eq,Q0]
 constructor
 ·rintro⟨i,h1,h2,h3,h4⟩;exact⟨i,h2,h1,h3,h4⟩
 ·rintro⟨i,h1,h2,h3,h4⟩;exact⟨i,h2,h1,h3,h4⟩
theorem inB_iff{j:Nat}:inB t o d j=true↔inR t o d j:=by
 unfold inB inR;by_cases e1:(nd t d).k=65
 ·simp[e1]
 by_cases e2:(nd t d).k=64
 ·rw[if_neg e1,if_pos e2,if_neg e1,if_pos e2];exact Q0
 by_cases e3:(nd t d).k=43
 ·rw[if_neg e1,if_neg e2,if_pos e3,if_neg e1,if_neg e2,if_pos e3,bkB_iff]
  constructor
  ·rintro⟨i,h1,h2,_,h4⟩;exact⟨i,h1,h2,h4⟩
  ·rintro⟨i,h1,h2,h4⟩;exact⟨i,h1,h2,.inl rfl,h4⟩
 by_cases e4:(nd t d).k=47
 ·rw[if_neg e1,if_neg e2,if_neg e3,if_pos e4,if_neg e1,if_neg e2,if_neg e3,if_pos e4];exact Q0
 by_cases e5:(nd t d).k=42
 ·rw[if_neg e1,if_neg e2,if_neg e3,if_neg e4,if_pos e5,if_neg e1,if_neg e2,if_neg e3,if_neg e4,if_pos e5];by_cases e6:(nd t (Ky t (Ky t d).toNat).toNat).k=40
  ·rw[if_pos e6,if_pos e6];exact Q0
  ·rw[if_neg e6,if_neg e6,bkB_iff]
   constructor
   ·rintro⟨i,h1,h2,h3,h4⟩;rcases h3 with h3|h3
    ·cases h3
    ·exact⟨i,h1,h3,h4⟩
   ·rintro⟨i,h1,h3,h4⟩;exact⟨i,h1,om,.inr h3,h4⟩
 ·rw[if_neg e1,if_neg e2,if_neg e3,if_neg e4,if_neg e5,if_neg e1,if_neg e2,if_neg e3,if_neg e4,if_neg e5];simp
section
variable(g:GoodT t o)
def Ql (t:Tr):Lx:=(Ga t.nodes.length).map λi:Nat=>(i:Int)
def QW (t:Tr)(j:Nat):Lx:=(Ql t).filter λd=>(Yk t t.nodes.length j).contains d
def JaU (t:Tr)(l:Lx)(s:LA):Int:=match l.find? λd=>(nd t d.toNat).text == s with|some d=>d|none=>-1
def Jgg (t:Tr)(o:Lx)(j:Nat):Int:=match (Ql t).find? λd=>(nd t d.toNat).text == (nd t j).text && (KX (nd t d.toNat).k && (!((nd t d.toNat).k == 65) && inB t o d.toNat j)) with|some d=>d|none=>-1
include g
theorem decl_kind(hu:u<t.nodes.length)(h:(d:Int)∈JcS t u a):(nd t d).k=64\/(nd t d).k=43\/(nd t d).k=47\/(nd t d).k=42:=by
 rw[QM g hu]at h;rcases h with ⟨_,s,_,_,_,q⟩|⟨_,_,q⟩|⟨q1,_,rfl⟩|⟨_,_,⟨_,q⟩|⟨_,s,_,_,_,q⟩⟩
 ·exact .inr (.inr (.inr q))
 ·exact .inl q
 ·exact .inr (.inr (.inl q1))
 ·exact .inr (.inl q)
 ·exact .inr (.inr (.inr q))
theorem sight_mem{j:Nat}(hd:d<t.nodes.length)(hj:j<t.nodes.length)(Cq:1<=(nd t j).k/\(nd t j).k<=29):(Yk t t.nodes.length j).contains (d:Int)=(KX (nd t d).k && (!((nd t d).k == 65) && inB t o d j)):=by
 rw[GD];simp only[LZ,decide_eq_true_eq,Gp,He,beq_eq_false_iff_ne,inB_iff];rw[Jfs g t.nodes.length j (d:Int) hj om]
 constructor
 ·intro h;obtain⟨u,a,hu,ha,hb,AU⟩:=h;have hk:=decl_kind g hu AU;refine⟨?_,om,(inS_inR g hd hj Cq hk).1 ⟨u,a,hu,ha,hb,AU⟩⟩;unfold KX;rcases hk with e|e|e|e <;> rw[e] <;> rfl
 ·rintro⟨h1,h2,h3⟩;have hk:(nd t d).k=64\/(nd t d).k=43\/(nd t d).k=47\/(nd t d).k=42:=by unfold KX at h1;simp only[Li,beq_iff_eq]at h1;omega
  exact(inS_inR g hd hj Cq hk).2 h3
theorem Jb9 {j:Nat}(hj:j<t.nodes.length)(Cq:1<=(nd t j).k/\(nd t j).k<=29):JaU t (QW t j) (nd t j).text=Jgg t o j:=by
 unfold JaU Jgg QW;rw[VW];have:∀l:Lx,(∀d∈l,0<=d/\d<t.nodes.length)->l.find? (λd=>decide ((Yk t t.nodes.length j).contains d=true/\((nd t d.toNat).text == (nd t j).text)=true))=l.find? λd=>(nd t d.toNat).text == (nd t j).text && (KX (nd t d.toNat).k && (!((nd t d.toNat).k == 65) && inB t o d.toNat j)):=by
  intro l
  induction l with
  |nil=>intro _;rfl
  |cons d l ih=>
   intro hl;obtain⟨d,rfl⟩:∃n:Nat,d=(n:Int):=⟨d.toNat,by have:=hl d sM;omega⟩;have hd:=hl d sM;have hs:=sight_mem g (show d<t.nodes.length by omega) hj Cq;rw[GJ,GJ,ih λx hx=>hl x (by simp[hx])];simp only[Gc];rw[hs]
   congr 1
   rw[GD];simp[and_comm]
 rw[this];intro d hd;unfold Ql at hd;simp only[Hw,Gx]at hd;obtain⟨i,hi,rfl⟩:=hd;omega
end
theorem asc_eq:∀{l m:Lx},l.Pairwise (· < ·)->m.Pairwise (· < ·)->(∀x,x∈l↔x∈m)->l=m
 |[],[],_,_,_=>rfl
 |[],y::m,_,_,h=>by simpa using (h y).2 sM
 |x::l,[],_,_,h=>by simpa using (h x).1 sM
 |x::l,y::m,h1,h2,h=>by
  rw[Lc]at h1 h2;have e:x=y:=by
   have a:=(h x).1 sM;have b:=(h y).2 sM;rcases GK.1 a with a|a
   ·exact a
   ·rcases GK.1 b with b|b
    ·exact b.symm
    ·have:=h1.1 y b;have:=h2.1 x a;omega
  subst e;rw[asc_eq h1.2 h2.2 λz=>?_]
  constructor
  ·intro hz;have:=h1.1 z hz;rcases GK.1 ((h z).1 (by simp[hz])) with e|e
   ·omega
   ·exact e
  ·intro hz;have:=h2.1 z hz;rcases GK.1 ((h z).2 (by simp[hz])) with e|e
   ·omega
   ·exact e
theorem Jbu(ho:Xj o)(hm:o.length=m):∀(l:Lx) (a e:Int),chain o m a l e->l.Pairwise (· < ·)
 |[],_,_,_=>.nil
 |i::l,a,e,h=>by simp only[chain]at h;rw[Lc];refine⟨λx hx=>?_,Jbu ho hm l _ e h.2⟩;have h1:=QT ho hm l _ e h.2 x hx;have h2:=JhM ho h1.2.1 om;omega
theorem Jel:(Ql t).Pairwise (· < ·):=by unfold Ql;rw[Nc];exact LX.imp λh=>om
theorem KR{d:Int}:d∈Ql t↔0<=d/\d<t.nodes.length:=by
 unfold Ql;simp only[Hw,Gx]
 constructor
 ·rintro⟨i,hi,rfl⟩;omega
 ·intro h;exact⟨d.toNat,om,om⟩
section
variable(g:GoodT t o)
def JdK (t:Tr)(j:Nat):Int:=match (Ql t).find? λd=>(nd t d.toNat).text == (nd t j).text && (KX (nd t d.toNat).k && (nd t d.toNat).k == 65) with|some d=>d|none=>-1
def JcC (t:Tr)(j:Nat):Int:=match (Ql t).find? λd=>(nd t d.toNat).text == (nd t j).text && (KX (nd t d.toNat).k && ((nd t d.toNat).k == 43 && Ky t d.toNat == Ky t j)) with|some d=>d|none=>-1
include g
theorem items_all:t.items=(Ql t).filter λd=>(nd t d.toNat).k == 65:=by
 refine asc_eq (Jbu g.ord.ok g.olen _ _ _ g.its) (Jel.filter _) λx=>?_
 rw[Gt,KR,beq_iff_eq]
 constructor
 ·intro h;have h1:=g.itr h;have h2:=g.defs x h;exact⟨h1,h2⟩
 ·rintro⟨h1,h2⟩;have:=(def_root g (show x.toNat<t.nodes.length by omega) h2).2
  rwa [show ((x.toNat:Nat):Int)=x by omega]at this
theorem call_means {j:Nat}:JaU t t.items (nd t j).text=JdK t j:=by
 unfold JaU JdK;rw[items_all g,VW]
 congr 2
 funext d
 rw[GD];simp only[decide_eq_true_eq,Gp,beq_iff_eq]
 constructor
 ·rintro⟨h1,h2⟩;exact⟨h2,by rw[h1];rfl,h1⟩
 ·rintro⟨h1,_,h2⟩;exact⟨h2,h1⟩
theorem JhD(hu:u<t.nodes.length):(nd t u).kids.Pairwise (· < ·):=Jbu g.ord.ok rfl _ _ _ (g.ord.kids (Kq hu))
theorem kidsK_all(hu:u<t.nodes.length)(hk:k≠65):Xx t u k=(Ql t).filter λd=>(nd t d.toNat).k == k && Ky t d.toNat == u:=by
 refine asc_eq ((JhD g hu).filter _) (Jel.filter _) λx=>?_
 rw[Qx,Gt,KR,Gp,beq_iff_eq,beq_iff_eq]
 constructor
 ·rintro⟨h1,h2⟩;have hr:=g.kid hu h1;obtain⟨x,rfl⟩:∃n:Nat,x=(n:Int):=⟨x.toNat,om⟩;exact⟨om,h2,(J3 g hu h1).1⟩
 ·rintro⟨h1,h2,h3⟩;obtain⟨x,rfl⟩:∃n:Nat,x=(n:Int):=⟨x.toNat,om⟩;rw[Gc]at h2 h3;obtain⟨u',q1,_,_,q2⟩:=QO g (show x<t.nodes.length by omega) om;have:u'=u:=om;subst this;exact⟨q2,h2⟩
theorem next_means{j:Nat}(hu:u<t.nodes.length)(hp:Ky t j=u):JaU t (Xx t u 43) (nd t j).text=JcC t j:=by
 unfold JaU JcC;rw[kidsK_all g hu vk,VW,hp]
 congr 2
 funext d
 rw[GD];simp only[decide_eq_true_eq,Gp,beq_iff_eq]
 constructor
 ·rintro⟨⟨h1,h3⟩,h2⟩;exact⟨h2,by rw[h1];rfl,h1,h3⟩
 ·rintro⟨h1,_,h2,h3⟩;exact⟨⟨h2,h3⟩,h1⟩
end
def QR (t:Tr)(i:Nat):Nat:=(t.items.filter λL=>decide (L<(i:Int))).length
def Y9 (t:Tr)(o:Lx)(i:Nat):Int:=match t.items.find? λL=>Jb0 o i L.toNat with|some L=>L|none=>-1
def twN (t:Tr)(i:Nat):Bool:=
 if (nd t i).k≠44/\KX (nd t i).k=false then false
 else(Ga i).any λk=>(nd t k).text == (nd t i).text && (if (nd t i).k=44 then(nd t k).k == 44 && Ky t k == Ky t i else if (nd t i).k=65 then(nd t k).k == 65 else !((nd t k).k == 65) && (KX (nd t k).k && QR t k == QR t i))
def twR (t:Tr)(o:Lx)(i:Nat):Bool:=
 if (nd t i).k≠44/\KX (nd t i).k=false then false
 else(Ga i).any λk=>(nd t k).text == (nd t i).text && (if (nd t i).k=65 then(nd t k).k == 65 else if (nd t i).k=44 then(nd t k).k == 44 && Ky t k == Ky t i else KX (nd t k).k && (!((nd t k).k == 65) && Y9 t o k == Y9 t o i))
theorem find_idx {α:Type}{q:α->Bool}:∀{l:List α}{k:Nat}{x:α},l[k]? = some x->q x=true->(∀y∈l.take k,q y=false)->l.find? q=some x
 |[],_,_,h,_,_=>by simp at h
 |y::l,0,x,h,hq,_=>by simp at h;subst h;simp[hq]
 |y::l,k+1,x,h,hq,hn=>by rw[GJ,hn y sM];exact find_idx (k:=k) (by simpa using h) hq λz hz=>hn z (by simp[hz])
section
variable(g:GoodT t o)
include g
theorem item_of(hi:i<t.nodes.length):∃k L:Nat,k<t.items.length/\t.items[k]? = some (L:Int)/\QR t i=k/\Y9 t o i=L/\endI t k<=i/\i<=L:=by
 obtain⟨L,hL,h5,h6⟩:=XE g.ord.ok g.olen _ _ _ (i:Int) g.its om om;obtain⟨k,hk,he⟩:=VY hL;obtain⟨L',e1,e2,e3,e4,e5⟩:=item_at g hk;have eL:L=(L':Int):=by rw[<-e1,Gh,Gj hk,<-he];rfl
 subst eL;rw[e2]at h5;have Bf:t.items[k]? = some (L':Int):=by rw[Gj hk,he]
 have Ab:∀x∈t.items.take k,x<(i:Int):=λx hx=>by have:=(QT g.ord.ok g.olen _ _ _ (Jbc g k (Ll hk)).1 x hx).2.2.1;omega
 have BL:∀x∈t.items.drop k,(i:Int)<=x:=λx hx=>by
  have ha:=Jbu g.ord.ok g.olen _ _ _ (Jbc g k (Ll hk)).2;rw[GH hk,he]at hx ha;rw[Lc]at ha;rcases GK.1 hx with rfl|hx
  ·exact h6
  ·have:=ha.1 x hx;omega
 refine⟨k,L',hk,Bf,?_,?_,om,om⟩
 ·unfold QR;rw[<-LY k t.items,Ld,L6.2 (λx hx=>by simpa using Ab x hx),Lr.2 (λx hx=>by have:=BL x hx;simp;omega),Gr,GQ];omega
 ·unfold Y9;rw[find_idx Bf (by rw[Q0,Gc];exact⟨om,by rw[e2];omega⟩) λy hy=>?_];have h1:=Ab y hy;have h2:=(QT g.ord.ok g.olen _ _ _ (Jbc g k (Ll hk)).1 y hy).2.1;rw[Nu];intro hb;have:=(Q0.1 hb).1;omega
theorem item_same(hi:i<t.nodes.length)(hk:k<t.nodes.length):(QR t k == QR t i)=(Y9 t o k == Y9 t o i):=by
 obtain⟨a,A,a1,a2,a3,a4,a5,a6⟩:=item_of g hi;obtain⟨b,B,b1,b2,b3,b4,b5,b6⟩:=item_of g hk;rw[a3,a4,b3,b4,GD,beq_iff_eq,beq_iff_eq]
 constructor
 ·rintro rfl;rw[a2]at b2;exact(VT b2).symm
 ·intro h;have hn:t.items.Nodup:=Jch g.ord.ok g.olen _ _ _ g.its;rw[h]at b2;exact(List.getElem?_inj b1 hn).1 (b2.trans a2.symm)
theorem tw_eq(hi:i<t.nodes.length):twN t i=twR t o i:=by
 unfold twN twR;by_cases h:(nd t i).k≠44/\KX (nd t i).k=false
 ·rw[if_pos h,if_pos h]
 rw[if_neg h,if_neg h];have hl:∀l:LB,(∀k∈l,k<i)->(l.any λk=>(nd t k).text == (nd t i).text && (if (nd t i).k=44 then(nd t k).k == 44 && Ky t k == Ky t i else if (nd t i).k=65 then(nd t k).k == 65 else !((nd t k).k == 65) && (KX (nd t k).k && QR t k == QR t i)))=(l.any λk=>(nd t k).text == (nd t i).text && (if (nd t i).k=65 then(nd t k).k == 65 else if (nd t i).k=44 then(nd t k).k == 44 && Ky t k == Ky t i else KX (nd t k).k && (!((nd t k).k == 65) && Y9 t o k == Y9 t o i))):=by
  intro l
  induction l with
  |nil=>intro _;rfl
  |cons k l ih=>
   intro hk;have E5:=hk k sM;rw[GL,GL,ih λx hx=>hk x (by simp[hx]),item_same g hi (show k<t.nodes.length by omega)]
   congr 2
   by_cases e1:(nd t i).k=44
   ·rw[if_pos e1,iN7,if_pos e1]
   ·rw[if_neg e1];by_cases e2:(nd t i).k=65
    ·rw[if_pos e2,if_pos e2]
    ·rw[if_neg e2,if_neg e2,if_neg e1]
     cases KX (nd t k).k <;> cases ((nd t k).k == 65) <;> simp
 exact hl _ λk hk=>Gx.1 hk
end
def Jda (t:Tr)(u c:Nat)(late:Bool):Bool:=if (nd t u).k=4 then true else if (nd t u).k=46\/(nd t u).k=47 then late || c == Ji t u else if (nd t u).k=28 then late && (nd t c).k == 43 else late
def Jib (t:Tr)(u c:Nat):Option Bool:=if (nd t u).k=4 then some true else if (nd t u).k=46\/(nd t u).k=47 then some (c == Ji t u) else if (nd t u).k=28 then(if (nd t c).k=43 then none else some false) else none
def buL (t:Tr):LB->Bool->Bool
 |c::u::l,late=>buL t (u::l) (Jda t u c late)
 |_,late=>late
def tdL (t:Tr):LB->Bool->Bool
 |u::c::l,late=>match Jib t u c with
  |some b=>b
  |none=>tdL t (c::l) late
 |_,late=>late
theorem tdL_snoc{late:Bool}{c:Nat}:∀l:LB,tdL t (l++[u,c]) late=tdL t (l++[u]) (match Jib t u c with|some b=>b|none=>late)
 |[]=>by simp only[GI,tdL]
 |[x]=>by simp only[GR,GI,tdL]
 |x::y::l=>by have:=tdL_snoc (late:=late) (c:=c) (y::l);simp only[GR]at this;simp only[GR,tdL];rw[this]
def Jdi (t:Tr)(q:Nat->Nat->Prop):LB->Prop
 |c::u::l=>q u c/\Jdi t q (u::l)
 |_=>True
theorem bu_td:∀(l:LB) (late:Bool),Jdi t (λu c=>(nd t u).k=46\/(nd t u).k=47->c=Ji t u) l->buL t l late=tdL t l.reverse late
 |[],_,_=>rfl
 |[x],_,_=>rfl
 |c::u::l,late,h=>by
  have hs:Jda t u c late=(match Jib t u c with|some b=>b|none=>late):=by
   have h1:=h.1;unfold Jda Jib;by_cases e1:(nd t u).k=4
   ·rw[if_pos e1,if_pos e1]
   rw[if_neg e1,if_neg e1];by_cases e2:(nd t u).k=46\/(nd t u).k=47
   ·rw[if_pos e2,if_pos e2,h1 e2];simp
   rw[if_neg e2,if_neg e2];by_cases e3:(nd t u).k=28
   ·rw[if_pos e3,if_pos e3];by_cases e4:(nd t c).k=43
    ·rw[if_pos e4,e4];simp
    ·rw[if_neg e4];simp[e4]
   ·rw[if_neg e3,if_neg e3]
  rw[buL,bu_td (u::l) _ h.2,hs];simp only[Vv,Le,GR,GI];rw[tdL_snoc]
section
variable(g:GoodT t o)
def upL (t:Tr)(top:Nat):Nat->Nat->LB
 |0,n=>[n]
 |f+1,n=>if n=top then [n] else n::upL t top f (Ky t n).toNat
include g
theorem bound_below{j:Nat}(ha:a<t.nodes.length)(hk:(nd t a).k=48)(hb:blw o j a):j=a:=by
 rcases Jck g ha hb with h|⟨c,hc,_⟩
 ·exact h
 ·exfalso;have hl:=Jdh g ha hc;rw[hk]at hl;unfold Qi at hl;simp at hl
theorem bind_below{j:Nat}(ha:a<t.nodes.length)(hk:(nd t a).k=42)(hb:blw o j a):(nd t j).k=42\/(60<=(nd t j).k/\(nd t j).k<=64):=by
 rcases Jck g ha hb with rfl|⟨c,hc,Ca⟩
 ·exact .inl hk
 ·refine .inr ?_;have hl:=Jdh g ha hc;have hr:=(J3 g ha hc).2;rw[hk]at hl;have Aq:JdR (nd t c).k=116:=by
   unfold Qi at hl
   dsimp only at hl
   rw[iN7,iN7,iN7,iN7,iN7,iN7,iN7,iN7,iN7]at hl
   split at hl
   ·simpa using hl
   ·simp at hl
  have h3:=JcF Aq;exact Jer g c j om om om Ca
theorem Jfv{c j:Nat}(hu:u<t.nodes.length)(hk:(nd t u).k=46\/(nd t u).k=47)(hc:(c:Int)∈(nd t u).kids)(hb:blw o j c)(Cq:1<=(nd t j).k/\(nd t j).k<=29):c=Ji t u:=by
 obtain⟨i,hi,Dl,Ar⟩:=JcH hc;have h3:=(Jz g hu hi).2.2;rw[Dl]at h3;have hr:=(J3 g hu hc).2;by_cases hl:i+1<(nd t u).kids.length
 ·exfalso;have PT:(nd t c).k=48:=by
   rcases hk with e|e
   ·have h:=Jdq g hu;change Qk (nd t u).k (nd t u).n (lets t.nodes (nd t u))=true at h;rw[e]at h;unfold Qk at h;rw[iN7,iN7,iN7,iN7,iN7,iN7,iN7,iN7,iN7,if_pos rfl]at h;simp only[Gp,beq_iff_eq,KH]at h;have:=Jag 79 48 (QN hu h.1.2 (i:=i) om om).2 sM;rw[h3];exact this
   ·have h:=Jcq g hu e;change (nd t u).kids.length=3/\_ at h;have:=h.2.1 i om;rw[h3];exact this
  have:=bound_below g (show c<t.nodes.length by omega) PT hb;subst this;omega
 ·have Ae:i=(nd t u).kids.length-1:=om;rw[<-Dl,Ae];rfl
theorem JdZ {s j:Nat}(hs:s<t.nodes.length)(hk:(nd t s).k=41)(Cq:1<=(nd t j).k/\(nd t j).k<=29):blw o j s↔blw o j (Ji t s):=by
 obtain⟨a,hN,hl,k1,k2⟩:=Yu g hs hk;change (nd t s).kids.length=a+1 at hl;have hm:=Jz g hs (i:=(nd t s).kids.length-1) om
 constructor
 ·intro h;rcases Jck g hs h with rfl|⟨c,hc,hb⟩
  ·omega
  ·obtain⟨i,hi,Dl,Ar⟩:=JcH hc;by_cases Ae:i<a
   ·exfalso;have h3:=(Jz g hs hi).2.2;rw[Dl]at h3;have:=k1 i Ae;change Jw t.nodes ((nd t s).kids.getD i 0)=42 at this;have:=bind_below g (show c<t.nodes.length by have:=(J3 g hs hc).2;omega) om hb;omega
   ·have:i=(nd t s).kids.length-1:=om;rw[<-Dl,this]at hb;exact hb
 ·intro h;exact Qy g hs h (QA g hs hm.1)
end
section
variable(g:GoodT t o)
include g
theorem up_pairs {j:Nat}(Cq:1<=(nd t j).k/\(nd t j).k<=29):∀(f c top:Nat),top<t.nodes.length->blw o c top->blw o j c->Jdi t (λu c=>(nd t u).k=46\/(nd t u).k=47->c=Ji t u) (upL t top f c)
 |0,_,_,_,_,_=>trivial
 |f+1,c,top,Bz,Mg,Uy=>by
  unfold upL;by_cases he:c=top
  ·rw[if_pos he];trivial
  ·rw[if_neg he];obtain⟨m,hp,dK,df,RV,hk⟩:=X4 g Bz Mg he;rw[hp,Gc];have hm:m<t.nodes.length:=om;have Ux:=Qy g hm Uy (QA g hm hk);have ih:=up_pairs Cq f m top Bz RV Ux
   cases f with
   |zero=>
    refine⟨λh=>Jfv g hm h hk Uy Cq,?_⟩
    trivial
   |succ f=>
    unfold upL at ih|-;by_cases Et:m=top
    ·rw[if_pos Et]at ih|-;exact⟨λh=>Jfv g hm h hk Uy Cq,trivial⟩
    ·rw[if_neg Et]at ih|-;exact⟨λh=>Jfv g hm h hk Uy Cq,ih⟩
theorem late_eq {j s:Nat}(hs:s<t.nodes.length)(hk:(nd t s).k=41)(Cq:1<=(nd t j).k/\(nd t j).k<=29)(hb:blw o j s)(f:Nat):buL t (upL t (Ji t s) f j) false=tdL t (upL t (Ji t s) f j).reverse false:=by
 have h1:=(JdZ g hs hk Cq).1 hb;obtain⟨a,hN,hl,_,_⟩:=Yu g hs hk;change (nd t s).kids.length=a+1 at hl;have hm:=Jz g hs (i:=(nd t s).kids.length-1) om;have Ab:Ji t s<t.nodes.length:=by have:=hm.2.1;change Ji t s<s at this;omega
 have hj:j<t.nodes.length:=by have:=h1.1;omega
 exact bu_td _ _ (up_pairs g Cq f j (Ji t s) Ab h1 (JcW g hj))
end
def XN (t:Tr)(o:Lx)(of:Lx)(s:Nat):Lx:=(Ql t).filter λx=>(Ga t.nodes.length).any λi=>(nd t i).k == 3 && (decide (0<=of.getD i (-1)) && ((nd t (of.getD i (-1)).toNat).k == 42 && (Jb0 o i s && (Ky t (of.getD i (-1)).toNat == x && (Ky t x.toNat == Ky t s && !buL t (upL t (Ji t s) t.nodes.length i) false)))))
def Y0 (t:Tr)(o:Lx)(of:Lx)(s:Nat):Lx:=(Ql t).filter λx=>(Ga t.nodes.length).any λi=>(nd t i).k == 3 && (decide (0<=of.getD i (-1)) && (Jb0 o i (Ji t s) && ((nd t (of.getD i (-1)).toNat).k == 42 && (Ky t (of.getD i (-1)).toNat == x && (Ky t x.toNat == Ky t s && !tdL t (upL t (Ji t s) t.nodes.length i).reverse false)))))
theorem need_eq(g:GoodT t o){of:Lx}{s:Nat}(hs:s<t.nodes.length)(hk:(nd t s).k=41):XN t o of s=Y0 t o of s:=by
 unfold XN Y0;refine VU λx _=>?_
 rw[GD];simp only[Hd,Gx,Gp,beq_iff_eq,decide_eq_true_eq,He,Q0]
 constructor
 ·rintro⟨i,hi,h1,h2,h3,h4,h5,h6,h7⟩;have he:1<=(nd t i).k/\(nd t i).k<=29:=om;exact⟨i,hi,h1,h2,(JdZ g hs hk he).1 h4,h3,h5,h6,by rw[<-late_eq g hs hk he h4];exact h7⟩
 ·rintro⟨i,hi,h1,h2,h4,h3,h5,h6,h7⟩;have he:1<=(nd t i).k/\(nd t i).k<=29:=om;have hb:=(JdZ g hs hk he).2 h4;exact⟨i,hi,h1,h2,h3,hb,h5,h6,by rw[late_eq g hs hk he hb];exact h7⟩
def bfsF (N:Int->Lx):Nat->Lx->Lx->Lx
 |0,_,out=>out
 |_+1,[],out=>out
 |f+1,x::todo,out=>if out.contains x then bfsF N f todo out else bfsF N f (todo++N x) (out++[x])
def Y1:Lx->Lx->Nat
 |[],_=>0
 |y::l,out=>(if out.contains y=true then 0 else 1)+Y1 l out
def muB (l todo out:Lx):Nat:=Y1 l out*(l.length+1)+todo.length
theorem left_le {out:Lx}:∀m:Lx,Y1 m (out++[x])<=Y1 m out
 |[]=>GG _
 |y::m=>by
  have ih:=left_le (out:=out) m;simp only[Y1];by_cases h1:out.contains y=true
  ·have h2:(out++[x]).contains y=true:=by simp at h1|-;exact .inl h1
   rw[if_pos h1,if_pos h2];omega
  ·rw[if_neg h1];split <;> omega
theorem Jau {out:Lx}:∀{l:Lx},x∈l->out.contains x=false->Y1 l (out++[x])<Y1 l out
 |[],hx,_=>by cases hx
 |y::l,hx,hn=>by
  have Be:=left_le (out:=out) (x:=x) l;simp only[Y1];by_cases he:y=x
  ·subst he;have h2:(out++[y]).contains y=true:=sM;rw[if_pos h2,if_neg (by rw[hn];simp)];omega
  ·have Br:x∈l:=by
    rcases GK.1 hx with h|h
    ·exact absurd h.symm he
    ·exact h
   have:=Jau Br hn;have h3:(out++[x]).contains y=out.contains y:=by rw[GD];simp[he]
   rw[h3];omega
theorem Jek(hN:∀x∈l,(∀y∈N x,y∈l)/\(N x).length<=l.length):∀(f f':Nat) (todo out:Lx),(∀x∈todo,x∈l)->muB l todo out<f->muB l todo out<f'->bfsF N f todo out=bfsF N f' todo out
 |0,_,_,_,_,h,_=>om
 |_,0,_,_,_,_,h=>om
 |f+1,f' + 1,[],out,_,_,_=>rfl
 |f+1,f' + 1,x::todo,out,ht,h1,h2=>by
  simp only[bfsF];have hx:=ht x sM;by_cases hc:out.contains x=true
  ·rw[if_pos hc,if_pos hc];refine Jek hN f f' todo out (λy hy=>ht y (by simp[hy])) ?_ ?_ <;> (unfold muB at *;simp only[Gi]at *;omega)
  ·rw[if_neg hc,if_neg hc];have hl:=Jau hx (by simpa using hc);have hn:=hN x hx;have hm:(Y1 l (out++[x])+1)*(l.length+1)<=Y1 l out*(l.length+1):=HZ _ hl;refine Jek hN f f' (todo++N x) (out++[x]) (λy hy=>?_) ?_ ?_
   ·rcases GN.1 hy with hy|hy
    ·exact ht y (by simp[hy])
    ·exact hn.1 y hy
   all_goals
    unfold muB at *;simp only[Gi,Gz,H6]at *;omega
def bfs (N:Int->Lx)(l todo out:Lx):Lx:=bfsF N (muB l todo out+1) todo out
theorem bfs_nil{out:Lx}:bfs N l [] out=out:=rfl
theorem bfs_old{out:Lx}(hN:∀x∈l,(∀y∈N x,y∈l)/\(N x).length<=l.length)(ht:∀y∈x::todo,y∈l)(hc:out.contains x=true):bfs N l (x::todo) out=bfs N l todo out:=by unfold bfs;rw[bfsF,if_pos hc];refine Jek hN _ _ todo out (λy hy=>ht y (by simp[hy])) ?_ (Nz _);unfold muB;simp only[Gi];omega
theorem bfs_new{out:Lx}(hN:∀x∈l,(∀y∈N x,y∈l)/\(N x).length<=l.length)(ht:∀y∈x::todo,y∈l)(hc:out.contains x=false):bfs N l (x::todo) out=bfs N l (todo++N x) (out++[x]):=by
 unfold bfs;rw[bfsF,if_neg (by rw[hc];simp)];have hx:=ht x sM;have hl:=Jau hx hc;have hn:=hN x hx;have hm:(Y1 l (out++[x])+1)*(l.length+1)<=Y1 l out*(l.length+1):=HZ _ hl;refine Jek hN _ _ _ _ (λy hy=>?_) ?_ (Nz _)
 ·rcases GN.1 hy with hy|hy
  ·exact ht y (by simp[hy])
  ·exact hn.1 y hy
 ·unfold muB;simp only[Gi,Gz,H6]at *;omega
def JY (t:Tr)(o:Lx)(i:Nat):Int:=if (nd t i).k=3 then Jgg t o i else if (nd t i).k=26 then JdK t i else if (nd t i).k=44 then JcC t i else -1
def KI (t:Tr)(i:Nat):Bool:=(nd t i).k == 3 || (nd t i).k == 26 || (nd t i).k == 44
def JaW (t:Tr)(o:Lx)(a b:Int):LB->Option (Nat×Int)
 |[]=>none
 |i::l=>if twN t i=true then some (i,a) else if (KI t i && JY t o i == -1)=true then some (i,b) else JaW t o a b l
def Jha (t:Tr)(o:Lx)(a b:Int):LB->Option (Nat×Int)
 |[]=>none
 |i::l=>if (KI t i && decide (JY t o i<0))=true then some (i,b) else if twR t o i=true then some (i,a) else Jha t o a b l
theorem JhT{q:Int->Bool}(h:∀x∈l,0<=x):(match l.find? q with|some d=>d|none=>-1)<0↔(match l.find? q with|some d=>d|none=>-1) = -1:=by
 cases hf:l.find? q with
 |none=>simp
 |some d=>have:=h d (GZ hf);simp only;omega
theorem mean_neg:JY t o i<0↔JY t o i = -1:=by
 have h:∀x∈Ql t,0<=x:=λx hx=>(KR.1 hx).1
 unfold JY
 split
 ·exact JhT h
 split
 ·exact JhT h
 split
 ·exact JhT h
 ·omega
section
variable(g:GoodT t o)
include g
omit g in
theorem tw_next(hk:(nd t i).k=44)(h:twN t i=true):∃k,k<i/\(nd t k).k=44/\JY t o k=JY t o i:=by unfold twN at h;rw[if_neg (by rintro⟨h1,_⟩;exact h1 hk),Hd]at h;obtain⟨k,E5,hb⟩:=h;rw[if_pos hk]at hb;simp only[Gp,beq_iff_eq]at hb;obtain⟨h1,h2,h3⟩:=hb;refine⟨k,Gx.1 E5,h2,?_⟩;unfold JY;rw[hk,h2,if_neg vk,if_neg vk,if_pos rfl,if_neg vk,if_neg vk,if_pos rfl];unfold JcC;rw[h1,h3]
theorem scan_eq (a b:Int):∀(n m:Nat),n+m=t.nodes.length->(∀k,k<n->(KI t k && JY t o k == -1)=false)->JaW t o a b ((Ga t.nodes.length).drop n)=Jha t o a b ((Ga t.nodes.length).drop n)
 |n,0,EY,_=>by rw[H9 (by rw[G5];omega)];rfl
 |n,m+1,EY,M9=>by
  have Ab:n<(Ga t.nodes.length).length:=by rw[G5];omega
  rw[GH Ab,Hr];have DT:n<t.nodes.length:=om;have IM:(KI t n && decide (JY t o n<0))=(KI t n && JY t o n == -1):=by
   congr 1
   rw[GD,decide_eq_true_eq,beq_iff_eq];exact mean_neg
  simp only[JaW,Jha];rw[IM,<-tw_eq g DT];by_cases h1:(KI t n && JY t o n == -1)=true
  ·rw[if_pos h1];by_cases h2:twN t n=true
   ·exfalso;have hk:(nd t n).k=44:=by
     unfold twN at h2;by_cases h3:(nd t n).k≠44/\KX (nd t n).k=false
     ·rw[if_pos h3]at h2;cases h2
     ·unfold KI at h1;simp only[Gp,Li,beq_iff_eq]at h1;by_cases h4:(nd t n).k=44
      ·exact h4
      ·exfalso;apply h3;refine⟨h4,?_⟩;rcases h1.1 with (e|e)|e
       ·rw[e];rfl
       ·rw[e];rfl
       ·exact absurd e h4
    obtain⟨k,Bj,BC,BX⟩:=tw_next (o:=o) hk h2;have hp:=M9 k Bj;rw[BX]at hp;unfold KI at hp h1;rw[BC]at hp;simp only[Gp]at h1;rw[h1.2]at hp;simp at hp
   ·rw[if_neg h2,if_pos h1]
  ·rw[if_neg h1,if_neg h1];by_cases h2:twN t n=true
   ·rw[if_pos h2,if_pos h2]
   ·rw[if_neg h2,if_neg h2];refine scan_eq a b (n+1) m om λk hk=>?_
    by_cases Bj:k<n
    ·exact M9 k Bj
    ·have:k=n:=om;subst this;simpa using h1
end
theorem Jfz{M:Int->Lx}{q:Int->Prop}(hN:∀x,q x->N x=M x/\∀y∈N x,q y):∀(f:Nat) (todo out:Lx),(∀x∈todo,q x)->bfsF N f todo out=bfsF M f todo out
 |0,_,_,_=>rfl
 |_+1,[],_,_=>rfl
 |f+1,x::todo,out,h=>by
  have hx:=hN x (h x sM);simp only[bfsF]
  split
  ·exact Jfz hN f todo out λy hy=>h y (by simp[hy])
  ·rw[<-hx.1];refine Jfz hN f _ _ λy hy=>?_
   rcases GN.1 hy with hy|hy
   ·exact h y (by simp[hy])
   ·exact hx.2 y hy
def ofL (t:Tr)(o:Lx):Lx:=(Ga t.nodes.length).map λi=>JY t o i
def stN (t:Tr)(o:Lx)(i:Nat):Bool:=(nd t i).k == 41 && (bfs (λx=>XN t o (ofL t o) x.toNat) (Ql t) (XN t o (ofL t o) i) []).contains (i:Int)
def stR (t:Tr)(o:Lx)(i:Nat):Bool:=(nd t i).k == 41 && ((Ql t).filter λx=>(bfs (λx=>Y0 t o (ofL t o) x.toNat) (Ql t) (Y0 t o (ofL t o) i) []).contains x).contains (i:Int)
theorem nd_in(h:(nd t i).k≠0):i<t.nodes.length:=by
 rcases H5 i t.nodes.length with h1|h1
 ·exact h1
 ·exfalso;apply h;unfold nd;rw[Gh,Hl h1];rfl
section
variable(g:GoodT t o)
include g
theorem Jd8 {of:Lx}{s:Nat}(h:x∈XN t o of s):0<=x/\x<t.nodes.length/\(nd t x.toNat).k=41:=by
 unfold XN at h;rw[Gt,KR]at h;obtain⟨h0,h⟩:=h;simp only[Hd,Gx,Gp,beq_iff_eq,decide_eq_true_eq,He,Q0]at h;obtain⟨i,hi,h1,h2,h3,h4,h5,h6,h7⟩:=h;refine⟨h0.1,h0.2,?_⟩;generalize (of.getD i (-1)).toNat=m at h3 h5;have hm:=nd_in (t:=t) (i:=m) om;obtain⟨u,q1,q2,q3,q4⟩:=QO g hm om;have:x.toNat=u:=om;rw[this];exact(YU (Jdh g q2 q4)).2.2.1 (by rw[h3];rfl)
theorem st_eq(hi:i<t.nodes.length):stN t o i=stR t o i:=by
 unfold stN stR;by_cases hk:(nd t i).k=41
 ·have hq:∀x:Int,(0<=x/\x<t.nodes.length/\(nd t x.toNat).k=41)->XN t o (ofL t o) x.toNat=Y0 t o (ofL t o) x.toNat/\∀y∈XN t o (ofL t o) x.toNat,(0<=y/\y<t.nodes.length/\(nd t y.toNat).k=41):=λx hx=>⟨need_eq g om hx.2.2,λy hy=>Jd8 g hy⟩
  rw[<-need_eq g hi hk];unfold bfs;rw[Jfz hq _ _ _ λx hx=>Jd8 g hx]
  congr 1
  rw[GD];simp only[LZ,decide_eq_true_eq,Gt,KR]
  constructor
  ·intro h;exact⟨om,h⟩
  ·intro h;exact h.2
 ·have e:((nd t i).k == 41)=false:=by simpa using hk
  rw[e,Gq,Gq]
end
def XY (t:Tr)(o:Lx):Nat×Int:=match JaW t o 6 10 (Ga t.nodes.length) with
 |some r=>r
 |none=>match (Ga t.nodes.length).find? (stN t o) with
  |some i=>(i,9)
  |none=>(0,0)
def resR (t:Tr)(o:Lx):Nat×Int:=match Jha t o 6 10 (Ga t.nodes.length) with
 |some r=>r
 |none=>match (Ga t.nodes.length).find? (stR t o) with
  |some i=>(i,9)
  |none=>(0,0)
theorem res_eq(g:GoodT t o):XY t o=resR t o:=by
 have h:=scan_eq g 6 10 0 t.nodes.length om (λk hk=>by omega);rw[Gg]at h;have hf:∀l:LB,(∀i∈l,i<t.nodes.length)->l.find? (stN t o)=l.find? (stR t o):=by
  intro l
  induction l with
  |nil=>intro _;rfl
  |cons i l ih=>intro hl;rw[GJ,GJ,st_eq g (hl i sM),ih λx hx=>hl x (by simp[hx])]
 unfold XY resR;rw[h,hf _ λi hi=>Gx.1 hi]
def upT (t:Tr):Lx:=(Ga t.nodes.length).map λj=>Ky t j
def upTo (t:Tr)(i:Nat):Lx:=(Ga t.nodes.length).map λj=>if Ky t j<i then Ky t j else -1
def XB (v:Int):Lx->Lx->Lx
 |r,[]=>r
 |r,k::ks=>XB v (r.set k.toNat v) ks
theorem JbA:∀(ks r:Lx),(XB v r ks).length=r.length
 |[],_=>rfl
 |k::ks,r=>by rw[XB,JbA ks,ve]
theorem Jb4{k:Int}:∀(ks r:Lx),XB v r (ks++[k])=(XB v r ks).set k.toNat v
 |[],_=>rfl
 |_::ks,_=>Jb4 ks _
theorem JbB:∀(ks r:Lx) (j:Nat),(∀k∈ks,0<=k)->(XB v r ks)[j]? = if (j:Int)∈ks/\j<r.length then some v else r[j]?
 |[],_,_,_=>by simp[XB]
 |k::ks,r,j,h=>by
  rw[XB,JbB ks _ j λx hx=>h x (by simp[hx]),ve,Ng];have hk:=h k sM;by_cases h1:(j:Int)∈ks/\j<r.length
  ·rw[if_pos h1,if_pos ⟨by simp[h1.1],h1.2⟩]
  ·rw[if_neg h1];by_cases h2:k.toNat=j
   ·rw[if_pos h2];by_cases h3:j<r.length
    ·rw[iP7,if_pos ⟨by simp;left;omega,h3⟩]
    ·rw[iN7,if_neg (λh=>h3 h.2),Hl om]
   ·rw[if_neg h2,if_neg];rintro⟨h3,h4⟩;rcases GK.1 h3 with h5|h5
    ·omega
    ·exact h1 ⟨h5,h4⟩
def Yg (t:Tr)(i:Nat):Lx:=(Ga i).map (λj=>(QR t j:Int))++Gs (t.nodes.length-i) 0
def JdS (t:Tr):Lx:=(Ga t.nodes.length).map λj=>(QR t j:Int)
theorem itemTo_zero:Yg t 0=Gs t.nodes.length 0:=by simp[Yg]
theorem itemTo_all:Yg t t.nodes.length=JdS t:=by simp[Yg,JdS]
theorem Jgl(h:i<=t.nodes.length):(Yg t i).length=t.nodes.length:=by simp[Yg];omega
theorem itemTo_succ(h:i<t.nodes.length):(Yg t i).set i (QR t i:Int)=Yg t (i+1):=by unfold Yg;rw[List.set_append_right _ _ sM];simp only[Lh,G5,Nat.sub_self];rw[show t.nodes.length-i=(t.nodes.length-(i+1))+1 by omega,List.replicate_succ,G9,Lg,Ht];simp
theorem Y5:(upTo t i).length=t.nodes.length:=by simp[upTo]
theorem Jep:(upT t).length=t.nodes.length:=by simp[upT]
theorem JcI:(JdS t).length=t.nodes.length:=by simp[JdS]
theorem upT_get(h:i<t.nodes.length):(upT t).getD i 0=Ky t i:=by simp[upT,Gh,h]
theorem itemT_get(h:i<t.nodes.length):(JdS t).getD i 0=QR t i:=by simp[JdS,Gh,h]
section
variable(g:GoodT t o)
include g
theorem par_rng {j:Nat}(hj:j<t.nodes.length) : -1<=Ky t j/\Ky t j<t.nodes.length:=by rcases Xt g hj with ⟨h,_⟩|⟨m,h,h1,h2,_⟩ <;> omega
theorem upTo_zero:upTo t 0=Gs t.nodes.length (-1):=by
 refine Lf (by simp[upTo]) λj h1 h2=>?_
 have hj:j<t.nodes.length:=by rwa [Y5]at h1
 have:=par_rng g hj;simp only[upTo,Vz,Hr,List.getElem_replicate]
 split <;> omega
theorem upTo_all:upTo t t.nodes.length=upT t:=by
 refine Lf (by simp[upTo,upT]) λj h1 h2=>?_
 have hj:j<t.nodes.length:=by rwa [Y5]at h1
 have:=par_rng g hj;simp only[upTo,upT,Vz,Hr]
 split <;> omega
theorem upTo_succ(hi:i<t.nodes.length):upTo t (i+1)=XB i (upTo t i) (nd t i).kids:=by
 refine List.ext_getElem? λj=>?_
 rw[JbB (nd t i).kids _ _ λk hk=>(g.kid hi hk).1,Y5];by_cases hj:j<t.nodes.length
 ·simp only[upTo,Vx,List.getElem?_range hj,HV];by_cases hm:(j:Int)∈(nd t i).kids
  ·have:=(J3 g hi hm).1;rw[if_pos (show (j:Int)∈(nd t i).kids/\j<t.nodes.length from⟨hm,hj⟩),if_pos (show Ky t j<((i+1:Nat):Int) by omega),this]
  ·rw[if_neg (show ¬((j:Int)∈(nd t i).kids/\j<t.nodes.length) from λh=>hm h.1)];have Ai:Ky t j≠i:=by
    intro he;rcases Xt g hj with ⟨h,_⟩|⟨m,h,_,_,h4⟩
    ·omega
    ·have:m=i:=om;subst this;exact hm h4
   by_cases h1:Ky t j<i
   ·rw[if_pos h1,if_pos (show Ky t j<((i+1:Nat):Int) by omega)]
   ·rw[if_neg h1,if_neg (show ¬Ky t j<((i+1:Nat):Int) by omega)]
 ·rw[if_neg (λh=>hj h.2),Hl (by rw[Y5];omega),Hl (by rw[Y5];omega)]
theorem Jgm:QR t 0=0:=by unfold QR;rw[Vy,Lr];intro L hL;have:=g.itr hL;simp;omega
theorem itemN_step(hi:i<t.nodes.length):∃L:Nat,QR t i<t.items.length/\t.items.getD (QR t i) 0=(L:Int)/\i<=L/\L<t.nodes.length/\QR t (i+1)=if i=L then QR t i+1 else QR t i:=by
 obtain⟨k,L,hk,Bf,h1,h2,h3,h4⟩:=item_of g hi;have hL:(L:Int)∈t.items:=Lt Bf;have kL:=g.itr hL;refine⟨L,om,by rw[h1,Gh,Bf];rfl,h4,om,?_⟩;rw[h1];have ha:=Jbu g.ord.ok g.olen _ _ _ g.its;have Ap:t.items=t.items.take k++(L:Int)::t.items.drop (k+1):=by have h6:=GH hk;have h7:=Gj hk;rw[Bf]at h7;rw[<-VT h7]at h6;rw[<-h6,LY]
 rw[Ap,List.pairwise_append]at ha;obtain⟨_,Dp,kI⟩:=ha;rw[Lc]at Dp;have Ab:∀x∈t.items.take k,x<(i:Int):=λx hx=>by have:=(QT g.ord.ok g.olen _ _ _ (Jbc g k (Ll hk)).1 x hx).2.2.1;omega
 unfold QR;rw[Ap,Ld,vg,L6.2 (λx hx=>by have:=Ab x hx;simp;omega),Lr.2 (λx hx=>by have:=Dp.1 x hx;simp;omega)];have Dk:(t.items.take k).length=k:=by rw[GQ];omega
 by_cases he:i=L
 ·rw[if_pos he,if_pos (by simp;omega),Gz,Dk];rfl
 ·rw[if_neg he,if_neg (by simp;omega),Gr,Dk]
end
end Go.Cm
section
open Go.Proofs
namespace Go.Cm
variable {α:Type}{f:Nat}{l:Lx}{cap:Option Nat}
section
variable {P:Program}{E:Env}{H:Lv}
theorem putCells_get[Inhabited α](enc:α->Value)(off:Nat)(d:Array α)(c:LJ)(k:Nat):(Sort.putCells enc off d c)[k]? = (c[k]?).map λx=>if off<=k/\k<off+d.size then enc d[k-off]! else x:=by simp[Sort.putCells]
theorem putRow_heap[Inhabited α](enc:α->Value)(w:World)(B off:Nat)(d:Array α){c:LJ}{e:TypeId}{fr:Nat×Nat}(hb:w.heap[B]? = some (.cells c e fr)):(Sort.putRow enc w B off d).heap[B]? = some (.cells (Sort.putCells enc off d c) e fr):=by simp[Sort.putRow,Sort.mapBlock,Array.getElem?_modify,hb,Sort.onCells]
theorem putRow_other[Inhabited α](enc:α->Value)(w:World)(B off:Nat)(d:Array α)(B':Nat)(h:B'≠B):(Sort.putRow enc w B off d).heap[B']? = w.heap[B']?:=by simp[Sort.putRow,Sort.mapBlock,Array.getElem?_modify,Ne.symm h]
theorem rels_ints {own:LC}{imm:Nat->Nat->LG}:∀{ys:Lx}{vs:LH},J7 own imm (ys.map (CV.int .i64)) vs->vs=ys.map (Value.int .i64)
 |[],_,h=>h
 |y::ys,_,h=>by simp only[Gd,J7,rel]at h;obtain⟨r,rs,rfl,rfl,h2⟩:=h;rw[rels_ints h2];rfl
theorem JcV{id:Nat}{l' ys:Lx}{v:CV}(R:Nat->Nat->Nat->Value)(hl:l≠[])(Ad:l'.length=l.length)(hH:H[id]? = some (.arr 1 (iz l)))
  (hR:∀(own:LC) imm (x:Own) c,own[id]? = some x->x.z=1->l.length<=c->(∀n,cap=some n->c=n)->x.o+c<=x.n->rel own imm v (R x.B x.o c))
  (h:∀(blk off c:Nat) (w:World),l.length<=c->Sort.Holds (Value.int .i64) w blk off l.toArray->blk<w.heap.size->Calls P f (Value.slice (some ⟨blk,off,none⟩) l.length c::ys.map (Value.int .i64)).toArray w λe w'=>e=.returned (R blk off c)/\∃n os,w'=Sort.grow (Sort.putRow (Value.int .i64) (Sort.ahead w n) blk off l'.toArray) os) :
  CallsC P E f (.slc id 0 l.length cap::ys.map (CV.int .i64)) H λv' H'=>v'=v/\H'=H.set id (.arr 1 (iz l')):=by
 intro m w vs hs hv;have kw:0<l.length:=List.length_pos_iff.2 hl;simp only[J7,rel]at hv;obtain⟨r,rs,BI,⟨x,a,c,hx,rfl,CF,Bu,ha,Bv⟩,fC⟩:=hv;obtain rfl:=rels_ints fC;obtain⟨hz,cells,elem,hb,BP,Be,AR,Bl⟩:=hs.obj id _ x hH hx;rw[hz]at Be AR ha Bv;have ha:=ha om;rw[NC,Hg]at ha;have BI:vs=(Value.slice (some a) l.length c::ys.map (Value.int .i64)).toArray:=by cases vs;simp only[]at BI;rw[BI]
 subst BI ha;have cu:∀j,j<l.length->cells[x.o+j]? = some (Value.int .i64 (l.getD j 0)):=by intro j hj;obtain⟨r,h1,h2⟩:=(AR j [.int .i64 (l.getD j 0)] (by simp[iz,Gj hj])).2 0 _ rfl;simp only[rel]at h2;subst h2;simpa using h1
 have hB:x.B<w.heap.size:=(Array.getElem?_eq_some_iff.1 hb).1;have Pk:Sort.Holds (Value.int .i64) w x.B x.o l.toArray:=by
  intro j hj;have Oe:j<l.length:=by simpa using hj
  refine⟨?_,?_⟩
  ·simp only[World.cell?,hb];rw[cu j Oe];simp[getElem!_pos,Oe,Gh]
  ·simp[World.frozen?,hb]
 refine⟨trivial,λcs _=>?_⟩;obtain⟨e,w',fr,⟨rfl,n,os,rfl⟩,Al,Ez⟩:=h x.B x.o c w CF Pk hB cs;have Dg:(Sort.putRow (Value.int .i64) (Sort.ahead w n) x.B x.o l'.toArray).heap[x.B]? = some (.cells (Sort.putCells (Value.int .i64) x.o l'.toArray cells) elem (0,0)):=putRow_heap _ _ _ _ _ (by rw[Sort.heap_ahead];exact hb);have FY:(Sort.putRow (Value.int .i64) (Sort.ahead w n) x.B x.o l'.toArray).heap.size=w.heap.size:=by rw[Sort.size_putRow];rfl
 have F5:∀B,B≠x.B->(Sort.putRow (Value.int .i64) (Sort.ahead w n) x.B x.o l'.toArray).heap[B]? = w.heap[B]?:=λB hB=>by rw[putRow_other _ _ _ _ _ _ hB];rfl
 have Bf:∀k,(Sort.putCells (Value.int .i64) x.o l'.toArray cells)[k]? = if x.o<=k/\k<x.o+l.length then some (Value.int .i64 (l'.getD (k-x.o) 0)) else cells[k]?:=by
  intro k;rw[putCells_get];by_cases hk:x.o<=k/\k<x.o+l.length
  ·have h1:=cu (k-x.o) om;rw[show x.o+(k-x.o)=k by omega]at h1;have h3:k-x.o<l'.length:=om;rw[h1,if_pos hk,HV,if_pos (by simp;omega)];simp[getElem!_pos,h3,Gh]
  ·rw[if_neg hk]
   cases kE:cells[k]? with
   |none=>rfl
   |some v=>rw[HV,if_neg (by simp;omega)]
 have OP:Y7 m.own m.imm x (.arr 1 (iz l')) (Sort.putRow (Value.int .i64) (Sort.ahead w n) x.B x.o l'.toArray):=by
  refine⟨hz,_,elem,Dg,?_,?_,?_,?_⟩
  ·simp only[Sort.putCells,Array.size_mapIdx];exact BP
  ·rw[hz,Jf,Ad];rw[Jf]at Be;exact Be
  ·intro j e he;rw[hz];have hj:j<l'.length:=by
    have:=(H8.1 he).1
    rwa [Jf]at this
   simp only[iz,Vx,Gj hj,HV,HY]at he;subst he;refine⟨rfl,λt c hc=>?_⟩
   cases t with
   |zero=>simp only[LW,HY]at hc;subst hc;refine⟨.int .i64 (l'[j]),?_,by simp only[rel]⟩;show (Sort.putCells (Value.int .i64) x.o l'.toArray cells)[x.o+j*1+0]? = _;rw[Bf,iP7,show x.o+j*1+0-x.o=j by omega,Gh,Gj hj];rfl
   |succ t=>simp at hc
  ·intro i v hv;rw[Bf]at hv
   split at hv
   ·simp only[HY]at hv;subst hv;rfl
   ·exact Bl i v hv
 have AL:(Sort.putRow (Value.int .i64) (Sort.ahead w n) x.B x.o l'.toArray).os=w.os/\(Sort.putRow (Value.int .i64) (Sort.ahead w n) x.B x.o l'.toArray).output=w.output/\(Sort.putRow (Value.int .i64) (Sort.ahead w n) x.B x.o l'.toArray).tape=w.tape:=⟨rfl,rfl,rfl⟩;have EL:=hs.put hH rfl hx FY F5 (λi hi=>by simp only[World.cell?,Dg,hb];rw[Bf,if_neg (show ¬(x.o<=i/\i<x.o+l.length) by omega)]) OP (by intro s b h;cases h);have Ic:Ext H.length m H w m (H.set id (.arr 1 (iz l'))) _:=Ext.put hH rfl hx FY F5 AL;have hg:∀B,B<(Sort.putRow (Value.int .i64) (Sort.ahead w n) x.B x.o l'.toArray).heap.size->(Sort.grow (Sort.putRow (Value.int .i64) (Sort.ahead w n) x.B x.o l'.toArray) os).heap[B]? = (Sort.putRow (Value.int .i64) (Sort.ahead w n) x.B x.o l'.toArray).heap[B]?:=λB hB=>Sort.heap_grow_old _ _ hB
 have Dm:(Sort.putRow (Value.int .i64) (Sort.ahead w n) x.B x.o l'.toArray).heap.size<=(Sort.grow (Sort.putRow (Value.int .i64) (Sort.ahead w n) x.B x.o l'.toArray) os).heap.size:=by rw[Sort.size_grow];omega
 exact⟨_,_,fr,⟨R x.B x.o c,m,v,_,rfl,Ic.trans (Ext.grown Dm hg ⟨rfl,rfl,rfl⟩),EL.grown Dm hg,hR _ _ x c hx hz CF Bu (by simp only[Nat.mul_one,Hg]at Bv;exact Bv),rfl,rfl⟩,(show StepsIn _ _ _ _ from Jg7 Al),Ez⟩
theorem callsC_sort{id:Nat}(hl:l≠[])(Df:l.length<=1000000)(hH:H[id]? = some (.arr 1 (iz l)))
  (h:∀(blk off c:Nat) (w:World),Sort.Holds (Value.int .i64) w blk off l.toArray->blk<w.heap.size->l.length<4611686018427387904->Calls P f #[.slice (some ⟨blk,off,none⟩) l.length c] w λe w'=>e=.returned (.tuple #[])/\∃n os,w'=Sort.grow (Sort.putRow (Value.int .i64) (Sort.ahead w n) blk off (l.mergeSort λx y=>decide (x<=y)).toArray) os) :
  CallsC P E f [.slc id 0 l.length cap] H λv' H'=>v'=.tup []/\H'=H.set id (.arr 1 (iz (l.mergeSort λx y=>decide (x<=y)))):=
 JcV (ys:=[]) (λ_ _ _=>.tuple #[]) hl (La _) hH (λown imm x c _ _ _ _ _=>by simp only[rel,J7];exact⟨_,rfl,rfl⟩) λblk off c w _ h1 h2=>h blk off c w h1 h2 om
theorem compact_len (l:Lx):(Lib.compact l).length<=l.length:=by
 unfold Lib.compact Lib.compactUpTo;rw[Lh];have:=GM (Lib.keeps l.toArray) (Ga l.length)
 rwa [G5]at this
theorem JfN{id:Nat}(hl:l≠[])(Df:l.length<=1000000)(hH:H[id]? = some (.arr 1 (iz l)))
  (h:∀(blk off c:Nat) (w:World),Sort.Holds (Value.int .i64) w blk off l.toArray->l.length<=9223372036854775807->l.length<=c->Calls P f #[.slice (some ⟨blk,off,none⟩) l.length c] w λe w'=>e=.returned (.slice (some ⟨blk,off,none⟩) (Lib.compact l).length c)/\∃n,w'=Sort.putRow (Value.int .i64) (Sort.ahead w n) blk off (Lib.compact l++Gs (l.length-(Lib.compact l).length) 0).toArray) :
  CallsC P E f [.slc id 0 l.length cap] H λv' H'=>v'=.slc id 0 (Lib.compact l).length cap/\H'=H.set id (.arr 1 (iz (Lib.compact l++Gs (l.length-(Lib.compact l).length) 0))):=
 have Be:=compact_len l
 JcV (ys:=[]) (λblk off c=>.slice (some ⟨blk,off,none⟩) (Lib.compact l).length c) hl (by simp;omega) hH (λown imm x c hx hz hc Bu Bv=>by simp only[rel];exact⟨x,_,c,hx,rfl,om,Bu,λ_=>by rw[NC,Hg],by rw[hz];omega⟩) λblk off c w hc h1 _=>(h blk off c w h1 om hc).mono λe w' ⟨h3,n,h4⟩=>⟨h3,n,#[],by rw[Sort.grow_empty];exact h4⟩
theorem Jfp{x:Int}:x∈Lib.compact l↔x∈l:=by
 unfold Lib.compact Lib.compactUpTo;simp only[Hw,Gt,Gx]
 constructor
 ·rintro⟨i,⟨hi,_⟩,rfl⟩;rw[getElem!_pos l.toArray i (by simpa using hi)];simp
 ·intro hx;have key:∀(n i:Nat),i<=n->i<l.length->l.toArray[i]! = x->∃i,(i<l.length/\Lib.keeps l.toArray i=true)/\l.toArray[i]! = x:=by
   intro n
   induction n with
   |zero=>intro i h1 h2 h3;exact⟨i,⟨h2,by simp[Lib.keeps];left;omega⟩,h3⟩
   |succ n ih=>
    intro i h1 h2 h3;by_cases hk:Lib.keeps l.toArray i=true
    ·exact⟨i,⟨h2,hk⟩,h3⟩
    ·simp only[Lib.keeps,decide_eq_true_eq,not_or,ne_eq,Classical.not_not]at hk;exact ih (i-1) om om (by rw[<-hk.2];exact h3)
  obtain⟨i,hi,rfl⟩:=VY hx;exact key i i (GG _) hi (by rw[getElem!_pos l.toArray i (by simpa using hi)];simp)
theorem compact_asc(h:l.Pairwise (·<=·)):(Lib.compact l).Pairwise (· < ·):=by
 unfold Lib.compact Lib.compactUpTo;rw[Nc];refine List.Pairwise.imp_of_mem ?_ (LX.filter _);intro a b ha hb SK;simp only[Gt,Gx]at ha hb;have hk:=hb.2;simp only[Lib.keeps,decide_eq_true_eq]at hk;have hk:=hk.resolve_left om;have hg:∀i,i<l.length->l.toArray[i]! = l.getD i 0:=λi hi=>by rw[getElem!_pos l.toArray i (by simpa using hi),Gh,Gj hi];simp
 rw[hg b hb.1,hg (b-1) om]at hk;rw[hg a ha.1,hg b hb.1];rw[List.pairwise_iff_getElem]at h;have Be:∀i j,i<=j->j<l.length->l.getD i 0<=l.getD j 0:=λi j Cv hj=>by
  rw[Gh,Gh,Gj hj,Gj (show i<l.length by omega)];by_cases he:i=j
  ·subst he;exact GV _
  ·exact h i j _ _ om
 have h1:=Be a (b-1) om om;have h2:=Be (b-1) b om hb.1;omega
theorem sort_asc (l:Lx):(l.mergeSort λx y=>decide (x<=y)).Pairwise (·<=·):=by have:=List.pairwise_mergeSort (le:=λx y:Int=>decide (x<=y)) (λa b c h1 h2=>by simp at *;omega) (λa b=>by simp;omega) l;exact this.imp λh=>by simpa using h
theorem sort_mem{x:Int}:x∈(l.mergeSort λx y=>decide (x<=y))↔x∈l:=List.mem_mergeSort
theorem sort_strict(h:l.Nodup):(l.mergeSort λx y=>decide (x<=y)).Pairwise (· < ·):=by have h1:=sort_asc l;have h2:(l.mergeSort λx y=>decide (x<=y)).Nodup:=(List.mergeSort_perm l _).nodup_iff.2 h;exact(h1.and h2).imp λ⟨a,b⟩=>by have:_≠_:=b;omega
end
end Go.Cm
end
namespace Go.Cm
variable {t:Tr}{o:Lx}{a f i n top z:Nat}{q:Nat->Nat->Prop}{l:LB}{els:LQ}
def XO (t:Tr)(o:Lx)(of:Lx)(s:Nat):LB->Lx
 |[]=>[]
 |i::l=>if (decide (0<=of.getD i (-1)) && ((nd t (of.getD i (-1)).toNat).k == 42 && ((nd t i).k == 3 && (Jb0 o i s && (Ky t (Ky t (of.getD i (-1)).toNat).toNat == Ky t s && !buL t (upL t (Ji t s) t.nodes.length i) false)))))=true
  then Ky t (of.getD i (-1)).toNat::XO t o of s l else XO t o of s l
theorem needC_app{of:Lx}{s:Nat}:∀(l m:LB),XO t o of s (l++m)=XO t o of s l++XO t o of s m
 |[],_=>rfl
 |i::l,m=>by
  simp only[GR,XO,needC_app l m]
  split <;> simp
theorem Je0{of:Lx}{s:Nat}{x:Int}:∀(l:LB),x∈XO t o of s l↔∃i∈l,(decide (0<=of.getD i (-1)) && ((nd t (of.getD i (-1)).toNat).k == 42 && ((nd t i).k == 3 && (Jb0 o i s && (Ky t (Ky t (of.getD i (-1)).toNat).toNat == Ky t s && !buL t (upL t (Ji t s) t.nodes.length i) false)))))=true/\Ky t (of.getD i (-1)).toNat=x
 |[]=>by simp[XO]
 |i::l=>by
  simp only[XO,GK,exists_eq_or_imp]
  split
  ·rename_i h;rw[GK,Je0 l]
   constructor
   ·rintro(e|e)
    ·exact .inl ⟨h,e.symm⟩
    ·exact .inr e
   ·rintro(⟨_,e⟩|e)
    ·exact .inl e.symm
    ·exact .inr e
  ·rename_i h;rw[Je0 l]
   constructor
   ·exact .inr
   ·rintro(⟨e,_⟩|e)
    ·exact absurd e h
    ·exact e
theorem Je1{of:Lx}{s:Nat}:∀(l:LB),(XO t o of s l).length<=l.length
 |[]=>GG _
 |i::l=>by
  have:=Je1 (of:=of) (s:=s) l;simp only[XO]
  split <;> simp only[Gi] <;> omega
section
variable(g:GoodT t o)
include g
theorem blw_up{j:Nat}(hj:j<t.nodes.length)(ha:a<t.nodes.length)(Ai:j≠a):Jb0 o j a=if Ky t j<0 then false else Jb0 o (Ky t j).toNat a:=by
 rcases Xt g hj with ⟨hp,_⟩|⟨m,hp,Ux,hm,hk⟩
 ·rw[hp,if_pos vk,Nu];intro h;obtain⟨m,q,_⟩:=X4 g ha (Q0.1 h) Ai;omega
 ·rw[hp,iN7,Gc,GD,Q0,Q0]
  constructor
  ·intro h;obtain⟨m',q1,_,_,q4,_⟩:=X4 g ha h Ai;have:m'=m:=om;rw[<-this];exact q4
  ·intro h;exact Qy g ha (QA g hm hk) h
omit g in
theorem JgS{m:Nat}:∃l,upL t top f m=m::l:=by
 cases f with
 |zero=>exact⟨_,rfl⟩
 |succ f=>unfold upL;split <;> exact⟨_,rfl⟩
omit g in
theorem late_end{late:Bool}:buL t (upL t top f top) late=late:=by
 cases f with
 |zero=>rfl
 |succ f=>unfold upL;rw[if_pos rfl];rfl
theorem late_step{s:Nat}{late:Bool}(hs:s<t.nodes.length)(Bz:(Ji t s:Int)∈(nd t s).kids)(hb:blw o a (Ji t s))(hf:t.nodes.length<=a+f) :
  (a=Ji t s/\Ky t a=s)\/(a≠Ji t s/\∃m f':Nat,Ky t a=m/\m≠s/\a<m/\m<t.nodes.length/\blw o m (Ji t s)/\(a:Int)∈(nd t m).kids/\t.nodes.length<=m+f'/\buL t (upL t (Ji t s) f a) late=buL t (upL t (Ji t s) f' m) (Jda t m a late)):=by
 have hk:=J3 g hs Bz;by_cases he:a=Ji t s
 ·exact .inl ⟨he,by rw[he];exact hk.1⟩
 ·have CG:Ji t s<t.nodes.length:=om;obtain⟨m,q1,q2,q3,q4,q5⟩:=X4 g CG hb he;have Am:a<t.nodes.length:=by have:=hb.1;omega
  obtain⟨f',rfl⟩:∃f',f=f' + 1:=⟨f-1,om⟩;refine .inr ⟨he,m,f',q1,om,q2,om,q4,q5,om,?_⟩;have hu:upL t (Ji t s) (f' + 1) a=a::upL t (Ji t s) f' m:=by rw[upL,if_neg he,q1,Gc]
  obtain⟨l,hl⟩:=JgS (top:=Ji t s) (f:=f') (m:=m);rw[hu,hl,buL]
theorem set_kid {s:Nat}(hs:s<t.nodes.length)(hk:(nd t s).k=41):(Ji t s:Int)∈(nd t s).kids/\0<(nd t s).kids.length:=by obtain⟨a,hN,hl,k1,k2⟩:=Yu g hs hk;change (nd t s).kids.length=a+1 at hl;exact⟨(Jz g hs (i:=(nd t s).kids.length-1) om).1,om⟩
theorem need_done {of:Lx}{s:Nat}:Lib.compact ((XO t o of s (Ga t.nodes.length)).mergeSort λx y=>decide (x<=y))=XN t o of s:=by
 refine asc_eq (compact_asc (sort_asc _)) (Jel.filter _) λx=>?_
 unfold XN;rw[Jfp,sort_mem,Je0,Gt,KR];simp only[Hd,Gx,Gp,beq_iff_eq,decide_eq_true_eq,He]
 constructor
 ·rintro⟨i,hi,⟨h1,h2,h3,h4,h5,h6⟩,rfl⟩;have hm:=nd_in (t:=t) (i:=(of.getD i (-1)).toNat) om;obtain⟨u,q1,q2,q3,q4⟩:=QO g hm om;exact⟨⟨om,om⟩,i,hi,h3,h1,h2,h4,rfl,h5,h6⟩
 ·rintro⟨_,i,hi,h3,h1,h2,h4,rfl,h5,h6⟩;exact⟨i,hi,⟨h1,h2,h3,h4,h5,h6⟩,rfl⟩
end
theorem pairs_get:∀(l:LB) (k:Nat),Jdi t q l->k+1<l.length->q (l.getD (k+1) 0) (l.getD k 0)
 |[],_,_,h=>by simp at h
 |[x],_,_,h=>by simp at h
 |c::u::l,0,h,_=>h.1
 |c::u::l,k+1,h,hk=>by have:=pairs_get (u::l) k h.2 (by simpa using hk);simpa using this
theorem rev_get(h:i<l.length):l.reverse.getD i 0=l.getD (l.length-1-i) 0:=by rw[Gh,List.getElem?_reverse h,Gh]
theorem pairs_rev(h:Jdi t q l)(hi:i+1<l.reverse.length):q (l.reverse.getD i 0) (l.reverse.getD (i+1) 0):=by
 rw[VZ]at hi;rw[rev_get om,rev_get om];have:=pairs_get l (l.length-1-(i+1)) h om
 rwa [show l.length-1-(i+1)+1=l.length-1-i by omega]at this
theorem tdL_drop(hi:i+1<l.length):tdL t (l.drop i) false=match Jib t (l.getD i 0) (l.getD (i+1) 0) with|some b=>b|none=>tdL t (l.drop (i+1)) false:=by
 rw[GH (show i<l.length by omega),GH hi,tdL];simp only[Gh,Gj (show i<l.length by omega),Gj hi,Hz]
 all_goals (cases Jib t l[i] l[i+1] <;> rfl)
theorem tdL_end(hi:l.length<=i+1):tdL t (l.drop i) false=false:=by
 rcases H5 i l.length with h|h
 ·rw[GH h,H9 om];rfl
 ·rw[H9 h];rfl
def setL (b:LK):Lx:=((Ga b.length).filter λi=>b.getD i false).map λi:Nat=>(i:Int)
def KW (n:Nat)(f:Int->Bool):LK:=(Ga n).map λi:Nat=>f i
theorem QV{f:Int->Bool}:(KW n f).length=n:=by simp[KW]
theorem JgE{f:Int->Bool}(h:i<n):(KW n f).getD i false=f i:=by simp[KW,Gh,h]
theorem JgD{g:Int->Bool}{f:Int->Bool}(h:i<n)(h1:∀j:Nat,j<n->j≠i->g j=f j)(h2:g i=true):(KW n f).set i true=KW n g:=by
 refine Lf (by simp[KW]) λj a1 a2=>?_
 rw[QV]at a2;rw[List.getElem_set];simp only[KW,Vz,Hr]
 split
 ·rename_i e;subst e;exact h2.symm
 ·rename_i e;exact(h1 j a2 (λx=>e x.symm)).symm
theorem boolsN_congr{g:Int->Bool}{f:Int->Bool}(h:∀j:Nat,j<n->f j=g j):KW n f=KW n g:=by unfold KW;exact List.map_congr_left λj hj=>h j (Gx.1 hj)
theorem JdN:KW n (λ_=>false)=Gs n false:=by
 refine Lf (by simp[KW]) λj a1 a2=>?_
 simp[KW]
theorem JfY{f:Int->Bool}:setL (KW t.nodes.length f)=(Ql t).filter f:=by
 unfold setL Ql;rw[List.filter_map,QV]
 congr 1
 refine VU λi hi=>?_
 rw[JgE (Gx.1 hi)];rfl
def JbT (t:Tr)(o of:Lx)(s:Nat)(x:Int)(i:Nat):Bool:=(nd t i).k == 3 && (decide (0<=of.getD i (-1)) && (Jb0 o i (Ji t s) && ((nd t (of.getD i (-1)).toNat).k == 42 && (Ky t (of.getD i (-1)).toNat == x && (Ky t x.toNat == Ky t s && !tdL t (upL t (Ji t s) t.nodes.length i).reverse false)))))
theorem needR_eq{of:Lx}{s:Nat}:Y0 t o of s=setL (KW t.nodes.length λx=>(Ga t.nodes.length).any (JbT t o of s x)):=by rw[JfY];rfl
section
variable(g:GoodT t o)
include g
theorem up_kids:∀(f c top:Nat),top<t.nodes.length->blw o c top->Jdi t (λu c=>(c:Int)∈(nd t u).kids/\u<t.nodes.length) (upL t top f c)
 |0,_,_,_,_=>trivial
 |f+1,c,top,Bz,Mg=>by
  unfold upL;by_cases he:c=top
  ·rw[if_pos he];trivial
  ·rw[if_neg he];obtain⟨m,hp,dK,df,RV,hk⟩:=X4 g Bz Mg he;rw[hp,Gc];have hm:m<t.nodes.length:=om;have ih:=up_kids f m top Bz RV;obtain⟨l,hl⟩:=JgS (top:=top) (f:=f) (m:=m);rw[hl]at ih|-;exact⟨⟨hk,hm⟩,ih⟩
theorem up_rng:∀(f c top:Nat),top<t.nodes.length->blw o c top->∀x∈upL t top f c,x<t.nodes.length
 |0,c,top,Bz,Mg,x,hx=>by simp only[upL,Hq]at hx;have:=Mg.1;omega
 |f+1,c,top,Bz,Mg,x,hx=>by
  unfold upL at hx;have:=Mg.1;by_cases he:c=top
  ·rw[if_pos he,Hq]at hx;omega
  ·rw[if_neg he]at hx;obtain⟨m,hp,dK,df,RV,hk⟩:=X4 g Bz Mg he;rw[hp,Gc]at hx;rcases GK.1 hx with h|h
   ·omega
   ·exact up_rng f m top Bz RV x h
theorem way_step(Bz:top<t.nodes.length)(hb:blw o a top)(hf:t.nodes.length<=a+f)(Ai:a≠top):∃m f':Nat,Ky t a=m/\a<m/\m<t.nodes.length/\blw o m top/\t.nodes.length<=m+f'/\∀w:LB,(upL t top f a).tail.reverse++w=(upL t top f' m).tail.reverse++(m::w):=by obtain⟨m,q1,q2,q3,q4,q5⟩:=X4 g Bz hb Ai;obtain⟨f',rfl⟩:∃f',f=f' + 1:=⟨f-1,by have:=hb.1;omega⟩;refine⟨m,f',q1,q2,om,q4,om,λw=>?_⟩;obtain⟨l,hl⟩:=JgS (top:=top) (f:=f') (m:=m);rw[upL,if_neg Ai,q1,Gc,vT,hl,vT,Vv,Le];rfl
omit g in
theorem way_start:(upL t top f a).reverse=(upL t top f a).tail.reverse++[a]:=by obtain⟨l,hl⟩:=JgS (top:=top) (f:=f) (m:=a);rw[hl,Vv,vT]
omit g in
theorem way_end:(upL t top f top).tail=[]:=by
 cases f with
 |zero=>rfl
 |succ f=>rw[upL,if_pos rfl];rfl
theorem up_len(Bz:top<t.nodes.length)(hb:blw o a top)(hf:t.nodes.length<=a+f):(upL t top f a).length<=t.nodes.length-a:=by
 induction f generalizing a with
 |zero=>have:=hb.1;omega
 |succ f ih=>
  unfold upL;have:=hb.1;by_cases he:a=top
  ·rw[if_pos he];simp;omega
  ·rw[if_neg he];obtain⟨m,q1,q2,q3,q4,q5⟩:=X4 g Bz hb he;rw[q1,Gc,Gi];have:=ih q4 om;omega
end
section
variable {P:Program}{E:Env}{n0:Nat}{N:Fr}{Q:Exit->Lu->Lv->Prop}{H:Lv}{T:Lu}{k:LM}{m:Bk}{w:World}
theorem Jg8 {id k:Nat}{o o':CObj}(h:(H.set id o')[k]? = some o):(k=id/\o=o')\/(k≠id/\H[k]? = some o):=by
 rw[Ng]at h
 split at h
 ·rename_i e
  split at h
  ·exact .inl ⟨e.symm,(VT h).symm⟩
  ·cases h
 ·rename_i e;exact .inr ⟨λx=>e x.symm,h⟩
theorem Sim.trunc{id:Nat}(hs:Sim E m H w)(hH:H[id]? = some (.arr z els))(j:Nat):Sim E m (H.set id (.arr z (els.take j))) w/\Ext n0 m H w m (H.set id (.arr z (els.take j))) w:=by
 have key:∀(k:Nat) o,(H.set id (.arr z (els.take j)))[k]? = some o->∃o',H[k]? = some o'/\o'.alive=o.alive/\(k≠id->o'=o):=by
  intro k o h;rcases Jg8 h with ⟨rfl,rfl⟩|⟨h1,h2⟩
  ·exact⟨_,hH,rfl,λh=>absurd rfl h⟩
  ·exact⟨o,h2,rfl,λ_=>rfl⟩
 refine⟨⟨by rw[ve];exact hs.len,λk o x hk hx=>?_,hs.imm,hs.one,λk k' o o' x x' hk AC ha AX hx Aw hB=>?_,λk o x hk ha hx=>?_,λk s b hk=>?_,λk o x hk ha hx=>?_,hs.extlt,hs.gl⟩,
  ⟨GG _,λ_ _ _=>rfl,KJ.refl _,λB hB=>.inl ?_,λB i v hv=>.inl hv,λk x _ hx=>hx,λh=>h,rfl,rfl,rfl⟩⟩
 ·rcases Jg8 hk with ⟨rfl,rfl⟩|⟨_,h2⟩
  ·obtain⟨hz,c,elem,h1,h2,h3,h4,h5⟩:=hs.obj k _ x hH hx;refine⟨hz,c,elem,h1,h2,?_,λi e he=>?_,h5⟩
   ·have:(els.take j).length*x.z<=els.length*x.z:=HZ _ (by rw[GQ];omega);omega
   ·have Cv:i<j:=by have:=(H8.1 he).1;rw[GQ]at this;omega
    rw[Na,if_pos Cv]at he;exact h4 i e he
  ·exact hs.obj k o x h2 hx
 ·obtain⟨p,hp,CU,_⟩:=key k o hk;obtain⟨p',EW,II,_⟩:=key k' o' AC;exact hs.sep k k' p p' x x' hp EW (CU.trans ha) (II.trans AX) hx Aw hB
 ·obtain⟨p,hp,CU,_⟩:=key k o hk;exact hs.ro k p x hp (CU.trans ha) hx
 ·rcases Jg8 hk with ⟨_,h2⟩|⟨_,h2⟩
  ·cases h2
  ·exact hs.ext k s b h2
 ·obtain⟨p,hp,CU,_⟩:=key k o hk;exact hs.extsep k p x hp (CU.trans ha) hx
 ·rcases hB with h|⟨k,o,x,hk,ha,hx,hB⟩
  ·exact .inl h
  ·obtain⟨p,hp,CU,_⟩:=key k o hk;exact .inr ⟨k,p,x,hp,CU.trans ha,hx,hB⟩
theorem CallsC.trunc{id j:Nat}{args:Lu}{v:CV}{R R':CV->Lv->Prop}(h:CallsC P E f args H R)(hR:∀v H',R v H'->R' v H'\/∃id z els j,H'[id]? = some (.arr z els)/\R' v (H'.set id (.arr z (els.take j)))):CallsC P E f args H R':=by
 intro m w vs hs hv;refine(h m w vs hs hv).mono ?_;rintro e w' ⟨r,m',v,H',h1,h2,h3,h4,h5⟩;rcases hR _ _ h5 with g|⟨id,z,els,j,g1,g2⟩
 ·exact⟨r,m',v,H',h1,h2,h3,h4,g⟩
 ·obtain⟨t1,t2⟩:=h3.trunc (n0:=H.length) g1 j;exact⟨r,m',v,_,h1,h2.trans t2,t1,h4,g2⟩
def rowW (id:Nat)(els:LQ):CV:=.slc id 0 els.length (Jej els)
def JfG (P:Program)(f:Nat)(args:Lu)(z:Nat)(els:LQ):Prop:=∀(E:Env) (H:Lv),CallsC P E f args H λv H'=>v=rowW H.length els/\H'=H++[.arr z els]
theorem rowW_shift(i n:Nat){own own':LC}{imm:Nat->Nat->LG}{r:Value}(ho:∀(k:Nat) x,own[k]? = some x->own'[n+k]? = some x)(h:rel own imm (rowW i els) r):rel own' imm (rowW (n+i) els) r:=by simp only[rowW,rel]at h|-;obtain⟨x,a,c,hx,g⟩:=h;exact⟨x,a,c,ho _ _ hx,g⟩
theorem Jfd{args:Lu}(h:CallsC P Env.none f args [] λv H'=>∃id,v=rowW id els/\H'[id]? = some (.arr z els))(ha:Jk args=true)(hc:Jq els=true):JfG P f args z els:=λE H=>by
 refine CallsC.frameG (mk:=λn=>rowW n els) (G:=[.arr z els]) (h.ren λv H' ⟨id,hv,hH⟩=>⟨[id],?_,?_,?_⟩) ha (λo ho=>by simp only[Hq]at ho;rw[ho];exact .inr ⟨_,_,rfl,hc⟩) λn own own' imm r ho h=>rowW_shift 0 n ho h
 ·have:=(H8.1 hH).1;simp[Jde,this]
 ·rw[hv];simp[rowW,ren,Jl]
 ·simp only[KE,Gd,Gf,Gh,hH,Hz,Jo,Jc hc]
theorem JfG.fn{args:Lu}(h:JfG P f args z els)(ha:Jk args=true)(hc:Jq els=true):Fn P f args (.rslc z els none):=by refine Jbk (((h Env.none []).mono λv H' ⟨h1,h2⟩=>?_)) ha rfl;subst h1 h2;refine .inr ⟨0,z,els,rfl,hc,?_⟩;simp only[rowW,frz,Gw,if_true,G8,GG,Gg,List.take_length];exact wk.refl _
theorem vr_rowW {d:Option Nat}{g:Option (Nat×Bool)}{xa:LP}{l:LD}(hg:GOk T g)(Ah:JfG P f (xa.map (Kg T)) z els)(h:KD P E n0 N Q (.ops l::k) (put T d (rowW H.length els)) (H++[.arr z els])):Ok P E n0 N Q (.ops (⟨d,.call f xa,g⟩::l)::k) T H:=Kt hg (Ah E H) λv H' ⟨h1,h2⟩=>by rw[h1,h2];exact h
end
end Go.Cm
section
set_option maxRecDepth 100000
open Go.RowKit Go.Proofs
namespace Go.Cm
variable {cap:Option Nat}{k m:Nat}
theorem inrU64 {x:Int}(h1:0<=x)(h2:x<=18446744073709551615):InR .u64 x:=⟨h1,h2⟩
section
variable {P:Program}{E:Env}{H:Lv}{T:Lu}
theorem CallsC.wk {f:Nat}{args:Lu}{R R':CV->Lv->Prop}(h:CallsC P E f args H R)(hR:∀v H',R v H'->∃v',Cm.wk v v'/\R' v' H'):CallsC P E f args H R':=by intro m w vs hs hv;refine(h m w vs hs hv).mono ?_;rintro e w' ⟨r,m',v,H',h1,h2,h3,h4,h5⟩;obtain⟨v',w1,w2⟩:=hR _ _ h5;exact⟨r,m',v',H',h1,h2,h3,w1 _ _ _ h4,w2⟩
theorem wk_cap {i o l c:Nat}:wk (.slc i o l (some c)) (.slc i o l none):=by intro own imm v h;simp only[rel]at h|-;obtain⟨x,a,c',h1,h2,h3,h4,h5⟩:=h;exact⟨x,a,c',h1,h2,h3,λ_ h=>(by cases h),h5⟩
theorem hs_sl {d:Option Nat}{z:Nat}{x:IArg}{lo hi mx:Option IArg}{id off len:Nat}{c:Cond}{v:CV}(ha:Kg T x=.slc id off len cap)(he:exec (.slice z x lo hi mx) T H=some (c,v,H))(hc:c.holds) :
  HS P E ⟨d,.slice z x lo hi mx,none⟩ T H v H (.on [id+1],.on []):=by
 refine⟨λ_ _=>rfl,λT2 H2 Cs hx=>⟨H2,λy hy=>(by cases hy),λ_ _=>rfl,λ_ _ _ _ _ Ao=>?_⟩⟩;have hH:H2[id]? = H[id]?:=by have:=hx (id+1) (by simp[Foot.has]);simpa [hat]using this
 have hE:∀lo hi mx,X8 z H2 (.slc id off len cap) lo hi mx=X8 z H (.slc id off len cap) lo hi mx:=λlo hi mx=>by simp only[X8,hH]
 have Et:exec (.slice z x lo hi mx) T2 H2=some (c,v,H2):=by
  rw[<-QG (Jj Cs).2];simp only[exec,ha,hE]at he|-
  split at he
  ·split at he
   ·rename_i h1;simp only[HY,Prod.mk.injEq]at he;obtain⟨rfl,rfl,_⟩:=he;simp[]
   ·cases he
  ·cases he
 exact JeY (.inl rfl) Et hc Ao
theorem sortRow {id:Nat}{l:Lx}(hl:l≠[])(Df:l.length<=1000000)(hH:H[id]? = some (.arr 1 (iz l))):CallsC Gb E 175 [.slc id 0 l.length cap] H λv' H'=>v'=.tup []/\H'=H.set id (.arr 1 (iz (l.mergeSort λx y=>decide (x<=y)))):=callsC_sort hl Df hH λblk off c w h1 h2 h3=>Tryz.slices_Sort_int blk off c l w h1 h2 h3
theorem compactRow {id:Nat}{l:Lx}(hl:l≠[])(Df:l.length<=1000000)(hH:H[id]? = some (.arr 1 (iz l))):CallsC Gb E 179 [.slc id 0 l.length cap] H λv' H'=>v'=.slc id 0 (Lib.compact l).length cap/\H'=H.set id (.arr 1 (iz (Lib.compact l++Gs (l.length-(Lib.compact l).length) 0))):=JfN hl Df hH λblk off c w h1 h2 h3=>Tryz.slices_Compact_int blk off c l w h1 h2 h3
theorem sortNil:Fn Gb 175 [.nils] (.tup []):=by
 intro E H;refine K6 λm w vs hs hv=>?_
 simp only[J7,rel]at hv;obtain⟨r,rs,e,rfl,rfl⟩:=hv;have BI:vs=#[.slice none 0 0]:=by cases vs;simp_all
 subst BI;exact⟨_,(Tryz.slices_Sort_int_none none 0 w).mono λe w' ⟨h1,h2⟩=>⟨h1,by rw[h2];exact Below.refl _ _⟩,by simp only[rel,J7];exact⟨_,rfl,rfl⟩⟩
theorem compactNil:Fn Gb 179 [.nils] .nils:=by
 intro E H;refine K6 λm w vs hs hv=>?_
 simp only[J7,rel]at hv;obtain⟨r,rs,e,rfl,rfl⟩:=hv;have BI:vs=#[.slice none 0 0]:=by cases vs;simp_all
 subst BI;exact⟨_,(Tryz.slices_Compact_int_empty none 0 w).mono λe w' ⟨h1,h2⟩=>⟨h1,by rw[h2];exact Below.refl _ _⟩,by simp only[rel]⟩
theorem mulOne (m:Nat)(hm:m<18446744073709551616):Fn Gb 172 [.int .u64 1,.int .u64 (m:Int)] (.tup [.int .u64 0,.int .u64 (m:Int)]):=by
 intro E H;refine K6 λm' w vs hs hv=>?_
 simp only[J7,rel]at hv;obtain⟨r,rs,e,rfl,r2,rs2,rfl,rfl,rfl⟩:=hv;have BI:vs=#[.int .u64 ((1:Nat):Int),.int .u64 (m:Int)]:=by cases vs;simp_all
 subst BI;have h:=Tryz.bits_Mul 1 m om hm w;rw[Lm,Nat.div_eq_of_lt hm,Nat.mod_eq_of_lt hm]at h;exact⟨_,h.mono λe w' ⟨h1,h2⟩=>⟨h1,by rw[h2];exact Below.refl _ _⟩,by simp only[rel,J7];exact⟨_,rfl,_,_,rfl,rfl,_,_,rfl,rfl,rfl⟩⟩
end
def repS (v:Int)(m k:Nat):Lx:=Gs k v++Gs (m-k) 0
theorem repS_len {v:Int}(h:k<=m):(repS v m k).length=m:=by simp[repS];omega
theorem repS_step {v:Int}{q:Nat}(h:k+q<=m)(hq:q<=k):(iz (repS v m k)).take k++((((iz (repS v m k)).take k).take q)++(iz (repS v m k)).drop (k+q))=iz (repS v m (k+q)):=by
 have h1:(repS v m k).take k=Gs k v:=by unfold repS;rw[Nn sM]
 have h2:(repS v m k).drop (k+q)=Gs (m-(k+q)) 0:=by
  unfold repS;rw[List.drop_append,H9 sM,List.length_replicate,GI,L8]
  congr 1;omega
 unfold iz;rw[<-Nr,<-Nr,<-List.map_drop,<-Ht,<-Ht,h1,h2,List.take_replicate,Nat.min_eq_left hq,<-Le,List.replicate_append_replicate];rfl
theorem repeatO (v:Int)(m:Nat)(hm:m<=100000)(E:Env)(H:Lv):CallsC Gb E 129 [.rslc 1 (iz [v]) none,.int .i64 (m:Int)] H λv' H'=>v'=.slc H.length 0 m none/\H'=H++[.arr 1 (iz (Gs m v))]:=by
 refine CallsC.frameG (mk:=λn=>.slc n 0 m none) (G:=[.arr 1 (iz (Gs m v))]) (CallsC.wk (R:=λv' H'=>v'=.slc 0 0 m (some m)/\H'=[.arr 1 (iz (Gs m v))]) (Ki c129_ok λN=>?_) λv' H' ⟨e1,e2⟩=>⟨.slc 0 0 m none,by rw[e1];exact wk_cap,rfl,e2⟩) rfl (λo ho=>by simp only[Hq]at ho;rw[ho];exact .inr ⟨_,_,rfl,Jh _⟩) (λn own own' imm r ho h=>by simp only[rel]at h|-;obtain⟨x,a,c,hx,g⟩:=h;exact⟨x,a,c,ho _ _ hx,g⟩);have d0:((m:Int)<0)=False:=JS;have d1:((m:Int) > 9223372036854775807)=False:=JS;have d1':((9223372036854775807:Int)<(m:Int))=False:=JS;have dm:decide ((9223372036854775807:Int)<(m:Int))=false:=decide_eq_false om;simp only[c129,go_sem,d0,iz,Gd,Gf,Gi,Gw];refine⟨inrU64 om om,inrU64 om om,?_⟩;refine JU (mulOne m om) ?_;simp only[go_sem,d1];refine⟨Jg,⟨om,GV _,om,om⟩,sM,?_⟩;refine JL (I:=λk:Nat=>(m=0\/1<=k)/\k<=m) (inv:=λk=>gp [(7,.slc 0 0 m (some m)),(0,.int .i64 (k:Int))] 39) (hp:=λk=>[.arr 1 (iz (repS v m k))]) (μ:=λk=>m-k) (min 1 m) ⟨om,om⟩ ?_ ?_ ?_
 ·simp[forget,gp]
 ·rcases Nat.eq_zero_or_pos m with rfl|h
  ·simp[repS,iz]
  ·rw[show min 1 m=1 by omega];simp[repS,iz,L8]
 ·rintro k ⟨Dz,Aq⟩;by_cases Ab:k<m
  ·have e1:=dtT k m;obtain⟨q,hq⟩:∃q,q=min k (m-k):=⟨_,rfl⟩;have gM:q<=k:=om;have Al:=repS_step (v:=v) (m:=m) (k:=k) (q:=q) om gM;have hL:(iz (repS v m k)).length=m:=by rw[Jf,repS_len Aq]
   simp only[go_sem,e1];refine Jbw [Foot.no,Foot.no,Foot.no,(.on [1],.on []),Foot.no,Foot.no,(.on [1],.on []),Foot.any,Foot.no,Foot.no] Jm vM ?_;refine⟨_,_,Jah rfl rfl trivial,_,_,Jah rfl rfl trivial,_,_,Jah rfl rfl trivial,_,_,hs_sl (id:=0) (off:=0) (len:=m) (cap:=some m) rfl rfl ?_,_,_,Jah rfl rfl trivial,_,_,Jah rfl rfl trivial,_,_,hs_sl (id:=0) (off:=0) (len:=m) (cap:=some m) rfl rfl ?_,.int .i64 (q:Int),[.arr 1 (iz (repS v m (k+q)))],?_,_,_,Jah rfl rfl ?_,_,_,Jah rfl rfl trivial,?_⟩
   ·show 0<=(k:Int)/\(k:Int)<=(m:Int)/\(m:Int)<=(m:Int);omega
   ·show 0<=(0:Int)/\(0:Int)<=(k:Int)/\(k:Int)<=(m:Int);omega
   ·refine hs_any (.inl rfl) (c:=.le m m) ?_ (GG m);simp only[go_sem];have hx:(Hy k (iz (repS v m k))).length=k:=by rw[GQ,hL];omega
    rw[Nat.sub_zero,iP7];simp only[hx,hL,<-hq,Al];rw[show k+(m-k)=m by omega]
   ·exact Jg
   ·simp only[vdf,go_sem];refine⟨k+q,⟨om,om⟩,om,?_⟩;simp[forget]
  ·have e1:=dfF k m;have BX:k=m:=om;subst BX;simp only[go_sem,e1];simp[repS,iz]
end Go.Cm
end
section
set_option maxRecDepth 100000
set_option maxHeartbeats 4000000
open Go.Proofs
namespace Go.Cm
variable {a a0 d f i k m n n0 u y z:Nat}{t:Tr}{l o p:Lx}{H H':Lv}{els:LQ}{x:Int}{P:Program}{E:Env}{q:Int->Bool}{T l1 l2:Lu}{F:IFunc}{Q:Exit->Lu->Lv->Prop}{ψ:Nat->Nat}
theorem kbE:((k:Int) == no_index (@OfNat.ofNat Int m _))=(k == m):=by rw[GD,beq_iff_eq,beq_iff_eq];exact Int.ofNat_inj
theorem kbN:((k:Int) != no_index (@OfNat.ofNat Int m _)) = !(k == m):=by rw[bne,kbE]
def tRw (t:Tr):Lu:=[.rslc 5 (ndz t.nodes) none,.rslc 1 (iz t.items) none,.rslc 1 (iz (upT t)) none,.rslc 1 (iz (JdS t)) none]
theorem JbM(ht:t.Fit)(hi:i<t.nodes.length):(nd t i).Fit:=ht.nodes _ (by unfold nd;rw[Gh,Gj hi];exact Gy hi)
theorem JX(h:i<t.nodes.length):(ndz t.nodes).getD i []=(nd t i).cv:=QE h
theorem upz(h:i<t.nodes.length):(iz (upT t)).getD i []=[.int .i64 (Ky t i)]:=by rw[JF (by rw[Jep];exact h),upT_get h]
theorem itz(h:i<t.nodes.length):(iz (JdS t)).getD i []=[.int .i64 (QR t i)]:=by rw[JF (by rw[JcI];exact h),itemT_get h]
theorem QI:(iz (upT t)).length=t.nodes.length:=by rw[Jf,Jep]
theorem itz_len:(iz (JdS t)).length=t.nodes.length:=by rw[Jf,JcI]
theorem nKind (t:Tr)(hi:i<t.nodes.length):Fn Gb 84 [.rptr (tRw t),.int .i64 (i:Int)] (.int .u8 ((nd t i).k:Int)):=by
 have hg:=JX hi;refine Jb c84_ok rfl rfl λN=>?_
 simp only[c84,go_sem,tRw,Ja,hg,Nd.cv];omega
theorem nInside (t:Tr)(hi:i<t.nodes.length):Fn Gb 207 [.rptr (tRw t),.int .i64 (i:Int)] (.bool (!((nd t i).k == 43))):=by
 refine Jb c207_ok rfl rfl λN=>?_
 simp only[c207,go_sem];refine JU (nKind t hi) ?_;simp only[go_sem,kbN]
def bz (l:LB):LQ:=l.map λi:Nat=>[.int .u8 (i:Int)]
theorem bz_len {l:LB}:(bz l).length=l.length:=by simp[bz]
theorem bz_get {l:LB}(h:i<l.length):(bz l).getD i []=[.int .u8 (l.getD i 0:Nat)]:=by simp[bz,Gh,Gj h]
theorem bz_closed:∀(l:LB),Jq (bz l)=true
 |[]=>rfl
 |x::l=>by simp[bz,Jq,Jk,CV.closed];exact bz_closed l
theorem indexB (l:LB)(x:Nat)(hl:l.length<=100000):Fn Gb 206 [.rslc 1 (bz l) none,.int .u8 (x:Int)] (.int .i64 (XG (λy=>x == y) l 0)):=by
 have Ae:(bz l).length=l.length:=bz_len;have kH:=bz_closed l;refine Jb c206_ok rfl rfl λN=>?_
 simp only[c206,go_sem,Ae];refine JL (I:=λi:Nat=>i<=l.length/\XG (λy=>x == y) l 0=XG (λy=>x == y) (l.drop i) i) (inv:=λi=>gp [(0,.rslc 1 (bz l) none),(0,.int .u8 x),(5,.int .i64 (l.length:Int)),(0,.int .i64 (i:Int))] 10) (hp:=λ_=>[]) (μ:=λi=>l.length-i) 0 ⟨om,rfl⟩ ?_ rfl ?_
 ·simp[forget,gp]
 ·rintro i ⟨hi,Aa⟩;by_cases Ab:i<l.length
  ·have d1:=dtT i l.length;have Ar:=bz_get Ab;have BL:l[i]? = some (l.getD i 0):=by rw[Gh,Gj Ab];rfl
   rw[Xd BL]at Aa;have en:=JdQ (l.getD i 0) x;simp only[go_sem,Ae,d1,Ar,en];generalize l.getD i 0=y at Aa|-;refine anO ?_
   cases he:(x == y) with
   |true=>rw[he,if_pos rfl]at Aa;simp only[go_sem,Aa]
   |false=>rw[he]at Aa;simp only[go_sem];refine⟨Jg,i+1,⟨om,by simpa using Aa⟩,om,?_⟩;simp[forget]
  ·have d1:=dfF i l.length;rw[Gv om]at Aa;simp only[go_sem,d1,Aa,XG]
theorem containsB (l:LB)(x:Nat)(hl:l.length<=100000):Fn Gb 176 [.rslc 1 (bz l) none,.int .u8 (x:Int)] (.bool (l.contains x)):=by
 refine Jb c176_ok rfl rfl λN=>?_
 simp only[c176,go_sem];refine JU (indexB l x hl) ?_;have e:decide (0<=XG (λy=>x == y) l 0)=l.contains x:=by rw[Jaa,Vu]
 simp only[go_sem,e]
theorem nIsDecl (t:Tr)(hi:i<t.nodes.length):Fn Gb 134 [.rptr (tRw t),.int .i64 (i:Int)] (.bool (KX (nd t i).k)):=by
 have e:[65,64,42,43,47].contains (nd t i).k=KX (nd t i).k:=by simp only[Nb,Ni,Hf,KX,Bool.or_assoc]
 refine Jb c134_ok rfl rfl λN=>?_
 simp only[c134,go_sem];refine Je (id:=0) (z:=1) (els:=bz [65,64,42,43,47]) rfl rfl ?_;simp only[go_sem,JK,KC,frz,Kn,bz,Gd,Gf,Gi,Gw,Gg,List.take_succ_cons,List.take_zero];refine JU (nKind t hi) ?_;simp only[go_sem];refine JU (containsB [65,64,42,43,47] _ sM) ?_;simp only[go_sem,e]
section
variable(g:GoodT t o)
include g
theorem nBelow{j0:Nat}(dA:j0<t.nodes.length)(ha:a<t.nodes.length):Fn Gb 177 [.rptr (tRw t),.int .i64 (j0:Int),.int .i64 (a:Int)] (.bool (Jb0 o j0 a)):=by
 refine Jb c177_ok rfl rfl λN=>?_
 simp only[c177,go_sem];refine JL (σ:=Int) (I:=λv=>(v = -1/\Jb0 o j0 a=false)\/∃j:Nat,v=j/\j<t.nodes.length/\Jb0 o j0 a=Jb0 o j a) (inv:=λv=>gp [(0,.rptr (tRw t)),(0,.int .i64 v),(0,.int .i64 (a:Int))] 21) (hp:=λ_=>[]) (μ:=λv=>if v<0 then 0 else t.nodes.length-v.toNat+1) (j0:Int) (.inr ⟨j0,rfl,dA,rfl⟩) ?_ rfl ?_
 ·simp[forget,gp]
 ·rintro v (⟨rfl,hb⟩|⟨j,rfl,hj,hb⟩)
  ·have e1:(((-1:Int)) != -1)=false:=vk;have e2:((-1:Int) == (a:Int))=false:=beq_eq_false_iff_ne.2 om;simp only[go_sem,e1,e2,hb]
  ·have e1:((j:Int) != -1)=true:=bne_iff_ne.2 om;by_cases he:j=a
   ·subst he;have e2:((j:Int) != (j:Int))=false:=sM;have e3:((j:Int) == (j:Int))=true:=sM;have e4:=Q0.2 (JcW g hj);simp only[go_sem,e1,e2,e3,hb,e4]
   ·have e2:((j:Int) != (a:Int))=true:=bne_iff_ne.2 om;have hp:=par_rng g hj;have hu:=blw_up g hj ha he;simp only[go_sem,e1,e2,tRw,QI,upz hj];refine⟨om,Ky t j,?_,?_,?_⟩
    ·rcases Xt g hj with ⟨h,_⟩|⟨m,h,h1,h2,_⟩
     ·rw[h,if_pos vk]at hu;exact .inl ⟨h,by rw[hb,hu]⟩
     ·rw[h,iN7,Gc]at hu;exact .inr ⟨m,h,h2,by rw[hb,hu]⟩
    ·rcases Xt g hj with ⟨h,_⟩|⟨m,h,h1,h2,_⟩
     ·show (if Ky t j<0 then 0 else _)<(if (j:Int)<0 then 0 else _);rw[h,if_pos vk,iN7];omega
     ·rw[h,iN7,iN7];omega
    ·simp[forget]
theorem lastz(hm:m<t.nodes.length)(Ad:0<(nd t m).kids.length):(iz (nd t m).kids).getD ((nd t m).kids.length-1) []=[.int .i64 (Ji t m:Int)]:=by
 rw[JF om];have h4:(nd t m).kids.getD ((nd t m).kids.length-1) 0∈(nd t m).kids:=by rw[Gh,Gj om];exact Gy _
 have h5:=(g.kid hm h4).1;have:((Ji t m:Nat):Int)=(nd t m).kids.getD ((nd t m).kids.length-1) 0:=by unfold Ji;omega
 rw[this]
theorem nLate (ht:t.Fit){s:Nat}(hs:s<t.nodes.length)(hk:(nd t s).k=41)(Ed:blw o a0 (Ji t s)):Fn Gb 178 [.rptr (tRw t),.int .i64 (a0:Int),.int .i64 (s:Int)] (.bool (buL t (upL t (Ji t s) t.nodes.length a0) false)):=by
 have Bz:=(set_kid g hs hk).1;have CG:Ji t s<t.nodes.length:=by have:=(J3 g hs Bz).2;omega
 generalize hR:buL t (upL t (Ji t s) t.nodes.length a0) false=R;refine Jb c178_ok rfl rfl λN=>?_
 simp only[c178,go_sem];refine JL (σ:=Nat×Bool) (I:=λs'=>blw o s'.1 (Ji t s)/\∃f,t.nodes.length<=s'.1+f/\R=buL t (upL t (Ji t s) f s'.1) s'.2) (inv:=λs'=>gp [(0,.rptr (tRw t)),(1,.int .i64 (s:Int)),(4,.bool s'.2),(0,.int .i64 (s'.1:Int))] 64) (hp:=λ_=>[]) (μ:=λs'=>t.nodes.length-s'.1) (a0,false) ⟨Ed,t.nodes.length,om,hR.symm⟩ ?_ rfl ?_
 ·simp[forget,gp]
 ·rintro⟨a,late⟩ ⟨hb,f,hf,Aa⟩
  dsimp only at hb hf Aa
  have ha:a<t.nodes.length:=by have:=hb.1;omega
  rcases late_step g (late:=late) hs Bz hb hf with ⟨he,hp⟩|⟨Ai,m,f',hp,ku,Mj,hm,MU,Ej,iM,Av⟩
  ·have e1:((s:Int) != (s:Int))=false:=sM;subst he;rw[late_end]at Aa;simp only[go_sem,tRw,QI,upz ha,hp,e1,Aa];omega
  ·have e1:((m:Int) != (s:Int))=true:=bne_iff_ne.2 om;have hg:=JX hm;rw[Av]at Aa;have Ad:0<(nd t m).kids.length:=Lp Ej;have Ap:(iz (nd t m).kids).length=(nd t m).kids.length:=Jf;have AO:=lastz g hm Ad;have Bj:(nd t m).kids.length<9223372036854775807:=by have:=(JbM ht hm).kidn;omega
   simp only[go_sem,tRw,QI,upz ha,hp,e1,Ja,hg,Nd.cv];refine⟨om,om,om,?_⟩;refine JU (nKind t hm) ?_;have fin:∀late',late'=Jda t m a late->(blw o m (Ji t s)/\∃f,t.nodes.length<=m+f/\R=buL t (upL t (Ji t s) f m) late'):=λlate' h=>⟨MU,f',iM,by rw[h];exact Aa⟩
   have en:=JdQ (Ji t m) a;by_cases h4:(nd t m).k=4
   ·have Al:Jda t m a late=true:=by unfold Jda;rw[if_pos h4]
    simp only[go_sem,kbE,h4,QI,upz ha,hp];refine⟨om,(m,true),fin true Al.symm,by simp only;omega,?_⟩;simp[forget]
   ·have b4:((nd t m).k == 4)=false:=beq_eq_false_iff_ne.2 h4;by_cases h5:(nd t m).k=46\/(nd t m).k=47
    ·have Al:Jda t m a late=(late || a == Ji t m):=by unfold Jda;rw[if_neg h4,if_pos h5]
     have b5:((nd t m).k == 46)=true\/((nd t m).k == 46)=false/\((nd t m).k == 47)=true:=by rcases h5 with h|h <;> simp[h]
     rcases b5 with b5|⟨b5,b6⟩
     ·cases late with
      |true=>simp only[go_sem,kbE,b4,b5,QI,upz ha,hp];refine⟨om,(m,true),fin true (by rw[Al];rfl),by simp only;omega,?_⟩;simp[forget]
      |false=>simp only[go_sem,kbE,b4,b5,QI,upz ha,hp,Ap,AO,en];refine⟨Jg,om,om,(m,a == Ji t m),fin _ (by rw[Al];rfl),by simp only;omega,?_⟩;simp[forget]
     ·cases late with
      |true=>simp only[go_sem,kbE,b4,b5,b6,QI,upz ha,hp];refine⟨om,(m,true),fin true (by rw[Al];rfl),by simp only;omega,?_⟩;simp[forget]
      |false=>simp only[go_sem,kbE,b4,b5,b6,QI,upz ha,hp,Ap,AO,en];refine⟨Jg,om,om,(m,a == Ji t m),fin _ (by rw[Al];rfl),by simp only;omega,?_⟩;simp[forget]
    ·have b5:((nd t m).k == 46)=false:=beq_eq_false_iff_ne.2 λh=>h5 (.inl h)
     have b6:((nd t m).k == 47)=false:=beq_eq_false_iff_ne.2 λh=>h5 (.inr h)
     by_cases h7:(nd t m).k=28
     ·have b7:((nd t m).k == 28)=true:=by simp[h7]
      have Al:Jda t m a late=(late && (nd t a).k == 43):=by unfold Jda;rw[if_neg h4,if_neg h5,if_pos h7]
      cases late with
      |true=>simp only[go_sem,kbE,b4,b5,b6,b7];refine Ka (gok rfl) (nInside t ha) ?_;simp only[go_sem,QI,upz ha,hp,Bool.not_not];refine⟨om,(m,(nd t a).k == 43),fin _ (by rw[Al];rfl),by simp only;omega,?_⟩;simp[forget]
      |false=>simp only[go_sem,kbE,b4,b5,b6,b7,QI,upz ha,hp];refine⟨om,(m,false),fin _ (by rw[Al];rfl),by simp only;omega,?_⟩;simp[forget]
     ·have b7:((nd t m).k == 28)=false:=beq_eq_false_iff_ne.2 h7;have Al:Jda t m a late=late:=by unfold Jda;rw[if_neg h4,if_neg h5,if_neg h7]
      simp only[go_sem,kbE,b4,b5,b6,b7,QI,upz ha,hp];refine⟨om,(m,late),fin _ Al.symm,by simp only;omega,?_⟩;simp[forget]
end
theorem kidsK_take(h:i<(nd t u).kids.length):((nd t u).kids.take (i+1)).filter (λc=>Jw t.nodes c == k)=((nd t u).kids.take i).filter (λc=>Jw t.nodes c == k)++if Jw t.nodes ((nd t u).kids.getD i 0) == k then [(nd t u).kids.getD i 0] else []:=by rw[H7 h,Ld,Gh,Gj h,Hz,vg,Nq]
theorem kids_len_le:(((nd t u).kids.take i).filter (λc=>Jw t.nodes c == k)).length<=(nd t u).kids.length:=GY (GM _ _) (by rw[GQ];omega)
theorem nKids (t:Tr)(ht:t.Fit)(hu:u<t.nodes.length)(hK:∀k∈(nd t u).kids,0<=k/\k<t.nodes.length)(k:Nat):JdV Gb 132 [.rptr (tRw t),.int .i64 (u:Int),.int .u8 (k:Int)] 1 (iz (Xx t u k)):=by
 have hg:=JX hu;have Bj:=(JbM ht hu).kidn;have Ap:(iz (nd t u).kids).length=(nd t u).kids.length:=Jf;refine Jef (Ki c132_ok λN=>?_) rfl (Jh _);simp only[c132,go_sem,tRw,Ja,hg,Nd.cv,Ap];refine anO ?_;refine YJ ?_;simp only[go_sem,GI];generalize hF:(λc=>Jw t.nodes c == k)=F;refine Js (I:=λi:Nat=>i<=(nd t u).kids.length) (inv:=λi=>gp [(0,.rptr (tRw t)),(1,.int .u8 (k:Int)),(3,Qr 0 (iz (((nd t u).kids.take i).filter F))),(10,.rslc 1 (iz (nd t u).kids) none),(0,.int .i64 ((nd t u).kids.length:Int)),(0,.int .i64 (i:Int))] 14) (hp:=λi=>[Xm 1 (iz (((nd t u).kids.take i).filter F))]) (μ:=λi=>(nd t u).kids.length-i) 0 [0] om rfl ?_ rfl ?_
 ·simp[forget,JG,ren,gp,tRw,iz,Qr]
 ·intro i hi;by_cases Ab:i<(nd t u).kids.length
  ·have d1:=dtT i (nd t u).kids.length;have Ar:=JF Ab;have Cg:=kidsK_take (k:=k) Ab;have Be:=kids_len_le (t:=t) (u:=u) (k:=k) (i:=i);have Ay:(nd t u).kids.getD i 0∈(nd t u).kids:=by rw[Gh,Gj Ab];exact Gy Ab
   have hb:=hK _ Ay;rw[hF]at Cg Be;generalize (nd t u).kids.getD i 0=c at Cg Ar hb;obtain⟨c,rfl⟩:∃c':Nat,c=c':=⟨c.toNat,om⟩;generalize ((nd t u).kids.take i).filter F=acc at Cg Be;simp only[go_sem,d1,Ap,Ar];refine anO ?_;refine JU (nKind t om) ?_;have en:=JdQ k (nd t c).k;have ek:Jw t.nodes (c:Int)=(nd t c).k:=by unfold Jw nd;rw[Gc]
   rw[ek]at Cg
   cases hq:(nd t c).k == k with
   |false=>
    rw[hq]at Cg en;simp only[Bool.false_eq_true,if_false,Gr]at Cg;simp only[go_sem,en];refine⟨Jg,i+1,[0],om,om,rfl,?_,?_⟩
    ·rw[Cg];simp only[KE,Gd,Gf,go_sem,Qw (Jc (Jh acc))]
    ·rw[Cg];simp[forget,JG,ren,Jl,tRw,QK]
   |true=>
    rw[hq]at Cg en;simp only[if_true]at Cg;simp only[go_sem,en,Jf,JA];refine⟨⟨om,om⟩,Jg,i+1,[2],om,om,rfl,?_,?_⟩
    ·rw[Cg,Qp,KN];simp only[KE,Gd,Gf,go_sem,Jo];simp[Jc (Jh acc),JG,ren]
    ·rw[Cg,Qp,KM];simp[forget,JG,ren,Jl,tRw,Jf]
  ·have d1:=dfF i (nd t u).kids.length;rw[GA om];rw[show (nd t u).kids.filter F=Xx t u k by rw[<-hF];rfl];simp only[go_sem,d1];exact⟨0,rfl,rfl⟩
theorem Jfk{bytes id:Nat}:K9 z bytes H (Qr id els) []=some (.tt,Qr id els,H):=by cases els <;> rfl
attribute [go_sem] Jfk
theorem Xp:iz []=[]:=rfl
theorem Kv:iz (x::l)=[.int .i64 x]::iz l:=rfl
theorem K7 {a b:Lx}:iz (a++b)=iz a++iz b:=by simp[iz]
theorem Jff {f:Int->Lx}{b:Nat}(h:∀x,(f x).length<=b):∀l:Lx,((l.map f).flatten).length<=l.length*b
 |[]=>sM
 |x::l=>by have h1:=h x;have h2:=Jff h l;simp only[Gd,Nh,Gz,Gi,H6,Lm];omega
theorem kidsK_len:(Xx t u k).length<=(nd t u).kids.length:=GM _ _
theorem flat_take {f:Int->Lx}(h:i<l.length):((l.take (i+1)).map f).flatten=((l.take i).map f).flatten++f (l.getD i 0):=by rw[H7 h,Ht,List.flatten_append,Gh,Gj h];simp
theorem kidsK_rng(g:GoodT t o)(hu:u<t.nodes.length){c:Int}(hc:c∈Xx t u k):0<=c/\c<t.nodes.length:=by have:=g.kid hu (Qx.1 hc).1;omega
theorem JaK(ht:t.Fit):(Xx t x.toNat k).length<=30:=by
 rcases H5 x.toNat t.nodes.length with h|h
 ·exact GY kidsK_len (JbM ht h).kidn
 ·have:nd t x.toNat=default:=by unfold nd;rw[Gh,Hl h];rfl
  refine GY kidsK_len ?_;rw[this];exact Nat.zero_le _
theorem binds_le(ht:t.Fit):(Jax t u).length<=900:=by have h1:=Jff (f:=λs:Int=>Xx t s.toNat 42) (b:=30) (λx=>JaK ht) (Xx t u 41);have h2:=JaK ht (x:=(u:Int)) (k:=41);rw[Gc]at h2;unfold Jax;omega
section
variable(g:GoodT t o)(ht:t.Fit)
include g ht
theorem nKidsG(hu:u<t.nodes.length)(k:Nat):JdV Gb 132 [.rptr (tRw t),.int .i64 (u:Int),.int .u8 (k:Int)] 1 (iz (Xx t u k)):=nKids t ht hu (λc hc=>by have:=g.kid hu hc;omega) k
theorem nKidsF(hu:u<t.nodes.length)(k:Nat):Fn Gb 132 [.rptr (tRw t),.int .i64 (u:Int),.int .u8 (k:Int)] (.rslc 1 (iz (Xx t u k)) none):=(nKidsG g ht hu k).fn rfl (Jh _)
theorem nBinds(hu:u<t.nodes.length):JdV Gb 203 [.rptr (tRw t),.int .i64 (u:Int)] 1 (iz (Jax t u)):=by
 have hL:=JaK ht (x:=(u:Int)) (k:=41);rw[Gc]at hL;refine Jef (Ki c203_ok λN=>?_) rfl (Jh _);simp only[c203,go_sem];refine JU (nKidsF g ht hu 41) ?_;have Bo:Jax t u=((Xx t u 41).map λs=>Xx t s.toNat 42).flatten:=rfl;rw[Bo];have hr:∀c∈Xx t u 41,0<=c/\c<t.nodes.length:=λc hc=>kidsK_rng g hu hc
 generalize Xx t u 41=L at hL hr|-;have Ae:(iz L).length=L.length:=Jf;simp only[go_sem,Ae];refine YJ ?_;simp only[go_sem,GI];generalize hf:(λs:Int=>Xx t s.toNat 42)=f;have EM:∀x,(f x).length<=30:=λx=>by rw[<-hf];exact JaK ht
 refine Js (I:=λi:Nat=>i<=L.length) (inv:=λi=>gp [(0,.rptr (tRw t)),(3,Qr 0 (iz ((L.take i).map f).flatten)),(4,.rslc 1 (iz L) none),(0,.int .i64 (L.length:Int)),(0,.int .i64 (i:Int))] 10) (hp:=λi=>[Xm 1 (iz ((L.take i).map f).flatten)]) (μ:=λi=>L.length-i) 0 [0] om rfl ?_ rfl ?_
 ·simp[forget,JG,ren,gp,Qr,iz]
 ·intro i hi;by_cases Ab:i<L.length
  ·have d1:=dtT i L.length;have Ar:=JF Ab;have Ay:L.getD i 0∈L:=by rw[Gh,Gj Ab];exact Gy Ab
   have hb:=hr _ Ay;have Fg:=flat_take (f:=f) Ab;have PI:f (L.getD i 0)=Xx t (L.getD i 0).toNat 42:=by rw[<-hf]
   have Sc:=EM (L.getD i 0);have BV:=Jff EM (L.take i);rw[GQ]at BV;generalize ((L.take i).map f).flatten=acc at BV Fg|-;generalize f (L.getD i 0)=xs at PI Sc Fg;generalize L.getD i 0=c at Ar hb PI;obtain⟨c,rfl⟩:∃c':Nat,c=c':=⟨c.toNat,om⟩;rw[Gc]at PI;simp only[go_sem,d1,Ae,Ar];refine anO ?_;refine JU (nKidsF g ht om 42) ?_;rw[<-PI]
   cases xs with
   |nil=>
    rw[Gr]at Fg;simp only[go_sem,Xp];refine⟨Jg,i+1,[0],om,om,rfl,?_,?_⟩
    ·rw[Fg];simp only[KE,Gd,Gf,go_sem,Qw (Jc (Jh acc))]
    ·rw[Fg];simp[forget,JG,ren,Jl,QK]
   |cons x xs=>
    simp only[Gi]at Sc;simp only[go_sem,Kv,Jf,JA];refine⟨⟨om,om⟩,Jg,i+1,[1],om,om,rfl,?_,?_⟩
    ·rw[Fg,K7,Kv,KN];simp only[KE,Gd,Gf,go_sem,Jo];simp[Jc (Jh acc),Jc (Jh xs),JG,ren]
    ·rw[Fg,K7,Kv,KM];simp[forget,JG,ren,Jl,Jf]
  ·have d1:=dfF i L.length;rw[GA om];simp only[go_sem,d1];exact⟨0,rfl,rfl⟩
end
theorem CallsC.pad{args:Lu}{R R':CV->Lv->Prop}(h:CallsC P E f args H R)(hR:∀v H',R v H'->R' v H'\/R' v (H'++[.dead])):CallsC P E f args H R':=by
 intro m w vs hs hv;refine(h m w vs hs hv).mono ?_;rintro e w' ⟨r,m',v,H',h1,h2,h3,h4,h5⟩;rcases hR _ _ h5 with g|g
 ·exact⟨r,m',v,H',h1,h2,h3,h4,g⟩
 ·obtain⟨t1,t2,t3⟩:=h3.pad (n0:=H.length);exact⟨r,_,v,_,h1,h2.trans t3,t1,Xr t2 (KJ.refl _) _ _ h4,g⟩
def RowR (z:Nat)(els:LQ)(v:CV)(H':Lv):Prop:=(∃id,v=Qr id els/\H'[id]? = some (Xm z els))\/(v=.nils/\els=[])\/∃id c,v=.slc id 0 els.length (some c)/\H'[id]? = some (.arr z els)/\els≠[]
theorem RowR.row{id:Nat}{v:CV}(h1:v=Qr id els)(h2:H'[id]? = some (Xm z els)):RowR z els v H':=.inl ⟨id,h1,h2⟩
theorem RowR.nil:RowR z [] .nils H':=.inr (.inl ⟨rfl,rfl⟩)
theorem RowR.lit{id c:Nat}{e:Lu}(h2:H'[id]? = some (.arr z (e::els))):RowR z (e::els) (.slc id 0 (els.length+1) (some c)) H':=.inr (.inr ⟨id,c,rfl,h2,sM⟩)
theorem Jfc{args:Lu}(h:CallsC P Env.none f args [] (RowR z els))(ha:Jk args=true)(hc:Jq els=true):JdV P f args z els:=
 Jef ((h.wk (R':=λv H'=>(∃id,v=Qr id els/\H'[id]? = some (Xm z els))\/(v=.nils/\els=[])) λv H' hv=>by
  rcases hv with hv|hv|⟨id,c,rfl,h2,h3⟩
  ·exact⟨v,wk.refl _,.inl hv⟩
  ·exact⟨v,wk.refl _,.inr hv⟩
  ·exact⟨_,wk_cap,.inl ⟨id,(Jae h3).symm,by rw[YM h3];exact h2⟩⟩).pad λv H' hv=>by
  rcases hv with hv|⟨rfl,rfl⟩
  ·exact .inl hv
  ·exact .inr ⟨H'.length,rfl,by simp;rfl⟩) ha hc
section
variable(g:GoodT t o)(ht:t.Fit)
include g ht
theorem nDeclares(hu:u<t.nodes.length)(ha:a<t.nodes.length):JdV Gb 174 [.rptr (tRw t),.int .i64 (u:Int),.int .i64 (a:Int)] 1 (iz (JcS t u a)):=by
 have hg:=JX hu;have Ap:(iz (nd t u).kids).length=(nd t u).kids.length:=Jf;have bu:=dtT u t.nodes.length;refine Jfc (Ki c174_ok λN=>?_) rfl (Jh _);unfold JcS;by_cases Eu:(nd t u).k=40
 ·rw[if_pos Eu];simp only[c174,go_sem,tRw,Ja,hg,Nd.cv,kbE,Eu];refine anO ?_;refine JfQ (.inl rfl) (nBinds g ht hu) ?_;simp only[go_sem];exact .row (id:=1) rfl rfl
 have b40:((nd t u).k == 40)=false:=beq_eq_false_iff_ne.2 Eu;rw[if_neg Eu];by_cases BF:(nd t u).k=65
 ·rw[if_pos BF];simp only[c174,go_sem,tRw,Ja,hg,Nd.cv,kbE,BF];refine anO ?_;refine JfQ (.inl rfl) (nKidsG g ht hu 64) ?_;simp only[go_sem];exact .row (id:=1) rfl rfl
 have b65:((nd t u).k == 65)=false:=beq_eq_false_iff_ne.2 BF;rw[if_neg BF];by_cases BQ:(nd t u).k=47
 ·rw[if_pos BQ];have Ad:(nd t u).kids.length=3:=(Jcq g hu BQ).1;have Ol:=JF (l:=(nd t u).kids) (i:=2) om;by_cases he:(a:Int)=(nd t u).kids.getD 2 0
  ·have e1:((a:Int) == (nd t u).kids.getD 2 0)=true:=beq_iff_eq.2 he;rw[if_pos he];simp only[c174,go_sem,tRw,Ja,hg,Nd.cv,kbE,BQ,Ap,Ad,Ol,e1];exact⟨om,om,.lit rfl⟩
  ·have e1:((a:Int) == (nd t u).kids.getD 2 0)=false:=beq_eq_false_iff_ne.2 he;rw[if_neg he];simp only[c174,go_sem,tRw,Ja,hg,Nd.cv,kbE,BQ,Ap,Ad,Ol,e1];exact⟨om,om,.nil⟩
 have b47:((nd t u).k == 47)=false:=beq_eq_false_iff_ne.2 BQ;rw[if_neg BQ];by_cases Ef:(nd t u).k=28
 ·rw[if_pos Ef];simp only[c174,go_sem,tRw,Ja,hg,Nd.cv,kbE,Ef];refine anO ?_;refine JU (nKind t ha) ?_;by_cases Cb:(nd t a).k=43
  ·rw[if_pos Cb];simp only[go_sem,kbE,Cb];exact .nil
  have b43:((nd t a).k == 43)=false:=beq_eq_false_iff_ne.2 Cb;rw[if_neg Cb];by_cases Ba:(nd t a).k=41\/(nd t a).k=44
  ·rw[if_pos Ba];have hK:=JaK ht (x:=(u:Int)) (k:=43);rw[Gc]at hK;have hB:=binds_le ht (u:=u);have b41:((nd t a).k == 41)=true\/((nd t a).k == 41)=false/\((nd t a).k == 44)=true:=by rcases Ba with h|h <;> simp[h]
   rcases b41 with b41|⟨b41,b44⟩
   ·simp only[go_sem,kbE,b43,b41];refine JfQ (.inl rfl) (nKidsG g ht hu 43) ?_;simp only[go_sem];refine JU ((nBinds g ht hu).fn rfl (Jh _)) ?_;generalize Xx t u 43=L at hK|-;generalize Jax t u=M at hB|-
    cases M with
    |nil=>simp only[go_sem,Xp,Gr];exact .row (id:=1) rfl rfl
    |cons x xs=>simp only[Gi]at hB;simp only[go_sem,Kv,Jf,JA];refine⟨⟨om,om⟩,.row (id:=2) (by rw[K7,Kv,KM,Jf,Jf]) (by rw[K7,Kv,KN];rfl)⟩
   ·simp only[go_sem,kbE,b43,b41,b44];refine JfQ (.inl rfl) (nKidsG g ht hu 43) ?_;simp only[go_sem];refine JU ((nBinds g ht hu).fn rfl (Jh _)) ?_;generalize Xx t u 43=L at hK|-;generalize Jax t u=M at hB|-
    cases M with
    |nil=>simp only[go_sem,Xp,Gr];exact .row (id:=1) rfl rfl
    |cons x xs=>simp only[Gi]at hB;simp only[go_sem,Kv,Jf,JA];refine⟨⟨om,om⟩,.row (id:=2) (by rw[K7,Kv,KM,Jf,Jf]) (by rw[K7,Kv,KN];rfl)⟩
  ·have b41:((nd t a).k == 41)=false:=beq_eq_false_iff_ne.2 λh=>Ba (.inl h)
   have b44:((nd t a).k == 44)=false:=beq_eq_false_iff_ne.2 λh=>Ba (.inr h)
   rw[if_neg Ba];simp only[go_sem,kbE,b43,b41,b44];refine JfQ (.inl rfl) (nKidsG g ht hu 43) ?_;simp only[go_sem];exact .row (id:=1) rfl rfl
 have b28:((nd t u).k == 28)=false:=beq_eq_false_iff_ne.2 Ef;rw[if_neg Ef];simp only[c174,go_sem,tRw,Ja,hg,Nd.cv,kbE,b40,b65,b47,b28];exact⟨om,.nil⟩
omit g in
theorem decl_le:(JcS t u a).length<=1000:=by
 have hB:=binds_le ht (u:=u);have hK:∀k,(Xx t u k).length<=30:=λk=>by
  have:=JaK ht (x:=(u:Int)) (k:=k)
  rwa [Gc]at this
 have h1:=hK 64;have h2:=hK 43;unfold JcS
 repeat' split
 all_goals first|omega|simp only[Gz,Gi,Gw];omega
omit ht in
theorem sight_sort {j:Nat}(hj:j<t.nodes.length):(Yk t t.nodes.length j).mergeSort (λx y=>decide (x<=y))=QW t j:=by
 refine asc_eq (sort_strict (climb_nodup g _ _ hj)) (Jel.filter _) λx=>?_
 unfold QW;rw[sort_mem,Gt,Ls]
 constructor
 ·intro h;have:=climb_who g _ _ _ hj h;exact⟨KR.2 ⟨this.1,this.2.1⟩,h⟩
 ·exact λh=>h.2
theorem nSight {j:Nat}(hj:j<t.nodes.length):Fn Gb 131 [.rptr (tRw t),.int .i64 (j:Int)] (.rslc 1 (iz (QW t j)) none):=by
 have Ag:=g.many;rw[<-sight_sort g hj];refine Jgt (Ki c131_ok λN=>?_) rfl (Jh _);simp only[c131,go_sem];refine YJ ?_;simp only[go_sem,GI];generalize hC:Yk t t.nodes.length j=C;refine Js (σ:=Nat×Nat×Lx) (I:=λs=>s.2.1<t.nodes.length/\t.nodes.length<=s.2.1+s.1/\s.2.2++Yk t s.1 s.2.1=C/\s.2.2.length+1000*s.1<=1000*t.nodes.length) (inv:=λs=>gp [(0,.rptr (tRw t)),(3,Qr 0 (iz s.2.2)),(0,.int .i64 (s.2.1:Int))] 31) (hp:=λs=>[Xm 1 (iz s.2.2)]) (μ:=λs=>t.nodes.length-s.2.1) (t.nodes.length,j,[]) [0] ⟨hj,by simp only;omega,by simp[hC],sM⟩ rfl ?_ rfl ?_
 ·simp[forget,JG,ren,gp,Qr,iz]
 ·rintro⟨f,a,acc⟩ ⟨ha,hf,BV,Ad⟩
  dsimp only at ha hf BV Ad
  obtain⟨f,rfl⟩:∃f',f=f' + 1:=⟨f-1,om⟩;rw[Yk]at BV;rcases Xt g ha with ⟨hp,_⟩|⟨m,hp,Mj,hm,_⟩
  ·have e1:((-1:Int) != -1)=false:=vk;rw[hp,if_pos vk,Gr]at BV;simp only[go_sem,tRw,QI,upz ha,hp,e1];refine anO ?_
   cases acc with
   |nil=>rw[<-BV];simp only[go_sem,Xp,Ya];refine JU sortNil ?_;simp only[go_sem,L9,Xp,Ya,JaF];exact⟨0,rfl⟩
   |cons x xs=>
    rw[<-BV];simp only[Gi]at Ad;have Ai:(x::xs).mergeSort (λx y=>decide (x<=y))≠[]:=by intro e;have:=congrArg Nt e;rw[La]at this;simp at this
    have Ez:(iz ((x::xs).mergeSort λx y=>decide (x<=y)))≠[]:=by simpa [iz]using Ai
    simp only[go_sem,Kv,YL,Ja7,Jf];refine Kt (.inl rfl) (sortRow (l:=x::xs) sM (by simp only[Gi];omega) rfl) λv H' ⟨h1,h2⟩=>?_
    subst h1 h2;simp only[go_sem];refine⟨0,by rw[Jae Ez,Jf,La];rfl,by rw[YM Ez];rfl⟩
  ·have e1:((m:Int) != -1)=true:=bne_iff_ne.2 om;rw[hp,iN7,Gc,<-Le]at BV;have AU:=decl_le ht (u:=m) (a:=a);simp only[go_sem,tRw,QI,upz ha,hp,e1];refine⟨om,om,?_⟩;refine JU ((nDeclares g ht hm ha).fn rfl (Jh _)) ?_;generalize JcS t m a=xs at BV AU|-
   cases xs with
   |nil=>
    rw[Gr]at BV;simp only[go_sem,QI,upz ha,hp,Xp];refine⟨om,(f,m,acc),[0],⟨hm,by simp only;omega,BV,by simp only;omega⟩,by simp only;omega,rfl,?_,?_⟩
    ·simp only[KE,Gd,Gf,go_sem,Qw (Jc (Jh acc))]
    ·simp[forget,JG,ren,Jl,QK]
   |cons x xs=>
    simp only[Gi]at AU;simp only[go_sem,upz ha,hp,Kv,Jf,Jep,JA];refine⟨⟨om,om⟩,om,(f,m,acc++x::xs),[1],⟨hm,by simp only;omega,BV,by simp only[Gz,Gi];omega⟩,by simp only;omega,rfl,?_,?_⟩
    ·rw[K7,Kv,KN];simp only[KE,Gd,Gf,go_sem,Jo];simp[Jc (Jh acc),Jc (Jh xs),JG,ren]
    ·rw[K7,Kv,KM];simp[forget,JG,ren,Jl,Jf]
end
theorem fixA_find:∀(l:Lx) (i:Nat),(XG q l i = -1/\l.find? q=none)\/∃j,j<l.length/\XG q l i=((i+j:Nat):Int)/\l.find? q=some (l.getD j 0)
 |[],i=>.inl ⟨rfl,rfl⟩
 |x::l,i=>by
  rw[XG,GJ]
  cases hq:q x with
  |true=>exact .inr ⟨0,sM,sM,sM⟩
  |false=>
   rcases fixA_find l (i+1) with ⟨h1,h2⟩|⟨j,h1,h2,h3⟩
   ·exact .inl ⟨by simpa using h1,h2⟩
   ·exact .inr ⟨j+1,by simpa using h1,by simp[h2];omega,by simpa using h3⟩
theorem indexFI(l:Lx)(q:Int->Bool)(cap:Option Nat)(hF:Jd Gb f=some F)(CF:Jk l1=true)(CR:Jk l2=true)
  (hq:∀p∈l,Fn Gb f (l1++[.int .i64 p]++l2) (.bool (q p))) (Ad:l.length<=1000000):Fn Gb 41 [.rslc 1 (iz l) cap,.fn f l1 l2] (.int .i64 (XG q l 0)):=by
 have Ae:(iz l).length=l.length:=Jf;refine Jb c41_ok (by simp[Jk,CV.closed,CF,CR]) rfl λN=>?_
 simp only[c41,go_sem,Ae];refine JL (I:=λi:Nat=>i<=l.length/\XG q l 0=XG q (l.drop i) i) (inv:=λi=>gp [(0,.rslc 1 (iz l) cap),(0,.fn f l1 l2),(5,.int .i64 l.length),(0,.int .i64 i)] 10) (hp:=λ_=>[]) (μ:=λi=>l.length-i) 0 ⟨om,rfl⟩ ?_ rfl ?_
 ·simp[forget,gp]
 ·rintro i ⟨hi,Aa⟩;by_cases Ab:i<l.length
  ·have d1:=dtT i l.length;have Ar:=JF Ab;have BL:l[i]? = some (l.getD i 0):=by rw[Gh,Gj Ab];rfl
   have hm:l.getD i 0∈l:=Lt BL;rw[Xd BL]at Aa;simp only[go_sem,Ae,d1,Ar];refine anO ?_;refine vr_fv (.inl rfl) rfl hF (Jcz pNames _) (hq _ hm) ?_
   cases hb:q (l.getD i 0) with
   |true=>rw[hb,if_pos rfl]at Aa;simp only[go_sem,Aa]
   |false=>rw[hb]at Aa;simp only[go_sem];refine⟨Jg,i+1,⟨om,by simpa using Aa⟩,om,?_⟩;simp[forget]
  ·have d1:=dfF i l.length;rw[Gv om]at Aa;simp only[go_sem,d1,Aa,XG]
theorem nNamed1 (t:Tr)(s:LA)(hi:i<t.nodes.length):Fn Gb 173 [.int .i64 (i:Int),.rptr [.rptr (tRw t)],.rptr [S s]] (.bool ((nd t i).text == s)):=by
 have hg:=JX hi;refine Jb c173_ok rfl rfl λN=>?_
 simp only[c173,go_sem];refine JQ Jm vk ?_;simp only[go_sem,tRw,Ja,hg,Nd.cv];omega
theorem nNamed (t:Tr)(s:LA)(l:Lx)(hl:∀d∈l,0<=d/\d<t.nodes.length)(Ad:l.length<=1000000):Fn Gb 130 [.rptr (tRw t),.rslc 1 (iz l) none,S s] (.int .i64 (JaU t l s)):=by
 have Ae:(iz l).length=l.length:=Jf;unfold JaU;generalize hq:(λd:Int=>(nd t d.toNat).text == s)=q;refine Jb c130_ok rfl rfl λN=>?_
 simp only[c130,go_sem];refine Je (id:=0) (z:=1) (els:=[[.rptr (tRw t)]]) rfl rfl ?_;simp only[go_sem,JK,KC,frz,Kn,Gg];refine Je (id:=1) (z:=1) (els:=[[S s]]) rfl rfl ?_;simp only[go_sem,JK,KC,frz,Kn,Gg];refine JU (indexFI l q none c173_ok rfl rfl (λp hp=>?_) Ad) ?_
 ·have hb:=hl p hp;obtain⟨p,rfl⟩:∃p':Nat,p=p':=⟨p.toNat,om⟩;have h:=nNamed1 t s (i:=p) om;rw[<-hq];simpa only[GI,GR,Gc]using h
 ·rcases fixA_find (q:=q) l 0 with ⟨h1,h2⟩|⟨j,h1,h2,h3⟩
  ·have e1:((-1:Int)<0)=True:=J4;simp only[go_sem,h1,h2,e1]
  ·rw[G8]at h2;have e1:((j:Int)<0)=False:=JS;have Bp:=JF h1;simp only[go_sem,h2,h3,e1,Ae,Bp];omega
section
variable(g:GoodT t o)(ht:t.Fit)
include g ht
theorem nMeaning(hi:i<t.nodes.length):Fn Gb 82 [.rptr (tRw t),.int .i64 (i:Int)] (.tup [.int .i64 (JY t o i),.bool (KI t i)]):=by
 have hg:=JX hi;have Ag:=g.many;have aC:=ht.items;refine Jb c82_ok rfl rfl λN=>?_
 unfold JY KI;by_cases h3:(nd t i).k=3
 ·have hm:=Jb9 g hi om;have hs:∀d∈QW t i,0<=d/\d<t.nodes.length:=λd hd=>KR.1 (Gt.1 hd).1
  have Ck:(QW t i).length<=1000000:=by
   have:=GM (λd=>(Yk t t.nodes.length i).contains d) (Ql t);unfold QW;have h2:(Ql t).length=t.nodes.length:=by simp[Ql]
   omega
  have hN:=nNamed t (nd t i).text (QW t i) hs Ck;rw[hm]at hN;simp only[c82,go_sem,tRw,Ja,hg,Nd.cv,kbE,h3];refine anO ?_;refine Je (id:=0) (z:=5) (els:=[(nd t i).cv]) (by simp only[Nd.cv,h3];rfl) rfl ?_;simp only[go_sem,JK,KC,frz,Kn,Gg];refine JQ Jm vk ?_;simp only[go_sem,Nd.cv];refine Kc (.inl rfl) (nSight g ht hi) ?_;simp only[go_sem];refine Kc (.inl rfl) hN ?_;simp only[go_sem]
 have b3:((nd t i).k == 3)=false:=beq_eq_false_iff_ne.2 h3;rw[if_neg h3,b3,Gu];by_cases Dj:(nd t i).k=26
 ·have hN:=nNamed t (nd t i).text t.items (λd hd=>by have:=g.itr hd;omega) om;rw[call_means g]at hN;simp only[c82,go_sem,tRw,Ja,hg,Nd.cv,kbE,Dj];refine anO ?_;refine Je (id:=0) (z:=5) (els:=[(nd t i).cv]) (by simp only[Nd.cv,Dj];rfl) rfl ?_;simp only[go_sem,JK,KC,frz,Kn,Gg];refine JQ Jm vk ?_;simp only[go_sem,Nd.cv];refine Kc (.inl rfl) hN ?_;simp only[go_sem]
 have b26:((nd t i).k == 26)=false:=beq_eq_false_iff_ne.2 Dj;rw[if_neg Dj,b26,Gu];by_cases BG:(nd t i).k=44
 ·obtain⟨u,M3,EJ,U0,Ps⟩:=QO g hi om;have hK:=JaK ht (x:=(u:Int)) (k:=43);rw[Gc]at hK;have hN:=nNamed t (nd t i).text (Xx t u 43) (λd hd=>kidsK_rng g EJ hd) om;rw[next_means g EJ M3]at hN;simp only[c82,go_sem,tRw,Ja,hg,Nd.cv,kbE,BG];refine anO ?_;refine Je (id:=0) (z:=5) (els:=[(nd t i).cv]) (by simp only[Nd.cv,BG];rfl) rfl ?_;simp only[go_sem,JK,KC,frz,Kn,Gg];refine JQ Jm vk ?_;simp only[go_sem,Nd.cv,QI,upz hi,M3];refine anO ?_;refine Kc (.inl rfl) (nKidsF g ht EJ 43) ?_;simp only[go_sem];refine Kc (.inl rfl) hN ?_;simp only[go_sem]
 have b44:((nd t i).k == 44)=false:=beq_eq_false_iff_ne.2 BG;rw[if_neg BG,b44];simp only[c82,go_sem,tRw,Ja,hg,Nd.cv,kbE,b3,b26,b44];omega
def twQ (t:Tr)(i k:Nat):Bool:=(nd t k).text == (nd t i).text && (if (nd t i).k=44 then(nd t k).k == 44 && Ky t k == Ky t i else if (nd t i).k=65 then(nd t k).k == 65 else !((nd t k).k == 65) && (KX (nd t k).k && QR t k == QR t i))
omit g ht in
theorem nTwice1(hi:i<t.nodes.length)(hk:k<t.nodes.length):Fn Gb 133 [.int .i64 (k:Int),.rptr [.rptr (tRw t)],.rptr (nd t i).cv,.rptr [.int .i64 (i:Int)]] (.bool (twQ t i k)):=by
 have hg:=JX hk;refine Jb c133_ok rfl rfl λN=>?_
 unfold twQ
 cases ht:(nd t k).text == (nd t i).text with
 |false=>simp only[c133,go_sem,tRw,Ja,hg,Nd.cv,ht,Gm,Gq];omega
 |true=>
  rw[Gn];by_cases BG:(nd t i).k=44
  ·rw[if_pos BG];simp only[c133,go_sem,tRw,Ja,hg,Nd.cv,ht,kbE,BG,Gl];refine anO ?_;refine Je (id:=0) (z:=5) (els:=[(nd t k).cv]) rfl rfl ?_;simp only[go_sem,JK,KC,frz,Kn,Gg,Nd.cv];refine JQ Jm vk ?_
   cases BC:(nd t k).k == 44 with
   |false=>simp only[go_sem,kbE,BC,Gq]
   |true=>simp only[go_sem,kbE,BC,QI,upz hi,upz hk,Gn];omega
  have b44:((nd t i).k == 44)=false:=beq_eq_false_iff_ne.2 BG;rw[if_neg BG];by_cases BF:(nd t i).k=65
  ·rw[if_pos BF];simp only[c133,go_sem,tRw,Ja,hg,Nd.cv,ht,kbE,BF,Gl];omega
  have b65:((nd t i).k == 65)=false:=beq_eq_false_iff_ne.2 BF;rw[if_neg BF];simp only[c133,go_sem,tRw,Ja,hg,Nd.cv,ht,kbE,b44,b65,Gl];refine anO ?_;refine Je (id:=0) (z:=5) (els:=[(nd t k).cv]) rfl rfl ?_;simp only[go_sem,JK,KC,frz,Kn,Gg,Nd.cv];refine JQ Jm vk ?_
  cases BC:(nd t k).k == 65 with
  |true=>simp only[go_sem,kbN,BC,Gl,Gq]
  |false=>
   simp only[go_sem,kbN,BC,Gm,Gn];refine Kc (gok rfl) (nIsDecl t hk) ?_
   cases hd:KX (nd t k).k with
   |false=>simp only[go_sem,Gq]
   |true=>have en:=JdQ (QR t i) (QR t k);simp only[go_sem,itz_len,itz hi,itz hk,en,Gn];omega
end
theorem QD(h:i<n):(Ga n).drop i=i::(Ga n).drop (i+1):=by rw[GH (by simpa using h),Hr]
theorem any_skip {q:Nat->Bool}:∀(m:Nat),m<=n->(∀i,i<m->q i=false)->(Ga n).any q=((Ga n).drop m).any q
 |0,_,_=>by rw[Gg]
 |m+1,h,hq=>by rw[any_skip m om λi hi=>hq i om,QD om,GL,hq m om,Gu]
theorem Jba (k:Nat):Fn Gb 97 [.int .u8 (k:Int)] (.bool (KX k)):=by
 refine Jb c97_ok rfl rfl λN=>?_
 cases h1:(k == 65) <;> cases h2:(k == 64) <;> cases h3:(k == 42) <;> cases h4:(k == 43) <;> cases h5:(k == 47) <;>
  simp only[c97,go_sem,kbE,h1,h2,h3,h4,h5,KX,Hf,Nv]
theorem Jhp (k:Nat):Fn Gb 57 [.int .u8 (k:Int)] (.bool (k == 3 || k == 26 || k == 44)):=by
 refine Jb c57_ok rfl rfl λN=>?_
 cases h1:(k == 3) <;> cases h2:(k == 26) <;> cases h3:(k == 44) <;>
  simp only[c57,go_sem,kbE,h1,h2,h3,Hf,Nv]
theorem any_cg {q r:Nat->Bool}:∀{l:LB},(∀x∈l,q x=r x)->l.any q=l.any r
 |[],_=>rfl
 |x::l,h=>by rw[GL,GL,h x sM,any_cg λy hy=>h y (by simp[hy])]
section
variable(g:GoodT t o)(ht:t.Fit)
include g ht
theorem Jaq{j:Nat}(hi:i<t.nodes.length):Fn Gb 151 [t.cv,.int .i64 (j:Int),.int .i64 (i:Int)] (.bool (Jb0 o j i)):=by
 have h:=refIsBelow t ht g (j:Int) i hi
 rwa [show (decide ((j:Int)<=(i:Int)) && decide (fs o i<=(j:Int)))=Jb0 o j i by unfold Jb0;rw[decide_eq_decide.2 (Int.ofNat_le (m:=j) (n:=i))]]at h
theorem Ja9(hn:n<t.nodes.length):Fn Gb 99 [t.cv,.int .i64 (n:Int)] (.int .i64 (Ky t n)):=refParent t ht g n hn
theorem Yn(hu:u<t.nodes.length)(Ad:0<(nd t u).kids.length):Fn Gb 111 [t.cv,.int .i64 (u:Int)] (.int .i64 (Ji t u:Int)):=by
 have hg:=JX hu;have Ap:(iz (nd t u).kids).length=(nd t u).kids.length:=Jf;have AO:=lastz g hu Ad;have Bj:=(JbM ht hu).kidn;refine Jb c111_ok rfl rfl λN=>?_
 simp only[c111,go_sem,Tr.cv,Tr.row];refine Je (id:=0) (z:=2) (els:=[t.row]) rfl rfl ?_;simp only[go_sem,JK,KC,frz,Kn];refine JQ Jm vk ?_;simp only[go_sem,Tr.row,Ja,hg,Nd.cv,Ap,AO];exact⟨om,om,Jg,om,om⟩
theorem refItemOf(hi:i<t.nodes.length):Fn Gb 100 [t.cv,.int .i64 (i:Int)] (.int .i64 (Y9 t o i)):=by
 have Ae:(iz t.items).length=t.items.length:=Jf;have Ma:=ht.items;unfold Y9;generalize hq:(λL:Int=>Jb0 o i L.toNat)=q;refine Jb c100_ok rfl rfl λN=>?_
 simp only[c100,go_sem,Tr.cv,Tr.row];refine Je (id:=0) (z:=2) (els:=[t.row]) rfl rfl ?_;simp only[go_sem,JK,KC,frz,Kn];refine JL (I:=λk:Nat=>k<=t.items.length/\t.items.find? q=(t.items.drop k).find? q) (inv:=λk=>gp [(1,.int .i64 (i:Int)),(0,.rptr t.row),(2,.int .i64 (k:Int))] 20) (hp:=λ_=>[.dead]) (μ:=λk=>t.items.length-k) 0 ⟨om,rfl⟩ ?_ rfl ?_
 ·simp[forget,gp]
 ·rintro k ⟨hk,Aa⟩;by_cases Ab:k<t.items.length
  ·have d1:=dtT k t.items.length;have DK:=JF Ab;have Ay:t.items.getD k 0∈t.items:=by rw[Gh,Gj Ab];exact Gy Ab
   have hr:=g.itr Ay;rw[GH Ab,GJ,show t.items[k]=t.items.getD k 0 by rw[Gh,Gj Ab];rfl]at Aa;generalize t.items.getD k 0=L at DK hr Aa;obtain⟨L,rfl⟩:∃L':Nat,L=L':=⟨L.toNat,om⟩;have cK:q (L:Int)=Jb0 o i L:=by rw[<-hq];simp only[Gc]
   simp only[go_sem,Tr.row,Ae,d1];refine JQ Jm vk ?_;simp only[go_sem,Ae,DK];refine anO ?_;refine Kc (.inl rfl) (Jaq g ht om) ?_
   cases hb:Jb0 o i L with
   |true=>rw[cK,hb]at Aa;simp only[go_sem,Ae,DK,Aa];omega
   |false=>rw[cK,hb]at Aa;simp only[go_sem];refine⟨Jg,k+1,⟨om,Aa⟩,om,?_⟩;simp[forget]
  ·have d1:=dfF k t.items.length;rw[Gv om,G6]at Aa;simp only[go_sem,Tr.row,Ae,d1,Aa]
def bkQ (t:Tr)(o:Lx)(j u:Nat)(last:Bool)(i:Nat):Bool:=(last || decide (i+1<(nd t u).kids.length)) && Jb0 o j (Ju t u i)
omit g ht in
theorem bk_drop{j:Nat}{last:Bool}:bkB t o j u m last=((Ga (nd t u).kids.length).drop m).any (bkQ t o j u last):=by
 unfold bkB;by_cases Ce:m<=(nd t u).kids.length
 ·rw[any_skip m Ce λi hi=>by rw[decide_eq_false om];rfl];refine any_cg λi hi=>?_
  rw[List.range_eq_range',List.drop_range',List.mem_range'_1]at hi;rw[decide_eq_true om,Gn];rfl
 ·rw[Gv (by simp;omega),GX,V3];intro i hi;rw[decide_eq_false (by have:=Gx.1 hi;omega)];simp
theorem JdG{j:Nat}(hu:u<t.nodes.length)(hm:m<=100)(last:Bool):Fn Gb 152 [t.cv,.int .i64 (j:Int),.int .i64 (u:Int),.int .i64 (m:Int),.bool last] (.bool (bkB t o j u m last)):=by
 have hg:=JX hu;have Ap:(iz (nd t u).kids).length=(nd t u).kids.length:=Jf;have Bj:=(JbM ht hu).kidn;rw[bk_drop];generalize hq:bkQ t o j u last=q;refine Jb c152_ok rfl rfl λN=>?_
 simp only[c152,go_sem,Tr.cv,Tr.row,Ja,hg,Nd.cv];refine anO ?_;refine Je (id:=0) (z:=2) (els:=[t.row]) rfl rfl ?_;simp only[go_sem,JK,KC,frz,Kn,Tr.row];refine JL (I:=λi:Nat=>((Ga (nd t u).kids.length).drop m).any q=((Ga (nd t u).kids.length).drop i).any q) (inv:=λi=>gp [(1,.int .i64 (j:Int)),(2,.bool last),(0,.rptr t.row),(5,.rslc 1 (iz (nd t u).kids) none),(0,.int .i64 (i:Int))] 30) (hp:=λ_=>[.dead]) (μ:=λi=>(nd t u).kids.length-i) m rfl ?_ rfl ?_
 ·simp[forget,gp,Tr.row]
 ·intro i Aa;by_cases Ab:i<(nd t u).kids.length
  ·have d1:=dtT i (nd t u).kids.length;have Ar:=JF Ab;obtain⟨k1,k2,_⟩:=Jz g hu Ab;have MM:(nd t u).kids.getD i 0=(Ju t u i:Int):=by
    have hm:(nd t u).kids.getD i 0∈(nd t u).kids:=by rw[Gh,Gj Ab];exact Gy Ab
    have:=(g.kid hu hm).1;unfold Ju;omega
   rw[MM]at Ar;have hB:=Jaq g ht (j:=j) (i:=Ju t u i) om;have Da:q i=((last || decide (i+1<(nd t u).kids.length)) && Jb0 o j (Ju t u i)):=by rw[<-hq];rfl
   rw[QD Ab,GL,Da]at Aa;simp only[go_sem,Ap,d1];refine JQ Jm vk ?_
   cases last with
   |true=>
    rw[GU,Gn]at Aa;simp only[go_sem,Tr.row,Gi,Gw,Ap,Ar];refine anO ?_;refine Kc (gok rfl) hB ?_
    cases hb:Jb0 o j (Ju t u i) with
    |true=>rw[hb,GU]at Aa;simp only[go_sem,Aa]
    |false=>rw[hb,Gu]at Aa;simp only[go_sem];refine⟨Jg,i+1,Aa,om,?_⟩;simp[forget]
   |false=>
    rw[Gu]at Aa;by_cases hl:i+1<(nd t u).kids.length
    ·have e1:decide ((i:Int)<((nd t u).kids.length:Int)-1)=true:=decide_eq_true om;rw[decide_eq_true hl,Gn]at Aa;simp only[go_sem,Tr.row,Gi,Gw,Ap,Ar,e1];refine⟨Jg,om,?_⟩;refine Kc (gok rfl) hB ?_
     cases hb:Jb0 o j (Ju t u i) with
     |true=>rw[hb,GU]at Aa;simp only[go_sem,Aa]
     |false=>rw[hb,Gu]at Aa;simp only[go_sem];refine⟨Jg,i+1,Aa,om,?_⟩;simp[forget]
    ·have e1:decide ((i:Int)<((nd t u).kids.length:Int)-1)=false:=decide_eq_false om;rw[decide_eq_false hl,Gq,Gu]at Aa;simp only[go_sem,Ap,e1];refine⟨Jg,Jg,i+1,Aa,om,?_⟩;simp[forget,Tr.row]
  ·have d1:=dfF i (nd t u).kids.length;rw[show (Ga (nd t u).kids.length).drop i=[] from Gv (by simp;omega),GX]at Aa;simp only[go_sem,Ap,d1,Aa]
theorem refInSight{j:Nat}(hd:d<t.nodes.length)(hj:j<t.nodes.length):Fn Gb 98 [t.cv,.int .i64 (d:Int),.int .i64 (j:Int)] (.bool (inB t o d j)):=by
 have hg:=JX hd;have hP:=Ja9 g ht hd;unfold inB;refine Jb c98_ok rfl rfl λN=>?_
 simp only[c98,go_sem,Tr.cv,Tr.row];refine Je (id:=0) (z:=2) (els:=[t.row]) rfl rfl ?_;simp only[go_sem,JK,KC,frz,Kn,Tr.row];refine JU hP ?_;simp only[go_sem,Ja,hg,Nd.cv,kbE];refine anO ?_;by_cases BF:(nd t d).k=65
 ·simp only[BF,go_sem,if_true]
 have b65:((nd t d).k == 65)=false:=beq_eq_false_iff_ne.2 BF;rw[if_neg BF];by_cases Cr:(nd t d).k=64
 ·obtain⟨u,M3,EJ,U0,Ps⟩:=QO g hd BF;have Ad:=Lp Ps;have Dk:=Jz g EJ (i:=(nd t u).kids.length-1) om;simp only[Cr,go_sem,M3,if_true,Gc];refine JQ Jm vk ?_;simp only[go_sem];refine Kc (.inl rfl) (Yn g ht EJ Ad) ?_;simp only[go_sem];refine Kc (.inl rfl) (Jaq g ht (show Ji t u<t.nodes.length by have:=Dk.2.1;unfold Ju at this;unfold Ji;omega)) ?_;simp only[go_sem]
 have b64:((nd t d).k == 64)=false:=beq_eq_false_iff_ne.2 Cr;rw[if_neg Cr];by_cases Cb:(nd t d).k=43
 ·obtain⟨u,M3,EJ,U0,Ps⟩:=QO g hd BF;have Ik:(nd t u).k=28:=(YU (Jdh g EJ Ps)).2.1 (by rw[Cb];rfl);obtain⟨a,b,ha,SK,Bo,_⟩:=Ye g EJ Ik;have AX:(nd t u).n=(a:Int):=ha;have Bj:=(JbM ht EJ).kidn;have aZ:b<(nd t u).kids.length:=Bo;have O4:=JX EJ;simp only[Cb,go_sem,M3,if_true,Gc,AX];refine JQ Jm vk ?_;simp only[go_sem,Ja,O4,Nd.cv,AX];refine anO ?_;refine Kc (.inl rfl) (JdG g ht EJ om true) ?_;simp only[go_sem]
 have b43:((nd t d).k == 43)=false:=beq_eq_false_iff_ne.2 Cb;rw[if_neg Cb];by_cases BQ:(nd t d).k=47
 ·have Ad:(nd t d).kids.length=3:=(Jcq g hd BQ).1;have Dk:=Jz g hd (i:=(nd t d).kids.length-1) om;simp only[BQ,go_sem,if_true];refine JQ Jm vk ?_;simp only[go_sem];refine Kc (.inl rfl) (Yn g ht hd om) ?_;simp only[go_sem];refine Kc (.inl rfl) (Jaq g ht (show Ji t d<t.nodes.length by have:=Dk.2.1;unfold Ju at this;unfold Ji;omega)) ?_;simp only[go_sem]
 have b47:((nd t d).k == 47)=false:=beq_eq_false_iff_ne.2 BQ;rw[if_neg BQ];by_cases Ci:(nd t d).k=42
 ·obtain⟨u,M3,EJ,U0,Ps⟩:=QO g hd BF;have Ik:(nd t u).k=41:=(YU (Jdh g EJ Ps)).2.2.1 (by rw[Ci];rfl);obtain⟨v,M0,EI,j3,fJ⟩:=QO g EJ om;have Ch:(nd t v).k=40\/(nd t v).k=28:=(YU (Jdh g EI fJ)).2.2.2.1 (by rw[Ik];rfl);have dC:=JX EI;have dU:=Ja9 g ht EJ;rw[M0]at dU;simp only[Ci,go_sem,M3,M0,if_true,Gc];refine JU dU ?_;simp only[go_sem,Ja,dC,Nd.cv,kbE];refine anO ?_;by_cases Eu:(nd t v).k=40
  ·simp only[Eu,go_sem,if_true];refine JU (Jaq g ht EI) ?_;simp only[go_sem]
  ·have b40:((nd t v).k == 40)=false:=beq_eq_false_iff_ne.2 Eu;obtain⟨a,b,ha,SK,Bo,_⟩:=Ye g EI (Ch.resolve_left Eu);have AX:(nd t v).n=(a:Int):=ha;have Bj:=(JbM ht EI).kidn;have aZ:b<(nd t v).kids.length:=Bo;simp only[b40,go_sem,if_neg Eu];refine JQ Jm vk ?_;simp only[go_sem,Ja,dC,Nd.cv,AX];refine⟨om,Jg,?_⟩;have fq:=JdG g ht (j:=j) EI (show a+1<=100 by omega) false;rw[Int.natCast_add,show ((1:Nat):Int)=1 from rfl]at fq;refine Kc (.inl rfl) fq ?_;simp only[go_sem]
 have b42:((nd t d).k == 42)=false:=beq_eq_false_iff_ne.2 Ci;rw[if_neg Ci];simp only[b65,b64,b43,b47,b42,go_sem]
end
theorem twN_eq:twN t i=if (nd t i).k≠44/\KX (nd t i).k=false then false else(Ga i).any (twQ t i):=rfl
theorem nTwice(Ag:t.nodes.length<=100000)(hi:i<t.nodes.length):Fn Gb 83 [.rptr (tRw t),.int .i64 (i:Int)] (.bool (twN t i)):=by
 have hg:=JX hi;refine Jb c83_ok rfl rfl λN=>?_
 rw[twN_eq];simp only[c83,go_sem];refine Je (id:=0) (z:=1) (els:=[[.rptr (tRw t)]]) rfl rfl ?_;simp only[go_sem,JK,KC,frz,Kn,Gg];refine Je (id:=1) (z:=1) (els:=[[.int .i64 (i:Int)]]) rfl rfl ?_;simp only[go_sem,JK,KC,frz,Kn,Gg];refine JaD [false,false,false,false,false,false,false,false,true,true] Jm vM ?_;simp only[go_sem];refine vh_all (.rptr (tRw t)) (λ_=>rfl) trivial ?_;by_cases BG:(nd t i).k=44
 ·rw[if_neg (λh=>h.1 BG)];simp only[go_sem,tRw,Ja,hg,Nd.cv,kbN,BG];refine anO ?_;refine Je (id:=2) (z:=5) (els:=[(nd t i).cv]) (by simp only[Nd.cv,BG];rfl) rfl ?_;simp only[go_sem,JK,KC,frz,Kn,Gg];refine JL (I:=λk:Nat=>k<=i/\(Ga i).any (twQ t i)=((Ga i).drop k).any (twQ t i)) (inv:=λk=>gp [(6,.fn 133 [] [.rptr [.rptr (tRw t)],.rptr (nd t i).cv,.rptr [.int .i64 (i:Int)]]),(19,.int .i64 (i:Int)),(0,.int .i64 (k:Int))] 6) (hp:=λ_=>[.dead,.dead,.dead]) (μ:=λk=>i-k) 0 ⟨om,rfl⟩ ?_ rfl ?_
  ·simp[forget,gp,tRw]
  ·rintro k ⟨hk,Aa⟩;by_cases Ab:k<i
   ·have d1:=dtT k i;rw[QD Ab,GL]at Aa;simp only[go_sem,d1];refine vr_fv (.inl rfl) rfl c133_ok (Jcz pNames _) (nTwice1 hi om) ?_
    cases hb:twQ t i k with
    |true=>rw[hb,GU]at Aa;simp only[go_sem,Aa]
    |false=>rw[hb,Gu]at Aa;simp only[go_sem];refine⟨Jg,k+1,⟨om,Aa⟩,om,?_⟩;simp[forget]
   ·have d1:=dfF k i;rw[show (Ga i).drop k=[] from Gv (by simp;omega),GX]at Aa;simp only[go_sem,d1,Aa]
 ·have b44:((nd t i).k == 44)=false:=beq_eq_false_iff_ne.2 BG;simp only[go_sem,tRw,Ja,hg,Nd.cv,kbN,b44,Gm];refine anO ?_;refine Je (id:=2) (z:=5) (els:=[(nd t i).cv]) rfl rfl ?_;simp only[go_sem,JK,KC,frz,Kn,Gg];refine Ka (gok rfl) (nIsDecl t hi) ?_
  cases hd:KX (nd t i).k with
  |false=>simp only[go_sem];rw[if_pos BG]
  |true=>
   rw[if_neg (show ¬((nd t i).k≠44/\true=false) from λh=>by cases h.2)];simp only[go_sem];refine JL (I:=λk:Nat=>k<=i/\(Ga i).any (twQ t i)=((Ga i).drop k).any (twQ t i)) (inv:=λk=>gp [(6,.fn 133 [] [.rptr [.rptr (tRw t)],.rptr (nd t i).cv,.rptr [.int .i64 (i:Int)]]),(19,.int .i64 (i:Int)),(0,.int .i64 (k:Int))] 6) (hp:=λ_=>[.dead,.dead,.dead]) (μ:=λk=>i-k) 0 ⟨om,rfl⟩ ?_ rfl ?_
   ·simp[forget,gp,tRw]
   ·rintro k ⟨hk,Aa⟩;by_cases Ab:k<i
    ·have d1:=dtT k i;rw[QD Ab,GL]at Aa;simp only[go_sem,d1];refine vr_fv (.inl rfl) rfl c133_ok (Jcz pNames _) (nTwice1 hi om) ?_
     cases hb:twQ t i k with
     |true=>rw[hb,GU]at Aa;simp only[go_sem,Aa]
     |false=>rw[hb,Gu]at Aa;simp only[go_sem];refine⟨Jg,k+1,⟨om,Aa⟩,om,?_⟩;simp[forget]
    ·have d1:=dfF k i;rw[show (Ga i).drop k=[] from Gv (by simp;omega),GX]at Aa;simp only[go_sem,d1,Aa]
theorem JfE{j:Nat}(h:j<t.nodes.length):(Ql t).drop j=(j:Int)::(Ql t).drop (j+1):=by
 have hl:(Ql t).length=t.nodes.length:=by simp[Ql]
 rw[GH om];simp[Ql]
theorem Jh7{j:Nat}(h:t.nodes.length<=j):(Ql t).drop j=[]:=Gv (by simp[Ql];omega)
section
variable(g:GoodT t o)(ht:t.Fit)
include g ht
theorem refMeans3(hi:i<t.nodes.length)(hk:(nd t i).k=3):Fn Gb 58 [t.cv,.int .i64 (i:Int)] (.int .i64 (Jgg t o i)):=by
 have Ag:=g.many;have hg:=JX hi;unfold Jgg;refine Jb c58_ok rfl rfl λN=>?_
 simp only[c58,go_sem,Tr.cv,Tr.row,Ja,hg,Nd.cv];refine anO ?_;refine Je (id:=0) (z:=2) (els:=[t.row]) rfl rfl ?_;simp only[go_sem,JK,KC,frz,Kn];refine Je (id:=1) (z:=5) (els:=[(nd t i).cv]) rfl rfl ?_;simp only[go_sem,JK,KC,frz,Kn,Gg];generalize hq:(λd:Int=>(nd t d.toNat).text == (nd t i).text && (KX (nd t d.toNat).k && (!((nd t d.toNat).k == 65) && inB t o d.toNat i)))=q;refine Js (I:=λj:Nat=>j<=t.nodes.length/\(Ql t).find? q=((Ql t).drop j).find? q) (inv:=λj=>gp [(1,.int .i64 (i:Int)),(0,.rptr t.row),(2,.rptr (nd t i).cv),(0,.int .i64 (j:Int))] 64) (hp:=λ_=>[.dead,.dead]) (μ:=λj=>t.nodes.length-j) 0 [0,1] ⟨om,by rw[Gg]⟩ rfl ?_ rfl ?_
 ·simp[forget,JG,ren,gp,Tr.row]
 ·rintro j ⟨hj,Aa⟩;by_cases Ab:j<t.nodes.length
  ·have d1:=dtT j t.nodes.length;have Bp:=JX Ab;have BN:q (j:Int)=((nd t j).text == (nd t i).text && (KX (nd t j).k && (!((nd t j).k == 65) && inB t o j i))):=by rw[<-hq];simp only[Gc]
   rw[JfE Ab,GJ]at Aa
   cases Ct:((nd t j).text == (nd t i).text) with
   |false=>rw[BN,Ct,Gq]at Aa;simp only[go_sem,Tr.row,Ja,d1,Bp,Nd.cv,Ct,Gm];refine⟨om,Jg,j+1,[0,1],⟨om,by rw[Aa]⟩,om,rfl,rfl,?_⟩;simp[forget,JG,ren,Jl]
   |true=>
    rw[BN,Ct,Gn]at Aa;simp only[go_sem,Tr.row,Ja,d1,Bp,Nd.cv,Ct,Gl];refine anO ?_;refine Ka (gok rfl) (Jba _) ?_
    cases hd:KX (nd t j).k with
    |false=>rw[hd,Gq]at Aa;simp only[go_sem,Gm];refine⟨Jg,j+1,[0,1],⟨om,by rw[Aa]⟩,om,rfl,rfl,?_⟩;simp[forget,JG,ren,Jl]
    |true=>
     rw[hd,Gn]at Aa
     cases BF:((nd t j).k == 65) with
     |true=>rw[BF,Gl,Gq]at Aa;simp only[go_sem,kbE,kbN,hk,BF,Gl];refine⟨Jg,j+1,[0,1],⟨om,by rw[Aa]⟩,om,rfl,rfl,?_⟩;simp[forget,JG,ren,Jl]
     |false=>
      rw[BF,Gm,Gn]at Aa;simp only[go_sem,kbE,kbN,hk,BF,Gm,Gl];refine Ka (gok rfl) (refInSight g ht Ab hi) ?_
      cases AQ:inB t o j i with
      |true=>rw[AQ]at Aa;simp only[go_sem,Aa]
      |false=>rw[AQ]at Aa;simp only[go_sem];refine⟨Jg,j+1,[0,1],⟨om,by rw[Aa]⟩,om,rfl,rfl,?_⟩;simp[forget,JG,ren,Jl]
  ·have d1:=dfF j t.nodes.length;rw[Jh7 om,G6]at Aa;simp only[go_sem,Tr.row,Ja,d1,Aa]
omit ht in
theorem refMeans26(hi:i<t.nodes.length)(hk:(nd t i).k=26):Fn Gb 58 [t.cv,.int .i64 (i:Int)] (.int .i64 (JdK t i)):=by
 have Ag:=g.many;have hg:=JX hi;unfold JdK;refine Jb c58_ok rfl rfl λN=>?_
 simp only[c58,go_sem,Tr.cv,Tr.row,Ja,hg,Nd.cv];refine anO ?_;refine Je (id:=0) (z:=2) (els:=[t.row]) rfl rfl ?_;simp only[go_sem,JK,KC,frz,Kn];refine Je (id:=1) (z:=5) (els:=[(nd t i).cv]) rfl rfl ?_;simp only[go_sem,JK,KC,frz,Kn,Gg];generalize hq:(λd:Int=>(nd t d.toNat).text == (nd t i).text && (KX (nd t d.toNat).k && (nd t d.toNat).k == 65))=q;refine Js (I:=λj:Nat=>j<=t.nodes.length/\(Ql t).find? q=((Ql t).drop j).find? q) (inv:=λj=>gp [(1,.int .i64 (i:Int)),(0,.rptr t.row),(2,.rptr (nd t i).cv),(0,.int .i64 (j:Int))] 64) (hp:=λ_=>[.dead,.dead]) (μ:=λj=>t.nodes.length-j) 0 [0,1] ⟨om,by rw[Gg]⟩ rfl ?_ rfl ?_
 ·simp[forget,JG,ren,gp,Tr.row]
 ·rintro j ⟨hj,Aa⟩;by_cases Ab:j<t.nodes.length
  ·have d1:=dtT j t.nodes.length;have Bp:=JX Ab;have BN:q (j:Int)=((nd t j).text == (nd t i).text && (KX (nd t j).k && (nd t j).k == 65)):=by rw[<-hq];simp only[Gc]
   rw[JfE Ab,GJ]at Aa
   cases Ct:((nd t j).text == (nd t i).text) with
   |false=>rw[BN,Ct,Gq]at Aa;simp only[go_sem,Tr.row,Ja,d1,Bp,Nd.cv,Ct,Gm];refine⟨om,Jg,j+1,[0,1],⟨om,by rw[Aa]⟩,om,rfl,rfl,?_⟩;simp[forget,JG,ren,Jl]
   |true=>
    rw[BN,Ct,Gn]at Aa;simp only[go_sem,Tr.row,Ja,d1,Bp,Nd.cv,Ct,Gl];refine anO ?_;refine Ka (gok rfl) (Jba _) ?_
    cases hd:KX (nd t j).k with
    |false=>rw[hd,Gq]at Aa;simp only[go_sem,Gm];refine⟨Jg,j+1,[0,1],⟨om,by rw[Aa]⟩,om,rfl,rfl,?_⟩;simp[forget,JG,ren,Jl]
    |true=>
     rw[hd,Gn]at Aa
     cases BF:((nd t j).k == 65) with
     |true=>rw[BF]at Aa;simp only[go_sem,kbE,hk,BF,Gl,Aa]
     |false=>rw[BF]at Aa;simp only[go_sem,kbE,hk,BF,Gl];refine⟨Jg,j+1,[0,1],⟨om,by rw[Aa]⟩,om,rfl,rfl,?_⟩;simp[forget,JG,ren,Jl]
  ·have d1:=dfF j t.nodes.length;rw[Jh7 om,G6]at Aa;simp only[go_sem,Tr.row,Ja,d1,Aa]
theorem refMeans44(hi:i<t.nodes.length)(hk:(nd t i).k=44):Fn Gb 58 [t.cv,.int .i64 (i:Int)] (.int .i64 (JcC t i)):=by
 have Ag:=g.many;have hg:=JX hi;unfold JcC;refine Jb c58_ok rfl rfl λN=>?_
 simp only[c58,go_sem,Tr.cv,Tr.row,Ja,hg,Nd.cv];refine anO ?_;refine Je (id:=0) (z:=2) (els:=[t.row]) rfl rfl ?_;simp only[go_sem,JK,KC,frz,Kn];refine Je (id:=1) (z:=5) (els:=[(nd t i).cv]) rfl rfl ?_;simp only[go_sem,JK,KC,frz,Kn,Gg];generalize hq:(λd:Int=>(nd t d.toNat).text == (nd t i).text && (KX (nd t d.toNat).k && ((nd t d.toNat).k == 43 && Ky t d.toNat == Ky t i)))=q;refine Js (I:=λj:Nat=>j<=t.nodes.length/\(Ql t).find? q=((Ql t).drop j).find? q) (inv:=λj=>gp [(1,.int .i64 (i:Int)),(0,.rptr t.row),(2,.rptr (nd t i).cv),(0,.int .i64 (j:Int))] 64) (hp:=λ_=>[.dead,.dead]) (μ:=λj=>t.nodes.length-j) 0 [0,1] ⟨om,by rw[Gg]⟩ rfl ?_ rfl ?_
 ·simp[forget,JG,ren,gp,Tr.row]
 ·rintro j ⟨hj,Aa⟩;by_cases Ab:j<t.nodes.length
  ·have d1:=dtT j t.nodes.length;have Bp:=JX Ab;have BN:q (j:Int)=((nd t j).text == (nd t i).text && (KX (nd t j).k && ((nd t j).k == 43 && Ky t j == Ky t i))):=by rw[<-hq];simp only[Gc]
   rw[JfE Ab,GJ]at Aa
   cases Ct:((nd t j).text == (nd t i).text) with
   |false=>rw[BN,Ct,Gq]at Aa;simp only[go_sem,Tr.row,Ja,d1,Bp,Nd.cv,Ct,Gm];refine⟨om,Jg,j+1,[0,1],⟨om,by rw[Aa]⟩,om,rfl,rfl,?_⟩;simp[forget,JG,ren,Jl]
   |true=>
    rw[BN,Ct,Gn]at Aa;simp only[go_sem,Tr.row,Ja,d1,Bp,Nd.cv,Ct,Gl];refine anO ?_;refine Ka (gok rfl) (Jba _) ?_
    cases hd:KX (nd t j).k with
    |false=>rw[hd,Gq]at Aa;simp only[go_sem,Gm];refine⟨Jg,j+1,[0,1],⟨om,by rw[Aa]⟩,om,rfl,rfl,?_⟩;simp[forget,JG,ren,Jl]
    |true=>
     rw[hd,Gn]at Aa;simp only[go_sem,kbE,hk,Gl];refine Je (id:=2) (z:=5) (els:=[(nd t j).cv]) rfl rfl ?_;simp only[go_sem,JK,KC,frz,Kn,Gg,Nd.cv];refine JQ Jm vk ?_
     cases Cb:((nd t j).k == 43) with
     |false=>rw[Cb,Gq]at Aa;simp only[go_sem,kbE,Cb];refine⟨Jg,j+1,[0,1],⟨om,by rw[Aa]⟩,om,rfl,rfl,?_⟩;simp[forget,JG,ren]
     |true=>
      rw[Cb,Gn]at Aa;simp only[go_sem,kbE,Cb];refine Kc (gok rfl) (Ja9 g ht Ab) ?_;simp only[go_sem];refine Kc (gok rfl) (Ja9 g ht hi) ?_
      cases Db:(Ky t j == Ky t i) with
      |true=>rw[Db]at Aa;simp only[go_sem,Db,Aa]
      |false=>rw[Db]at Aa;simp only[go_sem,Db];refine⟨Jg,j+1,[0,1],⟨om,by rw[Aa]⟩,om,rfl,rfl,?_⟩;simp[forget,JG,ren]
  ·have d1:=dfF j t.nodes.length;rw[Jh7 om,G6]at Aa;simp only[go_sem,Tr.row,Ja,d1,Aa]
theorem refMeans(hi:i<t.nodes.length)(hs:KI t i=true):Fn Gb 58 [t.cv,.int .i64 (i:Int)] (.int .i64 (JY t o i)):=by
 unfold JY;unfold KI at hs;simp only[Li,beq_iff_eq]at hs;by_cases h3:(nd t i).k=3
 ·rw[if_pos h3];exact refMeans3 g ht hi h3
 ·rw[if_neg h3];by_cases Dj:(nd t i).k=26
  ·rw[if_pos Dj];exact refMeans26 g hi Dj
  ·rw[if_neg Dj,iP7];exact refMeans44 g ht hi om
def twRq (t:Tr)(o:Lx)(i k:Nat):Bool:=(nd t k).text == (nd t i).text && (if (nd t i).k=65 then(nd t k).k == 65 else if (nd t i).k=44 then(nd t k).k == 44 && Ky t k == Ky t i else KX (nd t k).k && (!((nd t k).k == 65) && Y9 t o k == Y9 t o i))
omit g ht in
theorem twR_eq:twR t o i=if (nd t i).k≠44/\KX (nd t i).k=false then false else(Ga i).any (twRq t o i):=rfl
theorem refTwice(hi:i<t.nodes.length):Fn Gb 59 [t.cv,.int .i64 (i:Int)] (.bool (twR t o i)):=by
 have Ag:=g.many;have hg:=JX hi;rw[twR_eq];refine Jb c59_ok rfl rfl λN=>?_
 simp only[c59,go_sem,Tr.cv,Tr.row,Ja,hg,Nd.cv];refine anO ?_;refine Je (id:=0) (z:=2) (els:=[t.row]) rfl rfl ?_;simp only[go_sem,JK,KC,frz,Kn];refine Je (id:=1) (z:=5) (els:=[(nd t i).cv]) rfl rfl ?_;simp only[go_sem,JK,KC,frz,Kn,Gg,Nd.cv];refine JU (Jba _) ?_;by_cases BG:(nd t i).k=44
 ·have hd:KX (nd t i).k=false:=by rw[BG];rfl
  have b44:((nd t i).k == 44)=true:=beq_iff_eq.2 BG;have b65:((nd t i).k == 65)=false:=beq_eq_false_iff_ne.2 om;rw[if_neg (show ¬((nd t i).k≠44/\KX (nd t i).k=false) from λh=>h.1 BG),hd];simp only[go_sem,kbN,b44,Gm,Gl];generalize hq:twRq t o i=q;refine Js (I:=λj:Nat=>j<=i/\(Ga i).any q=((Ga i).drop j).any q) (inv:=λj=>gp [(1,.int .i64 (i:Int)),(0,.rptr t.row),(2,.rptr (nd t i).cv),(0,.int .i64 (j:Int))] 71) (hp:=λ_=>[.dead,.dead]) (μ:=λj=>i-j) 0 [0,1] ⟨om,by rw[Gg]⟩ rfl ?_ rfl ?_
  ·simp[forget,JG,ren,gp,Tr.row,Nd.cv]
  ·rintro j ⟨hj,Aa⟩;by_cases Ab:j<i
   ·have Od:j<t.nodes.length:=om;have d1:=dtT j i;have Bp:=JX Od;have BN:q j=twRq t o i j:=by rw[hq]
    unfold twRq at BN;rw[QD Ab,GL]at Aa
    cases Ct:((nd t j).text == (nd t i).text) with
    |false=>rw[BN,Ct,Gq,Gu]at Aa;simp only[go_sem,Tr.row,Ja,d1,Bp,Nd.cv,Ct,Gm];refine⟨om,Jg,j+1,[0,1],⟨om,Aa⟩,om,rfl,rfl,?_⟩;simp[forget,JG,ren,Jl]
    |true=>
     rw[Ct,Gn]at BN;simp only[go_sem,Tr.row,Ja,d1,Bp,Nd.cv,Ct,Gl,kbE,b65,b44];refine anO ?_;rw[iN7,if_pos BG]at BN;refine Je (id:=2) (z:=5) (els:=[(nd t j).cv]) rfl rfl ?_;simp only[go_sem,JK,KC,frz,Kn,Gg,Nd.cv];refine JQ Jm vk ?_
     cases h:((nd t j).k == 44) with
     |false=>rw[BN,h,Gq,Gu]at Aa;simp only[go_sem,kbE,h];refine⟨Jg,j+1,[0,1],⟨om,Aa⟩,om,rfl,rfl,?_⟩;simp[forget,JG,ren]
     |true=>
      rw[h,Gn]at BN;simp only[go_sem,kbE,h];refine Kc (gok rfl) (Ja9 g ht Od) ?_;simp only[go_sem];refine Kc (gok rfl) (Ja9 g ht hi) ?_
      cases Db:(Ky t j == Ky t i) with
      |true=>rw[BN,Db,GU]at Aa;simp only[go_sem,Db,Aa]
      |false=>rw[BN,Db,Gu]at Aa;simp only[go_sem,Db];refine⟨Jg,j+1,[0,1],⟨om,Aa⟩,om,rfl,rfl,?_⟩;simp[forget,JG,ren]
   ·have d1:=dfF j i;rw[show (Ga i).drop j=[] from Gv (by simp;omega),GX]at Aa;simp only[go_sem,d1,Aa]
 ·have b44:((nd t i).k == 44)=false:=beq_eq_false_iff_ne.2 BG
  cases hd:KX (nd t i).k with
  |false=>rw[if_pos ⟨BG,rfl⟩];simp only[go_sem,kbN,b44,Gm]
  |true=>
   rw[if_neg (show ¬((nd t i).k≠44/\true=false) from λh=>by cases h.2)];simp only[go_sem,Gl];by_cases BF:(nd t i).k=65
   ·have b65:((nd t i).k == 65)=true:=beq_iff_eq.2 BF;generalize hq:twRq t o i=q;refine Js (I:=λj:Nat=>j<=i/\(Ga i).any q=((Ga i).drop j).any q) (inv:=λj=>gp [(1,.int .i64 (i:Int)),(0,.rptr t.row),(2,.rptr (nd t i).cv),(0,.int .i64 (j:Int))] 71) (hp:=λ_=>[.dead,.dead]) (μ:=λj=>i-j) 0 [0,1] ⟨om,by rw[Gg]⟩ rfl ?_ rfl ?_
    ·simp[forget,JG,ren,gp,Tr.row,Nd.cv]
    ·rintro j ⟨hj,Aa⟩;by_cases Ab:j<i
     ·have Od:j<t.nodes.length:=om;have d1:=dtT j i;have Bp:=JX Od;have BN:q j=twRq t o i j:=by rw[hq]
      unfold twRq at BN;rw[QD Ab,GL]at Aa
      cases Ct:((nd t j).text == (nd t i).text) with
      |false=>rw[BN,Ct,Gq,Gu]at Aa;simp only[go_sem,Tr.row,Ja,d1,Bp,Nd.cv,Ct,Gm];refine⟨om,Jg,j+1,[0,1],⟨om,Aa⟩,om,rfl,rfl,?_⟩;simp[forget,JG,ren,Jl]
      |true=>
       rw[Ct,Gn]at BN;simp only[go_sem,Tr.row,Ja,d1,Bp,Nd.cv,Ct,Gl,kbE,b65];refine anO ?_;rw[if_pos BF]at BN
       cases h:((nd t j).k == 65) with
       |true=>rw[BN,h,GU]at Aa;simp only[go_sem,Aa]
       |false=>rw[BN,h,Gu]at Aa;simp only[go_sem];refine⟨Jg,j+1,[0,1],⟨om,Aa⟩,om,rfl,rfl,?_⟩;simp[forget,JG,ren,Jl]
     ·have d1:=dfF j i;rw[show (Ga i).drop j=[] from Gv (by simp;omega),GX]at Aa;simp only[go_sem,d1,Aa]
   ·have b65:((nd t i).k == 65)=false:=beq_eq_false_iff_ne.2 BF;generalize hq:twRq t o i=q;refine Js (I:=λj:Nat=>j<=i/\(Ga i).any q=((Ga i).drop j).any q) (inv:=λj=>gp [(1,.int .i64 (i:Int)),(0,.rptr t.row),(2,.rptr (nd t i).cv),(0,.int .i64 (j:Int))] 71) (hp:=λ_=>[.dead,.dead]) (μ:=λj=>i-j) 0 [0,1] ⟨om,by rw[Gg]⟩ rfl ?_ rfl ?_
    ·simp[forget,JG,ren,gp,Tr.row,Nd.cv]
    ·rintro j ⟨hj,Aa⟩;by_cases Ab:j<i
     ·have Od:j<t.nodes.length:=om;have d1:=dtT j i;have Bp:=JX Od;have BN:q j=twRq t o i j:=by rw[hq]
      unfold twRq at BN;rw[QD Ab,GL]at Aa
      cases Ct:((nd t j).text == (nd t i).text) with
      |false=>rw[BN,Ct,Gq,Gu]at Aa;simp only[go_sem,Tr.row,Ja,d1,Bp,Nd.cv,Ct,Gm];refine⟨om,Jg,j+1,[0,1],⟨om,Aa⟩,om,rfl,rfl,?_⟩;simp[forget,JG,ren,Jl]
      |true=>
       rw[Ct,Gn]at BN;simp only[go_sem,Tr.row,Ja,d1,Bp,Nd.cv,Ct,Gl,kbE,b65,b44];refine anO ?_;rw[if_neg BF,if_neg BG]at BN;refine Je (id:=2) (z:=5) (els:=[(nd t j).cv]) rfl rfl ?_;simp only[go_sem,JK,KC,frz,Kn,Gg,Nd.cv];refine JQ Jm vk ?_;simp only[go_sem];refine Kc (.inl rfl) (Jba _) ?_
       cases aQ:KX (nd t j).k with
       |false=>rw[BN,aQ,Gq,Gu]at Aa;simp only[go_sem];refine⟨Jg,j+1,[0,1],⟨om,Aa⟩,om,rfl,rfl,?_⟩;simp[forget,JG,ren]
       |true=>
        rw[aQ,Gn]at BN
        cases h:((nd t j).k == 65) with
        |true=>rw[BN,h,Gl,Gq,Gu]at Aa;simp only[go_sem,kbN,h,Gl];refine⟨Jg,j+1,[0,1],⟨om,Aa⟩,om,rfl,rfl,?_⟩;simp[forget,JG,ren]
        |false=>
         rw[h,Gm,Gn]at BN;simp only[go_sem,kbN,h,Gm];refine Kc (gok rfl) (refItemOf g ht Od) ?_;simp only[go_sem];refine Kc (gok rfl) (refItemOf g ht hi) ?_
         cases Db:(Y9 t o j == Y9 t o i) with
         |true=>rw[BN,Db,GU]at Aa;simp only[go_sem,Db,Aa]
         |false=>rw[BN,Db,Gu]at Aa;simp only[go_sem,Db];refine⟨Jg,j+1,[0,1],⟨om,Aa⟩,om,rfl,rfl,?_⟩;simp[forget,JG,ren]
     ·have d1:=dfF j i;rw[show (Ga i).drop j=[] from Gv (by simp;omega),GX]at Aa;simp only[go_sem,d1,Aa]
end
def RowC (z:Nat)(els:LQ)(v:CV)(H':Lv):Prop:=RowR z els v H'\/∃id es,v=.slc id 0 els.length none/\H'[id]? = some (.arr z es)/\es.take els.length=els/\els≠[]
theorem fnRow_cut{args:Lu}(h:CallsC P Env.none f args [] (RowC z els))(ha:Jk args=true)(hc:Jq els=true):JdV P f args z els:=
 Jfc (h.trunc (id:=0) (j:=0) (v:=.un) λv H' hv=>by
  rcases hv with hv|⟨id,es,rfl,h2,h3,h4⟩
  ·exact .inl hv
  ·exact .inr ⟨id,z,es,els.length,h2,.row (id:=id) (Jae h4).symm (by rw[YM h4,h3,List.getElem?_set_self (H8.1 h2).1])⟩) ha hc
structure OfOk (t:Tr)(of:Lx):Prop where
 len:of.length=t.nodes.length
 rng:∀i,i<of.length->-1<=of.getD i 0/\of.getD i 0<t.nodes.length
theorem OfOk.dft{of:Lx}(h:OfOk t of)(hi:i<of.length):of.getD i (-1)=of.getD i 0:=by simp[Gh,Gj hi]
def rRw (t:Tr)(of:Lx):Lu:=[.rptr (tRw t),.rslc 1 (iz of) none]
section
variable(g:GoodT t o)(ht:t.Fit)
include g ht
theorem nNeeds {of:Lx}(ho:OfOk t of){s:Nat}(hs:s<t.nodes.length)(hk:(nd t s).k=41):JdV Gb 136 [.agg (rRw t of),.int .i64 (s:Int)] 1 (iz (XN t o of s)):=by
 have Ag:=g.many;have Bd:(iz of).length=t.nodes.length:=by rw[Jf,ho.len]
 rw[<-need_done g];refine fnRow_cut (Ki c136_ok λN=>?_) rfl (Jh _);simp only[c136,go_sem,rRw,Bd];refine Je (id:=0) (z:=2) (els:=[rRw t of]) rfl rfl ?_;simp only[go_sem,JK,KC,frz,Kn,Gg];refine YJ ?_;simp only[go_sem,GR,GI];refine Js (I:=λi:Nat=>i<=t.nodes.length) (inv:=λi=>gp [(1,.int .i64 (s:Int)),(0,.rptr (rRw t of)),(1,Qr 1 (iz (XO t o of s (Ga i)))),(4,.rslc 1 (iz of) none),(0,.int .i64 (t.nodes.length:Int)),(0,.int .i64 (i:Int))] 70) (hp:=λi=>[.dead,Xm 1 (iz (XO t o of s (Ga i)))]) (μ:=λi=>t.nodes.length-i) 0 [0,1] om rfl ?_ rfl ?_
 ·simp[forget,JG,ren,gp,rRw,Qr,iz,XO]
 ·intro i hi;by_cases Ab:i<t.nodes.length
  ·have d1:=dtT i t.nodes.length;have Ar:=JF (l:=of) (i:=i) (by rw[ho.len];exact Ab);have ZA:=ho.rng i (by rw[ho.len];exact Ab);have Al:XO t o of s (Ga (i+1))=XO t o of s (Ga i)++XO t o of s [i]:=by rw[Lg,needC_app]
   have Az:=Je1 (t:=t) (o:=o) (of:=of) (s:=s) (Ga i);rw[G5]at Az;have aP:=ho.dft (i:=i) (by rw[ho.len];exact Ab);have h1:XO t o of s [i]=if (decide (0<=of.getD i 0) && ((nd t (of.getD i 0).toNat).k == 42 && ((nd t i).k == 3 && (Jb0 o i s && (Ky t (Ky t (of.getD i 0).toNat).toNat == Ky t s && !buL t (upL t (Ji t s) t.nodes.length i) false)))))=true then [Ky t (of.getD i 0).toNat] else []:=by rw[XO,aP];rfl
   generalize XO t o of s (Ga i)=acc at Al Az|-;generalize of.getD i 0=m at Ar ZA h1;rcases Nw m 0 with RX|RX
   ·obtain rfl:m = -1:=om;have e1:((-1:Int) == -1)=true:=vk;have AY:XO t o of s [i]=[]:=by rw[h1,if_neg sM]
    simp only[go_sem,d1,Bd,Ar,e1];refine anO ?_;refine⟨Jg,i+1,[0,1],om,om,rfl,?_,?_⟩
    ·rw[Al,AY,Gr];simp only[KE,Gd,Gf,go_sem,Qw (Jc (Jh acc)),Jn]
    ·rw[Al,AY,Gr];simp[forget,JG,ren,Jl,QK,rRw]
   obtain⟨m,rfl⟩:∃m':Nat,m=m':=⟨m.toNat,om⟩;have F7:m<t.nodes.length:=om;have e1:((m:Int) == -1)=false:=beq_eq_false_iff_ne.2 om;rw[decide_eq_true RX,Gn,Gc]at h1;simp only[go_sem,d1,Bd,Ar,e1,rRw];refine anO ?_;refine Ka (gok rfl) (nKind t F7) ?_
   cases IQ:(nd t m).k == 42 with
   |false=>
    have AY:XO t o of s [i]=[]:=by rw[h1,IQ,if_neg sM]
    simp only[go_sem,kbN,IQ,Gm];refine⟨Jg,i+1,[0,1],om,om,rfl,?_,?_⟩
    ·rw[Al,AY,Gr];simp only[KE,Gd,Gf,go_sem,Qw (Jc (Jh acc)),Jn]
    ·rw[Al,AY,Gr];simp[forget,JG,ren,Jl,QK]
   |true=>
    rw[IQ,Gn]at h1;simp only[go_sem,kbN,IQ,Gl];refine Ka (gok rfl) (nKind t Ab) ?_
    cases Il:(nd t i).k == 3 with
    |false=>
     have AY:XO t o of s [i]=[]:=by rw[h1,Il,if_neg sM]
     simp only[go_sem,kbN,Il,Gm];refine⟨Jg,i+1,[0,1],om,om,rfl,?_,?_⟩
     ·rw[Al,AY,Gr];simp only[KE,Gd,Gf,go_sem,Qw (Jc (Jh acc)),Jn]
     ·rw[Al,AY,Gr];simp[forget,JG,ren,Jl,QK]
    |true=>
     rw[Il,Gn]at h1;simp only[go_sem,kbN,Il,Gl];refine Ka (gok rfl) (nBelow g Ab hs) ?_
     cases hb:Jb0 o i s with
     |false=>
      have AY:XO t o of s [i]=[]:=by rw[h1,hb,if_neg sM]
      simp only[go_sem,Gm];refine⟨Jg,i+1,[0,1],om,om,rfl,?_,?_⟩
      ·rw[Al,AY,Gr];simp only[KE,Gd,Gf,go_sem,Qw (Jc (Jh acc)),Jn]
      ·rw[Al,AY,Gr];simp[forget,JG,ren,Jl,QK]
     |true=>
      rw[hb,Gn]at h1;have Ci:(nd t m).k=42:=beq_iff_eq.1 IQ;have h3:(nd t i).k=3:=beq_iff_eq.1 Il;obtain⟨v,M0,EI,_,_⟩:=QO g F7 om;have hL:=nLate g ht hs hk ((JdZ g hs hk om).1 (Q0.1 hb));rw[M0,Gc]at h1;simp only[go_sem,Gl,tRw,QI,upz F7,M0];refine anO ?_;refine JQ Jm vk ?_
      cases Db:(Ky t v == Ky t s) with
      |false=>
       have AY:XO t o of s [i]=[]:=by rw[h1,Db,if_neg sM]
       simp only[go_sem,QI,upz EI,upz hs,Db];refine⟨om,om,?_⟩;refine⟨Jg,i+1,[0,1],om,om,rfl,?_,?_⟩
       ·rw[Al,AY,Gr];simp only[KE,Gd,Gf,go_sem,Qw (Jc (Jh acc)),Jn]
       ·rw[Al,AY,Gr];simp[forget,JG,ren,Jl,QK]
      |true=>
       rw[Db,Gn]at h1;simp only[go_sem,QI,upz EI,upz hs,Db];refine⟨om,om,?_⟩;refine Kc (gok rfl) hL ?_
       cases hl:buL t (upL t (Ji t s) t.nodes.length i) false with
       |true=>
        have AY:XO t o of s [i]=[]:=by rw[h1,hl,if_neg sM]
        simp only[go_sem,Gl];refine⟨Jg,i+1,[0,1],om,om,rfl,?_,?_⟩
        ·rw[Al,AY,Gr];simp only[KE,Gd,Gf,go_sem,Qw (Jc (Jh acc)),Jn]
        ·rw[Al,AY,Gr];simp[forget,JG,ren,Jl,QK]
       |false=>
        have Bl:XO t o of s [i]=[(v:Int)]:=by rw[h1,hl,if_pos sM]
        simp only[go_sem,Gm,Jf,JA];refine⟨⟨om,om⟩,Jg,i+1,[0,3],om,om,rfl,?_,?_⟩
        ·rw[Al,Bl,Qp,KN];simp only[KE,Gd,Gf,go_sem,Jo,Jn];simp[Jc (Jh acc),JG,ren]
        ·rw[Al,Bl,Qp,KM];simp[forget,JG,ren,Jl,Jf]
  ·have d1:=dfF i t.nodes.length;obtain rfl:i=t.nodes.length:=om;have Az:=Je1 (t:=t) (o:=o) (of:=of) (s:=s) (Ga t.nodes.length);rw[G5]at Az;generalize XO t o of s (Ga t.nodes.length)=acc at Az|-
   cases acc with
   |nil=>simp only[go_sem,d1,Xp,Ya];refine JU sortNil ?_;simp only[go_sem];refine JU compactNil ?_;simp only[go_sem];rw[show Lib.compact (([]:Lx).mergeSort λx y=>decide (x<=y))=[] by rw[L9];rfl];exact .inl .nil
   |cons x xs=>
    simp only[go_sem,d1,Kv,YL,Ja7,Jf];refine Kt (.inl rfl) (sortRow (l:=x::xs) sM om rfl) λv H' ⟨h1,h2⟩=>?_
    subst h1 h2;simp only[go_sem];have Ck:((x::xs).mergeSort λx y=>decide (x<=y)).length=xs.length+1:=by rw[La];rfl
    generalize ((x::xs).mergeSort λx y=>decide (x<=y))=S at Ck|-;have dP:S≠[]:=by rintro rfl;simp at Ck
    rw[<-Ck];refine Kt (.inl rfl) (compactRow (l:=S) dP (by simp only[Gi]at Az;omega) rfl) λv H' ⟨h1,h2⟩=>?_
    subst h1 h2;simp only[go_sem];have PL:Lib.compact S≠[]:=by obtain⟨y,hy⟩:=List.exists_mem_of_ne_nil _ dP;exact List.ne_nil_of_mem (Jfp.2 hy)
    refine .inr ⟨1,_,by rw[Jf],rfl,?_,by simpa [iz]using PL⟩;rw[K7,Nn rfl]
end
def nz (l:LB):Lx:=l.map λx:Nat=>(x:Int)
theorem nz_len {l:LB}:(nz l).length=l.length:=by simp[nz]
theorem nz_cons {x:Nat}{l:LB}:nz (x::l)=(x:Int)::nz l:=rfl
theorem nz_get {l:LB}(h:i<l.length):(nz l).getD i 0=(l.getD i 0:Nat):=by simp[nz,Gh,Gj h]
theorem nzz_get {l:LB}(h:i<l.length):(iz (nz l)).getD i []=[.int .i64 (l.getD i 0:Nat)]:=by rw[JF (by rw[nz_len];exact h),nz_get h]
theorem Xv {l:LB}:(iz (nz l)).length=l.length:=by rw[Jf,nz_len]
section
variable(g:GoodT t o)(ht:t.Fit)
include g ht
theorem refWay{top:Nat}(Bz:top<t.nodes.length)(Ed:blw o a0 top):Fn Gb 186 [t.cv,.int .i64 (top:Int),.int .i64 (a0:Int)] (.rslc 1 (iz (nz (upL t top t.nodes.length a0).reverse)) none):=by
 have Ag:=g.many;have Um:=up_len g (f:=t.nodes.length) Bz Ed om;have Al:=way_start (t:=t) (top:=top) (f:=t.nodes.length) (a:=a0);generalize hR:(upL t top t.nodes.length a0).reverse=R at Al|-;have SQ:R.length<=t.nodes.length:=by rw[<-hR,VZ];omega
 refine Jav ?_ rfl rfl;refine Ki c186_ok λN=>?_
 simp only[c186,go_sem,Tr.cv,Tr.row];refine Je (id:=0) (z:=2) (els:=[t.row]) rfl rfl ?_;simp only[go_sem,JK,KC,frz,Kn,Gd,Gf];refine Js (σ:=Nat×Nat×LB×Option Nat) (I:=λs=>blw o s.2.1 top/\t.nodes.length<=s.2.1+s.1/\R=(upL t top s.1 s.2.1).tail.reverse++s.2.2.1/\s.2.2.1≠[]) (inv:=λs=>gp [(1,.int .i64 (top:Int)),(0,.int .i64 (s.2.1:Int)),(0,.rptr t.row),(3,.slc 1 0 s.2.2.1.length s.2.2.2)] 13) (hp:=λs=>[.dead,.arr 1 (iz (nz s.2.2.1))]) (μ:=λs=>t.nodes.length-s.2.1) (t.nodes.length,a0,[a0],some 1) [0,1] ⟨Ed,by simp only;omega,Al,sM⟩ rfl ?_ ?_ ?_
 ·simp[forget,JG,ren,Jl,gp,Tr.row]
 ·simp[KE,JG,ren,Xn,iz,nz]
 ·rintro⟨f,a,w,cap⟩ ⟨hb,hf,hw,Ai⟩
  dsimp only at hb hf hw Ai
  have ha:a<t.nodes.length:=by have:=hb.1;omega
  by_cases he:a=top
  ·subst he;rw[way_end,List.reverse_nil,GI]at hw;have e1:((a:Int) != (a:Int))=false:=sM;simp only[go_sem,e1];refine .step 1 1 (iz (nz w)) rfl (Jh _) (.done ?_);have hx:Hy w.length (iz (nz w))=iz (nz w):=GA (by rw[Xv];omega);simp only[frz,if_true,G8,Xv,GG,Gg,hx];rw[hw];exact wk.refl _
  ·have e1:((a:Int) != (top:Int))=true:=bne_iff_ne.2 om;obtain⟨m,f',h1,h2,h3,h4,h5,h6⟩:=way_step g Bz hb hf he;rw[h6]at hw;have fE:w.length+1<=R.length:=by rw[hw,Gz,Gi];omega
   have hP:=Ja9 g ht ha;rw[h1]at hP;obtain⟨y,ys,rfl⟩:=List.exists_cons_of_ne_nil Ai;simp only[Gi]at fE;have Cg:Hy (ys.length+1) (([CV.int .i64 (y:Int)])::iz (nz ys))=[CV.int .i64 (y:Int)]::iz (nz ys):=GA (by simp[Xv]);simp only[go_sem,e1,Tr.row];refine JU hP ?_;simp only[go_sem,nz_cons,Kv,Gi,Cg,Xv,JA,Gg];refine⟨⟨om,om,om⟩,(f',m,m::y::ys,none),[0,3],⟨h4,h5,hw,sM⟩,by simp only;omega,rfl,?_,?_⟩
   ·have Az:=Jc (ρ:=[0,3]) (Jh (nz ys));simp[KE,JG,ren,Xn,nz_cons,Kv,Az]
   ·simp[forget,JG,ren,Jl];omega
theorem refLate{s:Nat}(hs:s<t.nodes.length)(hk:(nd t s).k=41)(Ed:blw o a0 (Ji t s)):Fn Gb 153 [t.cv,.int .i64 (a0:Int),.int .i64 (s:Int)] (.bool (tdL t (upL t (Ji t s) t.nodes.length a0).reverse false)):=by
 have Ag:=g.many;have Rm:=set_kid g hs hk;have CG:Ji t s<t.nodes.length:=by have:=(J3 g hs Rm.1).2;omega
 have Um:=up_len g (f:=t.nodes.length) CG Ed om;have hW:=refWay g ht CG Ed;have Mv:=up_rng g t.nodes.length a0 (Ji t s) CG Ed;have FE:=up_kids g t.nodes.length a0 (Ji t s) CG Ed;have cO:∀i,i+1<(upL t (Ji t s) t.nodes.length a0).reverse.length->((((upL t (Ji t s) t.nodes.length a0).reverse.getD (i+1) 0:Nat):Int)∈(nd t ((upL t (Ji t s) t.nodes.length a0).reverse.getD i 0)).kids/\(upL t (Ji t s) t.nodes.length a0).reverse.getD i 0<t.nodes.length):=λi hi=>pairs_rev FE hi
 have M6:∀x∈(upL t (Ji t s) t.nodes.length a0).reverse,x<t.nodes.length:=λx hx=>Mv x (List.mem_reverse.1 hx)
 have SQ:(upL t (Ji t s) t.nodes.length a0).reverse.length<=t.nodes.length:=by rw[VZ];omega
 generalize (upL t (Ji t s) t.nodes.length a0).reverse=R at hW cO M6 SQ|-;refine Jb c153_ok rfl rfl λN=>?_
 simp only[c153,go_sem,Tr.cv,Tr.row];refine Je (id:=0) (z:=2) (els:=[t.row]) rfl rfl ?_;simp only[go_sem,JK,KC,frz,Kn,Gd,Gf];refine JQ Jm vk ?_;simp only[go_sem,Tr.row];refine Kc (.inl rfl) (Yn g ht hs Rm.2) ?_;simp only[go_sem];refine Kc (.inl rfl) hW ?_;simp only[go_sem];generalize hD:tdL t R false=D;refine Js (I:=λi:Nat=>i<=R.length/\D=tdL t (R.drop i) false) (inv:=λi=>gp [(3,.rptr t.row),(3,.rslc 1 (iz (nz R)) none),(0,.int .i64 (i:Int))] 54) (hp:=λ_=>[.dead]) (μ:=λi=>R.length-i) 0 [0] ⟨om,by rw[Gg,hD]⟩ rfl ?_ rfl ?_
 ·simp[forget,JG,ren,gp,Tr.row]
 ·rintro i ⟨hi,Aa⟩;by_cases Ab:i+1<R.length
  ·have d1:((i:Int)+1<(R.length:Int))=True:=J4;rw[tdL_drop Ab]at Aa;obtain⟨hc,hu⟩:=cO i Ab;have Ib:=nzz_get (l:=R) (i:=i) om;have Ol:=nzz_get Ab;have PL:R.getD (i+1) 0<t.nodes.length:=M6 _ (by rw[Gh,Gj Ab];exact Gy Ab);generalize R.getD i 0=u at Aa hc hu Ib;generalize R.getD (i+1) 0=c at Aa hc Ol PL;have O4:=JX hu;have D9:=JX PL;have Oc:=Lp hc;have Mc:((i:Int)+1).toNat=i+1:=om;simp only[go_sem,Xv,d1];refine⟨Jg,?_⟩;refine JaD [false,false,false,false,false,false,false,false,true,true] Jm vM ?_;by_cases h4:(nd t u).k=4
   ·have Fu:Jib t u c=some true:=by unfold Jib;rw[if_pos h4]
    rw[Fu]at Aa;simp only[go_sem,Tr.row,Ja,Xv,Ib,O4,Nd.cv,kbE,h4];exact⟨om,om,by rw[Aa]⟩
   have b4:((nd t u).k == 4)=false:=beq_eq_false_iff_ne.2 h4;by_cases bT:(nd t u).k=46
   ·have Fu:Jib t u c=some (c == Ji t u):=by unfold Jib;rw[if_neg h4,if_pos (.inl bT)]
    have b46:((nd t u).k == 46)=true:=beq_iff_eq.2 bT;rw[Fu]at Aa;simp only[go_sem,Tr.row,Ja,Xv,Ib,O4,Nd.cv,kbE,b4,b46];refine⟨om,om,?_⟩;refine JQ Jm vk ?_;simp only[go_sem,Xv,Mc,Ib,Ol];refine⟨Jg,om,om,?_⟩;refine Kc (.inl rfl) (Yn g ht hu Oc) ?_;have en:=JdQ (Ji t u) c;simp only[go_sem,en,Aa]
   have b46:((nd t u).k == 46)=false:=beq_eq_false_iff_ne.2 bT;by_cases BQ:(nd t u).k=47
   ·have Fu:Jib t u c=some (c == Ji t u):=by unfold Jib;rw[if_neg h4,if_pos (.inr BQ)]
    have b47:((nd t u).k == 47)=true:=beq_iff_eq.2 BQ;rw[Fu]at Aa;simp only[go_sem,Tr.row,Ja,Xv,Ib,O4,Nd.cv,kbE,b4,b46,b47];refine⟨om,om,?_⟩;refine JQ Jm vk ?_;simp only[go_sem,Xv,Mc,Ib,Ol];refine⟨Jg,om,om,?_⟩;refine Kc (.inl rfl) (Yn g ht hu Oc) ?_;have en:=JdQ (Ji t u) c;simp only[go_sem,en,Aa]
   have b47:((nd t u).k == 47)=false:=beq_eq_false_iff_ne.2 BQ;by_cases Ef:(nd t u).k=28
   ·have b28:((nd t u).k == 28)=true:=beq_iff_eq.2 Ef;simp only[go_sem,Tr.row,Ja,Xv,Ib,O4,Nd.cv,kbE,b4,b46,b47,b28];refine⟨om,om,?_⟩;refine JQ Jm vk ?_;by_cases Cb:(nd t c).k=43
    ·have Fu:Jib t u c=none:=by unfold Jib;rw[if_neg h4,iN7,if_pos Ef,if_pos Cb]
     have b43:((nd t c).k == 43)=true:=beq_iff_eq.2 Cb;rw[Fu]at Aa;simp only[go_sem,Xv,Mc,Ol,Ja,D9,Nd.cv,kbN,b43,Gl];refine⟨Jg,om,om,Jg,i+1,[0],⟨om,Aa⟩,om,rfl,rfl,?_⟩;simp[forget,JG,ren,Jl]
    ·have Fu:Jib t u c=some false:=by unfold Jib;rw[if_neg h4,iN7,if_pos Ef,if_neg Cb]
     have b43:((nd t c).k == 43)=false:=beq_eq_false_iff_ne.2 Cb;rw[Fu]at Aa;simp only[go_sem,Xv,Mc,Ol,Ja,D9,Nd.cv,kbN,b43,Gm];exact⟨Jg,om,om,by rw[Aa]⟩
   have b28:((nd t u).k == 28)=false:=beq_eq_false_iff_ne.2 Ef;have Fu:Jib t u c=none:=by unfold Jib;rw[if_neg h4,iN7,if_neg Ef]
   rw[Fu]at Aa;simp only[go_sem,Tr.row,Ja,Xv,Ib,O4,Nd.cv,kbE,b4,b46,b47,b28];refine⟨om,om,Jg,i+1,[0],⟨om,Aa⟩,om,rfl,rfl,?_⟩;simp[forget,JG,ren,Jl]
  ·have d1:((i:Int)+1<(R.length:Int))=False:=JS;rw[tdL_end om]at Aa;simp only[go_sem,Xv,d1,Aa];exact Jg
end
theorem indexO{id:Nat}(hl:l.length<=1000000)(hH:H[id]? = some (.arr 1 (iz l))):CallsC Gb E 135 [.slc id 0 l.length none,.int .i64 x] H λv H'=>v=.int .i64 (XG (λy=>x == y) l 0)/\H'=H:=by
 have Ae:(iz l).length=l.length:=Jf;refine Ki c135_ok λN=>?_
 simp only[c135,go_sem];refine JL (I:=λi:Nat=>i<=l.length/\XG (λy=>x == y) l 0=XG (λy=>x == y) (l.drop i) i) (inv:=λi=>gp [(0,.slc id 0 l.length none),(0,.int .i64 x),(5,.int .i64 (l.length:Int)),(0,.int .i64 (i:Int))] 10) (hp:=λ_=>H) (μ:=λi=>l.length-i) 0 ⟨om,rfl⟩ ?_ rfl ?_
 ·simp[forget,gp]
 ·rintro i ⟨hi,Aa⟩;by_cases Ab:i<l.length
  ·have d1:=dtT i l.length;have Ar:=JF Ab;have BL:l[i]? = some (l.getD i 0):=by rw[Gh,Gj Ab];rfl
   rw[Xd BL]at Aa;simp only[go_sem,d1,hH,Ae,Ar];generalize l.getD i 0=y at Aa Ar|-;refine⟨om,om,?_⟩
   cases he:(x == y) with
   |true=>rw[he,if_pos rfl]at Aa;simp only[go_sem,Aa]
   |false=>rw[he]at Aa;simp only[go_sem];refine⟨Jg,i+1,⟨om,by simpa using Aa⟩,om,?_⟩;simp[forget]
  ·have d1:=dfF i l.length;rw[Gv om]at Aa;simp only[go_sem,d1,Aa,XG]
theorem containsO{id:Nat}(hl:l.length<=100000)(hH:H[id]? = some (Xm 1 (iz l))):CallsC Gb E 85 [Qr id (iz l),.int .i64 x] H λv H'=>v=.bool (l.contains x)/\H'=H:=by
 cases l with
 |nil=>exact(containsI [] x sM).args (args':=[.nils,.int .i64 x]) ⟨wk.nils,wk.refl _,trivial⟩ E H
 |cons y l=>
  rw[Kv,Ja7,<-Kv]at hH;have hc:=indexO (E:=E) (x:=x) (l:=y::l) om hH;rw[show Qr id (iz (y::l))=.slc id 0 (y::l).length none by rw[Kv,YL,Jf];rfl];generalize y::l=L at *;refine Ki c85_ok λN=>?_
  simp only[c85,go_sem];refine Kt (.inl rfl) hc λv H' ⟨h1,h2⟩=>?_
  subst h1 h2;have e:decide (0<=XG (λy=>x == y) L 0)=L.contains x:=by rw[Jaa,Vu]
  simp only[go_sem,e]
theorem JhE:(iz l).drop n=iz (l.drop n):=by simp[iz]
def todoV (els:Lx)(off:Nat):CV:=match els with
 |[]=>.nils
 |_::_=>.slc 2 off (els.length-off) none
theorem JfS {els:Lx}:todoV els 0=Qr 2 (iz els):=by cases els <;> simp[todoV,iz,Qr]
theorem Jg4 {els:Lx}{off:Nat}(h:els≠[]):todoV els off=.slc 2 off (els.length-off) none:=by cases els <;> simp_all [todoV]
theorem JcG:∀{l out:Lx},Y1 l out<=l.length
 |[],_=>GG _
 |y::l,out=>by
  have:=JcG (l:=l) (out:=out);simp only[Y1,Gi]
  split <;> omega
theorem needN_ok{of:Lx}:∀x∈Ql t,(∀y∈XN t o of x.toNat,y∈Ql t)/\(XN t o of x.toNat).length<=(Ql t).length:=λx _=>⟨λy hy=>(Gt.1 hy).1,GM _ _⟩
section
variable(g:GoodT t o)(ht:t.Fit)
include g ht
theorem nAll {of:Lx}(ho:OfOk t of){s:Nat}(hs:s<t.nodes.length)(hk:(nd t s).k=41):JdV Gb 86 [.agg (rRw t of),.int .i64 (s:Int)] 1 (iz (bfs (λx=>XN t o of x.toNat) (Ql t) (XN t o of s) [])):=by
 have Ag:=g.many;have Am:(Ql t).length=t.nodes.length:=by simp[Ql]
 refine Jfc (Ki c86_ok λN=>?_) rfl (Jh _);simp only[c86,go_sem,rRw];refine Je (id:=0) (z:=2) (els:=[rRw t of]) rfl rfl ?_;simp only[go_sem,JK,KC,frz,Kn,Gg];refine YJ ?_;simp only[go_sem,GR,GI];refine JfQ (.inl rfl) (nNeeds g ht ho hs hk) ?_;simp only[go_sem];have BJ:∀s':Nat,∀x∈XN t o of s',0<=x/\x<t.nodes.length/\(nd t x.toNat).k=41:=λs' x hx=>Jd8 g hx
 generalize hN:(λx:Int=>XN t o of x.toNat)=Nf;have Fw:∀x∈Ql t,(∀y∈Nf x,y∈Ql t)/\(Nf x).length<=(Ql t).length:=by rw[<-hN];exact needN_ok
 have IA:∀x,∀y∈Nf x,0<=y/\y<t.nodes.length/\(nd t y.toNat).k=41:=λx y hy=>by rw[<-hN]at hy;exact BJ _ y hy
 have h0:=BJ s;have IP:(XN t o of s).length<=t.nodes.length:=by rw[<-Am];exact GM _ _
 generalize XN t o of s=T0 at h0 IP|-;generalize hR:bfs Nf (Ql t) T0 []=R;have Al:Y1 (Ql t) []*((Ql t).length+1)<=700*701:=NB (GY JcG om) om;refine Js (σ:=Lx×Nat×Lx) (I:=λs'=>s'.2.1<=s'.1.length/\(∀x∈s'.1,0<=x/\x<t.nodes.length/\(nd t x.toNat).k=41)/\bfs Nf (Ql t) (s'.1.drop s'.2.1) s'.2.2=R/\muB (Ql t) (s'.1.drop s'.2.1) s'.2.2<=1000000/\s'.2.2.length+Y1 (Ql t) s'.2.2<=700)
  (inv:=λs'=>gp [(2,.rptr (rRw t of)),(1,Qr 1 (iz s'.2.2)),(0,todoV s'.1 s'.2.1)] 26) (hp:=λs'=>[.dead,Xm 1 (iz s'.2.2),Xm 1 (iz s'.1)]) (μ:=λs'=>muB (Ql t) (s'.1.drop s'.2.1) s'.2.2) (T0,0,[]) [0,1,2] ⟨sM,h0,by simpa using hR,by simp only[Gg,muB];omega,by have:=JcG (l:=Ql t) (out:=[]);simp only[Gw];omega⟩ rfl ?_ ?_ ?_
 ·simp[forget,JG,ren,Jl,gp,rRw,JfS,QK,Ya,Xp]
 ·simp only[KE,Gd,Gf,go_sem,Qw (Jc (Jh T0)),Jn,Xp,JaF]
 ·rintro⟨els,off,out⟩ ⟨MC,hP,hB,MH,A7⟩
  dsimp only at MC hP hB MH A7
  by_cases Ai:els=[]
  ·subst Ai;rw[List.drop_nil,bfs_nil]at hB;have d1:((0:Int) > 0)=False:=JS;have d2:((0:Int)<0)=False:=JS;simp only[go_sem,todoV,d1];rw[<-hB];exact .row (id:=1) rfl rfl
  ·have ZJ:Xm 1 (iz els)=.arr 1 (iz els):=YM (by simpa [iz]using Ai);have Fq:(iz els).length=els.length:=Jf;rw[ZJ,Jg4 Ai];by_cases Ab:off<els.length
   ·have d1:((0:Int)<((els.length-off:Nat):Int))=True:=J4;have d2:(((els.length-off:Nat):Int) > 0)=True:=J4;have Ar:=JF Ab;have Ie:els.drop off=els.getD off 0::els.drop (off+1):=by rw[GH Ab,Gh,Gj Ab];rfl
    have Ay:els.getD off 0∈els:=by rw[Gh,Gj Ab];exact Gy Ab
    have SV:=hP _ Ay;have Aj:∀y∈els.drop off,y∈Ql t:=λy hy=>by have:=hP y (Lb hy);exact KR.2 ⟨this.1,this.2.1⟩
    rw[Ie]at hB Aj MH|-;have OV:=MH;simp only[muB,Gi]at OV;generalize hx:els.getD off 0=x at Ar SV hB Aj MH|-;have dw:(((els.length-off:Nat):Int)).toNat-(1:Int).toNat=els.length-(off+1):=om
    simp only[go_sem,d1,Fq,Ar,Hg];refine⟨om,⟨om,GV _⟩,?_⟩;have PX:x∈Ql t:=Aj x sM;have Bd:out.length<=700:=om;refine Kt (.inl rfl) (containsO (id:=1) (l:=out) (x:=x) om rfl) λv H' ⟨h1,h2⟩=>?_
    subst h1 h2
    cases hc:out.contains x with
    |true=>
     rw[bfs_old Fw Aj hc]at hB;simp only[go_sem,Gl];refine⟨(els,off+1,out),[0,1,2],⟨by simp only;omega,hP,hB,by simp only[muB];omega,A7⟩,by simp only[muB,Gi];omega,rfl,?_,?_⟩
     ·simp only[KE,Gd,Gf,go_sem,Qw (Jc (Jh out)),Jo,Jc (Jh els),Jn,ZJ]
     ·simp[forget,JG,ren,Jl,QK,rRw,Jg4 Ai];omega
    |false=>
     rw[bfs_new Fw Aj hc]at hB;have Cu:=Jau PX hc;have ax:=HZ ((Ql t).length+1) (show Y1 (Ql t) (out++[x])+1<=Y1 (Ql t) out from Cu);rw[H6,Lm]at ax;have Dt:=(Fw x PX).2;obtain⟨xn,rfl⟩:∃x':Nat,x=x':=⟨x.toNat,om⟩;have Ih:=SV.2.2;rw[Gc]at Ih;have bE:XN t o of xn=Nf (xn:Int):=by rw[<-hN];simp only[Gc]
     have Rc:=IA (xn:Int);have SX:=(nNeeds g ht ho (show xn<t.nodes.length by omega) Ih).fn rfl (Jh _);rw[bE]at SX;simp only[go_sem,Gm,Jf,JA,rRw];refine⟨⟨om,om⟩,?_⟩;refine JU SX ?_;generalize Nf (xn:Int)=M at Dt Rc hB|-;have Pb:off+1+(els.length-off-1)=els.length:=om
     have O9:(off+1+(els.length-off-1)=els.length)=True:=eq_true Pb;have hd:=Nk (i:=off+1) (l:=els)
     cases M with
     |nil=>
      simp only[go_sem,Xp];rw[Gr]at hB;refine⟨(els,off+1,out++[(xn:Int)]),[0,4,2],⟨by simp only;omega,hP,hB,by simp only[muB];omega,by simp only[Gz,Gi,Gw];omega⟩,by simp only[muB,Gi];omega,rfl,?_,?_⟩
      ·rw[ZJ,Qp,KN];simp only[KE,Gd,Gf,go_sem,Jo,Jc (Jh els),Jn];simp[Jc (Jh out),JG,ren]
      ·rw[Jg4 Ai,Qp,KM];simp[forget,JG,ren,Jl,Jf];omega
     |cons y ys=>
      simp only[go_sem,Kv,Fq,O9,Jf,JA];simp only[Gi]at Dt;refine⟨⟨om,om⟩,(els.drop (off+1)++y::ys,0,out++[(xn:Int)]),[0,4,5],⟨sM,λz hz=>?_,by simpa using hB,by simp only[Gg,muB,Gz,Gi];omega,by simp only[Gz,Gi,Gw];omega⟩,by simp only[Gg,muB,Gz,Gi];omega,rfl,?_,?_⟩
      ·rcases GN.1 hz with h|h
       ·exact hP z (Lb h)
       ·exact Rc z h
      ·rw[Qp,KN,K7,Kv,KN,<-JhE];simp only[KE,Gd,Gf,go_sem,Jo,Jn];rw[JhE];simp[Jc (Jh out),Jc (Jh (els.drop (off+1))),Jc (Jh ys),JG,ren]
      ·rw[JfS,Qp,KM,K7,Kv,KM];simp[forget,JG,ren,Jl,Jf];omega
   ·obtain rfl:off=els.length:=om;rw[Nl,bfs_nil]at hB;have d1:((0:Int)<((els.length-els.length:Nat):Int))=False:=JS;have d2:(((els.length-els.length:Nat):Int) > 0)=False:=JS;simp only[go_sem,d1];rw[<-hB];exact .row (id:=1) rfl rfl
end
def q2Ok (l:LD)(es:List LB)(bs bs2:LK)(i j:Nat)(p q:LB):Bool:=
 (!(i == j) && decide (i<es.length) && decide (j<es.length)) && (JdH l.length p q &&
 ((l.length == bs.length && (JaQ l.length (Jaz es j i) (clo (Jaz es j i)) && Qf l (clo (Jaz es j i)) (bs.map QY))) &&
 ((prl p l).length == bs2.length && (JaQ (prl p l).length (pre p q (Jaz es i j)) (clo (pre p q (Jaz es i j))) && Qf (prl p l) (clo (pre p q (Jaz es i j))) (bs2.map QY)))))
theorem vr_dregQ{N:Fr}{k:LM}{l:LD}{es:List LB}(i j:Nat)(p q:LB)(bs bs2:LK)(T':Lu)(H':Lv)(hm:P.follows .mixedOrders=true)(AP:q2Ok l es bs bs2 i j p q=true)
  (h1:vdk P E (leads P E n0 N Q T' H') l bs T H) (h2:vdk P E (leads P E n0 N Q T' H') (prl p l) bs2 T H) (AA:KD P E n0 N Q k T' H'):Ok P E n0 N Q (.code (.dreg l es)::k) T H:=by
 unfold q2Ok at AP;obtain⟨g0,r1⟩:=VX.1 AP;obtain⟨g1,r2⟩:=VX.1 r1;obtain⟨g2,g3⟩:=VX.1 r2;exact JgP hm (JcQ i j g0 (Yj bs T' H' g2 (JD _ _ _ AA) h1) (JcP p q g1 (Yj bs2 T' H' g3 (JD _ _ _ AA) h2)))
theorem nOpenE (t:Tr)(ht:t.Fit)(h:chk t≠0):Fn Gb 81 [t.cv] (.tup [.nilp,.int .i64 (chk t)]):=by
 have e:(chk t != 0)=true:=by simpa using h
 refine Jb c81_ok rfl rfl λN=>?_
 simp only[c81,go_sem,Tr.cv,Tr.row];refine JU (Jf8 t ht) ?_;simp only[go_sem,e]
theorem iz_set{v:Int}:(iz l).set i [.int .i64 v]=iz (l.set i v):=by simp[iz,Ns]
def oT (t:Tr):Lu:=[.rslc 5 (ndz t.nodes) none,.rslc 1 (iz t.items) none,.slc 1 0 t.nodes.length none,.slc 2 0 t.nodes.length (some t.nodes.length)]
section
variable(g:GoodT t o)(ht:t.Fit)
include g ht
theorem nOpen:Fn Gb 81 [t.cv] (.tup [.rptr (tRw t),.int .i64 0]):=by
 have Ag:=g.many;have aC:=g.items;have hc:chk t=0:=(Jei t).2 ⟨o,g⟩;have e:(chk t != 0)=false:=by simp[hc]
 refine Jav ?_ rfl rfl;refine Ki c81_ok λN=>?_
 simp only[c81,go_sem,Tr.cv,Tr.row];refine Je (id:=0) (z:=2) (els:=[t.row]) rfl rfl ?_;simp only[go_sem,JK,KC,frz,Kn,Tr.row];refine JU (Jf8 t ht) ?_;simp only[go_sem,e];have hz:Gs t.nodes.length [CV.int .i64 0]=iz (Yg t 0):=by rw[itemTo_zero];simp[iz]
 have hR:=repeatO (-1) t.nodes.length om;rw[<-upTo_zero g]at hR;have af:=Jc (ρ:=[0,2,1,3]) (Jh (Yg t 0));have ib:=Jc (ρ:=[0,2,1,3]) (Jh (upTo t 0));refine vr_dregQ 5 9 [0,1,2,3,4,6,7,8,9,5,10,11,12] [0,1,2,3,4,9,5,6,7,8,10,11,12] [false,false,false,false,false,true,false,false,false,true,false,true,false] [false,false,false,false,false,false,false,false,true,true,false,true,false] (gp [(1,.rptr t.row),(3,.ptr 3 0 0)] 71) [.dead,.arr 1 (iz (upTo t 0)),.arr 1 (iz (Yg t 0)),.arr 4 [oT t]] Jm vM ?_ ?_ ?_
 ·simp only[go_sem,Tr.row];refine⟨_,_,hs_row (iz [-1]) rfl rfl rfl rfl,?_⟩;simp only[go_sem,Ja];refine⟨_,_,Je6 (.inl rfl) (hR _ _),?_⟩;simp only[go_sem,Ja,hz];exact⟨⟨om,GV _,om,om⟩,Jp (by simp[forget])⟩
 ·simp only[prl,Q6,Gi,Gw,Gd,Gf,List.getD_cons_zero,List.getD_cons_succ,go_sem,Tr.row];refine⟨_,_,hs_row (iz [-1]) rfl rfl rfl rfl,?_⟩;simp only[go_sem,Ja,hz];refine⟨⟨om,GV _,om,om⟩,?_⟩;refine⟨_,_,Je6 (.inl rfl) (hR _ _),?_⟩;simp only[go_sem];refine JhB [0,2,1,3] rfl (by simp[forget,JG,ren,Jl]) ?_;simp only[KE,Gd,Gf,go_sem,Jo,Jn,af,ib];simp[JG,ren,Jl,oT]
 ·simp only[gp,Gs];simp only[go_sem,Tr.row,Ja];refine Js (I:=λi:Nat=>i<=t.nodes.length) (inv:=λi=>gp [(1,.rptr t.row),(3,.ptr 3 0 0),(24,.rslc 5 (ndz t.nodes) none),(0,.int .i64 (t.nodes.length:Int)),(0,.int .i64 (i:Int))] 44) (hp:=λi=>[.dead,.arr 1 (iz (upTo t i)),.arr 1 (iz (Yg t 0)),.arr 4 [oT t]]) (μ:=λi=>t.nodes.length-i) 0 [0,1,2,3] om rfl ?_ ?_ ?_
  ·simp[forget,JG,ren,Jl,gp,Tr.row]
  ·simp only[KE,Gd,Gf,go_sem,Jo,Jn,Jc (Jh _)];simp[JG,ren,Jl,oT]
  ·intro i hi;by_cases Ab:i<t.nodes.length
   ·have d1:=dtT i t.nodes.length;have hg:=JX Ab;have Ap:(iz (nd t i).kids).length=(nd t i).kids.length:=Jf;have Bj:=(JbM ht Ab).kidn;have fM:=upTo_succ g Ab;simp only[go_sem,d1,Ja,hg,Nd.cv,Ap];refine anO ?_;refine Je (id:=4) (z:=5) (els:=[(nd t i).cv]) rfl rfl ?_;simp only[go_sem,JK,KC,frz,Kn,oT,Gg,JJ (Jh _),Gd,Gf];refine JL (I:=λk:Nat=>k<=(nd t i).kids.length) (inv:=λk=>gp [(1,.rptr t.row),(3,.ptr 3 0 0),(0,.int .i64 (i:Int)),(23,.rslc 5 (ndz t.nodes) none),(0,.int .i64 (t.nodes.length:Int)),(0,.int .i64 (i:Int)),(5,.rslc 1 (iz (nd t i).kids) none),(0,.int .i64 ((nd t i).kids.length:Int)),(0,.int .i64 (k:Int))] 36) (hp:=λk=>[.dead,.arr 1 (iz (XB i (upTo t i) ((nd t i).kids.take k))),.arr 1 (iz (Yg t 0)),.arr 4 [oT t],.dead]) (μ:=λk=>(nd t i).kids.length-k) 0 om ?_ rfl ?_
    ·simp[forget,gp,Tr.row]
    ·intro k hk;by_cases Dk:k<(nd t i).kids.length
     ·have d2:=dtT k (nd t i).kids.length;have DK:=JF Dk;have Ay:(nd t i).kids.getD k 0∈(nd t i).kids:=by rw[Gh,Gj Dk];exact Gy Dk
      have hr:=g.kid Ab Ay;have BH:XB (i:Int) (upTo t i) ((nd t i).kids.take (k+1))=(XB (i:Int) (upTo t i) ((nd t i).kids.take k)).set ((nd t i).kids.getD k 0).toNat i:=by rw[H7 Dk,Jb4,Gh,Gj Dk];rfl
      have Ck:(XB (i:Int) (upTo t i) ((nd t i).kids.take k)).length=t.nodes.length:=by rw[JbA,Y5]
      generalize (nd t i).kids.getD k 0=c at DK hr BH;obtain⟨c,rfl⟩:∃c':Nat,c=c':=⟨c.toNat,om⟩;rw[Gc]at BH;generalize XB (i:Int) (upTo t i) ((nd t i).kids.take k)=r at BH Ck|-;have Pv:(iz r).length=t.nodes.length:=by rw[Jf,Ck]
      have EA:=JF (l:=r) (i:=c) om;simp only[go_sem,d2,Ap,DK,oT,Pv,EA,Gi,Gw,Hm,Gg,iz_set];refine⟨om,om,om,Jg,k+1,om,om,?_,?_⟩
      ·rw[BH]
      ·simp[forget,Tr.row]
     ·have d2:=dfF k (nd t i).kids.length;rw[GA om,<-fM];simp only[go_sem,d2];refine⟨Jg,i+1,[0,1,2,3],om,om,rfl,?_,?_⟩
      ·simp only[KE,Gd,Gf,go_sem,Jo,Jn,Jc (Jh _)];simp[JG,ren,Jl,oT]
      ·simp[forget,JG,ren,Jl,Tr.row]
   ·have d1:=dfF i t.nodes.length;obtain rfl:i=t.nodes.length:=om;rw[upTo_all g];simp only[go_sem,d1,Tr.row,Ja];refine Js (I:=λi:Nat=>i<=t.nodes.length/\(i=0\/i<=t.nodes.length)/\QR t i<=t.items.length) (inv:=λi=>gp [(1,.rptr t.row),(3,.ptr 3 0 0),(4,.int .i64 (QR t i:Int)),(44,.int .i64 (t.nodes.length:Int)),(0,.int .i64 (i:Int))] 20) (hp:=λi=>[.dead,.arr 1 (iz (upT t)),.arr 1 (iz (Yg t i)),.arr 4 [oT t]]) (μ:=λi=>t.nodes.length-i) 0 [0,1,2,3] ⟨om,.inl rfl,by rw[Jgm g];omega⟩ rfl ?_ ?_ ?_
    ·simp[forget,JG,ren,Jl,gp,Tr.row,Jgm g]
    ·simp only[KE,Gd,Gf,go_sem,Jo,Jn,Jc (Jh _)];simp[JG,ren,Jl,oT]
    ·rintro i ⟨hi,_,AQ⟩;by_cases Ab:i<t.nodes.length
     ·have d1:=dtT i t.nodes.length;obtain⟨L,h1,h2,h3,h4,h5⟩:=itemN_step g Ab;have OG:=itemTo_succ Ab;have Pv:(iz (Yg t i)).length=t.nodes.length:=by rw[Jf,Jgl om]
      have EA:=JF (l:=Yg t i) (i:=i) (by rw[Jgl om];exact Ab);have Ar:=JF (l:=t.items) h1;rw[h2]at Ar;have Ae:(iz t.items).length=t.items.length:=Jf;by_cases he:i=L
      ·have e1:((i:Int) == (L:Int))=true:=by simp[he]
       rw[if_pos he]at h5;simp only[go_sem,d1,Tr.row,oT,Pv,EA,Ae,Ar,e1,Gi,Gw,Hm,Gg,iz_set];refine⟨om,om,om,Jg,Jg,i+1,[0,1,2,3],⟨om,.inr om,om⟩,om,rfl,?_,?_⟩
       ·rw[<-OG];simp only[KE,Gd,Gf,go_sem,Jo,Jn,Jc (Jh _)];simp[JG,ren,Jl]
       ·rw[h5];simp[forget,JG,ren,Jl]
      ·have e1:((i:Int) == (L:Int))=false:=beq_eq_false_iff_ne.2 om;rw[if_neg he]at h5;simp only[go_sem,d1,Tr.row,oT,Pv,EA,Ae,Ar,e1,Gi,Gw,Hm,Gg,iz_set];refine⟨om,om,om,Jg,i+1,[0,1,2,3],⟨om,.inr om,om⟩,om,rfl,?_,?_⟩
       ·rw[<-OG];simp only[KE,Gd,Gf,go_sem,Jo,Jn,Jc (Jh _)];simp[JG,ren,Jl]
       ·rw[h5];simp[forget,JG,ren,Jl]
     ·have d1:=dfF i t.nodes.length;obtain rfl:i=t.nodes.length:=om;rw[itemTo_all];simp only[go_sem,d1];refine .step 1 1 (iz (upT t)) rfl (Jh _) (.step 2 1 (iz (JdS t)) ?_ (Jh _) (.step 3 4 [tRw t] ?_ rfl (.done ?_)))
      ·simp only[KC,Kn,JK,frz,oT,Gd,Gf,Ho,G9,List.getElem?_cons_succ,LW,JJ (Jh _)]
      ·have q1:(iz (upT t)).take t.nodes.length=iz (upT t):=GA (by rw[Jf,Jep];omega);have q2:(iz (JdS t)).take t.nodes.length=iz (JdS t):=GA (by rw[Jf,JcI];omega);simp[KC,Kn,JK,frz,oT,tRw,Jf,Jep,JcI,q1,q2]
      ·simp[frz,JK];exact wk.refl _
end
theorem JhR(h:∀x∈l,0<=x/\x<n) : -1<=(match l.find? q with|some d=>d|none=>-1)/\(match l.find? q with|some d=>d|none=>-1)<(n:Int):=by
 cases hf:l.find? q with
 |none=>simp;omega
 |some d=>have:=h d (GZ hf);simp only;omega
theorem Jhy : -1<=JY t o i/\JY t o i<t.nodes.length:=by
 unfold JY Jgg JdK JcC;have h:∀x∈Ql t,0<=x/\x<(t.nodes.length:Int):=λx hx=>KR.1 hx
 split
 ·exact JhR h
 ·split
  ·exact JhR h
  ·split
   ·exact JhR h
   ·omega
theorem QL:(ofL t o).length=t.nodes.length:=by simp[ofL]
theorem JeZ(h:i<t.nodes.length):(ofL t o).getD i 0=JY t o i:=by simp[ofL,Gh,h]
theorem ofL_take(h:i<t.nodes.length):(ofL t o).take (i+1)=(ofL t o).take i++[JY t o i]:=by rw[H7 (by rw[QL];exact h)];simp[ofL]
theorem ofL_ok:OfOk t (ofL t o):=⟨QL,λi hi=>by rw[QL]at hi;rw[JeZ hi];exact Jhy⟩
def resV (t:Tr)(o:Lx):CV:=match JaW t o 6 10 (Ga t.nodes.length) with
 |some r=>.tup [.agg [.rptr (tRw t),.rslc 1 (iz ((ofL t o).take r.1)) none],.int .i64 (r.1:Int),.int .i64 r.2]
 |none=>match (Ga t.nodes.length).find? (stN t o) with
  |some i=>.tup [.agg (rRw t (ofL t o)),.int .i64 (i:Int),.int .i64 9]
  |none=>.tup [.agg (rRw t (ofL t o)),.int .i64 0,.int .i64 0]
theorem resV_closed:(resV t o).closed=true:=by
 unfold resV
 split
 ·rfl
 ·split <;> rfl
theorem frzs_row{id:Nat}{x:CV}{ys:Lu}(hx:x.closed=true)(hy:Jk ys=true)(h:H[id]? = some (Xm 1 (iz l))):Frzs (.tup (.agg [x,.rslc 1 (iz l) none]::ys)) (.tup (.agg [x,Qr id (iz l)]::ys)) H:=by
 cases l with
 |nil=>exact .done (Jal ⟨Jdw ⟨wk.refl _,wk.nils,trivial⟩,wks.refl _⟩)
 |cons a l=>
  refine .step id 1 (iz (a::l)) h (Jh _) (.done ?_);have e:frz id 1 (iz (a::l)) (Qr id (iz (a::l)))=.rslc 1 (iz (a::l)) none:=by rw[Kv,YL];simp[frz]
  simp only[frz,JK,e,X6 x hx,QP ys hy];exact wk.refl _
theorem bfs_len {N:Int->Lx}(hN:∀x∈l,∀y∈N x,y∈l):∀(f:Nat) (todo out:Lx),(∀x∈todo,x∈l)->(bfsF N f todo out).length<=out.length+Y1 l out
 |0,_,out,_=>NA _ _
 |f+1,[],out,_=>NA _ _
 |f+1,x::todo,out,h=>by
  rw[bfsF]
  cases hc:out.contains x with
  |true=>rw[if_pos rfl];exact bfs_len hN f todo out λy hy=>h y (by simp[hy])
  |false=>
   rw[if_neg sM];have hx:=h x sM;have h1:=bfs_len hN f (todo++N x) (out++[x]) λy hy=>by
    rcases GN.1 hy with h2|h2
    ·exact h y (by simp[h2])
    ·exact hN x hx y h2
   have h2:=Jau hx hc;simp only[Gz,Gi,Gw]at h1;omega
theorem nResolveE0 (t:Tr)(ht:t.Fit)(h:chk t≠0):Fn Gb 51 [t.cv] (.tup [.agg [.nilp,.nils],.int .i64 0,.int .i64 (chk t)]):=by
 have e:(chk t != 0)=true:=by simpa using h
 refine Jb c51_ok rfl rfl λN=>?_
 simp only[c51,go_sem,Tr.cv,Tr.row];refine JU (nOpenE t ht h) ?_;simp only[go_sem,e]
section
variable(g:GoodT t o)(ht:t.Fit)
include g ht
theorem nResolve0:Fn Gb 51 [t.cv] (resV t o):=by
 have Ag:=g.many;refine Jav ?_ rfl resV_closed;refine Ki c51_ok λN=>?_
 simp only[c51,go_sem,Tr.cv,Tr.row];refine Je (id:=0) (z:=2) (els:=[t.row]) rfl rfl ?_;simp only[go_sem,JK,KC,frz,Kn,Tr.row];refine JU (nOpen g ht) ?_;simp only[go_sem,tRw,Ja];refine YJ ?_;simp only[go_sem,GR,GI];refine Js (I:=λi:Nat=>i<=t.nodes.length/\JaW t o 6 10 (Ga t.nodes.length)=JaW t o 6 10 ((Ga t.nodes.length).drop i)) (inv:=λi=>gp [(2,.ptr 1 0 0),(2,.rptr (tRw t)),(20,.int .i64 (t.nodes.length:Int)),(0,.int .i64 (i:Int))] 53) (hp:=λi=>[.dead,.arr 2 [[.rptr (tRw t),Qr 2 (iz ((ofL t o).take i))]],Xm 1 (iz ((ofL t o).take i))]) (μ:=λi=>t.nodes.length-i) 0 [0,1,2] ⟨om,by rw[Gg]⟩ rfl ?_ ?_ ?_
 ·simp[forget,JG,ren,Jl,gp,tRw]
 ·simp[KE,JG,ren,Xn,Qr,Xm,iz,tRw]
 ·rintro i ⟨hi,Aa⟩;have BV:((ofL t o).take i).length=i:=by rw[GQ,QL];omega
  by_cases Ab:i<t.nodes.length
  ·have d1:=dtT i t.nodes.length;have F5:=ofL_take (o:=o) Ab;rw[QD Ab,JaW]at Aa;have Cz:∀a:Int,JaW t o 6 10 (Ga t.nodes.length)=some (i,a)->resV t o=.tup [.agg [.rptr (tRw t),.rslc 1 (iz ((ofL t o).take i)) none],.int .i64 (i:Int),.int .i64 a]:=λa h=>by unfold resV;rw[h]
   generalize (ofL t o).take i=acc at BV F5 Cz|-;simp only[go_sem,d1];refine JU (nMeaning g ht Ab) ?_;simp only[go_sem];refine JU (nTwice om Ab) ?_
   cases EK:twN t i with
   |true=>rw[EK,if_pos rfl]at Aa;rw[Cz 6 Aa];simp only[go_sem];exact frzs_row rfl rfl rfl
   |false=>
    rw[EK]at Aa
    cases FZ:KI t i with
    |false=>
     rw[if_neg sM,if_neg (by rw[FZ];simp)]at Aa;simp only[go_sem,Jf,JA];refine⟨⟨om,om⟩,Jg,i+1,[0,1,4],⟨om,Aa⟩,om,rfl,?_,?_⟩
     ·rw[F5,Qp,KN,KM];simp only[KE,Gd,Gf,go_sem,Jo,Jn];simp[Jc (Jh acc),JG,ren,Jl,Jf]
     ·simp[forget,JG,ren,Jl]
    |true=>
     cases Uw:(JY t o i == -1) with
     |true=>rw[if_neg sM,if_pos (by rw[FZ,Uw];rfl)]at Aa;rw[Cz 10 Aa];simp only[go_sem,Uw];exact frzs_row rfl rfl rfl
     |false=>
      rw[if_neg sM,if_neg (by rw[FZ,Uw];simp)]at Aa;simp only[go_sem,Uw,Jf,JA];refine⟨⟨om,om⟩,Jg,i+1,[0,1,4],⟨om,Aa⟩,om,rfl,?_,?_⟩
      ·rw[F5,Qp,KN,KM];simp only[KE,Gd,Gf,go_sem,Jo,Jn];simp[Jc (Jh acc),JG,ren,Jl,Jf]
      ·simp[forget,JG,ren,Jl]
  ·have d1:=dfF i t.nodes.length;obtain rfl:i=t.nodes.length:=om;rw[show (Ga t.nodes.length).drop t.nodes.length=[] from Gv sM,JaW]at Aa;have Cz:resV t o=match (Ga t.nodes.length).find? (stN t o) with|some i=>.tup [.agg (rRw t (ofL t o)),.int .i64 (i:Int),.int .i64 9]|none=>.tup [.agg (rRw t (ofL t o)),.int .i64 0,.int .i64 0]:=by unfold resV;rw[Aa]
   rw[Cz,GA (by rw[QL];omega)];by_cases h0:t.nodes.length=0
   ·have CW:ofL t o=[]:=Vy.1 (by rw[QL];exact h0);have d2:((0:Int)<(t.nodes.length:Int))=False:=JS;have M8:Ga t.nodes.length=[]:=by rw[h0];rfl
    rw[CW,Xp,Ya,JaF,M8,G6];simp only[go_sem,d1,tRw,Ja];refine JL (σ:=Unit) (I:=λ_=>True) (inv:=λ_=>gp [(2,.ptr 1 0 0),(2,.rptr (tRw t)),(56,.int .i64 (t.nodes.length:Int)),(0,.int .i64 0)] 17) (hp:=λ_=>[.dead,.arr 2 [[.rptr (tRw t),.nils]],.dead]) (μ:=λ_=>0) () trivial ?_ rfl ?_
    ·simp[forget,gp,tRw]
    ·intro _ _;simp only[go_sem,d2];exact .done (Jal ⟨Jdw ⟨wk.refl _,wk.nils,trivial⟩,wks.refl _⟩)
   ·have RF:iz (ofL t o)≠[]:=by intro e;have:=congrArg Nt e;rw[Jf,QL]at this;exact h0 (by simpa using this)
    have Bn:=QL (t:=t) (o:=o);rw[Jae RF,YM RF,Jf,Bn];simp only[go_sem,d1,tRw,Ja];refine Je (id:=2) (z:=1) (els:=iz (ofL t o)) rfl (Jh _) ?_;have Fg:Hy t.nodes.length (iz (ofL t o))=iz (ofL t o):=GA (by rw[Jf,Bn];omega);simp only[go_sem,JK,KC,frz,Kn,Gd,Gf,Gg,G8,if_true,Jf,Bn,GG,Fg,Ho,G9];refine Js (I:=λi:Nat=>i<=t.nodes.length/\(Ga t.nodes.length).find? (stN t o)=((Ga t.nodes.length).drop i).find? (stN t o)) (inv:=λi=>gp [(2,.ptr 1 0 0),(2,.rptr (tRw t)),(56,.int .i64 (t.nodes.length:Int)),(0,.int .i64 (i:Int))] 17) (hp:=λ_=>[.dead,.arr 2 [rRw t (ofL t o)],.dead]) (μ:=λi=>t.nodes.length-i) 0 [0,1,2] ⟨om,by rw[Gg]⟩ rfl ?_ ?_ ?_
    ·simp[forget,JG,ren,Jl,gp,tRw]
    ·simp[KE,JG,ren,Xn,rRw,tRw]
    ·rintro i ⟨hi,Aa⟩;by_cases Ab:i<t.nodes.length
     ·have d1:=dtT i t.nodes.length;rw[QD Ab,GJ]at Aa;simp only[go_sem,d1];refine JU (nKind t Ab) ?_
      cases hk:((nd t i).k == 41) with
      |false=>
       have Al:stN t o i=false:=by unfold stN;rw[hk];rfl
       rw[Al]at Aa;simp only[go_sem,kbE,hk];refine⟨Jg,i+1,[0,1,2],⟨om,Aa⟩,om,rfl,?_,?_⟩
       ·simp[KE,JG,ren,Xn,rRw]
       ·simp[forget,JG,ren,Jl]
      |true=>
       have Al:stN t o i=(bfs (λx=>XN t o (ofL t o) x.toNat) (Ql t) (XN t o (ofL t o) i) []).contains (i:Int):=by unfold stN;rw[hk,Gn]
       have hA:=(nAll g ht (ofL_ok (o:=o)) Ab (beq_iff_eq.1 hk)).fn rfl (Jh _);have Bo:(bfs (λx=>XN t o (ofL t o) x.toNat) (Ql t) (XN t o (ofL t o) i) []).length<=100000:=by
        have h1:=bfs_len (N:=λx=>XN t o (ofL t o) x.toNat) (l:=Ql t) (λx hx=>(needN_ok x hx).1) (muB (Ql t) (XN t o (ofL t o) i) []+1) (XN t o (ofL t o) i) [] (λx hx=>(Gt.1 hx).1);have h2:=JcG (l:=Ql t) (out:=[]);have h3:(Ql t).length=t.nodes.length:=by simp[Ql]
        simp only[Gw]at h1;show (bfsF _ _ _ _).length<=_;omega
       generalize bfs (λx=>XN t o (ofL t o) x.toNat) (Ql t) (XN t o (ofL t o) i) []=B at Al hA Bo;simp only[go_sem,kbE,hk,rRw];refine Ka (gok rfl) hA ?_;simp only[go_sem];refine Ka (gok rfl) (containsI B (i:Int) Bo) ?_
       cases hc:B.contains (i:Int) with
       |false=>
        rw[Al,hc]at Aa;simp only[go_sem];refine⟨Jg,i+1,[0,1,2],⟨om,Aa⟩,om,rfl,?_,?_⟩
        ·simp[KE,JG,ren,Xn]
        ·simp[forget,JG,ren,Jl]
       |true=>rw[Al,hc]at Aa;rw[Aa];simp only[go_sem];exact .done (wk.refl _)
     ·have d1:=dfF i t.nodes.length;rw[show (Ga t.nodes.length).drop i=[] from Gv (by simp;omega),G6]at Aa;rw[Aa];simp only[go_sem,d1,rRw];exact .done (wk.refl _)
theorem nResolve:Fn Gb 29 [t.cv] (if (XY t o).2=0 then .tup [.agg [.rslc 1 (iz (ofL t o)) none],.int .i64 0,.int .i64 0] else .tup [.agg [.nils],.int .i64 ((XY t o).1:Int),.int .i64 (XY t o).2]):=by
 have hV:=nResolve0 g ht;refine Jb c29_ok rfl (by split <;> rfl) λN=>?_
 simp only[c29,go_sem,Tr.cv,Tr.row];refine JU hV ?_;unfold XY resV
 cases hs:JaW t o 6 10 (Ga t.nodes.length) with
 |some r=>
  have hr:∀l:LB,JaW t o 6 10 l=some r->r.2=6\/r.2=10:=by
   intro l
   induction l with
   |nil=>intro h;cases h
   |cons x l ih=>
    intro h;rw[JaW]at h
    split at h
    ·cases h;exact .inl rfl
    ·split at h
     ·cases h;exact .inr rfl
     ·exact ih h
  have h2:=hr _ hs;have e1:(r.2 != 0)=true:=bne_iff_ne.2 om;simp only;rw[iN7];simp only[go_sem,e1]
 |none=>
  simp only
  cases hf:(Ga t.nodes.length).find? (stN t o) with
  |some i=>simp only;rw[if_neg vk];simp only[go_sem,rRw]
  |none=>simp only[if_true];simp only[go_sem,rRw]
end
theorem nResolveE (t:Tr)(ht:t.Fit)(h:chk t≠0):Fn Gb 29 [t.cv] (.tup [.agg [.nils],.int .i64 0,.int .i64 (chk t)]):=by
 have e:(chk t != 0)=true:=by simpa using h
 refine Jb c29_ok rfl rfl λN=>?_
 simp only[c29,go_sem,Tr.cv,Tr.row];refine JU (nResolveE0 t ht h) ?_;simp only[go_sem,e]
section
variable(g:GoodT t o)(ht:t.Fit)
include g ht
end
theorem vr_pc{N:Fr}{k:LM}{d:Option Nat}{g:Option (Nat×Bool)}{xa:LP}{l:LD}{v:CV}(hg:GOk T g)(Ah:Pure P E f (xa.map (Kg T)) H v)(h:KD P E n0 N Q (.ops l::k) (put T d v) H):Ok P E n0 N Q (.ops (⟨d,.call f xa,g⟩::l)::k) T H:=Kt hg Ah λv' H' ⟨h1,h2⟩=>by rw[h1,h2];exact h
theorem indexFP(l:Lx)(q:Int->Bool)(hF:Jd Gb f=some F)
  (hq:∀p∈l,Pure Gb E f (l1++[.int .i64 p]++l2) H (.bool (q p))) (Ad:l.length<=1000000):Pure Gb E 41 [.rslc 1 (iz l) none,.fn f l1 l2] H (.int .i64 (XG q l 0)):=by
 have Ae:(iz l).length=l.length:=Jf;refine Ki c41_ok λN=>?_
 simp only[c41,go_sem,Ae];refine JL (I:=λi:Nat=>i<=l.length/\XG q l 0=XG q (l.drop i) i) (inv:=λi=>gp [(0,.rslc 1 (iz l) none),(0,.fn f l1 l2),(5,.int .i64 l.length),(0,.int .i64 i)] 10) (hp:=λ_=>H) (μ:=λi=>l.length-i) 0 ⟨om,rfl⟩ ?_ rfl ?_
 ·simp[forget,gp]
 ·rintro i ⟨hi,Aa⟩;by_cases Ab:i<l.length
  ·have d1:=dtT i l.length;have Ar:=JF Ab;have BL:l[i]? = some (l.getD i 0):=by rw[Gh,Gj Ab];rfl
   have hm:l.getD i 0∈l:=Lt BL;rw[Xd BL]at Aa;simp only[go_sem,Ae,d1,Ar];refine anO ?_;refine vr_pcallv (.inl rfl) rfl hF (Jcz pNames _) (hq _ hm) ?_
   cases hb:q (l.getD i 0) with
   |true=>rw[hb,if_pos rfl]at Aa;simp only[go_sem,Aa]
   |false=>rw[hb]at Aa;simp only[go_sem];refine⟨Jg,i+1,⟨om,by simpa using Aa⟩,om,?_⟩;simp[forget]
  ·have d1:=dfF i l.length;rw[Gv om]at Aa;simp only[go_sem,d1,Aa,XG]
theorem containsFP(l:Lx)(q:Int->Bool)(hF:Jd Gb f=some F)
  (hq:∀p∈l,Pure Gb E f (l1++[.int .i64 p]++l2) H (.bool (q p))) (Ad:l.length<=1000000):Pure Gb E 44 [.rslc 1 (iz l) none,.fn f l1 l2] H (.bool (l.any q)):=by
 refine Ki c44_ok λN=>?_
 simp only[c44,go_sem];refine vr_pc (.inl rfl) (indexFP l q hF hq Ad) ?_;simp only[go_sem,Jaa]
section
variable(g:GoodT t o)(ht:t.Fit)
include g ht
end
def bb (l:LK):LQ:=l.map λb=>[.bool b]
theorem bb_len {l:LK}:(bb l).length=l.length:=by simp[bb]
theorem bb_get {l:LK}(h:i<l.length):(bb l).getD i []=[.bool (l.getD i false)]:=by simp[bb,Gh,Gj h]
theorem Xq:∀(l:LK),Jq (bb l)=true
 |[]=>rfl
 |x::l=>by simp[bb,Jq,Jk,CV.closed];exact Xq l
theorem bb_set {l:LK}{b:Bool}:(bb l).set i [.bool b]=bb (l.set i b):=by simp[bb,Ns]
theorem bb_rep:Gs n [CV.bool false]=bb (Gs n false):=by simp[bb]
def JdO (l:LK)(i:Nat):Lx:=((Ga i).filter λj=>l.getD j false).map λj:Nat=>(j:Int)
theorem setTo_succ {l:LK}:JdO l (i+1)=JdO l i++if l.getD i false=true then [(i:Int)] else []:=by
 unfold JdO;rw[Lg,Ld,Ht,vg,Nq]
 split <;> rfl
theorem setTo_len {l:LK}:(JdO l i).length<=i:=by unfold JdO;rw[Lh];exact GY (GM _ _) sM
theorem refSet (l:LK)(hl:l.length<=100000):JfG Gb 102 [.rslc 1 (bb l) none] 1 (iz (setL l)):=by
 have Bo:(bb l).length=l.length:=bb_len;refine Jfd (Ki c102_ok λN=>?_) rfl (Jh _);simp only[c102,go_sem];refine Js (I:=λi:Nat=>i<=l.length) (inv:=λi=>gp [(0,.rslc 1 (bb l) none),(2,.slc 0 0 (iz (JdO l i)).length (Jej (iz (JdO l i)))),(0,.int .i64 (i:Int))] 16) (hp:=λi=>[.arr 1 (iz (JdO l i))]) (μ:=λi=>l.length-i) 0 [0] om rfl ?_ ?_ ?_
 ·simp[forget,JG,ren,Jl,gp,JdO,iz,Jej]
 ·simp[KE,Xn,JdO,iz]
 ·intro i hi;by_cases Ab:i<l.length
  ·have d1:=dtT i l.length;have Ar:=bb_get Ab;have Al:=setTo_succ (l:=l) (i:=i);have Ck:=setTo_len (l:=l) (i:=i);have Az:=Jc (ρ:=[0]) (Jh (JdO l i));have aT:=Jc (ρ:=[2]) (Jh (JdO l i))
   cases hb:l.getD i false with
   |false=>
    rw[hb,if_neg sM,Gr]at Al;rw[hb]at Ar;simp only[go_sem,Bo,d1,Ar];refine⟨om,Jg,i+1,[0],om,om,rfl,?_,?_⟩
    ·rw[Al];simp only[KE,Gd,Gf,go_sem,Jo,Az]
    ·rw[Al];simp[forget,JG,ren,Jl]
   |true=>
    rw[hb,if_pos rfl]at Al;rw[hb]at Ar;simp only[go_sem,Bo,d1,Ar,JA,Jf];refine⟨om,⟨om,om⟩,Jg,i+1,[2],om,om,rfl,?_,?_⟩
    ·rw[Al,Qp];simp only[KE,Gd,Gf,go_sem,Jo];simp[aT,JG,ren]
    ·rw[Al,Qp,Yz];simp[forget,JG,ren,Jl]
  ·have d1:=dfF i l.length;obtain rfl:i=l.length:=om;simp only[go_sem,Bo,d1];exact⟨0,rfl,rfl⟩
theorem refHas3 (l:Lx)(x:Int)(hl:l.length<=100000):Fn Gb 60 [.rslc 1 (iz l) none,.int .i64 x] (.bool (l.contains x)):=by
 have Ae:(iz l).length=l.length:=Jf;refine Jb c60_ok rfl rfl λN=>?_
 simp only[c60,go_sem];refine JL (I:=λi:Nat=>i<=l.length/\l.contains x=(l.drop i).contains x) (inv:=λi=>gp [(0,.rslc 1 (iz l) none),(0,.int .i64 x),(3,.int .i64 (i:Int))] 12) (hp:=λ_=>[]) (μ:=λi=>l.length-i) 0 ⟨om,rfl⟩ ?_ rfl ?_
 ·simp[forget,gp]
 ·rintro i ⟨hi,Aa⟩;by_cases Ab:i<l.length
  ·have d1:=dtT i l.length;have Ar:=JF Ab;rw[GH Ab,Nb,show l[i]=l.getD i 0 by rw[Gh,Gj Ab];rfl]at Aa;generalize l.getD i 0=y at Aa Ar;have hc:(x == y)=(y == x):=by rw[GD,beq_iff_eq,beq_iff_eq];exact⟨Eq.symm,Eq.symm⟩
   rw[hc]at Aa
   cases he:(y == x) with
   |true=>rw[he,GU]at Aa;simp only[go_sem,Ae,d1,Ar,he,Aa];omega
   |false=>rw[he,Gu]at Aa;simp only[go_sem,Ae,d1,Ar,he];refine⟨om,Jg,i+1,⟨om,Aa⟩,om,?_⟩;simp[forget]
  ·have d1:=dfF i l.length;rw[show l.drop i=[] from Gv om,Ni]at Aa;simp only[go_sem,Ae,d1,Aa]
section
variable(g:GoodT t o)(ht:t.Fit)
include g ht
theorem refNeeds {of:Lx}(ho:OfOk t of){s:Nat}(hs:s<t.nodes.length)(hk:(nd t s).k=41):JfG Gb 101 [t.cv,.rslc 1 (iz of) none,.int .i64 (s:Int)] 1 (iz (Y0 t o of s)):=by
 have Ag:=g.many;have Bd:(iz of).length=t.nodes.length:=by rw[Jf,ho.len]
 have Rm:=set_kid g hs hk;have CG:Ji t s<t.nodes.length:=by have:=(J3 g hs Rm.1).2;omega
 rw[needR_eq];refine Jfd (Ki c101_ok λN=>?_) rfl (Jh _);simp only[c101,go_sem,Tr.cv,Tr.row];refine Je (id:=0) (z:=2) (els:=[t.row]) rfl rfl ?_;simp only[go_sem,JK,KC,frz,Kn,Gd,Gf];refine JaD [false,false,false,true,false,false,false,false,false] Jm vM ?_;simp only[go_sem,Tr.row,Ja];refine⟨⟨om,GV _,om,om⟩,?_⟩;refine vh_f (Ja9 g ht hs) ?_;simp only[go_sem];rw[bb_rep,<-JdN];have Pe:∀(i:Nat) (p:Nat->Bool),(Ga (i+1)).any p=((Ga i).any p || p i):=λi p=>by rw[Lg,List.any_append,GL,GX,Hf]
 refine Js (I:=λi:Nat=>i<=t.nodes.length) (inv:=λi=>gp [(1,.rslc 1 (iz of) none),(0,.int .i64 (s:Int)),(0,.rptr t.row),(3,.slc 1 0 t.nodes.length (some t.nodes.length)),(0,.int .i64 (Ky t s)),(0,.int .i64 (i:Int))] 73) (hp:=λi=>[.dead,.arr 1 (bb (KW t.nodes.length λx=>(Ga i).any (JbT t o of s x)))]) (μ:=λi=>t.nodes.length-i) 0 [0,1] om rfl ?_ ?_ ?_
 ·simp[forget,JG,ren,Jl,gp,Tr.row]
 ·simp only[KE,Gd,Gf,go_sem,Jo,Jn,Jc (Xq _)];rfl
 ·intro i hi;have Az:=Jc (ρ:=[0,1]) (Xq (KW t.nodes.length λx=>(Ga i).any (JbT t o of s x)));by_cases Ab:i<t.nodes.length
  ·have d1:=dtT i t.nodes.length;have Ar:=JF (l:=of) (i:=i) (by rw[ho.len];exact Ab);have PG:=JX Ab;have ZA:=ho.rng i (by rw[ho.len];exact Ab);have aP:=ho.dft (i:=i) (by rw[ho.len];exact Ab);have hQ:∀x,JbT t o of s x i=((nd t i).k == 3 && (decide (0<=of.getD i 0) && (Jb0 o i (Ji t s) && ((nd t (of.getD i 0).toNat).k == 42 && (Ky t (of.getD i 0).toNat == x && (Ky t x.toNat == Ky t s && !tdL t (upL t (Ji t s) t.nodes.length i).reverse false)))))):=λx=>by unfold JbT;rw[aP]
   have Cc:(∀x,JbT t o of s x i=false)->(KW t.nodes.length λx=>(Ga (i+1)).any (JbT t o of s x))=KW t.nodes.length λx=>(Ga i).any (JbT t o of s x):=λh=>boolsN_congr λj hj=>by rw[Pe,h,Hf]
   generalize of.getD i 0=m at Ar ZA hQ;simp only[go_sem,d1,Tr.row,Ja];refine JQ Jm vk ?_
   cases h3:((nd t i).k == 3) with
   |false=>
    have AY:=Cc λx=>by rw[hQ,h3,Gq]
    simp only[go_sem,Ja,PG,Nd.cv,kbN,h3,Gm];refine⟨om,Jg,i+1,[0,1],om,om,rfl,?_,?_⟩
    ·rw[AY];simp only[KE,Gd,Gf,go_sem,Jo,Az,Jn]
    ·simp[forget,JG,ren,Jl]
   |true=>
    rcases Nw m 0 with RX|RX
    ·have e1:decide (m<0)=true:=decide_eq_true RX;have AY:=Cc λx=>by rw[hQ,decide_eq_false om,Gq,G7]
     simp only[go_sem,Ja,PG,Nd.cv,kbN,h3,Gl,Bd,Ar,e1];refine⟨om,om,Jg,i+1,[0,1],om,om,rfl,?_,?_⟩
     ·rw[AY];simp only[KE,Gd,Gf,go_sem,Jo,Az,Jn]
     ·simp[forget,JG,ren,Jl]
    ·have e1:decide (m<0)=false:=decide_eq_false om;obtain⟨m,rfl⟩:∃m':Nat,m=m':=⟨m.toNat,om⟩;have F7:m<t.nodes.length:=om;have Oj:=JX F7;simp only[go_sem,Ja,PG,Nd.cv,kbN,h3,Gl,Bd,Ar,e1];refine⟨om,om,?_⟩;refine Kc (gok rfl) (Yn g ht hs Rm.2) ?_;simp only[go_sem];refine Kc (gok rfl) (Jaq g ht CG) ?_
     cases hb:Jb0 o i (Ji t s) with
     |false=>
      have AY:=Cc λx=>by rw[hQ,hb,Gq,G7,G7]
      simp only[go_sem,Gm];refine⟨Jg,i+1,[0,1],om,om,rfl,?_,?_⟩
      ·rw[AY];simp only[KE,Gd,Gf,go_sem,Jo,Az,Jn]
      ·simp[forget,JG,ren,Jl]
     |true=>
      cases Ci:((nd t m).k == 42) with
      |false=>
       have AY:=Cc λx=>by rw[hQ,Gc,Ci,Gq,G7,G7,G7]
       simp only[go_sem,Gl,Ja,Bd,Ar,Oj,Nd.cv,kbN,Ci,Gm];refine⟨om,om,Jg,i+1,[0,1],om,om,rfl,?_,?_⟩
       ·rw[AY];simp only[KE,Gd,Gf,go_sem,Jo,Az,Jn]
       ·simp[forget,JG,ren,Jl]
      |true=>
       have k42:(nd t m).k=42:=beq_iff_eq.1 Ci;obtain⟨v,M0,EI,_,_⟩:=QO g F7 om;have dV:=Ja9 g ht F7;rw[M0]at dV;have UG:∀x,JbT t o of s x i=(((v:Int) == x) && (Ky t x.toNat == Ky t s && !tdL t (upL t (Ji t s) t.nodes.length i).reverse false)):=λx=>by rw[hQ,h3,hb,Gc,Ci,M0,decide_eq_true om];rfl
       simp only[go_sem,Gl,Ja,Bd,Ar,Oj,Nd.cv,kbN,Ci];refine⟨om,om,?_⟩;refine JQ Jm vk ?_;simp only[go_sem,Bd,Ar];refine anO ?_;refine Kc (.inl rfl) dV ?_;simp only[go_sem];refine JU (Ja9 g ht EI) ?_
       cases Db:(Ky t v == Ky t s) with
       |false=>
        have AY:=Cc λx=>by
         rw[UG]
         cases hx:((v:Int) == x) with
         |false=>rfl
         |true=>have:=beq_iff_eq.1 hx;rw[<-this,Gc,Db];rfl
        simp only[go_sem,Db];refine⟨Jg,i+1,[0,1],om,om,rfl,?_,?_⟩
        ·rw[AY];simp only[KE,Gd,Gf,go_sem,Jo,Az,Jn]
        ·simp[forget,JG,ren,Jl]
       |true=>
        simp only[go_sem,Db];refine Ka (gok rfl) (refLate g ht hs hk (Q0.1 hb)) ?_
        cases hl:tdL t (upL t (Ji t s) t.nodes.length i).reverse false with
        |true=>
         have AY:=Cc λx=>by rw[UG,hl];simp
         simp only[go_sem,Gl];refine⟨Jg,i+1,[0,1],om,om,rfl,?_,?_⟩
         ·rw[AY];simp only[KE,Gd,Gf,go_sem,Jo,Az,Jn]
         ·simp[forget,JG,ren,Jl]
        |false=>
         have BJ:(KW t.nodes.length λx=>(Ga i).any (JbT t o of s x)).set v true=KW t.nodes.length λx=>(Ga (i+1)).any (JbT t o of s x):=by
          refine JgD EI (λj hj Ai=>?_) ?_
          ·rw[Pe,UG,beq_eq_false_iff_ne.2 (show (v:Int)≠(j:Int) by omega),Gq,Hf]
          ·rw[Pe,UG,Gc,Db,hl];simp
         have Bo:(bb (KW t.nodes.length λx=>(Ga i).any (JbT t o of s x))).length=t.nodes.length:=by rw[bb_len,QV]
         have Mh:=bb_get (l:=KW t.nodes.length λx=>(Ga i).any (JbT t o of s x)) (i:=v) (by rw[QV];exact EI);simp only[go_sem,Gm,Bo,Mh,Gi,Gw,Hm,Gg,bb_set,BJ];refine⟨om,om,Jg,i+1,[0,1],om,om,rfl,?_,?_⟩
         ·simp only[KE,Gd,Gf,go_sem,Jo,Jc (Xq _),Jn]
         ·simp[forget,JG,ren,Jl]
  ·have d1:=dfF i t.nodes.length;obtain rfl:i=t.nodes.length:=om;have Bo:(bb (KW t.nodes.length λx=>(Ga t.nodes.length).any (JbT t o of s x))).length=t.nodes.length:=by rw[bb_len,QV]
   simp only[go_sem,d1,Tr.row,Ja];refine Je (id:=1) (z:=1) (els:=bb (KW t.nodes.length λx=>(Ga t.nodes.length).any (JbT t o of s x))) rfl (Xq _) ?_;have Fg:=GA (l:=bb (KW t.nodes.length λx=>(Ga t.nodes.length).any (JbT t o of s x))) (i:=t.nodes.length) (by rw[Bo];omega);simp only[go_sem,JK,KC,frz,Kn,Gd,Gf,Gg,G8,if_true,Bo,GG,Fg,Ho,G9];refine vr_rowW (.inl rfl) (refSet _ (by rw[QV];omega)) ?_;simp only[go_sem];exact⟨2,rfl,rfl⟩
end
theorem needR_ok{of:Lx}:∀x∈Ql t,(∀y∈Y0 t o of x.toNat,y∈Ql t)/\(Y0 t o of x.toNat).length<=(Ql t).length:=λx _=>⟨λy hy=>(Gt.1 hy).1,GM _ _⟩
def todoW (els:Lx)(off:Nat):CV:=.slc 2 off (els.length-off) (Jej (iz els))
theorem Jfw {els:Lx}(h:els≠[]):Jej (iz els)=none:=by cases els with
 |nil=>exact absurd rfl h
 |cons x l=>rfl
section
variable(g:GoodT t o)(ht:t.Fit)
include g ht
theorem refReached {of:Lx}(ho:OfOk t of){s:Nat}(hs:s<t.nodes.length)(hk:(nd t s).k=41):JfG Gb 61 [t.cv,.rslc 1 (iz of) none,.int .i64 (s:Int)] 1 (iz ((Ql t).filter λx=>(bfs (λx=>Y0 t o of x.toNat) (Ql t) (Y0 t o of s) []).contains x)):=by
 have Ag:=g.many;have Am:(Ql t).length=t.nodes.length:=by simp[Ql]
 refine Jfd (Ki c61_ok λN=>?_) rfl (Jh _);simp only[c61,go_sem,Tr.cv,Tr.row,Ja];refine⟨⟨om,GV _,om,om⟩,?_⟩;refine Je (id:=0) (z:=2) (els:=[t.row]) rfl rfl ?_;simp only[go_sem,JK,KC,frz,Kn,Gd,Gf,List.map_replicate,Tr.row];refine vr_rowW (.inl rfl) (refNeeds g ht ho hs hk) ?_;simp only[go_sem];have BJ:∀s':Nat,s' < t.nodes.length->(nd t s').k=41->∀x∈Y0 t o of s',0<=x/\x<t.nodes.length/\(nd t x.toNat).k=41:=λs' h1 h2 x hx=>by rw[<-need_eq g h1 h2]at hx;exact Jd8 g hx
 generalize hN:(λx:Int=>Y0 t o of x.toNat)=Nf;have Fw:∀x∈Ql t,(∀y∈Nf x,y∈Ql t)/\(Nf x).length<=(Ql t).length:=by rw[<-hN];exact needR_ok
 have IA:∀x:Nat,x<t.nodes.length->(nd t x).k=41->∀y∈Nf x,0<=y/\y<t.nodes.length/\(nd t y.toNat).k=41:=λx h1 h2 y hy=>by rw[<-hN]at hy;simp only[Gc]at hy;exact BJ x h1 h2 y hy
 have h0:=BJ s hs hk;have IP:(Y0 t o of s).length<=t.nodes.length:=by rw[<-Am];exact GM _ _
 generalize Y0 t o of s=T0 at h0 IP|-;generalize hR:bfs Nf (Ql t) T0 []=R;have Al:Y1 (Ql t) []*((Ql t).length+1)<=700*701:=NB (GY JcG om) om;have iW:(KW t.nodes.length λx=>([]:Lx).contains x)=Gs t.nodes.length false:=by rw[<-JdN];rfl
 rw[bb_rep,<-iW];refine Js (σ:=Lx×Nat×Lx) (I:=λs'=>s'.2.1<=s'.1.length/\(∀x∈s'.1,0<=x/\x<t.nodes.length/\(nd t x.toNat).k=41)/\bfs Nf (Ql t) (s'.1.drop s'.2.1) s'.2.2=R/\muB (Ql t) (s'.1.drop s'.2.1) s'.2.2<=1000000)
  (inv:=λs'=>gp [(1,.rslc 1 (iz of) none),(1,.rptr t.row),(3,.slc 1 0 t.nodes.length (some t.nodes.length)),(0,todoW s'.1 s'.2.1)] 33) (hp:=λs'=>[.dead,.arr 1 (bb (KW t.nodes.length λx=>s'.2.2.contains x)),.arr 1 (iz s'.1)]) (μ:=λs'=>muB (Ql t) (s'.1.drop s'.2.1) s'.2.2) (T0,0,[]) [0,1,2] ⟨sM,h0,by simpa using hR,by simp only[Gg,muB];omega⟩ rfl ?_ ?_ ?_
 ·simp[forget,JG,ren,Jl,gp,todoW,rowW,Tr.row,Jf]
 ·simp only[KE,Gd,Gf,go_sem,Jo,Jc (Jh T0),Jc (Xq _),Jn]
 ·rintro⟨els,off,out⟩ ⟨MC,hP,hB,MH⟩
  dsimp only at MC hP hB MH
  have Fq:(iz els).length=els.length:=Jf;by_cases Ab:off<els.length
  ·have Ai:els≠[]:=by rintro rfl;simp at Ab
   have d1:((0:Int)<((els.length-off:Nat):Int))=True:=J4;have d2:(((els.length-off:Nat):Int) > 0)=True:=J4;have Ar:=JF Ab;have Ie:els.drop off=els.getD off 0::els.drop (off+1):=by rw[GH Ab,Gh,Gj Ab];rfl
   have Ay:els.getD off 0∈els:=by rw[Gh,Gj Ab];exact Gy Ab
   have SV:=hP _ Ay;have Aj:∀y∈els.drop off,y∈Ql t:=λy hy=>by have:=hP y (Lb hy);exact KR.2 ⟨this.1,this.2.1⟩
   rw[Ie]at hB Aj MH|-;have OV:=MH;simp only[muB,Gi]at OV;generalize hx:els.getD off 0=x at Ar SV hB Aj MH|-;obtain⟨xn,rfl⟩:∃x':Nat,x=x':=⟨x.toNat,om⟩;have PX:(xn:Int)∈Ql t:=Aj xn sM;have Ih:=SV.2.2;rw[Gc]at Ih;have FW:xn<t.nodes.length:=om
   have Bo:(bb (KW t.nodes.length λx=>out.contains x)).length=t.nodes.length:=by rw[bb_len,QV]
   have Mh:=bb_get (l:=KW t.nodes.length λx=>out.contains x) (i:=xn) (by rw[QV];exact FW);rw[JgE FW]at Mh
   cases hc:out.contains (xn:Int) with
   |true=>
    rw[hc]at Mh;rw[bfs_old Fw Aj hc]at hB;simp only[go_sem,todoW,Jfw Ai,d1,Fq,Ar,Hg,Bo,Mh,Gl];refine⟨om,⟨om,GV _⟩,om,om,(els,off+1,out),[0,1,2],⟨by simp only;omega,hP,hB,by simp only[muB];omega⟩,by simp only[muB,Gi];omega,rfl,?_,?_⟩
    ·simp only[KE,Gd,Gf,go_sem,Jo,Jc (Jh els),Jc (Xq _),Jn]
    ·simp[forget,JG,ren,Jl,Jfw Ai];omega
   |false=>
    rw[hc]at Mh;rw[bfs_new Fw Aj hc]at hB;have Cu:=Jau PX hc;have ax:=HZ ((Ql t).length+1) (show Y1 (Ql t) (out++[(xn:Int)])+1<=Y1 (Ql t) out from Cu);rw[H6,Lm]at ax;have Dt:=(Fw xn PX).2;have bE:Y0 t o of xn=Nf (xn:Int):=by rw[<-hN];simp only[Gc]
    have Rc:=IA xn FW Ih;have SX:=(refNeeds g ht ho FW Ih).fn rfl (Jh _);rw[bE]at SX;have Ro:(KW t.nodes.length λx=>out.contains x).set xn true=KW t.nodes.length λx=>(out++[(xn:Int)]).contains x:=by refine JgD FW (λj hj Ai=>?_) sM;have:((j:Int) == (xn:Int))=false:=beq_eq_false_iff_ne.2 om;simp[];omega
    simp only[go_sem,todoW,Jfw Ai,d1,Fq,Ar,Hg,Bo,Mh,Gm,Gi,Gw,Hm,Gg,bb_set,Ro,Tr.row];refine⟨om,⟨om,GV _⟩,om,om,om,om,?_⟩;refine JU SX ?_;generalize Nf (xn:Int)=M at Dt Rc hB|-;have Pb:off+1+(els.length-off-1)=els.length:=om
    have O9:(off+1+(els.length-off-1)=els.length)=True:=eq_true Pb;have hd:=Nk (i:=off+1) (l:=els)
    cases M with
    |nil=>
     simp only[go_sem,Xp];rw[Gr]at hB;refine⟨(els,off+1,out++[(xn:Int)]),[0,1,2],⟨by simp only;omega,hP,hB,by simp only[muB];omega⟩,by simp only[muB,Gi];omega,rfl,?_,?_⟩
     ·simp only[KE,Gd,Gf,go_sem,Jo,Jc (Jh els),Jc (Xq _),Jn]
     ·simp[forget,JG,ren,Jl,Jfw Ai];omega
    |cons y ys=>
     simp only[go_sem,Kv,Fq,O9,Jf,JA];simp only[Gi]at Dt;refine⟨⟨om,om⟩,(els.drop (off+1)++y::ys,0,out++[(xn:Int)]),[0,1,3],⟨sM,λz hz=>?_,by simpa using hB,by simp only[Gg,muB,Gz,Gi];omega⟩,by simp only[Gg,muB,Gz,Gi];omega,rfl,?_,?_⟩
     ·rcases GN.1 hz with h|h
      ·exact hP z (Lb h)
      ·exact Rc z h
     ·rw[K7,Kv,<-JhE];simp only[KE,Gd,Gf,go_sem,Jo,Jn,Jc (Xq _)];rw[JhE];simp[Jc (Jh (els.drop (off+1))),Jc (Jh ys),JG,ren]
     ·rw[Jfw (show els.drop (off+1)++y::ys≠[] by simp)];simp[forget,JG,ren,Jl];omega
  ·obtain rfl:off=els.length:=om;rw[Nl,bfs_nil]at hB;have Bo:(bb (KW t.nodes.length λx=>out.contains x)).length=t.nodes.length:=by rw[bb_len,QV]
   have d1:((0:Int)<((els.length-els.length:Nat):Int))=False:=JS;have d2:(((els.length-els.length:Nat):Int) > 0)=False:=JS;simp only[go_sem,todoW,d1];refine Je (id:=1) (z:=1) (els:=bb (KW t.nodes.length λx=>out.contains x)) rfl (Xq _) ?_;have Fg:=GA (l:=bb (KW t.nodes.length λx=>out.contains x)) (i:=t.nodes.length) (by rw[Bo];omega);simp only[go_sem,JK,KC,frz,Kn,Gd,Gf,Gg,G8,if_true,Bo,GG,Fg,Ho,G9,JJ (Jh _)];refine vr_rowW (.inl rfl) (refSet _ (by rw[QV];omega)) ?_;rw[<-hB,<-JfY (t:=t) (f:=λx=>out.contains x)];simp only[go_sem];exact⟨3,rfl,rfl⟩
theorem refResolve:Fn Gb 33 [t.cv] (if (resR t o).2=0 then .tup [.rslc 1 (iz (ofL t o)) none,.int .i64 0,.int .i64 0] else .tup [.rslc 1 [] none,.int .i64 ((resR t o).1:Int),.int .i64 (resR t o).2]):=by
 have Ag:=g.many;have aV:chk t=0:=(Jei t).2 ⟨o,g⟩;have e0:(chk t != 0)=false:=by simp[aV]
 refine Jav ?_ rfl (by split <;> rfl);refine Ki c33_ok λN=>?_
 simp only[c33,go_sem,Tr.cv,Tr.row];refine Je (id:=0) (z:=2) (els:=[t.row]) rfl rfl ?_;simp only[go_sem,JK,KC,frz,Kn,Gd,Gf,Tr.row];refine JU (refCheck t ht) ?_;simp only[go_sem,e0];have AR:∀{k:Nat} {y:Lu} {H:Lv},H[k]? = some (.arr 1 [])->Jk y=true->Frzs (.tup (.rslc 1 [] none::y)) (.tup (.slc k 0 0 (some 0)::y)) H:=λh hy=>.step _ 1 [] h rfl (.done (by simp only[frz,JK,if_true,QP _ hy];exact wk.refl _))
 have BB:∀(i:Nat) (a:Int),a≠0->resR t o=(i,a)->(if (resR t o).2=0 then CV.tup [.rslc 1 (iz (ofL t o)) none,.int .i64 0,.int .i64 0] else .tup [.rslc 1 [] none,.int .i64 ((resR t o).1:Int),.int .i64 (resR t o).2])=.tup [.rslc 1 [] none,.int .i64 (i:Int),.int .i64 a]:=λi a ha h=>by rw[h,if_neg ha]
 refine Js (I:=λi:Nat=>i<=t.nodes.length/\Jha t o 6 10 (Ga t.nodes.length)=Jha t o 6 10 ((Ga t.nodes.length).drop i)) (inv:=λi=>gp [(1,.rptr t.row),(4,.slc 1 0 (iz ((ofL t o).take i)).length (Jej (iz ((ofL t o).take i)))),(0,.int .i64 (i:Int))] 64) (hp:=λi=>[.dead,.arr 1 (iz ((ofL t o).take i))]) (μ:=λi=>t.nodes.length-i) 0 [0,1] ⟨om,by rw[Gg]⟩ rfl ?_ ?_ ?_
 ·simp[forget,JG,ren,Jl,gp,Tr.row,iz,Jej]
 ·simp[KE,Xn,iz]
 ·rintro i ⟨hi,Aa⟩;have BV:((ofL t o).take i).length=i:=by rw[GQ,QL];omega
  by_cases Ab:i<t.nodes.length
  ·have d1:=dtT i t.nodes.length;have Ar:=JX Ab;have F5:=ofL_take (o:=o) Ab;rw[QD Ab,Jha]at Aa;have Cz:∀a:Int,Jha t o 6 10 (Ga t.nodes.length)=some (i,a)->resR t o=(i,a):=λa h=>by unfold resR;rw[h]
   have Az:=Jc (ρ:=[0,3]) (Jh ((ofL t o).take i));generalize (ofL t o).take i=acc at BV F5 Az|-;simp only[go_sem,d1,Tr.row,Ja,Ar,Nd.cv];refine anO ?_;refine JU (Jhp _) ?_;have FZ:((nd t i).k == 3 || (nd t i).k == 26 || (nd t i).k == 44)=KI t i:=rfl;rw[FZ]
   cases hs:KI t i with
   |true=>
    simp only[go_sem];refine JU (refMeans g ht Ab hs) ?_;by_cases hm:JY t o i<0
    ·have e1:(JY t o i<0)=True:=eq_true hm;rw[hs,decide_eq_true hm,Gn,if_pos rfl]at Aa;rw[BB i 10 vk (Cz 10 Aa)];simp only[go_sem,e1];exact AR (k:=2) rfl rfl
    ·have e1:(JY t o i<0)=False:=eq_false hm;rw[hs,decide_eq_false hm,G7,if_neg sM]at Aa;simp only[go_sem,e1];refine JU (refTwice g ht Ab) ?_
     cases EK:twR t o i with
     |true=>rw[EK,if_pos rfl]at Aa;rw[BB i 6 vk (Cz 6 Aa)];simp only[go_sem];exact AR (k:=2) rfl rfl
     |false=>
      rw[EK,if_neg sM]at Aa;simp only[go_sem,JA,Jf];refine⟨⟨om,om⟩,Jg,i+1,[0,3],⟨om,Aa⟩,om,rfl,?_,?_⟩
      ·rw[F5,Qp];simp only[KE,Gd,Gf,go_sem,Jo,Jn];simp[Az,JG,ren]
      ·rw[F5,Qp,Yz];simp[forget,JG,ren,Jl]
   |false=>
    have F9:JY t o i = -1:=by unfold KI at hs;simp only[VV,beq_eq_false_iff_ne]at hs;unfold JY;rw[if_neg hs.1.1,if_neg hs.1.2,if_neg hs.2]
    rw[hs,Gq,if_neg sM]at Aa;rw[F9]at F5;simp only[go_sem];refine JU (refTwice g ht Ab) ?_
    cases EK:twR t o i with
    |true=>rw[EK,if_pos rfl]at Aa;rw[BB i 6 vk (Cz 6 Aa)];simp only[go_sem];exact AR (k:=2) rfl rfl
    |false=>
     rw[EK,if_neg sM]at Aa;simp only[go_sem,JA,Jf];refine⟨⟨om,om⟩,Jg,i+1,[0,3],⟨om,Aa⟩,om,rfl,?_,?_⟩
     ·rw[F5,Qp];simp only[KE,Gd,Gf,go_sem,Jo,Jn];simp[Az,JG,ren]
     ·rw[F5,Qp,Yz];simp[forget,JG,ren,Jl]
  ·have d1:=dfF i t.nodes.length;obtain rfl:i=t.nodes.length:=om;rw[show (Ga t.nodes.length).drop t.nodes.length=[] from Gv sM,Jha]at Aa;have Cz:resR t o=match (Ga t.nodes.length).find? (stR t o) with|some i=>(i,9)|none=>(0,0):=by unfold resR;simp only[Aa] <;> cases (Ga t.nodes.length).find? (stR t o) <;> rfl
   rw[GA (by rw[QL];omega)];simp only[go_sem,d1,Tr.row,Ja];refine Je (id:=1) (z:=1) (els:=iz (ofL t o)) rfl (Jh _) ?_;have Bn:=QL (t:=t) (o:=o);have Fg:Hy t.nodes.length (iz (ofL t o))=iz (ofL t o):=GA (by rw[Jf,Bn];omega);simp only[go_sem,JK,KC,frz,Kn,Gd,Gf,Gg,G8,if_true,Jf,Bn,GG,Fg,Ho,G9];refine Js (I:=λi:Nat=>i<=t.nodes.length/\(Ga t.nodes.length).find? (stR t o)=((Ga t.nodes.length).drop i).find? (stR t o)) (inv:=λi=>gp [(1,.rptr t.row),(4,.rslc 1 (iz (ofL t o)) none),(2,.int .i64 (i:Int))] 62) (hp:=λ_=>[.dead,.dead]) (μ:=λi=>t.nodes.length-i) 0 [0,1] ⟨om,by rw[Gg]⟩ rfl ?_ rfl ?_
   ·simp[forget,JG,ren,gp,Tr.row]
   ·rintro i ⟨hi,Aa⟩;by_cases Ab:i<t.nodes.length
    ·have d1:=dtT i t.nodes.length;have Ar:=JX Ab;rw[QD Ab,GJ]at Aa
     cases hk:((nd t i).k == 41) with
     |false=>
      have Al:stR t o i=false:=by unfold stR;rw[hk];rfl
      rw[Al]at Aa;simp only[go_sem,d1,Tr.row,Ja,Ar,Nd.cv,kbE,hk];refine⟨om,Jg,i+1,[0,1],⟨om,Aa⟩,om,rfl,rfl,?_⟩;simp[forget,JG,ren]
     |true=>
      have Al:stR t o i=((Ql t).filter λx=>(bfs (λx=>Y0 t o (ofL t o) x.toNat) (Ql t) (Y0 t o (ofL t o) i) []).contains x).contains (i:Int):=by unfold stR;rw[hk,Gn]
      have hA:=(refReached g ht (ofL_ok (o:=o)) Ab (beq_iff_eq.1 hk)).fn rfl (Jh _);have Bo:((Ql t).filter λx=>(bfs (λx=>Y0 t o (ofL t o) x.toNat) (Ql t) (Y0 t o (ofL t o) i) []).contains x).length<=100000:=by refine GY (GM _ _) ?_;simp only[Ql,Lh,G5];omega
      generalize (Ql t).filter (λx=>(bfs (λx=>Y0 t o (ofL t o) x.toNat) (Ql t) (Y0 t o (ofL t o) i) []).contains x)=B at Al hA Bo;simp only[go_sem,d1,Tr.row,Ja,Ar,Nd.cv,kbE,hk];refine anO ?_;refine Ka (gok rfl) hA ?_;simp only[go_sem];refine Ka (gok rfl) (refHas3 B (i:Int) Bo) ?_
      cases hc:B.contains (i:Int) with
      |false=>rw[Al,hc]at Aa;simp only[go_sem];refine⟨Jg,i+1,[0,1],⟨om,Aa⟩,om,rfl,rfl,?_⟩;simp[forget,JG,ren]
      |true=>rw[Al,hc]at Aa;rw[Aa]at Cz;rw[BB i 9 vk Cz];simp only[go_sem];exact AR (k:=2) rfl rfl
    ·have d1:=dfF i t.nodes.length;rw[show (Ga t.nodes.length).drop i=[] from Gv (by simp;omega),G6]at Aa;rw[Aa]at Cz;rw[Cz,if_pos rfl];simp only[go_sem,d1,Tr.row,Ja];exact .done (wk.refl _)
end
theorem refResolveE (t:Tr)(ht:t.Fit)(h:chk t≠0):Fn Gb 33 [t.cv] (.tup [.rslc 1 [] none,.int .i64 0,.int .i64 (chk t)]):=by
 have e:(chk t != 0)=true:=by simpa using h
 refine Jav ?_ rfl rfl;refine Ki c33_ok λN=>?_
 simp only[c33,go_sem,Tr.cv,Tr.row];refine JU (refCheck t ht) ?_;simp only[go_sem,e];refine .step 1 1 [] rfl rfl (.done ?_);simp only[frz,JK,if_true];exact wk.refl _
def JfR (t:Tr):Bool:=(decide (160<t.nodes.length) && decide (t.nodes.length<=700)) || decide (1400<t.nodes.length) || decide (40<t.items.length)
def JdA (t:Tr):Bool:=JfR t || t.nodes.any Jc5
theorem Tr.Ty.fit3(h:t.Ty)(hv:JdA t=false):t.Fit:=by unfold JdA JfR at hv;simp only[VV,Bool.and_eq_false_iff,decide_eq_false_iff_not,V3]at hv;obtain⟨⟨⟨_,h2⟩,h3⟩,h4⟩:=hv;refine⟨om,om,λx hx=>?_,h.items⟩;have hn:=h4 x hx;unfold Jc5 at hn;simp only[Bool.not_eq_true,VV,decide_eq_false_iff_not]at hn;have ty:=h.nodes x hx;exact⟨ty.k,om,ty.n,om,ty.kids,ty.pl⟩
section
variable(g:GoodT t o)(ht:t.Fit)
include g ht
end
section
variable(g:GoodT t o)
include g
theorem Jeb{j:Nat}(hu:u<t.nodes.length)(h:blw o j u):QR t j=QR t u:=by
 unfold QR
 congr 1
 refine VU λL hL=>?_
 rw[items_all g]at hL;have h1:=KR.1 (Gt.1 hL).1;have h2:(nd t L.toNat).k=65:=by simpa using (Gt.1 hL).2
 obtain⟨L,rfl⟩:∃L':Nat,L=L':=⟨L.toNat,om⟩;rw[Gc]at h2;have hj:=h.1;rw[GD,decide_eq_true_eq,decide_eq_true_eq]
 constructor
 ·intro h3;omega
 ·intro h3;rcases H5 L j with h4|h4
  ·omega
  ·have hb:blw o L u:=⟨om,by have:=h.2;omega⟩;obtain⟨m,hm,_⟩:=X4 g hu hb om;have:=(def_root g (d:=L) om h2).1;omega
theorem sight_top{j:Nat}(hj:j<t.nodes.length)(h:(d:Int)∈QW t j):∃u:Nat,u<t.nodes.length/\blw o j u/\blw o d u:=by
 have h1:=(Gt.1 h).2;rw[Ls,Jfs g _ _ _ hj om]at h1;obtain⟨u,a,hu,ha,hb,hd⟩:=h1;refine⟨u,hu,Qy g hu hb (QA g hu ha),?_⟩;rw[QM g hu]at hd;rcases hd with ⟨_,s,hs,_,hk,_⟩|⟨_,hk,_⟩|⟨_,_,rfl⟩|⟨_,_,⟨hk,_⟩|⟨_,s,hs,_,hk,_⟩⟩
 ·have Ck:=(J3 g hu hs).2;exact Qy g hu (QA g om hk) (QA g hu hs)
 ·exact QA g hu hk
 ·exact JcW g hu
 ·exact QA g hu hk
 ·have Ck:=(J3 g hu hs).2;exact Qy g hu (QA g om hk) (QA g hu hs)
theorem JfW{j:Nat}(hj:j<t.nodes.length)(h:(d:Int)∈QW t j):QR t d=QR t j:=by obtain⟨u,hu,h1,h2⟩:=sight_top g hj h;rw[Jeb g hu h1,Jeb g hu h2]
theorem Jbz{j:Nat}(hj:j<t.nodes.length)(Cq:1<=(nd t j).k/\(nd t j).k<=29)(h:(d:Int)∈QW t j):d<t.nodes.length/\KX (nd t d).k=true/\(nd t d).k≠65/\inB t o d j=true:=by obtain⟨h1,h2⟩:=Gt.1 h;have hd:=KR.1 h1;rw[sight_mem g (d:=d) om hj Cq]at h2;simp only[Gp,He,beq_eq_false_iff_ne]at h2;exact⟨om,h2.1,h2.2.1,h2.2.2⟩
theorem sight_two{e j:Nat}(hj:j<t.nodes.length)(Cq:1<=(nd t j).k/\(nd t j).k<=29)(EK:∀i,i<t.nodes.length->twN t i=false)(hd:(d:Int)∈QW t j)(he:(e:Int)∈QW t j)(hx:(nd t d).text=(nd t e).text):¬d<e:=by
 intro Ab;obtain⟨d1,d2,d3,_⟩:=Jbz g hj Cq hd;obtain⟨e1,e2,e3,_⟩:=Jbz g hj Cq he;have Ma:QR t d=QR t e:=(JfW g hj hd).trans (JfW g hj he).symm;have h:=EK e e1;have e44:(nd t e).k≠44:=by intro h4;rw[h4]at e2;exact absurd e2 vk
 unfold twN at h;rw[if_neg (by rw[e2];simp),V3]at h;have:=h d (Gx.2 Ab);rw[if_neg e44,if_neg e3,hx,Ma,d2]at this;simp at this;exact d3 this
end
theorem scan_none{a b:Int}:∀{l:LB},JaW t o a b l=none->∀i∈l,twN t i=false/\(KI t i=true->JY t o i≠-1)
 |[],_,i,hi=>by simp at hi
 |x::l,h,i,hi=>by
  unfold JaW at h
  split at h
  ·cases h
  ·rename_i h1
   split at h
   ·cases h
   ·rename_i h2;rcases GK.1 hi with rfl|hi
    ·refine⟨by simpa using h1,λhs hm=>h2 (by rw[hs,hm];rfl)⟩
    ·exact scan_none h i hi
theorem scan_err{r:Nat×Int}:∀{l:LB},JaW t o 6 10 l=some r->r.2=6\/r.2=10
 |[],h=>by cases h
 |x::l,h=>by
  unfold JaW at h
  split at h
  ·cases h;exact .inl rfl
  ·split at h
   ·cases h;exact .inr rfl
   ·exact scan_err h
theorem Jhm(hE:(XY t o).2=0)(hi:i<t.nodes.length):twN t i=false/\(KI t i=true->JY t o i≠-1):=by
 unfold XY at hE
 cases hs:JaW t o 6 10 (Ga t.nodes.length) with
 |some r=>rw[hs]at hE;have:=scan_err hs;simp only at hE;omega
 |none=>exact scan_none hs i (Gx.2 hi)
section
variable(g:GoodT t o)
include g
theorem YQ (hE:(XY t o).2=0){j:Nat}(hj:j<t.nodes.length)(hk:(nd t j).k=3):JY t o j∈QW t j/\0<=JY t o j/\JY t o j<t.nodes.length/\(nd t (JY t o j).toNat).text=(nd t j).text/\KX (nd t (JY t o j).toNat).k=true:=by
 have h1:=(Jhm hE hj).2 (by unfold KI;rw[hk];rfl);have hm:JY t o j=JaU t (QW t j) (nd t j).text:=by unfold JY;rw[if_pos hk,Jb9 g hj om]
 rw[hm]at h1|-;unfold JaU at h1|-
 cases hf:(QW t j).find? λd=>(nd t d.toNat).text == (nd t j).text with
 |none=>rw[hf]at h1;exact absurd rfl h1
 |some d=>simp only;have h2:=GZ hf;have h3:=Hu hf;have h4:=KR.1 (Gt.1 h2).1;obtain⟨d,rfl⟩:∃d':Nat,d=d':=⟨d.toNat,om⟩;exact⟨h2,h4.1,h4.2,by simpa using h3,by rw[Gc];exact(Jbz g hj om h2).2.1⟩
end
def mainT:LA:=[109,97,105,110]
section
variable(g:GoodT t o)
include g
end
structure TMap (u t:Tr)(ψ:Nat->Nat):Prop where
 rng:∀j,j<u.nodes.length->ψ j<t.nodes.length
 inj:∀i j,i<u.nodes.length->j<u.nodes.length->ψ i=ψ j->i=j
 k:∀j,j<u.nodes.length->(nd t (ψ j)).k=(nd u j).k
 txe:∀i j,i<u.nodes.length->j<u.nodes.length->(nd u i).text=(nd u j).text->(nd t (ψ i)).text=(nd t (ψ j)).text
 len:∀j,j<u.nodes.length->(nd t (ψ j)).kids.length=(nd u j).kids.length
 kid:∀j,j<u.nodes.length->∀c:Nat,(c:Int)∈(nd u j).kids->(ψ c:Int)∈(nd t (ψ j)).kids
 back:∀j,j<u.nodes.length->∀c:Nat,(c:Int)∈(nd t (ψ j)).kids->∃d:Nat,(d:Int)∈(nd u j).kids/\ψ d=c
 pos:∀j,j<u.nodes.length->(nd u j).k≠40->(nd u j).k≠28->∀i,i<(nd u j).kids.length->ψ (Ju u j i)=Ju t (ψ j) i
section
variable{u:Tr}(gu:GoodT u p)(g:GoodT t o)(h:TMap u t ψ)
include gu g h
omit gu h in
theorem mem_sight{j:Nat}(hj:j<t.nodes.length):(d:Int)∈QW t j↔d<t.nodes.length/\inS t o (d:Int) j:=by
 unfold QW;rw[Gt,KR,Ls,Jfs g _ _ _ hj om]
 constructor
 ·rintro⟨h1,h2⟩;exact⟨om,h2⟩
 ·rintro⟨h1,h2⟩;exact⟨⟨om,om⟩,h2⟩
end
def twP (t:Tr)(i k:Nat):Prop:=(nd t k).text=(nd t i).text/\(((nd t i).k=44/\(nd t k).k=44/\Ky t k=Ky t i)\/((nd t i).k=65/\(nd t k).k=65)\/(((nd t i).k≠65/\KX (nd t i).k=true)/\((nd t k).k≠65/\KX (nd t k).k=true)/\QR t k=QR t i))
theorem twP_symm(h:twP t i k):twP t k i:=by
 obtain⟨h1,h2⟩:=h;refine⟨h1.symm,?_⟩;rcases h2 with ⟨a,b,c⟩|⟨a,b⟩|⟨a,b,c⟩
 ·exact .inl ⟨b,a,c.symm⟩
 ·exact .inr (.inl ⟨b,a⟩)
 ·exact .inr (.inr ⟨b,a,c.symm⟩)
theorem twN_iff:twN t i=true↔∃k,k<i/\twP t i k:=by
 have e44:KX 44=false:=vk;have e65:KX 65=true:=vk;unfold twN twP;by_cases hc:(nd t i).k≠44/\KX (nd t i).k=false
 ·rw[if_pos hc];refine⟨λh=>(by cases h),?_⟩;rintro⟨k,_,_,h⟩;rcases h with ⟨a,_⟩|⟨a,_⟩|⟨⟨_,a⟩,_⟩
  ·exact absurd a hc.1
  ·rw[a,e65]at hc;exact absurd hc.2 sM
  ·rw[a]at hc;exact absurd hc.2 sM
 rw[if_neg hc,Hd];simp only[Gx,Gp,beq_iff_eq]
 constructor
 ·rintro⟨k,h1,h2,h3⟩;refine⟨k,h1,h2,?_⟩;by_cases h4:(nd t i).k=44
  ·rw[if_pos h4]at h3;simp only[Gp,beq_iff_eq]at h3;exact .inl ⟨h4,h3⟩
  rw[if_neg h4]at h3;by_cases h5:(nd t i).k=65
  ·rw[if_pos h5]at h3;exact .inr (.inl ⟨h5,by simpa using h3⟩)
  rw[if_neg h5]at h3;simp only[Gp,beq_iff_eq,He,beq_eq_false_iff_ne]at h3;have hd:KX (nd t i).k=true:=by
   cases hd:KX (nd t i).k with
   |true=>rfl
   |false=>exact absurd ⟨h4,hd⟩ hc
  exact .inr (.inr ⟨⟨h5,hd⟩,⟨h3.1,h3.2.1⟩,h3.2.2⟩)
 ·rintro⟨k,h1,h2,h3⟩;refine⟨k,h1,h2,?_⟩;rcases h3 with ⟨a,b,c⟩|⟨a,b⟩|⟨⟨a,a2⟩,⟨b,b2⟩,c⟩
  ·rw[if_pos a,b,c];simp
  ·rw[iN7,if_pos a,b];rfl
  ·have h4:(nd t i).k≠44:=by intro h4;rw[h4,e44]at a2;exact absurd a2 sM
   rw[if_neg h4,if_neg a,b2,c,beq_false_of_ne b];simp
theorem no_tw(h:∀i,i<t.nodes.length->twN t i=false)(hi:i<t.nodes.length)(hk:k<t.nodes.length)(hp:twP t i k):i=k:=by
 rcases Ny i k with h1|h1|h1
 ·have:=twN_iff.2 ⟨i,h1,twP_symm hp⟩;rw[h k hk]at this;cases this
 ·exact h1
 ·have:=twN_iff.2 ⟨k,h1,hp⟩;rw[h i hi]at this;cases this
section
variable{u:Tr}(gu:GoodT u p)(g:GoodT t o)(h:TMap u t ψ)
include gu g h
end
theorem decl_one(hn:∀i,i<t.nodes.length->twN t i=false){x:Nat}(hx:x<t.nodes.length)(hy:y<t.nodes.length)(ht:(nd t x).text=(nd t y).text)(hk:((nd t x).k=65/\(nd t y).k=65)\/(((nd t x).k≠65/\KX (nd t x).k=true)/\((nd t y).k≠65/\KX (nd t y).k=true)/\QR t y=QR t x)):x=y:=no_tw hn hx hy ⟨ht.symm,.inr hk⟩
theorem JhS{d:Int}(hd:d∈l)(hq:q d=true)(ho:∀x∈l,q x=true->x=d):(match l.find? q with|some x=>x|none=>-1)=d:=by
 cases hf:l.find? q with
 |none=>exact absurd hq (by simpa using List.find?_eq_none.1 hf d hd)
 |some x=>exact ho x (GZ hf) (Hu hf)
structure Clear (t:Tr)(o:Lx):Prop where
 tw:∀i,i<t.nodes.length->twN t i=false
 mean:∀i,i<t.nodes.length->KI t i=true->JY t o i≠-1
theorem Jeh(hE:(XY t o).2=0):Clear t o:=⟨λ_ hi=>(Jhm hE hi).1,λ_ hi=>(Jhm hE hi).2⟩
section
variable(g:GoodT t o)(c:Clear t o)
include g c
theorem sight_one{x j:Nat}(hj:j<t.nodes.length)(Cq:1<=(nd t j).k/\(nd t j).k<=29)(hx:(x:Int)∈QW t j)(hy:(y:Int)∈QW t j)(ht:(nd t x).text=(nd t y).text):x=y:=by have h1:=sight_two g hj Cq c.tw hx hy ht;have h2:=sight_two g hj Cq c.tw hy hx ht.symm;omega
theorem meanN_iff {j:Nat}(hj:j<t.nodes.length)(hk:(nd t j).k=3):JY t o j=d↔(d:Int)∈QW t j/\(nd t d).text=(nd t j).text:=by
 have hm:JY t o j=JaU t (QW t j) (nd t j).text:=by unfold JY;rw[if_pos hk,Jb9 g hj om]
 rw[hm];unfold JaU
 constructor
 ·intro h;generalize hf:(QW t j).find? _=r at h
  cases r with
  |none=>simp only at h;omega
  |some x=>simp only at h;subst h;have h3:=Hu hf;rw[Gc]at h3;exact⟨GZ hf,by simpa using h3⟩
 ·rintro⟨h1,h2⟩;refine JhS h1 (by rw[Gc];simpa using h2) λx hx hq=>?_
  have h3:=KR.1 (Gt.1 hx).1;obtain⟨x,rfl⟩:∃x':Nat,x=x':=⟨x.toNat,om⟩;rw[Gc]at hq;rw[sight_one g c hj om hx h1 ((by simpa using hq:(nd t x).text=_).trans h2.symm)]
omit g in
theorem meanC_iff {j:Nat}(hj:j<t.nodes.length)(hk:(nd t j).k=26):JY t o j=d↔d<t.nodes.length/\(nd t d).text=(nd t j).text/\(nd t d).k=65:=by
 have hm:JY t o j=JdK t j:=by unfold JY;rw[iN7,if_pos hk]
 rw[hm];unfold JdK
 constructor
 ·intro h;generalize hf:(Ql t).find? _=r at h
  cases r with
  |none=>simp only at h;omega
  |some x=>simp only at h;subst h;have h3:=Hu hf;simp only[Gp,beq_iff_eq,Gc]at h3;exact⟨by have:=KR.1 (GZ hf);omega,h3.1,h3.2.2⟩
 ·rintro⟨h1,h2,h3⟩;refine JhS (KR.2 ⟨om,om⟩) (by rw[Gc,h2,h3];simp[KX]) λx hx hq=>?_
  have h4:=KR.1 hx;obtain⟨x,rfl⟩:∃x':Nat,x=x':=⟨x.toNat,om⟩;simp only[Gp,beq_iff_eq,Gc]at hq;rw[decl_one c.tw (x:=x) (y:=d) om h1 (hq.1.trans h2.symm) (.inl ⟨hq.2.2,h3⟩)]
theorem meanX_iff {j:Nat}(hj:j<t.nodes.length)(hk:(nd t j).k=44):JY t o j=d↔d<t.nodes.length/\(nd t d).text=(nd t j).text/\(nd t d).k=43/\Ky t d=Ky t j:=by
 have hm:JY t o j=JcC t j:=by unfold JY;rw[iN7,iN7,if_pos hk]
 rw[hm];unfold JcC
 constructor
 ·intro h;generalize hf:(Ql t).find? _=r at h
  cases r with
  |none=>simp only at h;omega
  |some x=>simp only at h;subst h;have h3:=Hu hf;simp only[Gp,beq_iff_eq,Gc]at h3;exact⟨by have:=KR.1 (GZ hf);omega,h3.1,h3.2.2.1,h3.2.2.2⟩
 ·rintro⟨h1,h2,h3,h4⟩;refine JhS (KR.2 ⟨om,om⟩) (by rw[Gc,h2,h3,h4];simp[KX]) λx hx hq=>?_
  have h5:=KR.1 hx;obtain⟨x,rfl⟩:∃x':Nat,x=x':=⟨x.toNat,om⟩;simp only[Gp,beq_iff_eq,Gc]at hq;obtain⟨v,v1,v2,v3,v4⟩:=QO g h1 om;have Br:x<t.nodes.length:=om;obtain⟨w,w1,w2,w3,w4⟩:=QO g Br om;obtain rfl:v=w:=by have:=hq.2.2.2;omega
  have i1:=Jeb g v2 (QA g v2 v4);have i2:=Jeb g v2 (QA g v2 w4);rw[decl_one c.tw (x:=x) (y:=d) Br h1 (hq.1.trans h2.symm) (.inr ⟨⟨om,hq.2.1⟩,⟨om,by rw[h3];decide⟩,by rw[i1,i2]⟩)]
end
section
variable{u:Tr}(gu:GoodT u p)(g:GoodT t o)(h:TMap u t ψ)
include gu g h
def OfMap (u t:Tr)(p o:Lx)(ψ:Nat->Nat):Prop:=∀j,j<u.nodes.length->(JY u p j = -1/\JY t o (ψ j) = -1)\/∃d:Nat,d<u.nodes.length/\JY u p j=d/\JY t o (ψ j)=(ψ d:Nat)
end
section
variable{u:Tr}(gu:GoodT u p)(g:GoodT t o)(h:TMap u t ψ)(CW:OfMap u t p o ψ)
include gu g h CW
end
section
variable(g:GoodT t o)(ht:t.Fit)
include g ht
end
section
variable(g:GoodT t o)
include g
theorem mean_text (c:Clear t o){j:Nat}(hj:j<t.nodes.length)(h:JY t o j=d):(nd t d).text=(nd t j).text/\KX (nd t d).k=true/\KI t j=true/\d<t.nodes.length:=by
 have hr:=Jhy (t:=t) (o:=o) (i:=j);by_cases h3:(nd t j).k=3
 ·have h1:=(meanN_iff g c hj h3).1 h;exact⟨h1.2,(Jbz g hj om h1.1).2.1,by unfold KI;rw[h3];rfl,om⟩
 by_cases Dj:(nd t j).k=26
 ·have h1:=(meanC_iff c hj Dj).1 h;exact⟨h1.2.1,by rw[h1.2.2];decide,by unfold KI;rw[Dj];rfl,om⟩
 by_cases BG:(nd t j).k=44
 ·have h1:=(meanX_iff g c hj BG).1 h;exact⟨h1.2.1,by rw[h1.2.2.1];decide,by unfold KI;rw[BG];rfl,om⟩
 unfold JY at h;rw[if_neg h3,if_neg Dj,if_neg BG]at h;omega
end
section
variable(g:GoodT t o)(ht:t.Fit)
include g
include ht
end
def JcD (t:Tr)(i:Nat):Bool:=(nd t (t.items.getD i 0).toNat).text == mainT
section
variable(g:GoodT t o)(ht:t.Fit)
include g ht
end
section
variable(g:GoodT t o)(ht:t.Fit)
include g ht
end
section
variable(g:GoodT t o)(ht:t.Fit)
include g ht
omit ht in
theorem refMain {r:Int}(hr:(r = -1/\∀j,j<t.items.length->JcD t j=false)\/∃k:Nat,r=k/\k<t.items.length/\JcD t k=true/\∀j,j<k->JcD t j=false):Fn Gb 46 [t.cv] (.int .i64 r):=by
 have Fb:=g.items;have Ae:(iz t.items).length=t.items.length:=Jf;have Ar:∀i,i<t.items.length->∃L:Nat,(iz t.items).getD i []=[.int .i64 (L:Int)]/\t.items.getD i 0=L/\L<t.nodes.length:=λi hi=>by
  have hm:t.items.getD i 0∈t.items:=by rw[Gh,Gj hi];exact Gy hi
  have:=g.itr hm;refine⟨(t.items.getD i 0).toNat,?_,om,om⟩;rw[JF hi]
  congr 2;omega
 refine Jb c46_ok rfl rfl λN=>?_
 simp only[c46,go_sem,Tr.cv,Tr.row];refine Je (id:=0) (z:=2) (els:=[t.row]) rfl rfl ?_;simp only[go_sem,JK,KC,frz,Kn,Gd,Gf,Tr.row];refine JL (I:=λi:Nat=>i<=t.items.length/\∀j,j<i->JcD t j=false) (inv:=λi=>gp [(1,.rptr t.row),(1,.int .i64 (i:Int))] 19) (hp:=λ_=>[.dead]) (μ:=λi=>t.items.length-i) 0 ⟨om,λj h=>om⟩ ?_ rfl ?_
 ·simp[forget,gp,Tr.row]
 ·rintro i ⟨hi,Aa⟩;by_cases Ab:i<t.items.length
  ·have d1:=dtT i t.items.length;obtain⟨L,Ue,jA,eF⟩:=Ar i Ab;have hq:JcD t i=((nd t L).text == [109,97,105,110]):=by unfold JcD;rw[jA,Gc];rfl
   simp only[go_sem,d1,Tr.row,Ae];refine JQ Jm vk ?_
   cases hb:((nd t L).text == [109,97,105,110]) with
   |true=>
    rw[hb]at hq;obtain rfl:r=(i:Int):=by
     rcases hr with ⟨_,h⟩|⟨k,rfl,h1,h2,h3⟩
     ·rw[h i Ab]at hq;cases hq
     ·rcases Ny i k with h4|h4|h4
      ·rw[h3 i h4]at hq;cases hq
      ·omega
      ·rw[Aa k h4]at h2;cases h2
    simp only[go_sem,Ae,Ue,Ja,JX eF,Nd.cv,Jh9,hb];omega
   |false=>
    rw[hb]at hq;simp only[go_sem,Ae,Ue,Ja,JX eF,Nd.cv,Jh9,hb];refine⟨om,om,Jg,i+1,⟨om,λj hj=>?_⟩,om,?_⟩
    ·rcases H5 j i with h|h
     ·exact Aa j h
     ·obtain rfl:j=i:=om;exact hq
    ·simp[forget,Tr.row]
  ·have d1:=dfF i t.items.length;obtain rfl:i=t.items.length:=om;obtain rfl:r = -1:=by
    rcases hr with ⟨h,_⟩|⟨k,rfl,h1,h2,h3⟩
    ·exact h
    ·rw[Aa k h1]at h2;cases h2
   simp only[go_sem,d1,Tr.row,Ae]
end
end Go.Cm
end
end
