/-
  A part of the proof. Conditions: none.
-/
import Derived.Test.YtejfnfphmkjffaaGreatDoorVP12
import Derived.Lib.SlicesCompact
set_option linter.unusedSimpArgs false
set_option linter.unusedVariables false
open List renaming getD_eq_getElem?_getD->Gc,getElem?_eq_getElem->Gf,replicate->Gg,range->Ga,mem_range->Gh,drop_eq_getElem_cons->Gq,mem_cons->Gi,length_cons->Gl,mem_replicate->Gr,mem_filter->Gm,mem_append->Gn,mem_singleton->Gt,drop_of_length_le->GD,getElem?_eq_none->GG,length_take->Gu,cons_append->Gv,any_eq_true->Gw,find?_cons->Gx,pairwise_cons->GH,getElem_range->GI,getElem?_eq_some_iff->GX,length_range->GJ,getElem_mem->GK,ext_getElem->GL,filter_eq_nil_iff->GY,nil_append->GM,mem_map->Gy,getElem_of_mem->GZ,map_cons->GN,length_append->G5,reverse_cons->G6,nodup_append->G7,getElem?_map->G8,find?_filter->G9,append_assoc->Ha,getElem_map->Hd,map_append->He,length_set->Hf,tail_cons->Hg,pairwise_lt_range->Hr,take_append_drop->Ht,contains_eq_mem->Hu,filter_eq_self->Hw,drop_replicate->Hy,getElem?_take->Hz,filter_append->HV,pairwise_map->HY,getElem?_set->HZ,filter_congr->H5,mem_flatten->H6,nodup_cons->H7,length_nil->H8,length_map->H9,append_nil->La,drop_zero->Lb,map_take->Lc,any_cons->Ld,map_nil->Le
open Option renaming map_some->Gz,getD_some->GQ
open Option.some renaming injEq->GA,inj->Hl
open Bool renaming and_eq_true->Gd,eq_iff_iff->Gj,not_eq_true'->GR,or_eq_true->Hm,eq_false_iff->Lf,false_and->Lg
open Int renaming toNat_natCast->Gb,toNat_of_nonneg->GU
open Nat renaming le_refl->Gp,mul_le_mul_right->Ho,le_of_lt->GV,add_zero->Hq,lt_succ_self->Lh,zero_mul->Li,lt_or_ge->Lj
open Go.Proofs.Tryz renaming prog->Gs
noncomputable section
section
namespace Go.Cm
section
theorem YR {k : Nat}(c : UInt8)(m : Nat)(h : Jdz k = c)(hm : (c, m) ∈ ([(66, 40), (83, 41), (98, 42), (73, 43), (78, 44), (71, 45), (79, 48), (80, 64)] : List (UInt8 × Nat))) : k = m := by
  unfold Jdz letter at h
  simp only [Gi, List.not_mem_nil, or_false, Prod.mk.injEq] at hm
  by_cases a1 : 1 <= k /\ k <= 29
  · rw [if_pos a1] at h; rcases hm with ⟨rfl, rfl⟩ | ⟨rfl, rfl⟩ | ⟨rfl, rfl⟩ | ⟨rfl, rfl⟩ | ⟨rfl, rfl⟩ | ⟨rfl, rfl⟩ | ⟨rfl, rfl⟩ | ⟨rfl, rfl⟩ <;> exact absurd h (by decide)
  rw [if_neg a1] at h
  by_cases a2 : 60 <= k /\ k <= 63
  · rw [if_pos a2] at h; rcases hm with ⟨rfl, rfl⟩ | ⟨rfl, rfl⟩ | ⟨rfl, rfl⟩ | ⟨rfl, rfl⟩ | ⟨rfl, rfl⟩ | ⟨rfl, rfl⟩ | ⟨rfl, rfl⟩ | ⟨rfl, rfl⟩ <;> exact absurd h (by decide)
  rw [if_neg a2] at h
  by_cases a3 : k = 46 \/ k = 47
  · rw [if_pos a3] at h; rcases hm with ⟨rfl, rfl⟩ | ⟨rfl, rfl⟩ | ⟨rfl, rfl⟩ | ⟨rfl, rfl⟩ | ⟨rfl, rfl⟩ | ⟨rfl, rfl⟩ | ⟨rfl, rfl⟩ | ⟨rfl, rfl⟩ <;> exact absurd h (by decide)
  rw [if_neg a3] at h
  rcases (show k = 40 \/ k = 41 \/ k = 42 \/ k = 43 \/ k = 44 \/ k = 45 \/ k = 48 \/ k = 64 \/ k = 65 \/ (k ≠ 40 /\ k ≠ 41 /\ k ≠ 42 /\ k ≠ 43 /\ k ≠ 44 /\ k ≠ 45 /\ k ≠ 48 /\ k ≠ 64 /\ k ≠ 65) by omega) with rfl | rfl | rfl | rfl | rfl | rfl | rfl | rfl | rfl | ⟨b1, b2, b3, b4, b5, b6, b7, b8, b9⟩
  all_goals first
    | (rcases hm with ⟨rfl, rfl⟩ | ⟨rfl, rfl⟩ | ⟨rfl, rfl⟩ | ⟨rfl, rfl⟩ | ⟨rfl, rfl⟩ | ⟨rfl, rfl⟩ | ⟨rfl, rfl⟩ | ⟨rfl, rfl⟩ <;> first | rfl | exact absurd h (by decide))
    | (rw [if_neg b1, if_neg b2, if_neg b3, if_neg b4, if_neg b5, if_neg b6, if_neg b7, if_neg b8, if_neg b9] at h
       rcases hm with ⟨rfl, rfl⟩ | ⟨rfl, rfl⟩ | ⟨rfl, rfl⟩ | ⟨rfl, rfl⟩ | ⟨rfl, rfl⟩ | ⟨rfl, rfl⟩ | ⟨rfl, rfl⟩ | ⟨rfl, rfl⟩ <;> exact absurd h (by decide))
theorem Jcn {k:Nat}(h:Jdz k=116):60<=k/\k<=63:=by
 unfold Jdz letter at h;by_cases a1:1<=k/\k<=29
 ·rw[if_pos a1]at h;exact absurd h (by decide)
 rw[if_neg a1]at h;by_cases a2:60<=k/\k<=63
 ·exact a2
 exfalso;rw[if_neg a2]at h
 repeat' (split at h)
 all_goals exact absurd h (by decide)
theorem Ja1 {k:Nat}(h:Jdz k=101):1<=k/\k<=29:=by
 by_cases a1:1<=k/\k<=29
 ·exact a1
 exfalso;unfold Jdz letter at h;rw[if_neg a1]at h
 repeat' (split at h)
 all_goals exact absurd h (by decide)
section
variable {t:Tr}{o:List Int}(g:GoodT t o)
include g
omit g in
theorem QA {u:Nat}(hu:u<t.nodes.length){a b:Int}{c:UInt8}(h:J4 (lets t.nodes (t.nodes.getD u default)) a b c=true){i:Nat}(h1:a<=i)(h2:(i:Int)<b):i<(t.nodes.getD u default).kids.length/\Jdz (Jt t.nodes ((t.nodes.getD u default).kids.getD i 0))=c:=by
 obtain⟨p1,p2,p3,p4⟩:=JZ.1 h;rw[Kv]at p3;have hi:i<(t.nodes.getD u default).kids.length:=by omega
 refine⟨hi,?_⟩;have hg:((lets t.nodes (t.nodes.getD u default)).take b.toNat).drop a.toNat=Gg (b.toNat-a.toNat) c:=p4;have hx:(((lets t.nodes (t.nodes.getD u default)).take b.toNat).drop a.toNat)[i-a.toNat]? = some c:=by
  rw[hg,List.getElem?_replicate,iP7]
 rw[List.getElem?_drop,Hz,iP7,show a.toNat+(i-a.toNat)=i by omega]at hx;unfold lets at hx;rw[G8,Gf hi]at hx;simp only[Gz,GA]at hx;rw[Gc,Gf hi];exact hx
theorem Jc6 {u:Nat}(hu:u<t.nodes.length):Qa (t.nodes.getD u default).k (t.nodes.getD u default).n (lets t.nodes (t.nodes.getD u default))=true:=by
 have h:=g.nds (t.nodes.getD u default) (by rw[rowN hu];exact GK hu);unfold ndI at h;rw[node_eq]at h;simp only[Kj,Gd]at h;exact h.1.1
theorem XZ {u:Nat}(hu:u<t.nodes.length)(hk:(t.nodes.getD u default).k=28):∃a b:Nat,(t.nodes.getD u default).n=(a:Int)/\a+1<=b/\b<(t.nodes.getD u default).kids.length/\
  (∀i,i<a->Jt t.nodes ((t.nodes.getD u default).kids.getD i 0)=43)/\(1<=Jt t.nodes ((t.nodes.getD u default).kids.getD a 0)/\Jt t.nodes ((t.nodes.getD u default).kids.getD a 0)<=29)/\
  (∀i,a+1<=i->i<b->Jt t.nodes ((t.nodes.getD u default).kids.getD i 0)=41)/\(∀i,b<=i->i+1<(t.nodes.getD u default).kids.length->Jt t.nodes ((t.nodes.getD u default).kids.getD i 0)=44)/\
  Jt t.nodes ((t.nodes.getD u default).kids.getD ((t.nodes.getD u default).kids.length-1) 0)=45:=by
 have h:=Jc6 g hu;rw[hk]at h;unfold Qa at h;rw[iN7,iN7,iN7,iN7,iN7,iN7,iN7,iN7,iN7,iN7,iN7,iN7,if_pos rfl]at h;simp only[Gd,decide_eq_true_eq,Kv]at h;obtain⟨⟨⟨⟨⟨⟨q0,q1⟩,q2⟩,q3⟩,q4⟩,q5⟩,q6⟩:=h;generalize hb:Qo 83 (lets t.nodes (t.nodes.getD u default))=c at q4 q5;obtain⟨a,ha⟩:∃a:Nat,(t.nodes.getD u default).n=(a:Int):=⟨_,(GU q0).symm⟩;rw[ha]at q1 q2 q3 q4 q5;have r5:=JZ.1 q5;have r6:=JZ.1 q6;rw[Kv]at r5 r6;refine⟨a,a+1+c,ha,by omega,by omega,λi hi=>?_,?_,λi h1 h2=>?_,λi h1 h2=>?_,?_⟩
 ·exact YR 73 43 (QA hu q2 (by omega) (by omega)).2 (by simp)
 ·exact Ja1 (QA hu q3 (i:=a) (by omega) (by omega)).2
 ·exact YR 83 41 (QA hu q4 (by omega) (by omega)).2 (by simp)
 ·exact YR 78 44 (QA hu q5 (by omega) (by omega)).2 (by simp)
 ·exact YR 71 45 (QA hu q6 (i:=(t.nodes.getD u default).kids.length-1) (by omega) (by omega)).2 (by simp)
theorem block_kids {u:Nat}(hu:u<t.nodes.length)(hk:(t.nodes.getD u default).k=40):∃a:Nat,(t.nodes.getD u default).n=(a:Int)/\a<=(t.nodes.getD u default).kids.length/\
  (∀i,i<a->Jt t.nodes ((t.nodes.getD u default).kids.getD i 0)=41)/\(∀i,a<=i->i<(t.nodes.getD u default).kids.length->1<=Jt t.nodes ((t.nodes.getD u default).kids.getD i 0)/\Jt t.nodes ((t.nodes.getD u default).kids.getD i 0)<=29):=by
 have h:=Jc6 g hu;rw[hk]at h;unfold Qa at h;rw[iN7,iN7,iN7,iN7,iN7,iN7,if_pos rfl]at h;simp only[Gd,Kv]at h;have r:=JZ.1 h.1;rw[Kv]at r;obtain⟨a,ha⟩:∃a:Nat,(t.nodes.getD u default).n=(a:Int):=⟨_,(GU r.2.1).symm⟩;rw[ha]at h r;refine⟨a,ha,by omega,λi hi=>?_,λi h1 h2=>?_⟩
 ·exact YR 83 41 (QA hu h.1 (by omega) (by omega)).2 (by simp)
 ·exact Ja1 (QA hu h.2 (by omega) (by omega)).2
theorem YH {u:Nat}(hu:u<t.nodes.length)(hk:(t.nodes.getD u default).k=41):∃a:Nat,(t.nodes.getD u default).n=(a:Int)/\(t.nodes.getD u default).kids.length=a+1/\
  (∀i,i<a->Jt t.nodes ((t.nodes.getD u default).kids.getD i 0)=42)/\(1<=Jt t.nodes ((t.nodes.getD u default).kids.getD a 0)/\Jt t.nodes ((t.nodes.getD u default).kids.getD a 0)<=29):=by
 have h:=Jc6 g hu;rw[hk]at h;unfold Qa at h;rw[iN7,iN7,iN7,iN7,iN7,iN7,iN7,if_pos rfl]at h;simp only[Gd,beq_iff_eq,Kv]at h;have r:=JZ.1 h.1.2;obtain⟨a,ha⟩:∃a:Nat,(t.nodes.getD u default).n=(a:Int):=⟨_,(GU r.2.1).symm⟩;rw[ha]at h;refine⟨a,ha,by omega,λi hi=>?_,?_⟩
 ·exact YR 98 42 (QA hu h.1.2 (by omega) (by omega)).2 (by simp)
 ·exact Ja1 (QA hu h.2 (i:=a) (by omega) (by omega)).2
theorem Jhu {u:Nat}(hu:u<t.nodes.length)(hk:(t.nodes.getD u default).k=65):∃a:Nat,(t.nodes.getD u default).n=(a:Int)/\a<(t.nodes.getD u default).kids.length/\
  (∀i,i<a->Jt t.nodes ((t.nodes.getD u default).kids.getD i 0)=64)/\(∀i,a<=i->i+1<(t.nodes.getD u default).kids.length->60<=Jt t.nodes ((t.nodes.getD u default).kids.getD i 0)/\Jt t.nodes ((t.nodes.getD u default).kids.getD i 0)<=63)/\Jt t.nodes ((t.nodes.getD u default).kids.getD ((t.nodes.getD u default).kids.length-1) 0)=40:=by
 have h:=Jc6 g hu;rw[hk]at h;unfold Qa at h;rw[iN7,iN7,iN7,iN7,iN7,iN7,iN7,iN7,iN7,iN7,iN7,if_pos rfl]at h;simp only[Gd,Kv]at h;have r:=JZ.1 h.1.1;have r2:=JZ.1 h.2;rw[Kv]at r r2;obtain⟨a,ha⟩:∃a:Nat,(t.nodes.getD u default).n=(a:Int):=⟨_,(GU r.2.1).symm⟩;have r3:=JZ.1 h.1.2;rw[ha]at h r r3;refine⟨a,ha,by omega,λi hi=>?_,λi h1 h2=>?_,?_⟩
 ·exact YR 80 64 (QA hu h.1.1 (by omega) (by omega)).2 (by simp)
 ·exact Jcn (QA hu h.1.2 (by omega) (by omega)).2
 ·exact YR 66 40 (QA hu h.2 (i:=(t.nodes.getD u default).kids.length-1) (by omega) (by omega)).2 (by simp)
theorem Jcb {u:Nat}(hu:u<t.nodes.length)(hk:(t.nodes.getD u default).k=47):(t.nodes.getD u default).kids.length=3/\(∀i,i<2->Jt t.nodes ((t.nodes.getD u default).kids.getD i 0)=48)/\
  (1<=Jt t.nodes ((t.nodes.getD u default).kids.getD 2 0)/\Jt t.nodes ((t.nodes.getD u default).kids.getD 2 0)<=29):=by
 have h:=Jc6 g hu;rw[hk]at h;unfold Qa at h;rw[iN7,iN7,iN7,iN7,iN7,iN7,iN7,iN7,iN7,iN7,if_pos rfl]at h;simp only[Gd,beq_iff_eq,Kv]at h;refine⟨by omega,λi hi=>?_,?_⟩
 ·exact YR 79 48 (QA hu h.1.2 (by omega) (by omega)).2 (by simp)
 ·exact Ja1 (QA hu h.2 (i:=2) (by omega) (by omega)).2
omit g in
theorem Yu {k:Nat}{hv:List UInt8}{c:UInt8}(h:c∈K7 k hv):(c=80->k=65)/\(c=73->k=28)/\(c=98->k=41)/\(c=83->k=40\/k=28)/\(c=99->k=29)/\(c=78->k=28)/\(c=116->k=25\/k=62\/k=63\/k=64\/k=42\/k=65)/\(c=79->k=46\/k=47)/\c≠68:=by
 unfold K7 at h
 dsimp only at h
 by_cases e0:4<=k/\k<=18
 ·rw[if_pos e0]at h;refine⟨?_,?_,?_,?_,?_,?_,?_,?_,?_⟩ <;> rintro rfl <;> first|omega|simp[]at h
 rw[if_neg e0]at h;by_cases e1:(19<=k/\k<=24)\/k=43\/k=44
 ·rw[if_pos e1]at h;refine⟨?_,?_,?_,?_,?_,?_,?_,?_,?_⟩ <;> rintro rfl <;> first|omega|simp[]at h
 rw[if_neg e1]at h;by_cases e2:k=25\/k=62\/k=63\/k=64
 ·rw[if_pos e2]at h;refine⟨?_,?_,?_,?_,?_,?_,?_,?_,?_⟩ <;> rintro rfl <;> first|omega|simp[]at h
 rw[if_neg e2]at h;by_cases e3:k=26\/k=45
 ·rw[if_pos e3]at h;refine⟨?_,?_,?_,?_,?_,?_,?_,?_,?_⟩ <;> rintro rfl <;> first|omega|simp[Gr]at h
 rw[if_neg e3]at h;by_cases e4:k=27
 ·rw[if_pos e4]at h;refine⟨?_,?_,?_,?_,?_,?_,?_,?_,?_⟩ <;> rintro rfl <;> first|omega|simp[]at h
 rw[if_neg e4]at h;by_cases e5:k=28
 ·rw[if_pos e5]at h;refine⟨?_,?_,?_,?_,?_,?_,?_,?_,?_⟩ <;> rintro rfl <;> first|omega|simp[Gr]at h
 rw[if_neg e5]at h;by_cases e6:k=29
 ·rw[if_pos e6]at h;refine⟨?_,?_,?_,?_,?_,?_,?_,?_,?_⟩ <;> rintro rfl <;> first|omega|simp[Gr]at h
 rw[if_neg e6]at h;by_cases e7:k=40
 ·rw[if_pos e7]at h;refine⟨?_,?_,?_,?_,?_,?_,?_,?_,?_⟩ <;> rintro rfl <;> first|omega|simp[Gr]at h
 rw[if_neg e7]at h;by_cases e8:k=41
 ·rw[if_pos e8]at h;refine⟨?_,?_,?_,?_,?_,?_,?_,?_,?_⟩ <;> rintro rfl <;> first|omega|simp[Gr]at h
 rw[if_neg e8]at h;by_cases e9:k=42/\hv≠[]
 ·rw[if_pos e9]at h;refine⟨?_,?_,?_,?_,?_,?_,?_,?_,?_⟩ <;> rintro rfl <;> first|omega|simp[]at h
 rw[if_neg e9]at h;by_cases e10:k=46
 ·rw[if_pos e10]at h;refine⟨?_,?_,?_,?_,?_,?_,?_,?_,?_⟩ <;> rintro rfl <;> first|omega|simp[]at h
 rw[if_neg e10]at h;by_cases e11:k=47
 ·rw[if_pos e11]at h;refine⟨?_,?_,?_,?_,?_,?_,?_,?_,?_⟩ <;> rintro rfl <;> first|omega|simp[]at h
 rw[if_neg e11]at h;by_cases e12:k=65
 ·rw[if_pos e12]at h;refine⟨?_,?_,?_,?_,?_,?_,?_,?_,?_⟩ <;> rintro rfl <;> first|omega|simp[Gr]at h
 rw[if_neg e12]at h;simp at h
theorem par_kind {u:Nat}(hu:u<t.nodes.length){c:Int}(hc:c∈(t.nodes.getD u default).kids):Jdz (Jt t.nodes c)∈K7 (t.nodes.getD u default).k (lets t.nodes (t.nodes.getD u default)):=by
 have h:=g.nds (t.nodes.getD u default) (by rw[rowN hu];exact GK hu);unfold ndI J6 at h;simp only[Gd,beq_iff_eq]at h;rw[<-h.1.1.1.2];unfold lets;exact List.mem_map_of_mem hc
end
end
section
section
variable {t:Tr}{o:List Int}(g:GoodT t o)
def nd (t:Tr)(j:Nat):Nd:=t.nodes.getD j default
def blw (o:List Int)(j a:Nat):Prop:=j<=a/\fs o a<=j
include g
theorem JR {n m:Nat}(hm:m<t.nodes.length)(h:(n:Int)∈(nd t m).kids):Kk t n=m/\n<m:=by
 have hr:=g.kid hm h;rcases Xh g (n:=n) (by omega) with ⟨_,h2⟩|⟨m',h1,h2,h3,h4⟩
 ·exact absurd h (h2 m hm)
 ·have:=g.ord.parent_one (Kg hm) (Kg h3) h h4;subst this;exact⟨h1,h2⟩
theorem fs_le {a:Nat}(ha:a<t.nodes.length):0<=fs o a/\fs o a<=a:=Jhc g.ord.ok (by omega) (by rw[g.olen];omega)
theorem Jbw {a:Nat}(ha:a<t.nodes.length):blw o a a:=⟨Gp _,(fs_le g ha).2⟩
theorem Qn {i j a:Nat}(ha:a<t.nodes.length)(h1:blw o i j)(h2:blw o j a):blw o i a:=by
 have:=g.ord.nest a j (by rw[Qs];exact ha) (by omega) h2.2 (by have:=h2.1;omega);refine⟨Nat.le_trans h1.1 h2.1,?_⟩;have:=h1.2;omega
theorem Qt {n m:Nat}(hm:m<t.nodes.length)(h:(n:Int)∈(nd t m).kids):blw o n m:=by
 have h1:=g.ord.kid_rng (Kg hm) h;have h2:=(fs_le g (a:=n) (by omega)).2;exact⟨by omega,by omega⟩
theorem Jb4 {j u:Nat}(hu:u<t.nodes.length)(h:blw o j u):j=u\/∃c:Nat,(c:Int)∈(nd t u).kids/\blw o j c:=by
 by_cases he:j=u
 ·exact .inl he
 ·have h1:=h.1;obtain⟨c,hc,h3,h4⟩:=Xx g.ord.ok rfl _ _ _ (j:Int) (g.ord.kids (Kg hu)) h.2 (by omega);have hr:=g.kid hu hc;obtain⟨c,rfl⟩:∃k:Nat,c=(k:Int):=⟨c.toNat,by omega⟩;exact .inr ⟨c,hc,by omega,h3⟩
theorem kid_one {j u c d:Nat}(hu:u<t.nodes.length)(hc:(c:Int)∈(nd t u).kids)(hd:(d:Int)∈(nd t u).kids)(h1:blw o j c)(h2:blw o j d):c=d:=by
 have a1:=h1.1;have a2:=h2.1;have:=Je5 g.ord.ok rfl _ _ _ (j:Int) c d (g.ord.kids (Kg hu)) hc hd h1.2 (by omega) h2.2 (by omega);omega
theorem XN {j a:Nat}(ha:a<t.nodes.length)(h:blw o j a)(Ai:j≠a):∃m:Nat,Kk t j=m/\j<m/\m<=a/\blw o m a/\(j:Int)∈(nd t m).kids:=by
 have h1:=h.1;obtain⟨m,q1,q2,q3⟩:=par_in g a j ha h.2 (by omega);have:=(JR g (show m<t.nodes.length by omega) q3).1;exact⟨m,this,q1,q2,⟨q2,by have:=h.2;omega⟩,q3⟩
def Xo (t:Tr)(u k:Nat):List Int:=(nd t u).kids.filter λc=>Jt t.nodes c == k
def Jaa (t:Tr)(u:Nat):List Int:=((Xo t u 41).map λs=>Xo t s.toNat 42).flatten
def JcC (t:Tr)(u a:Nat):List Int:=
 if (nd t u).k=40 then Jaa t u
 else if (nd t u).k=65 then Xo t u 64
 else if (nd t u).k=47 then(if (a:Int)=(nd t u).kids.getD 2 0 then [(u:Int)] else [])
 else if (nd t u).k=28 then(if (nd t a).k=43 then [] else if (nd t a).k=41\/(nd t a).k=44 then Xo t u 43++Jaa t u else Xo t u 43)
 else []
def X9 (t:Tr):Nat->Nat->List Int
 |0,_=>[]
 |f+1,a=>if Kk t a<0 then [] else JcC t (Kk t a).toNat a++X9 t f (Kk t a).toNat
def inS (t:Tr)(o:List Int)(d:Int)(j:Nat):Prop:=∃u a:Nat,u<t.nodes.length/\(a:Int)∈(nd t u).kids/\blw o j a/\d∈JcC t u a
theorem Je4:∀(f j:Nat) (d:Int),j<t.nodes.length->t.nodes.length<=j+f->(d∈X9 t f j↔inS t o d j):=by
 intro f
 induction f with
 |zero=>intro j d h1 h2;omega
 |succ f ih=>
  intro j d h1 h2;unfold X9;rcases Xh g h1 with ⟨hp,BJ⟩|⟨m,hp,Ib,Cq,MX⟩
  ·rw[hp,if_pos (by decide)];refine⟨λh=>by simp at h,λ⟨u,a,hu,ha,hb,_⟩=>?_⟩;exfalso;have R9:=(JR g hu ha).2;by_cases he:j=a
   ·subst he;exact BJ u hu ha
   ·obtain⟨m,q1,_⟩:=XN g (show a<t.nodes.length by omega) hb he;rw[hp]at q1;omega
  ·rw[hp,iN7,Gn,Gb,ih m d Cq (by omega)]
   constructor
   ·rintro(h|⟨u,a,hu,ha,hb,hd⟩)
    ·exact⟨m,j,Cq,MX,Jbw g h1,h⟩
    ·have R9:=(JR g hu ha).2;exact⟨u,a,hu,ha,Qn g (by omega) (Qt g Cq MX) hb,hd⟩
   ·rintro⟨u,a,hu,ha,hb,hd⟩;have R9:=(JR g hu ha);by_cases he:j=a
    ·subst he;have:u=m:=by rw[hp]at R9;omega
     subst this;exact .inl hd
    ·obtain⟨m',q1,_,_,q4,_⟩:=XN g (show a<t.nodes.length by omega) hb he;have:m'=m:=by rw[hp]at q1;omega
     subst this;exact .inr ⟨u,a,hu,ha,q4,hd⟩
omit g in
theorem Qm {u k:Nat}{c:Int}:c∈Xo t u k↔c∈(nd t u).kids/\Jt t.nodes c=k:=by
 unfold Xo;simp
theorem Jcl {u:Nat}(hu:u<t.nodes.length){d:Int}:d∈Jaa t u↔∃s:Nat,(s:Int)∈(nd t u).kids/\(nd t s).k=41/\d∈(nd t s).kids/\Jt t.nodes d=42:=by
 unfold Jaa;simp only[H6,Gy]
 constructor
 ·rintro⟨l,⟨s,hs,rfl⟩,hd⟩;rw[Qm]at hs hd;have hr:=g.kid hu hs.1;refine⟨s.toNat,?_,?_,hd.1,hd.2⟩
  ·rw[show ((s.toNat:Nat):Int)=s by omega];exact hs.1
  ·exact hs.2
 ·rintro⟨s,h1,h2,h3,h4⟩;refine⟨_,⟨(s:Int),(Qm).2 ⟨h1,by unfold Jt;rw[Gb];exact h2⟩,rfl⟩,?_⟩;rw[Qm,Gb];exact⟨h3,h4⟩
end
end
section
section
variable {t:Tr}{o:List Int}(g:GoodT t o)
def Ji (t:Tr)(u:Nat):Nat:=((nd t u).kids.getD ((nd t u).kids.length-1) 0).toNat
def JG (t:Tr)(u i:Nat):Nat:=((nd t u).kids.getD i 0).toNat
def inR (t : Tr)(o : List Int)(d j : Nat) : Prop :=
  if (nd t d).k = 65 then True
  else if (nd t d).k = 64 then blw o j (Ji t (Kk t d).toNat)
  else if (nd t d).k = 43 then ∃i : Nat, (nd t (Kk t d).toNat).n <= i /\ i < (nd t (Kk t d).toNat).kids.length /\ blw o j (JG t (Kk t d).toNat i)
  else if (nd t d).k = 47 then blw o j (Ji t d)
  else if (nd t d).k = 42 then
    (if (nd t (Kk t (Kk t d).toNat).toNat).k = 40 then blw o j (Kk t (Kk t d).toNat).toNat
     else ∃i : Nat, (nd t (Kk t (Kk t d).toNat).toNat).n + 1 <= i /\ i + 1 < (nd t (Kk t (Kk t d).toNat).toNat).kids.length /\ blw o j (JG t (Kk t (Kk t d).toNat).toNat i))
  else False
include g
theorem Jz {u i:Nat}(hu:u<t.nodes.length)(hi:i<(nd t u).kids.length):((JG t u i:Nat):Int)∈(nd t u).kids/\JG t u i<u/\(nd t (JG t u i)).k=Jt t.nodes ((nd t u).kids.getD i 0):=by
 have hm:(nd t u).kids.getD i 0∈(nd t u).kids:=by
  rw[Gc,Gf hi];exact GK hi
 have hr:=g.kid hu hm;unfold JG;refine⟨?_,by omega,rfl⟩;rw[show ((((nd t u).kids.getD i 0).toNat:Nat):Int)=(nd t u).kids.getD i 0 by omega];exact hm
omit g in
theorem Jcr {u a:Nat}(ha:(a:Int)∈(nd t u).kids):∃i,i<(nd t u).kids.length/\JG t u i=a/\(nd t u).kids.getD i 0=(a:Int):=by
 obtain⟨i,hi,he⟩:=GZ ha;refine⟨i,hi,?_,?_⟩
 ·unfold JG;rw[Gc,Gf hi,GQ,he];rfl
 ·rw[Gc,Gf hi,GQ,he]
theorem Jd5:∀(a j:Nat),a<t.nodes.length->60<=(nd t a).k->(nd t a).k<=64->blw o j a->60<=(nd t j).k/\(nd t j).k<=64:=by
 intro a
 induction a using Nat.strongRecOn with
 |_ a ih=>
  intro j ha h1 h2 hb;rcases Jb4 g ha hb with rfl|⟨c,hc,Cr⟩
  ·exact⟨h1,h2⟩
  ·have hl:=par_kind g ha hc;have hr:=g.kid ha hc;change Jdz (Jt t.nodes (c:Int))∈K7 (nd t a).k _ at hl;have hk:Jdz (Jt t.nodes (c:Int))=116:=by
    unfold K7 at hl
    dsimp only at hl
    rcases (show (nd t a).k=60\/(nd t a).k=61\/(nd t a).k=62\/(nd t a).k=63\/(nd t a).k=64 by omega) with e|e|e|e|e <;> rw[e]at hl <;> simp at hl
    all_goals exact hl
   have Av:=Jcn hk;have EB:Jt t.nodes (c:Int)=(nd t c).k:=by unfold Jt nd;rw[Gb]
   rw[EB]at Av;exact ih c (by omega) j (by omega) (by omega) (by omega) Cr
theorem QV {d:Nat}(hd:d<t.nodes.length)(hk:(nd t d).k≠65):∃u:Nat,Kk t d=u/\u<t.nodes.length/\d<u/\(d:Int)∈(nd t u).kids:=by
 rcases Xh g hd with ⟨h1,h2⟩|⟨u,h1,h2,h3,h4⟩
 ·exfalso;obtain⟨L,hL,h5,h6⟩:=Xx g.ord.ok g.olen _ _ _ (d:Int) g.its (by omega) (by omega);have hr:=g.itr hL;obtain⟨L,rfl⟩:∃k:Nat,L=(k:Int):=⟨L.toNat,by omega⟩;by_cases he:d=L
  ·subst he;have:=g.defs _ hL;unfold Jt at this;rw[Gb]at this;exact hk this
  ·obtain⟨m,q1,q2,q3⟩:=par_in g L d (by omega) h5 (by omega);exact h2 m (by omega) q3
 ·exact⟨u,h1,h3,h2,h4⟩
theorem JcY {d u:Nat}(hu:u<t.nodes.length)(h:(d:Int)∈(nd t u).kids):Jdz (nd t d).k∈K7 (nd t u).k (lets t.nodes (nd t u)):=by
 have:=par_kind g hu h;unfold Jt at this;rw[Gb]at this;exact this
theorem Qy {u a d:Nat}(hu:u<t.nodes.length):(d:Int)∈JcC t u a↔
  ((nd t u).k=40/\∃s:Nat,(s:Int)∈(nd t u).kids/\(nd t s).k=41/\(d:Int)∈(nd t s).kids/\(nd t d).k=42)\/
  ((nd t u).k=65/\(d:Int)∈(nd t u).kids/\(nd t d).k=64)\/
  ((nd t u).k=47/\(a:Int)=(nd t u).kids.getD 2 0/\d=u)\/
  ((nd t u).k=28/\(nd t a).k≠43/\(((d:Int)∈(nd t u).kids/\(nd t d).k=43)\/(((nd t a).k=41\/(nd t a).k=44)/\∃s:Nat,(s:Int)∈(nd t u).kids/\(nd t s).k=41/\(d:Int)∈(nd t s).kids/\(nd t d).k=42))):=by
 have EZ:Jt t.nodes (d:Int)=(nd t d).k:=by unfold Jt nd;rw[Gb]
 unfold JcC;by_cases e1:(nd t u).k=40
 ·rw[if_pos e1,Jcl g hu,EZ];simp[e1]
 rw[if_neg e1];by_cases e2:(nd t u).k=65
 ·rw[if_pos e2,Qm,EZ];simp[e2]
 rw[if_neg e2];by_cases e3:(nd t u).k=47
 ·rw[if_pos e3];by_cases e4:(a:Int)=(nd t u).kids.getD 2 0
  ·rw[if_pos e4];simp only[Gt,e3,e4];simp;omega
  ·rw[if_neg e4];refine⟨λh=>by simp at h,λh=>?_⟩;rcases h with ⟨q,_⟩|⟨q,_⟩|⟨_,q,_⟩|⟨q,_⟩
   ·omega
   ·omega
   ·exact absurd q e4
   ·omega
 rw[if_neg e3];by_cases e5:(nd t u).k=28
 ·rw[if_pos e5];by_cases e6:(nd t a).k=43
  ·rw[if_pos e6];simp[e5,e6]
  ·rw[if_neg e6];by_cases e7:(nd t a).k=41\/(nd t a).k=44
   ·rw[if_pos e7,Gn,Qm,Jcl g hu,EZ];simp[e5,e6,e7]
   ·rw[if_neg e7,Qm,EZ];simp[e5,e6,e7]
 ·rw[if_neg e5];simp[e1,e2,e3,e5]
theorem inS_inR {d j:Nat}(hd:d<t.nodes.length)(hj:j<t.nodes.length)(Co:1<=(nd t j).k/\(nd t j).k<=29)(hk:(nd t d).k=64\/(nd t d).k=43\/(nd t d).k=47\/(nd t d).k=42):inS t o (d:Int) j↔inR t o d j:=by
 obtain⟨u,hp,hu,I9,Ps⟩:=QV g hd (by omega);have OM:=Yu (JcY g hu Ps);unfold inR;rw[hp,Gb,iN7];rcases hk with e|e|e|e
 ·
  rw[if_pos e];have PM:(nd t u).k=65:=OM.1 (by rw[e];rfl);obtain⟨N,hN,iJ,k1,k2,k3⟩:=Jhu g hu PM;change N<(nd t u).kids.length at iJ
  constructor
  ·rintro⟨v,a,hv,ha,hb,Bq⟩;rw[Qy g hv]at Bq;have UF:v=u/\(nd t v).k=65:=by
    rcases Bq with ⟨_,s,_,_,_,q⟩|⟨q1,q2,_⟩|⟨q1,_,q2⟩|⟨_,_,⟨_,q⟩|⟨_,s,_,_,_,q⟩⟩
    ·omega
    ·have:=(JR g hv q2).1;exact⟨by omega,q1⟩
    ·subst q2;omega
    ·omega
    ·omega
   obtain⟨rfl,_⟩:=UF;obtain⟨i,hi,DD,Ar⟩:=Jcr ha;by_cases hl:i+1<(nd t v).kids.length
   ·exfalso;have RG:60<=(nd t a).k/\(nd t a).k<=64:=by
     have h3:=(Jz g hv hi).2.2;rw[DD]at h3;by_cases Pn:i<N
     ·have:=k1 i Pn;change Jt t.nodes ((nd t v).kids.getD i 0)=64 at this;omega
     ·have:=k2 i (by omega) hl;change 60<=Jt t.nodes ((nd t v).kids.getD i 0)/\Jt t.nodes ((nd t v).kids.getD i 0)<=63 at this;omega
    have:=Jd5 g a j (by have:=(JR g hv ha).2;omega) RG.1 RG.2 hb;omega
   ·have Af:i=(nd t v).kids.length-1:=by omega
    have:Ji t v=a:=by rw[<-DD,Af];rfl
    rw[this];exact hb
  ·intro h;have hm:=Jz g hu (i:=(nd t u).kids.length-1) (by omega);exact⟨u,Ji t u,hu,hm.1,h,(Qy g hu).2 (.inr (.inl ⟨PM,Ps,e⟩))⟩
 ·
  rw[iN7,if_pos e];have PN:(nd t u).k=28:=OM.2.1 (by rw[e];rfl);obtain⟨N,M,hN,dh,di,k1,k2,k3,k4,k5⟩:=XZ g hu PN;change (nd t u).n=(N:Int) at hN;rw[hN]
  constructor
  ·rintro⟨v,a,hv,ha,hb,Bq⟩;rw[Qy g hv]at Bq;have UF:v=u/\(nd t a).k≠43:=by
    rcases Bq with ⟨_,s,_,_,_,q⟩|⟨_,_,q⟩|⟨q1,_,q2⟩|⟨q0,q1,⟨q2,q⟩|⟨_,s,_,_,_,q⟩⟩
    ·omega
    ·omega
    ·subst q2;omega
    ·have:=(JR g hv q2).1;exact⟨by omega,q1⟩
    ·omega
   obtain⟨rfl,S9⟩:=UF;obtain⟨i,hi,DD,Ar⟩:=Jcr ha;have h3:=(Jz g hv hi).2.2;rw[DD]at h3;refine⟨i,?_,hi,by rw[DD];exact hb⟩;by_cases Pn:i<N
   ·have:=k1 i Pn;change Jt t.nodes ((nd t v).kids.getD i 0)=43 at this;omega
   ·omega
  ·rintro⟨i,h1,h2,h3⟩;have hm:=Jz g hu h2;have S9:(nd t (JG t u i)).k≠43:=by
    rw[hm.2.2];rcases (show i=N\/(N+1<=i/\i<M)\/(M<=i/\i+1<(nd t u).kids.length)\/i=(nd t u).kids.length-1 by omega) with rfl|h|h|rfl
    ·have:=k2.2;change Jt t.nodes ((nd t u).kids.getD i 0)<=29 at this;omega
    ·have:=k3 i h.1 h.2;change Jt t.nodes ((nd t u).kids.getD i 0)=41 at this;omega
    ·have:=k4 i h.1 h.2;change Jt t.nodes ((nd t u).kids.getD i 0)=44 at this;omega
    ·have:=k5;change Jt t.nodes ((nd t u).kids.getD ((nd t u).kids.length-1) 0)=45 at this;omega
   exact⟨u,JG t u i,hu,hm.1,h3,(Qy g hu).2 (.inr (.inr (.inr ⟨PN,S9,.inl ⟨Ps,e⟩⟩)))⟩
 ·
  rw[iN7,iN7,if_pos e];obtain⟨Mx,_,_⟩:=Jcb g hd e;change (nd t d).kids.length=3 at Mx
  constructor
  ·rintro⟨v,a,hv,ha,hb,Bq⟩;rw[Qy g hv]at Bq;rcases Bq with ⟨_,s,_,_,_,q⟩|⟨_,_,q⟩|⟨q1,q3,q2⟩|⟨q0,q1,⟨q2,q⟩|⟨_,s,_,_,_,q⟩⟩
   ·omega
   ·omega
   ·subst q2;have:Ji t d=a:=by unfold Ji;rw[Mx];change ((nd t d).kids.getD 2 0).toNat=a;rw[<-q3];rfl
    rw[this];exact hb
   ·omega
   ·omega
  ·intro h;have hm:=Jz g hd (i:=2) (by omega);have CK:Ji t d=JG t d 2:=by unfold Ji JG;rw[Mx]
   rw[CK]at h;refine⟨d,JG t d 2,hd,hm.1,h,(Qy g hd).2 (.inr (.inr (.inl ⟨e,?_,rfl⟩)))⟩;have hr:=g.kid hd (k:=(nd t d).kids.getD 2 0) (by
    change (nd t d).kids.getD 2 0∈(nd t d).kids;rw[Gc,Gf (show 2<(nd t d).kids.length by omega)];exact GK _)
   unfold JG;omega
 ·
  rw[iN7,iN7,iN7,if_pos e];have Oo:(nd t u).k=41:=OM.2.2.1 (by rw[e];rfl);obtain⟨w,fC,hw,UI,UJ⟩:=QV g hu (by omega);have RA:=Yu (JcY g hw UJ);have Ev:(nd t w).k=40\/(nd t w).k=28:=RA.2.2.2.1 (by rw[Oo];rfl);rw[fC,Gb];have SH:∀v s:Nat,v<t.nodes.length->(s:Int)∈(nd t v).kids->(d:Int)∈(nd t s).kids->v=w/\s=u:=λv s hv q1 q2=>by
   have eF:=JR g hv q1;have hs:=(JR g (show s<t.nodes.length by omega) q2).1;have:s=u:=by omega
   subst this;exact⟨by have:=eF.1;omega,rfl⟩
  constructor
  ·rintro⟨v,a,hv,ha,hb,Bq⟩;rw[Qy g hv]at Bq;rcases Bq with ⟨q0,s,q1,q2,q3,q⟩|⟨_,_,q⟩|⟨q1,_,q2⟩|⟨q0,q4,⟨_,q⟩|⟨q5,s,q1,q2,q3,q⟩⟩
   ·obtain⟨rfl,rfl⟩:=SH v s hv q1 q3;rw[if_pos q0];exact Qn g hv hb (Qt g hv ha)
   ·omega
   ·subst q2;omega
   ·omega
   ·obtain⟨rfl,rfl⟩:=SH v s hv q1 q3;rw[iN7];obtain⟨N,M,hN,dh,di,k1,k2,k3,k4,k5⟩:=XZ g hv q0;change (nd t v).n=(N:Int) at hN;obtain⟨i,hi,DD,Ar⟩:=Jcr ha;have h3:=(Jz g hv hi).2.2;rw[DD]at h3;refine⟨i,?_,?_,by rw[DD];exact hb⟩
    ·rw[hN];by_cases Pn:i<N
     ·have:=k1 i Pn;change Jt t.nodes ((nd t v).kids.getD i 0)=43 at this;omega
     ·by_cases Z4:i=N
      ·subst Z4;have:=k2.2;change Jt t.nodes ((nd t v).kids.getD i 0)<=29 at this;omega
      ·omega
    ·by_cases hl:i+1<(nd t v).kids.length
     ·exact hl
     ·have Af:i=(nd t v).kids.length-1:=by omega
      have:=k5;change Jt t.nodes ((nd t v).kids.getD ((nd t v).kids.length-1) 0)=45 at this;rw[<-Af]at this;omega
  ·rcases Ev with PH|Mk
   ·rw[if_pos PH];intro h;rcases Jb4 g hw h with rfl|⟨c,hc,hb⟩
    ·omega
    ·exact⟨w,c,hw,hc,hb,(Qy g hw).2 (.inl ⟨PH,u,UJ,Oo,Ps,e⟩)⟩
   ·rw[iN7];obtain⟨N,M,hN,dh,di,k1,k2,k3,k4,k5⟩:=XZ g hw Mk;change (nd t w).n=(N:Int) at hN;rw[hN];rintro⟨i,h1,h2,h3⟩;have hm:=Jz g hw (show i<(nd t w).kids.length by omega);have DD:(nd t (JG t w i)).k=41\/(nd t (JG t w i)).k=44:=by
     rw[hm.2.2];by_cases gD:i<M
     ·exact .inl (k3 i (by omega) gD)
     ·exact .inr (k4 i (by omega) h2)
    exact⟨w,JG t w i,hw,hm.1,h3,(Qy g hw).2 (.inr (.inr (.inr ⟨Mk,by omega,.inr ⟨DD,u,UJ,Oo,Ps,e⟩⟩)))⟩
end
end
section
theorem JfL {α β:Type}{f:α->List β}:∀{l:List α},l.Nodup->(∀x∈l,(f x).Nodup)->(∀x∈l,∀y∈l,x≠y->∀z∈f x,z∉f y)->((l.map f).flatten).Nodup
 |[],_,_,_=>by simp
 |x::l,h1,h2,h3=>by
  rw[H7]at h1;simp only[GN,List.flatten_cons];rw[G7];refine⟨h2 x (by simp),JfL h1.2 (λy hy=>h2 y (by simp[hy])) (λy hy z hz dN=>h3 y (by simp[hy]) z (by simp[hz]) dN),?_⟩;intro a ha b hb Sd;subst Sd;simp only[H6,Gy]at hb;obtain⟨_,⟨y,hy,rfl⟩,hb⟩:=hb;exact h3 x (by simp) y (by simp[hy]) (λe=>h1.1 (e▸hy)) a ha hb
theorem Yy {o:List Int}{m:Nat}(ho:Q3 o)(hm:o.length=m):∀(l:List Int) (a e:Int),chain o m a l e->l.Nodup
 |[],_,_,_=>by simp
 |i::l,a,e,h=>by
  simp only[chain]at h;rw[H7];refine⟨λhi=>?_,Yy ho hm l _ e h.2⟩;have h1:=QG ho hm l _ e h.2 i hi;have h2:=Jhc ho h1.2.1 (by omega);omega
section
variable {t:Tr}{o:List Int}(g:GoodT t o)
include g
theorem kids_nodup {u:Nat}(hu:u<t.nodes.length):(nd t u).kids.Nodup:=Yy g.ord.ok rfl _ _ _ (g.ord.kids (Kg hu))
theorem Yq {u k:Nat}(hu:u<t.nodes.length):(Xo t u k).Nodup:=(kids_nodup g hu).filter _
theorem Je9 {u:Nat}(hu:u<t.nodes.length):(Jaa t u).Nodup:=by
 unfold Jaa;have hr:∀s∈Xo t u 41,0<=s/\s<u:=λs hs=>g.kid hu (Qm.1 hs).1
 refine JfL (Yq g hu) (λs hs=>Yq g (by have:=hr s hs;omega)) λs hs s' Az Ai z hz DJ=>?_
 have h1:=hr s hs;have h2:=hr s' Az;have:=g.ord.parent_one (Kg (show s.toNat<t.nodes.length by omega)) (Kg (show s'.toNat<t.nodes.length by omega)) (Qm.1 hz).1 (Qm.1 DJ).1;omega
def whoD (t:Tr)(d:Nat):Int:=if (nd t d).k=47 then d else if (nd t d).k=42 then Kk t (Kk t d).toNat else Kk t d
theorem decl_who {u a:Nat}{d:Int}(hu:u<t.nodes.length)(h:d∈JcC t u a):0<=d/\d<t.nodes.length/\whoD t d.toNat=u:=by
 have hd:0<=d/\d<=u:=by
  have hb:d∈Jaa t u->0<=d/\d<=u:=λh=>by
   rw[Jcl g hu]at h;obtain⟨s,q1,_,q3,_⟩:=h;have h1:=(JR g hu q1).2;have h2:=g.kid (show s<t.nodes.length by omega) q3;omega
  have hk:∀k,d∈Xo t u k->0<=d/\d<=u:=λk h=>by
   have:=g.kid hu (Qm.1 h).1;omega
  unfold JcC at h
  split at h
  ·exact hb h
  split at h
  ·exact hk _ h
  split at h
  ·split at h
   ·simp at h;omega
   ·simp at h
  split at h
  ·split at h
   ·simp at h
   split at h
   ·rcases Gn.1 h with h|h
    ·exact hk _ h
    ·exact hb h
   ·exact hk _ h
  ·simp at h
 obtain⟨d,rfl⟩:∃n:Nat,d=(n:Int):=⟨d.toNat,by omega⟩;rw[Qy g hu]at h;refine⟨by omega,by omega,?_⟩;rw[Gb];unfold whoD;have bind:(∃s:Nat,(s:Int)∈(nd t u).kids/\(nd t s).k=41/\(d:Int)∈(nd t s).kids/\(nd t d).k=42)->(if (nd t d).k=47 then(d:Int) else if (nd t d).k=42 then Kk t (Kk t d).toNat else Kk t d)=u:=by
  rintro⟨s,q1,_,q3,q4⟩;have hs:=JR g hu q1;have MI:=(JR g (show s<t.nodes.length by omega) q3).1;rw[iN7,if_pos q4,MI,Gb];exact hs.1
 rcases h with ⟨_,hb⟩|⟨_,q,q2⟩|⟨q1,_,rfl⟩|⟨_,_,⟨q,q2⟩|⟨_,hb⟩⟩
 ·exact bind hb
 ·rw[iN7,iN7];exact(JR g hu q).1
 ·rw[if_pos q1]
 ·rw[iN7,iN7];exact(JR g hu q).1
 ·exact bind hb
theorem decl_nodup {u a:Nat}(hu:u<t.nodes.length):(JcC t u a).Nodup:=by
 unfold JcC
 split
 ·exact Je9 g hu
 split
 ·exact Yq g hu
 split
 ·split <;> simp
 split
 ·split
  ·simp
  split
  ·rw[G7];refine⟨Yq g hu,Je9 g hu,λx hx y hy he=>?_⟩;subst he;have h1:=(Qm.1 hx).2;have h0:=g.kid hu (Qm.1 hx).1;rw[Jcl g hu]at hy;obtain⟨s,_,_,_,h2⟩:=hy;omega
  ·exact Yq g hu
 ·simp
theorem climb_who:∀(f j:Nat) (d:Int),j<t.nodes.length->d∈X9 t f j->0<=d/\d<t.nodes.length/\(j:Int)<whoD t d.toNat:=by
 intro f
 induction f with
 |zero=>intro j d _ h;simp[X9]at h
 |succ f ih=>
  intro j d hj h;unfold X9 at h;rcases Xh g hj with ⟨hp,_⟩|⟨m,hp,Ib,Cq,_⟩
  ·rw[hp,if_pos (by decide)]at h;simp at h
  ·rw[hp,iN7,Gn,Gb]at h;rcases h with h|h
   ·have:=decl_who g Cq h;exact⟨this.1,this.2.1,by omega⟩
   ·have:=ih m d Cq h;exact⟨this.1,this.2.1,by omega⟩
theorem climb_nodup:∀(f j:Nat),j<t.nodes.length->(X9 t f j).Nodup:=by
 intro f
 induction f with
 |zero=>intro j _;simp[X9]
 |succ f ih=>
  intro j hj;unfold X9;rcases Xh g hj with ⟨hp,_⟩|⟨m,hp,Ib,Cq,_⟩
  ·rw[hp,if_pos (by decide)];simp
  ·rw[hp,iN7,Gb,G7];refine⟨decl_nodup g Cq,ih m Cq,λx hx y hy he=>?_⟩;subst he;have h1:=(decl_who g Cq hx).2.2;have h2:=(climb_who g f m x Cq hy).2.2;omega
theorem Jhs {d:Nat}(hd:d<t.nodes.length)(hk:(nd t d).k=65):Kk t d = -1/\(d:Int)∈t.items:=by
 have hp:Kk t d = -1:=by
  rcases Xh g hd with ⟨h,_⟩|⟨m,_,_,hm,Cq⟩
  ·exact h
  ·exfalso;exact(Yu (JcY g hm Cq)).2.2.2.2.2.2.2.2 (by rw[hk];rfl)
 refine⟨hp,?_⟩;obtain⟨L,hL,h5,h6⟩:=Xx g.ord.ok g.olen _ _ _ (d:Int) g.its (by omega) (by omega);have hr:=g.itr hL;obtain⟨L,rfl⟩:∃k:Nat,L=(k:Int):=⟨L.toNat,by omega⟩;by_cases he:d=L
 ·subst he;exact hL
 ·exfalso;obtain⟨m,q1,q2,q3⟩:=par_in g L d (by omega) h5 (by omega);have:=(JR g (show m<t.nodes.length by omega) q3).1;omega
end
end
section
def Jbx (o:List Int)(j a:Nat):Bool:=decide (j<=a) && decide (fs o a<=j)
theorem Qp {o:List Int}{j a:Nat}:Jbx o j a=true↔blw o j a:=by simp[Jbx,blw]
def bkB (t:Tr)(o:List Int)(j u:Nat)(m:Int)(last:Bool):Bool:=
 (Ga (nd t u).kids.length).any λi=>decide (m<=i) && ((last || decide (i+1<(nd t u).kids.length)) && Jbx o j (JG t u i))
def inB (t : Tr)(o : List Int)(d j : Nat) : Bool :=
  if (nd t d).k = 65 then true
  else if (nd t d).k = 64 then Jbx o j (Ji t (Kk t d).toNat)
  else if (nd t d).k = 43 then bkB t o j (Kk t d).toNat (nd t (Kk t d).toNat).n true
  else if (nd t d).k = 47 then Jbx o j (Ji t d)
  else if (nd t d).k = 42 then
    (if (nd t (Kk t (Kk t d).toNat).toNat).k = 40 then Jbx o j (Kk t (Kk t d).toNat).toNat
     else bkB t o j (Kk t (Kk t d).toNat).toNat ((nd t (Kk t (Kk t d).toNat).toNat).n + 1) false)
  else false
def KI (k:Nat):Bool:=k == 65 || k == 64 || k == 42 || k == 43 || k == 47
theorem bkB_iff {t:Tr}{o:List Int}{j u:Nat}{m:Int}{last:Bool}:bkB t o j u m last=true↔∃i:Nat,m<=i/\i<(nd t u).kids.length/\(last=true\/i+1<(nd t u).kids.length)/\blw o j (JG t u i):=by
 unfold bkB;simp only[Gw,Gh,Gd,Hm,decide_eq_true_eq,Qp]
 constructor
 ·rintro⟨i,h1,h2,h3,h4⟩;exact⟨i,h2,h1,h3,h4⟩
 ·rintro⟨i,h1,h2,h3,h4⟩;exact⟨i,h2,h1,h3,h4⟩
theorem inB_iff {t:Tr}{o:List Int}{d j:Nat}:inB t o d j=true↔inR t o d j:=by
 unfold inB inR;by_cases e1:(nd t d).k=65
 ·simp[e1]
 by_cases e2:(nd t d).k=64
 ·rw[if_neg e1,if_pos e2,if_neg e1,if_pos e2];exact Qp
 by_cases e3:(nd t d).k=43
 ·rw[if_neg e1,if_neg e2,if_pos e3,if_neg e1,if_neg e2,if_pos e3,bkB_iff]
  constructor
  ·rintro⟨i,h1,h2,_,h4⟩;exact⟨i,h1,h2,h4⟩
  ·rintro⟨i,h1,h2,h4⟩;exact⟨i,h1,h2,.inl rfl,h4⟩
 by_cases e4:(nd t d).k=47
 ·rw[if_neg e1,if_neg e2,if_neg e3,if_pos e4,if_neg e1,if_neg e2,if_neg e3,if_pos e4];exact Qp
 by_cases e5:(nd t d).k=42
 ·rw[if_neg e1,if_neg e2,if_neg e3,if_neg e4,if_pos e5,if_neg e1,if_neg e2,if_neg e3,if_neg e4,if_pos e5];by_cases e6:(nd t (Kk t (Kk t d).toNat).toNat).k=40
  ·rw[if_pos e6,if_pos e6];exact Qp
  ·rw[if_neg e6,if_neg e6,bkB_iff]
   constructor
   ·rintro⟨i,h1,h2,h3,h4⟩;rcases h3 with h3|h3
    ·cases h3
    ·exact⟨i,h1,h3,h4⟩
   ·rintro⟨i,h1,h3,h4⟩;exact⟨i,h1,by omega,.inr h3,h4⟩
 ·rw[if_neg e1,if_neg e2,if_neg e3,if_neg e4,if_neg e5,if_neg e1,if_neg e2,if_neg e3,if_neg e4,if_neg e5];simp
section
variable {t:Tr}{o:List Int}(g:GoodT t o)
def K6 (t:Tr):List Int:=(Ga t.nodes.length).map λi:Nat=>(i:Int)
def QK (t:Tr)(j:Nat):List Int:=(K6 t).filter λd=>(X9 t t.nodes.length j).contains d
def JaD (t:Tr)(l:List Int)(s:List UInt8):Int:=match l.find? λd=>(nd t d.toNat).text == s with|some d=>d|none=>-1
def JfO (t:Tr)(o:List Int)(j:Nat):Int:=match (K6 t).find? λd=>(nd t d.toNat).text == (nd t j).text && (KI (nd t d.toNat).k && (!((nd t d.toNat).k == 65) && inB t o d.toNat j)) with|some d=>d|none=>-1
include g
theorem decl_kind {u a:Nat}{d:Nat}(hu:u<t.nodes.length)(h:(d:Int)∈JcC t u a):(nd t d).k=64\/(nd t d).k=43\/(nd t d).k=47\/(nd t d).k=42:=by
 rw[Qy g hu]at h;rcases h with ⟨_,s,_,_,_,q⟩|⟨_,_,q⟩|⟨q1,_,rfl⟩|⟨_,_,⟨_,q⟩|⟨_,s,_,_,_,q⟩⟩
 ·exact .inr (.inr (.inr q))
 ·exact .inl q
 ·exact .inr (.inr (.inl q1))
 ·exact .inr (.inl q)
 ·exact .inr (.inr (.inr q))
theorem sight_mem {d j:Nat}(hd:d<t.nodes.length)(hj:j<t.nodes.length)(Co:1<=(nd t j).k/\(nd t j).k<=29):(X9 t t.nodes.length j).contains (d:Int)=(KI (nd t d).k && (!((nd t d).k == 65) && inB t o d j)):=by
 rw[Gj];simp only[Hu,decide_eq_true_eq,Gd,GR,beq_eq_false_iff_ne,inB_iff];rw[Je4 g t.nodes.length j (d:Int) hj (by omega)]
 constructor
 ·intro h;obtain⟨u,a,hu,ha,hb,Bq⟩:=h;have hk:=decl_kind g hu Bq;refine⟨?_,by omega,(inS_inR g hd hj Co hk).1 ⟨u,a,hu,ha,hb,Bq⟩⟩;unfold KI;rcases hk with e|e|e|e <;> rw[e] <;> rfl
 ·rintro⟨h1,h2,h3⟩;have hk:(nd t d).k=64\/(nd t d).k=43\/(nd t d).k=47\/(nd t d).k=42:=by
   unfold KI at h1;simp only[Hm,beq_iff_eq]at h1;omega
  exact(inS_inR g hd hj Co hk).2 h3
theorem JbW {j:Nat}(hj:j<t.nodes.length)(Co:1<=(nd t j).k/\(nd t j).k<=29):JaD t (QK t j) (nd t j).text=JfO t o j:=by
 unfold JaD JfO QK;rw[G9];have:∀l:List Int,(∀d∈l,0<=d/\d<t.nodes.length)->l.find? (λd=>decide ((X9 t t.nodes.length j).contains d=true/\((nd t d.toNat).text == (nd t j).text)=true))=l.find? λd=>(nd t d.toNat).text == (nd t j).text && (KI (nd t d.toNat).k && (!((nd t d.toNat).k == 65) && inB t o d.toNat j)):=by
  intro l
  induction l with
  |nil=>intro _;rfl
  |cons d l ih=>
   intro hl;obtain⟨d,rfl⟩:∃n:Nat,d=(n:Int):=⟨d.toNat,by have:=hl d (by simp);omega⟩;have hd:=hl d (by simp);have hs:=sight_mem g (show d<t.nodes.length by omega) hj Co;rw[Gx,Gx,ih λx hx=>hl x (by simp[hx])];simp only[Gb];rw[hs]
   congr 1
   rw[Gj];simp[and_comm]
 rw[this];intro d hd;unfold K6 at hd;simp only[Gy,Gh]at hd;obtain⟨i,hi,rfl⟩:=hd;omega
end
end
section
theorem asc_eq:∀{l m:List Int},l.Pairwise (· < ·)->m.Pairwise (· < ·)->(∀x,x∈l↔x∈m)->l=m
 |[],[],_,_,_=>rfl
 |[],y::m,_,_,h=>by simpa using (h y).2 (by simp)
 |x::l,[],_,_,h=>by simpa using (h x).1 (by simp)
 |x::l,y::m,h1,h2,h=>by
  rw[GH]at h1 h2;have e:x=y:=by
   have a:=(h x).1 (by simp);have b:=(h y).2 (by simp);rcases Gi.1 a with a|a
   ·exact a
   ·rcases Gi.1 b with b|b
    ·exact b.symm
    ·have:=h1.1 y b;have:=h2.1 x a;omega
  subst e;rw[asc_eq h1.2 h2.2 λz=>?_]
  constructor
  ·intro hz;have:=h1.1 z hz;rcases Gi.1 ((h z).1 (by simp[hz])) with e|e
   ·omega
   ·exact e
  ·intro hz;have:=h2.1 z hz;rcases Gi.1 ((h z).2 (by simp[hz])) with e|e
   ·omega
   ·exact e
theorem Y9 {o:List Int}{m:Nat}(ho:Q3 o)(hm:o.length=m):∀(l:List Int) (a e:Int),chain o m a l e->l.Pairwise (· < ·)
 |[],_,_,_=>.nil
 |i::l,a,e,h=>by
  simp only[chain]at h;rw[GH];refine⟨λx hx=>?_,Y9 ho hm l _ e h.2⟩;have h1:=QG ho hm l _ e h.2 x hx;have h2:=Jhc ho h1.2.1 (by omega);omega
theorem Jd0 {t:Tr}:(K6 t).Pairwise (· < ·):=by
 unfold K6;rw[HY];exact Hr.imp λh=>by omega
theorem KE {t:Tr}{d:Int}:d∈K6 t↔0<=d/\d<t.nodes.length:=by
 unfold K6;simp only[Gy,Gh]
 constructor
 ·rintro⟨i,hi,rfl⟩;omega
 ·intro h;exact⟨d.toNat,by omega,by omega⟩
section
variable {t:Tr}{o:List Int}(g:GoodT t o)
def JbJ (t:Tr)(j:Nat):Int:=match (K6 t).find? λd=>(nd t d.toNat).text == (nd t j).text && (KI (nd t d.toNat).k && (nd t d.toNat).k == 65) with|some d=>d|none=>-1
def Jcm (t:Tr)(j:Nat):Int:=match (K6 t).find? λd=>(nd t d.toNat).text == (nd t j).text && (KI (nd t d.toNat).k && ((nd t d.toNat).k == 43 && Kk t d.toNat == Kk t j)) with|some d=>d|none=>-1
include g
theorem items_all:t.items=(K6 t).filter λd=>(nd t d.toNat).k == 65:=by
 refine asc_eq (Y9 g.ord.ok g.olen _ _ _ g.its) (Jd0.filter _) λx=>?_
 rw[Gm,KE,beq_iff_eq]
 constructor
 ·intro h;have h1:=g.itr h;have h2:=g.defs x h;exact⟨h1,h2⟩
 ·rintro⟨h1,h2⟩;have:=(Jhs g (show x.toNat<t.nodes.length by omega) h2).2
  rwa [show ((x.toNat:Nat):Int)=x by omega]at this
theorem call_means {j:Nat}:JaD t t.items (nd t j).text=JbJ t j:=by
 unfold JaD JbJ;rw[items_all g,G9]
 congr 2
 funext d
 rw[Gj];simp only[decide_eq_true_eq,Gd,beq_iff_eq]
 constructor
 ·rintro⟨h1,h2⟩;exact⟨h2,by rw[h1];rfl,h1⟩
 ·rintro⟨h1,_,h2⟩;exact⟨h2,h1⟩
theorem Jg0 {u:Nat}(hu:u<t.nodes.length):(nd t u).kids.Pairwise (· < ·):=Y9 g.ord.ok rfl _ _ _ (g.ord.kids (Kg hu))
theorem kidsK_all {u k:Nat}(hu:u<t.nodes.length)(hk:k≠65):Xo t u k=(K6 t).filter λd=>(nd t d.toNat).k == k && Kk t d.toNat == u:=by
 refine asc_eq ((Jg0 g hu).filter _) (Jd0.filter _) λx=>?_
 rw[Qm,Gm,KE,Gd,beq_iff_eq,beq_iff_eq]
 constructor
 ·rintro⟨h1,h2⟩;have hr:=g.kid hu h1;obtain⟨x,rfl⟩:∃n:Nat,x=(n:Int):=⟨x.toNat,by omega⟩;exact⟨by omega,h2,(JR g hu h1).1⟩
 ·rintro⟨h1,h2,h3⟩;obtain⟨x,rfl⟩:∃n:Nat,x=(n:Int):=⟨x.toNat,by omega⟩;rw[Gb]at h2 h3;obtain⟨u',q1,_,_,q2⟩:=QV g (show x<t.nodes.length by omega) (by omega);have:u'=u:=by omega
  subst this;exact⟨q2,h2⟩
theorem next_means {j u:Nat}(hu:u<t.nodes.length)(hp:Kk t j=u):JaD t (Xo t u 43) (nd t j).text=Jcm t j:=by
 unfold JaD Jcm;rw[kidsK_all g hu (by decide),G9,hp]
 congr 2
 funext d
 rw[Gj];simp only[decide_eq_true_eq,Gd,beq_iff_eq]
 constructor
 ·rintro⟨⟨h1,h3⟩,h2⟩;exact⟨h2,by rw[h1];rfl,h1,h3⟩
 ·rintro⟨h1,_,h2,h3⟩;exact⟨⟨h2,h3⟩,h1⟩
end
end
section
def Qb (t:Tr)(i:Nat):Nat:=(t.items.filter λL=>decide (L<(i:Int))).length
def Ye (t:Tr)(o:List Int)(i:Nat):Int:=match t.items.find? λL=>Jbx o i L.toNat with|some L=>L|none=>-1
def twN (t:Tr)(i:Nat):Bool:=
 if (nd t i).k≠44/\KI (nd t i).k=false then false
 else(Ga i).any λk=>(nd t k).text == (nd t i).text && (if (nd t i).k=44 then(nd t k).k == 44 && Kk t k == Kk t i else if (nd t i).k=65 then(nd t k).k == 65 else !((nd t k).k == 65) && (KI (nd t k).k && Qb t k == Qb t i))
def twR (t:Tr)(o:List Int)(i:Nat):Bool:=
 if (nd t i).k≠44/\KI (nd t i).k=false then false
 else(Ga i).any λk=>(nd t k).text == (nd t i).text && (if (nd t i).k=65 then(nd t k).k == 65 else if (nd t i).k=44 then(nd t k).k == 44 && Kk t k == Kk t i else KI (nd t k).k && (!((nd t k).k == 65) && Ye t o k == Ye t o i))
theorem Jhk {α:Type}{q:α->Bool}:∀{l:List α}{k:Nat}{x:α},l[k]? = some x->q x=true->(∀y∈l.take k,q y=false)->l.find? q=some x
 |[],_,_,h,_,_=>by simp at h
 |y::l,0,x,h,hq,_=>by simp at h;subst h;simp[hq]
 |y::l,k+1,x,h,hq,hn=>by
  rw[Gx,hn y (by simp)];exact Jhk (k:=k) (by simpa using h) hq λz hz=>hn z (by simp[hz])
section
variable {t:Tr}{o:List Int}(g:GoodT t o)
include g
theorem Jg2 {i:Nat}(hi:i<t.nodes.length):∃k L:Nat,k<t.items.length/\t.items[k]? = some (L:Int)/\Qb t i=k/\Ye t o i=L/\endI t k<=i/\i<=L:=by
 obtain⟨L,hL,h5,h6⟩:=Xx g.ord.ok g.olen _ _ _ (i:Int) g.its (by omega) (by omega);obtain⟨k,hk,he⟩:=GZ hL;obtain⟨L',e1,e2,e3,e4,e5⟩:=item_at g hk;have eL:L=(L':Int):=by rw[<-e1,Gc,Gf hk,<-he];rfl
 subst eL;rw[e2]at h5;have Ba:t.items[k]? = some (L':Int):=by rw[Gf hk,he]
 have Ab:∀x∈t.items.take k,x<(i:Int):=λx hx=>by
  have:=(QG g.ord.ok g.olen _ _ _ (JaX g k (GV hk)).1 x hx).2.2.1;omega
 have Cb:∀x∈t.items.drop k,(i:Int)<=x:=λx hx=>by
  have ha:=Y9 g.ord.ok g.olen _ _ _ (JaX g k (GV hk)).2;rw[Gq hk,he]at hx ha;rw[GH]at ha;rcases Gi.1 hx with rfl|hx
  ·exact h6
  ·have:=ha.1 x hx;omega
 refine⟨k,L',hk,Ba,?_,?_,by omega,by omega⟩
 ·unfold Qb;rw[<-Ht k t.items,HV,Hw.2 (λx hx=>by simpa using Ab x hx),GY.2 (λx hx=>by have:=Cb x hx;simp;omega),La,Gu];omega
 ·unfold Ye;rw[Jhk Ba (by rw[Qp,Gb];exact⟨by omega,by rw[e2];omega⟩) λy hy=>?_];have h1:=Ab y hy;have h2:=(QG g.ord.ok g.olen _ _ _ (JaX g k (GV hk)).1 y hy).2.1;rw[Lf];intro hb;have:=(Qp.1 hb).1;omega
theorem item_same {i k:Nat}(hi:i<t.nodes.length)(hk:k<t.nodes.length):(Qb t k == Qb t i)=(Ye t o k == Ye t o i):=by
 obtain⟨a,A,a1,a2,a3,a4,a5,a6⟩:=Jg2 g hi;obtain⟨b,B,b1,b2,b3,b4,b5,b6⟩:=Jg2 g hk;rw[a3,a4,b3,b4,Gj,beq_iff_eq,beq_iff_eq]
 constructor
 ·rintro rfl;rw[a2]at b2;exact(Hl b2).symm
 ·intro h;have hn:t.items.Nodup:=Yy g.ord.ok g.olen _ _ _ g.its;rw[h]at b2;exact(List.getElem?_inj b1 hn).1 (b2.trans a2.symm)
theorem tw_eq {i:Nat}(hi:i<t.nodes.length):twN t i=twR t o i:=by
 unfold twN twR;by_cases h:(nd t i).k≠44/\KI (nd t i).k=false
 ·rw[if_pos h,if_pos h]
 rw[if_neg h,if_neg h];have hl:∀l:List Nat,(∀k∈l,k<i)->(l.any λk=>(nd t k).text == (nd t i).text && (if (nd t i).k=44 then(nd t k).k == 44 && Kk t k == Kk t i else if (nd t i).k=65 then(nd t k).k == 65 else !((nd t k).k == 65) && (KI (nd t k).k && Qb t k == Qb t i)))=(l.any λk=>(nd t k).text == (nd t i).text && (if (nd t i).k=65 then(nd t k).k == 65 else if (nd t i).k=44 then(nd t k).k == 44 && Kk t k == Kk t i else KI (nd t k).k && (!((nd t k).k == 65) && Ye t o k == Ye t o i))):=by
  intro l
  induction l with
  |nil=>intro _;rfl
  |cons k l ih=>
   intro hk;have EP:=hk k (by simp);rw[Ld,Ld,ih λx hx=>hk x (by simp[hx]),item_same g hi (show k<t.nodes.length by omega)]
   congr 2
   by_cases e1:(nd t i).k=44
   ·rw[if_pos e1,iN7,if_pos e1]
   ·rw[if_neg e1];by_cases e2:(nd t i).k=65
    ·rw[if_pos e2,if_pos e2]
    ·rw[if_neg e2,if_neg e2,if_neg e1]
     cases KI (nd t k).k <;> cases ((nd t k).k == 65) <;> simp
 exact hl _ λk hk=>Gh.1 hk
end
end
section
def JcS (t:Tr)(u c:Nat)(late:Bool):Bool:=
 if (nd t u).k=4 then true else if (nd t u).k=46\/(nd t u).k=47 then late || c == Ji t u else if (nd t u).k=28 then late && (nd t c).k == 43 else late
def JhD (t:Tr)(u c:Nat):Option Bool:=
 if (nd t u).k=4 then some true else if (nd t u).k=46\/(nd t u).k=47 then some (c == Ji t u) else if (nd t u).k=28 then(if (nd t c).k=43 then none else some false) else none
def buL (t:Tr):List Nat->Bool->Bool
 |c::u::l,late=>buL t (u::l) (JcS t u c late)
 |_,late=>late
def tdL (t:Tr):List Nat->Bool->Bool
 |u::c::l,late=>match JhD t u c with
  |some b=>b
  |none=>tdL t (c::l) late
 |_,late=>late
theorem tdL_snoc {t:Tr}{late:Bool}{u c:Nat}:∀l:List Nat,tdL t (l++[u,c]) late=tdL t (l++[u]) (match JhD t u c with|some b=>b|none=>late)
 |[]=>by
  simp only[GM,tdL]
 |[x]=>by
  simp only[Gv,GM,tdL]
 |x::y::l=>by
  have:=tdL_snoc (t:=t) (late:=late) (u:=u) (c:=c) (y::l);simp only[Gv]at this;simp only[Gv,tdL];rw[this]
def JcZ (t:Tr)(q:Nat->Nat->Prop):List Nat->Prop
 |c::u::l=>q u c/\JcZ t q (u::l)
 |_=>True
theorem bu_td {t:Tr}:∀(l:List Nat) (late:Bool),JcZ t (λu c=>(nd t u).k=46\/(nd t u).k=47->c=Ji t u) l->buL t l late=tdL t l.reverse late
 |[],_,_=>rfl
 |[x],_,_=>rfl
 |c::u::l,late,h=>by
  have hs:JcS t u c late=(match JhD t u c with|some b=>b|none=>late):=by
   have h1:=h.1;unfold JcS JhD;by_cases e1:(nd t u).k=4
   ·rw[if_pos e1,if_pos e1]
   rw[if_neg e1,if_neg e1];by_cases e2:(nd t u).k=46\/(nd t u).k=47
   ·rw[if_pos e2,if_pos e2,h1 e2];simp
   rw[if_neg e2,if_neg e2];by_cases e3:(nd t u).k=28
   ·rw[if_pos e3,if_pos e3];by_cases e4:(nd t c).k=43
    ·rw[if_pos e4,e4];simp
    ·rw[if_neg e4];simp[e4]
   ·rw[if_neg e3,if_neg e3]
  rw[buL,bu_td (u::l) _ h.2,hs];simp only[G6,Ha,Gv,GM];rw[tdL_snoc]
section
variable {t:Tr}{o:List Int}(g:GoodT t o)
def upL (t:Tr)(top:Nat):Nat->Nat->List Nat
 |0,n=>[n]
 |f+1,n=>if n=top then [n] else n::upL t top f (Kk t n).toNat
include g
theorem bound_below {a j:Nat}(ha:a<t.nodes.length)(hk:(nd t a).k=48)(hb:blw o j a):j=a:=by
 rcases Jb4 g ha hb with h|⟨c,hc,_⟩
 ·exact h
 ·exfalso;have hl:=JcY g ha hc;rw[hk]at hl;unfold K7 at hl;simp at hl
theorem bind_below {a j:Nat}(ha:a<t.nodes.length)(hk:(nd t a).k=42)(hb:blw o j a):(nd t j).k=42\/(60<=(nd t j).k/\(nd t j).k<=64):=by
 rcases Jb4 g ha hb with rfl|⟨c,hc,Cr⟩
 ·exact .inl hk
 ·refine .inr ?_;have hl:=JcY g ha hc;have hr:=(JR g ha hc).2;rw[hk]at hl;have Av:Jdz (nd t c).k=116:=by
   unfold K7 at hl
   dsimp only at hl
   rw[iN7,iN7,iN7,iN7,iN7,iN7,iN7,iN7,iN7]at hl
   split at hl
   ·simpa using hl
   ·simp at hl
  have h3:=Jcn Av;exact Jd5 g c j (by omega) (by omega) (by omega) Cr
theorem Je6 {u c j:Nat}(hu:u<t.nodes.length)(hk:(nd t u).k=46\/(nd t u).k=47)(hc:(c:Int)∈(nd t u).kids)(hb:blw o j c)(Co:1<=(nd t j).k/\(nd t j).k<=29):c=Ji t u:=by
 obtain⟨i,hi,DD,Ar⟩:=Jcr hc;have h3:=(Jz g hu hi).2.2;rw[DD]at h3;have hr:=(JR g hu hc).2;by_cases hl:i+1<(nd t u).kids.length
 ·exfalso;have Py:(nd t c).k=48:=by
   rcases hk with e|e
   ·have h:=Jc6 g hu;change Qa (nd t u).k (nd t u).n (lets t.nodes (nd t u))=true at h;rw[e]at h;unfold Qa at h;rw[iN7,iN7,iN7,iN7,iN7,iN7,iN7,iN7,iN7,if_pos rfl]at h;simp only[Gd,beq_iff_eq,Kv]at h;have:=YR 79 48 (QA hu h.1.2 (i:=i) (by omega) (by omega)).2 (by simp);rw[h3];exact this
   ·have h:=Jcb g hu e;change (nd t u).kids.length=3/\_ at h;have:=h.2.1 i (by omega);rw[h3];exact this
  have:=bound_below g (show c<t.nodes.length by omega) Py hb;subst this;omega
 ·have Af:i=(nd t u).kids.length-1:=by omega
  rw[<-DD,Af];rfl
theorem JdH {s j:Nat}(hs:s<t.nodes.length)(hk:(nd t s).k=41)(Co:1<=(nd t j).k/\(nd t j).k<=29):blw o j s↔blw o j (Ji t s):=by
 obtain⟨a,hN,hl,k1,k2⟩:=YH g hs hk;change (nd t s).kids.length=a+1 at hl;have hm:=Jz g hs (i:=(nd t s).kids.length-1) (by omega)
 constructor
 ·intro h;rcases Jb4 g hs h with rfl|⟨c,hc,hb⟩
  ·omega
  ·obtain⟨i,hi,DD,Ar⟩:=Jcr hc;by_cases Af:i<a
   ·exfalso;have h3:=(Jz g hs hi).2.2;rw[DD]at h3;have:=k1 i Af;change Jt t.nodes ((nd t s).kids.getD i 0)=42 at this;have:=bind_below g (show c<t.nodes.length by have:=(JR g hs hc).2;omega) (by omega) hb;omega
   ·have:i=(nd t s).kids.length-1:=by omega
    rw[<-DD,this]at hb;exact hb
 ·intro h;exact Qn g hs h (Qt g hs hm.1)
end
end
section
section
variable {t:Tr}{o:List Int}(g:GoodT t o)
include g
theorem up_pairs {j:Nat}(Co:1<=(nd t j).k/\(nd t j).k<=29):∀(f c top:Nat),top<t.nodes.length->blw o c top->blw o j c->JcZ t (λu c=>(nd t u).k=46\/(nd t u).k=47->c=Ji t u) (upL t top f c)
 |0,_,_,_,_,_=>trivial
 |f+1,c,top,Bu,Ma,Ug=>by
  unfold upL;by_cases he:c=top
  ·rw[if_pos he];trivial
  ·rw[if_neg he];obtain⟨m,hp,bX,bH,Rw,hk⟩:=XN g Bu Ma he;rw[hp,Gb];have hm:m<t.nodes.length:=by omega
   have Uf:=Qn g hm Ug (Qt g hm hk);have ih:=up_pairs Co f m top Bu Rw Uf
   cases f with
   |zero=>
    refine⟨λh=>Je6 g hm h hk Ug Co,?_⟩
    trivial
   |succ f=>
    unfold upL at ih|-;by_cases EC:m=top
    ·rw[if_pos EC]at ih|-;exact⟨λh=>Je6 g hm h hk Ug Co,trivial⟩
    ·rw[if_neg EC]at ih|-;exact⟨λh=>Je6 g hm h hk Ug Co,ih⟩
theorem late_eq {j s:Nat}(hs:s<t.nodes.length)(hk:(nd t s).k=41)(Co:1<=(nd t j).k/\(nd t j).k<=29)(hb:blw o j s)(f:Nat):buL t (upL t (Ji t s) f j) false=tdL t (upL t (Ji t s) f j).reverse false:=by
 have h1:=(JdH g hs hk Co).1 hb;obtain⟨a,hN,hl,_,_⟩:=YH g hs hk;change (nd t s).kids.length=a+1 at hl;have hm:=Jz g hs (i:=(nd t s).kids.length-1) (by omega);have Ab:Ji t s<t.nodes.length:=by
  have:=hm.2.1;change Ji t s<s at this;omega
 have hj:j<t.nodes.length:=by have:=h1.1;omega
 exact bu_td _ _ (up_pairs g Co f j (Ji t s) Ab h1 (Jbw g hj))
end
def XD (t:Tr)(o:List Int)(of:List Int)(s:Nat):List Int:=
 (K6 t).filter λx=>(Ga t.nodes.length).any λi=>(nd t i).k == 3 && (decide (0<=of.getD i (-1)) && ((nd t (of.getD i (-1)).toNat).k == 42 && (Jbx o i s && (Kk t (of.getD i (-1)).toNat == x && (Kk t x.toNat == Kk t s && !buL t (upL t (Ji t s) t.nodes.length i) false)))))
def YB (t:Tr)(o:List Int)(of:List Int)(s:Nat):List Int:=
 (K6 t).filter λx=>(Ga t.nodes.length).any λi=>(nd t i).k == 3 && (decide (0<=of.getD i (-1)) && (Jbx o i (Ji t s) && ((nd t (of.getD i (-1)).toNat).k == 42 && (Kk t (of.getD i (-1)).toNat == x && (Kk t x.toNat == Kk t s && !tdL t (upL t (Ji t s) t.nodes.length i).reverse false)))))
theorem need_eq {t:Tr}{o:List Int}(g:GoodT t o){of:List Int}{s:Nat}(hs:s<t.nodes.length)(hk:(nd t s).k=41):XD t o of s=YB t o of s:=by
 unfold XD YB;refine H5 λx _=>?_
 rw[Gj];simp only[Gw,Gh,Gd,beq_iff_eq,decide_eq_true_eq,GR,Qp]
 constructor
 ·rintro⟨i,hi,h1,h2,h3,h4,h5,h6,h7⟩;have he:1<=(nd t i).k/\(nd t i).k<=29:=by omega
  exact⟨i,hi,h1,h2,(JdH g hs hk he).1 h4,h3,h5,h6,by rw[<-late_eq g hs hk he h4];exact h7⟩
 ·rintro⟨i,hi,h1,h2,h4,h3,h5,h6,h7⟩;have he:1<=(nd t i).k/\(nd t i).k<=29:=by omega
  have hb:=(JdH g hs hk he).2 h4;exact⟨i,hi,h1,h2,h3,hb,h5,h6,by rw[late_eq g hs hk he hb];exact h7⟩
end
def bfsF (N:Int->List Int):Nat->List Int->List Int->List Int
 |0,_,out=>out
 |_+1,[],out=>out
 |f+1,x::todo,out=>if out.contains x then bfsF N f todo out else bfsF N f (todo++N x) (out++[x])
def YC:List Int->List Int->Nat
 |[],_=>0
 |y::l,out=>(if out.contains y=true then 0 else 1)+YC l out
def muB (l todo out:List Int):Nat:=YC l out*(l.length+1)+todo.length
theorem left_le {out:List Int}{x:Int}:∀m:List Int,YC m (out++[x])<=YC m out
 |[]=>Gp _
 |y::m=>by
  have ih:=left_le (out:=out) (x:=x) m;simp only[YC];by_cases h1:out.contains y=true
  ·have h2:(out++[x]).contains y=true:=by simp at h1|-;exact .inl h1
   rw[if_pos h1,if_pos h2];omega
  ·rw[if_neg h1];split <;> omega
theorem Y6 {out:List Int}{x:Int}:∀{l:List Int},x∈l->out.contains x=false->YC l (out++[x])<YC l out
 |[],hx,_=>by cases hx
 |y::l,hx,hn=>by
  have A9:=left_le (out:=out) (x:=x) l;simp only[YC];by_cases he:y=x
  ·subst he;have h2:(out++[y]).contains y=true:=by simp
   rw[if_pos h2,if_neg (by rw[hn];simp)];omega
  ·have Bz:x∈l:=by
    rcases Gi.1 hx with h|h
    ·exact absurd h.symm he
    ·exact h
   have:=Y6 Bz hn;have h3:(out++[x]).contains y=out.contains y:=by
    rw[Gj];simp[he]
   rw[h3];omega
theorem JdZ {N:Int->List Int}{l:List Int}(hN:∀x∈l,(∀y∈N x,y∈l)/\(N x).length<=l.length):∀(f f':Nat) (todo out:List Int),(∀x∈todo,x∈l)->muB l todo out<f->muB l todo out<f'->bfsF N f todo out=bfsF N f' todo out
 |0,_,_,_,_,h,_=>by omega
 |_,0,_,_,_,_,h=>by omega
 |f+1,f' + 1,[],out,_,_,_=>rfl
 |f+1,f' + 1,x::todo,out,ht,h1,h2=>by
  simp only[bfsF];have hx:=ht x (by simp);by_cases hc:out.contains x=true
  ·rw[if_pos hc,if_pos hc];refine JdZ hN f f' todo out (λy hy=>ht y (by simp[hy])) ?_ ?_ <;> (unfold muB at *;simp only[Gl]at *;omega)
  ·rw[if_neg hc,if_neg hc];have hl:=Y6 hx (by simpa using hc);have hn:=hN x hx;have hm:(YC l (out++[x])+1)*(l.length+1)<=YC l out*(l.length+1):=Ho _ hl;refine JdZ hN f f' (todo++N x) (out++[x]) (λy hy=>?_) ?_ ?_
   ·rcases Gn.1 hy with hy|hy
    ·exact ht y (by simp[hy])
    ·exact hn.1 y hy
   all_goals
    unfold muB at *;simp only[Gl,G5,Nat.add_mul]at *;omega
def bfs (N:Int->List Int)(l todo out:List Int):List Int:=bfsF N (muB l todo out+1) todo out
theorem bfs_nil {N:Int->List Int}{l out:List Int}:bfs N l [] out=out:=rfl
theorem bfs_old {N:Int->List Int}{l todo out:List Int}{x:Int}(hN:∀x∈l,(∀y∈N x,y∈l)/\(N x).length<=l.length)(ht:∀y∈x::todo,y∈l)(hc:out.contains x=true):bfs N l (x::todo) out=bfs N l todo out:=by
 unfold bfs;rw[bfsF,if_pos hc];refine JdZ hN _ _ todo out (λy hy=>ht y (by simp[hy])) ?_ (Lh _);unfold muB;simp only[Gl];omega
theorem bfs_new {N:Int->List Int}{l todo out:List Int}{x:Int}(hN:∀x∈l,(∀y∈N x,y∈l)/\(N x).length<=l.length)(ht:∀y∈x::todo,y∈l)(hc:out.contains x=false):bfs N l (x::todo) out=bfs N l (todo++N x) (out++[x]):=by
 unfold bfs;rw[bfsF,if_neg (by rw[hc];simp)];have hx:=ht x (by simp);have hl:=Y6 hx hc;have hn:=hN x hx;have hm:(YC l (out++[x])+1)*(l.length+1)<=YC l out*(l.length+1):=Ho _ hl;refine JdZ hN _ _ _ _ (λy hy=>?_) ?_ (Lh _)
 ·rcases Gn.1 hy with hy|hy
  ·exact ht y (by simp[hy])
  ·exact hn.1 y hy
 ·unfold muB;simp only[Gl,G5,Nat.add_mul]at *;omega
section
def JN (t:Tr)(o:List Int)(i:Nat):Int:=if (nd t i).k=3 then JfO t o i else if (nd t i).k=26 then JbJ t i else if (nd t i).k=44 then Jcm t i else -1
def Kr (t:Tr)(i:Nat):Bool:=(nd t i).k == 3 || (nd t i).k == 26 || (nd t i).k == 44
def JaG (t:Tr)(o:List Int)(a b:Int):List Nat->Option (Nat×Int)
 |[]=>none
 |i::l=>if twN t i=true then some (i,a) else if (Kr t i && JN t o i == -1)=true then some (i,b) else JaG t o a b l
def JgG (t:Tr)(o:List Int)(a b:Int):List Nat->Option (Nat×Int)
 |[]=>none
 |i::l=>if (Kr t i && decide (JN t o i<0))=true then some (i,b) else if twR t o i=true then some (i,a) else JgG t o a b l
theorem Jhj {l:List Int}{q:Int->Bool}(h:∀x∈l,0<=x):(match l.find? q with|some d=>d|none=>-1)<0↔(match l.find? q with|some d=>d|none=>-1) = -1:=by
 cases hf:l.find? q with
 |none=>simp
 |some d=>
  have:=h d (List.mem_of_find?_eq_some hf);simp only;omega
theorem mean_neg {t:Tr}{o:List Int}{i:Nat}:JN t o i<0↔JN t o i = -1:=by
 have h:∀x∈K6 t,0<=x:=λx hx=>(KE.1 hx).1
 unfold JN
 split
 ·exact Jhj h
 split
 ·exact Jhj h
 split
 ·exact Jhj h
 ·omega
section
variable {t:Tr}{o:List Int}(g:GoodT t o)
include g
omit g in
theorem tw_next {i:Nat}(hk:(nd t i).k=44)(h:twN t i=true):∃k,k<i/\(nd t k).k=44/\JN t o k=JN t o i:=by
 unfold twN at h;rw[if_neg (by rintro⟨h1,_⟩;exact h1 hk),Gw]at h;obtain⟨k,EP,hb⟩:=h;rw[if_pos hk]at hb;simp only[Gd,beq_iff_eq]at hb;obtain⟨h1,h2,h3⟩:=hb;refine⟨k,Gh.1 EP,h2,?_⟩;unfold JN;rw[hk,h2,if_neg (by decide),if_neg (by decide),if_pos rfl,if_neg (by decide),if_neg (by decide),if_pos rfl];unfold Jcm;rw[h1,h3]
theorem scan_eq (a b:Int):∀(n m:Nat),n+m=t.nodes.length->(∀k,k<n->(Kr t k && JN t o k == -1)=false)->JaG t o a b ((Ga t.nodes.length).drop n)=JgG t o a b ((Ga t.nodes.length).drop n)
 |n,0,EM,_=>by
  rw[GD (by rw[GJ];omega)];rfl
 |n,m+1,EM,MV=>by
  have Ab:n<(Ga t.nodes.length).length:=by rw[GJ];omega
  rw[Gq Ab,GI];have Dh:n<t.nodes.length:=by omega
  have IG:(Kr t n && decide (JN t o n<0))=(Kr t n && JN t o n == -1):=by
   congr 1
   rw[Gj,decide_eq_true_eq,beq_iff_eq];exact mean_neg
  simp only[JaG,JgG];rw[IG,<-tw_eq g Dh];by_cases h1:(Kr t n && JN t o n == -1)=true
  ·rw[if_pos h1];by_cases h2:twN t n=true
   ·exfalso;have hk:(nd t n).k=44:=by
     unfold twN at h2;by_cases h3:(nd t n).k≠44/\KI (nd t n).k=false
     ·rw[if_pos h3]at h2;cases h2
     ·unfold Kr at h1;simp only[Gd,Hm,beq_iff_eq]at h1;by_cases h4:(nd t n).k=44
      ·exact h4
      ·exfalso;apply h3;refine⟨h4,?_⟩;rcases h1.1 with (e|e)|e
       ·rw[e];rfl
       ·rw[e];rfl
       ·exact absurd e h4
    obtain⟨k,BK,BL,Cv⟩:=tw_next (o:=o) hk h2;have hp:=MV k BK;rw[Cv]at hp;unfold Kr at hp h1;rw[BL]at hp;simp only[Gd]at h1;rw[h1.2]at hp;simp at hp
   ·rw[if_neg h2,if_pos h1]
  ·rw[if_neg h1,if_neg h1];by_cases h2:twN t n=true
   ·rw[if_pos h2,if_pos h2]
   ·rw[if_neg h2,if_neg h2];refine scan_eq a b (n+1) m (by omega) λk hk=>?_
    by_cases BK:k<n
    ·exact MV k BK
    ·have:k=n:=by omega
     subst this;simpa using h1
end
end
section
theorem Jfa {N M:Int->List Int}{q:Int->Prop}(hN:∀x,q x->N x=M x/\∀y∈N x,q y):∀(f:Nat) (todo out:List Int),(∀x∈todo,q x)->bfsF N f todo out=bfsF M f todo out
 |0,_,_,_=>rfl
 |_+1,[],_,_=>rfl
 |f+1,x::todo,out,h=>by
  have hx:=hN x (h x (by simp));simp only[bfsF]
  split
  ·exact Jfa hN f todo out λy hy=>h y (by simp[hy])
  ·rw[<-hx.1];refine Jfa hN f _ _ λy hy=>?_
   rcases Gn.1 hy with hy|hy
   ·exact h y (by simp[hy])
   ·exact hx.2 y hy
def ofL (t:Tr)(o:List Int):List Int:=(Ga t.nodes.length).map λi=>JN t o i
def stN (t:Tr)(o:List Int)(i:Nat):Bool:=(nd t i).k == 41 && (bfs (λx=>XD t o (ofL t o) x.toNat) (K6 t) (XD t o (ofL t o) i) []).contains (i:Int)
def stR (t:Tr)(o:List Int)(i:Nat):Bool:=(nd t i).k == 41 && ((K6 t).filter λx=>(bfs (λx=>YB t o (ofL t o) x.toNat) (K6 t) (YB t o (ofL t o) i) []).contains x).contains (i:Int)
theorem nd_in {t:Tr}{i:Nat}(h:(nd t i).k≠0):i<t.nodes.length:=by
 rcases Lj i t.nodes.length with h1|h1
 ·exact h1
 ·exfalso;apply h;unfold nd;rw[Gc,GG h1];rfl
section
variable {t:Tr}{o:List Int}(g:GoodT t o)
include g
theorem JdP {of:List Int}{s:Nat}{x:Int}(h:x∈XD t o of s):0<=x/\x<t.nodes.length/\(nd t x.toNat).k=41:=by
 unfold XD at h;rw[Gm,KE]at h;obtain⟨h0,h⟩:=h;simp only[Gw,Gh,Gd,beq_iff_eq,decide_eq_true_eq,GR,Qp]at h;obtain⟨i,hi,h1,h2,h3,h4,h5,h6,h7⟩:=h;refine⟨h0.1,h0.2,?_⟩;generalize (of.getD i (-1)).toNat=m at h3 h5;have hm:=nd_in (t:=t) (i:=m) (by omega);obtain⟨u,q1,q2,q3,q4⟩:=QV g hm (by omega);have:x.toNat=u:=by omega
 rw[this];exact(Yu (JcY g q2 q4)).2.2.1 (by rw[h3];rfl)
theorem st_eq {i:Nat}(hi:i<t.nodes.length):stN t o i=stR t o i:=by
 unfold stN stR;by_cases hk:(nd t i).k=41
 ·have hq:∀x:Int,(0<=x/\x<t.nodes.length/\(nd t x.toNat).k=41)->XD t o (ofL t o) x.toNat=YB t o (ofL t o) x.toNat/\∀y∈XD t o (ofL t o) x.toNat,(0<=y/\y<t.nodes.length/\(nd t y.toNat).k=41):=λx hx=>
   ⟨need_eq g (by omega) hx.2.2,λy hy=>JdP g hy⟩
  rw[<-need_eq g hi hk];unfold bfs;rw[Jfa hq _ _ _ λx hx=>JdP g hx]
  congr 1
  rw[Gj];simp only[Hu,decide_eq_true_eq,Gm,KE]
  constructor
  ·intro h;exact⟨by omega,h⟩
  ·intro h;exact h.2
 ·have e:((nd t i).k == 41)=false:=by simpa using hk
  rw[e,Lg,Lg]
end
def XL (t:Tr)(o:List Int):Nat×Int:=match JaG t o 6 10 (Ga t.nodes.length) with
 |some r=>r
 |none=>match (Ga t.nodes.length).find? (stN t o) with
  |some i=>(i,9)
  |none=>(0,0)
def resR (t:Tr)(o:List Int):Nat×Int:=match JgG t o 6 10 (Ga t.nodes.length) with
 |some r=>r
 |none=>match (Ga t.nodes.length).find? (stR t o) with
  |some i=>(i,9)
  |none=>(0,0)
theorem res_eq {t:Tr}{o:List Int}(g:GoodT t o):XL t o=resR t o:=by
 have h:=scan_eq g 6 10 0 t.nodes.length (by omega) (λk hk=>by omega);rw[Lb]at h;have hf:∀l:List Nat,(∀i∈l,i<t.nodes.length)->l.find? (stN t o)=l.find? (stR t o):=by
  intro l
  induction l with
  |nil=>intro _;rfl
  |cons i l ih=>
   intro hl;rw[Gx,Gx,st_eq g (hl i (by simp)),ih λx hx=>hl x (by simp[hx])]
 unfold XL resR;rw[h,hf _ λi hi=>Gh.1 hi]
end
section
def upT (t:Tr):List Int:=(Ga t.nodes.length).map λj=>Kk t j
def upTo (t:Tr)(i:Nat):List Int:=(Ga t.nodes.length).map λj=>if Kk t j<i then Kk t j else -1
def Xt (v:Int):List Int->List Int->List Int
 |r,[]=>r
 |r,k::ks=>Xt v (r.set k.toNat v) ks
theorem Jbl {v:Int}:∀(ks r:List Int),(Xt v r ks).length=r.length
 |[],_=>rfl
 |k::ks,r=>by rw[Xt,Jbl ks,Hf]
theorem JbP {v k:Int}:∀(ks r:List Int),Xt v r (ks++[k])=(Xt v r ks).set k.toNat v
 |[],_=>rfl
 |_::ks,_=>JbP ks _
theorem Jbm {v:Int}:∀(ks r:List Int) (j:Nat),(∀k∈ks,0<=k)->(Xt v r ks)[j]? = if (j:Int)∈ks/\j<r.length then some v else r[j]?
 |[],_,_,_=>by simp[Xt]
 |k::ks,r,j,h=>by
  rw[Xt,Jbm ks _ j λx hx=>h x (by simp[hx]),Hf,HZ];have hk:=h k (by simp);by_cases h1:(j:Int)∈ks/\j<r.length
  ·rw[if_pos h1,if_pos ⟨by simp[h1.1],h1.2⟩]
  ·rw[if_neg h1];by_cases h2:k.toNat=j
   ·rw[if_pos h2];by_cases h3:j<r.length
    ·rw[iP7,if_pos ⟨by simp;left;omega,h3⟩]
    ·rw[iN7,if_neg (λh=>h3 h.2),GG (by omega)]
   ·rw[if_neg h2,if_neg];rintro⟨h3,h4⟩;rcases Gi.1 h3 with h5|h5
    ·omega
    ·exact h1 ⟨h5,h4⟩
def X3 (t:Tr)(i:Nat):List Int:=(Ga i).map (λj=>(Qb t j:Int))++Gg (t.nodes.length-i) 0
def JdA (t:Tr):List Int:=(Ga t.nodes.length).map λj=>(Qb t j:Int)
theorem itemTo_zero {t:Tr}:X3 t 0=Gg t.nodes.length 0:=by simp[X3]
theorem itemTo_all {t:Tr}:X3 t t.nodes.length=JdA t:=by simp[X3,JdA]
theorem JfS {t:Tr}{i:Nat}(h:i<=t.nodes.length):(X3 t i).length=t.nodes.length:=by simp[X3];omega
theorem itemTo_succ {t:Tr}{i:Nat}(h:i<t.nodes.length):(X3 t i).set i (Qb t i:Int)=X3 t (i+1):=by
 unfold X3;rw[List.set_append_right _ _ (by simp)];simp only[H9,GJ,Nat.sub_self];rw[show t.nodes.length-i=(t.nodes.length-(i+1))+1 by omega,List.replicate_succ,List.set_cons_zero,List.range_succ,He];simp
theorem YG {t:Tr}{i:Nat}:(upTo t i).length=t.nodes.length:=by simp[upTo]
theorem Jd4 {t:Tr}:(upT t).length=t.nodes.length:=by simp[upT]
theorem Jcs {t:Tr}:(JdA t).length=t.nodes.length:=by simp[JdA]
theorem upT_get {t:Tr}{i:Nat}(h:i<t.nodes.length):(upT t).getD i 0=Kk t i:=by
 simp[upT,Gc,h]
theorem itemT_get {t:Tr}{i:Nat}(h:i<t.nodes.length):(JdA t).getD i 0=Qb t i:=by
 simp[JdA,Gc,h]
section
variable {t:Tr}{o:List Int}(g:GoodT t o)
include g
theorem par_rng {j:Nat}(hj:j<t.nodes.length) : -1<=Kk t j/\Kk t j<t.nodes.length:=by
 rcases Xh g hj with ⟨h,_⟩|⟨m,h,h1,h2,_⟩ <;> omega
theorem upTo_zero:upTo t 0=Gg t.nodes.length (-1):=by
 refine GL (by simp[upTo]) λj h1 h2=>?_
 have hj:j<t.nodes.length:=by rwa [YG]at h1
 have:=par_rng g hj;simp only[upTo,Hd,GI,List.getElem_replicate]
 split <;> omega
theorem upTo_all:upTo t t.nodes.length=upT t:=by
 refine GL (by simp[upTo,upT]) λj h1 h2=>?_
 have hj:j<t.nodes.length:=by rwa [YG]at h1
 have:=par_rng g hj;simp only[upTo,upT,Hd,GI]
 split <;> omega
theorem upTo_succ {i:Nat}(hi:i<t.nodes.length):upTo t (i+1)=Xt i (upTo t i) (nd t i).kids:=by
 refine List.ext_getElem? λj=>?_
 rw[Jbm (nd t i).kids _ _ λk hk=>(g.kid hi hk).1,YG];by_cases hj:j<t.nodes.length
 ·simp only[upTo,G8,List.getElem?_range hj,Gz];by_cases hm:(j:Int)∈(nd t i).kids
  ·have:=(JR g hi hm).1;rw[if_pos (show (j:Int)∈(nd t i).kids/\j<t.nodes.length from⟨hm,hj⟩),if_pos (show Kk t j<((i+1:Nat):Int) by omega),this]
  ·rw[if_neg (show ¬((j:Int)∈(nd t i).kids/\j<t.nodes.length) from λh=>hm h.1)];have Ai:Kk t j≠i:=by
    intro he;rcases Xh g hj with ⟨h,_⟩|⟨m,h,_,_,h4⟩
    ·omega
    ·have:m=i:=by omega
     subst this;exact hm h4
   by_cases h1:Kk t j<i
   ·rw[if_pos h1,if_pos (show Kk t j<((i+1:Nat):Int) by omega)]
   ·rw[if_neg h1,if_neg (show ¬Kk t j<((i+1:Nat):Int) by omega)]
 ·rw[if_neg (λh=>hj h.2),GG (by rw[YG];omega),GG (by rw[YG];omega)]
theorem JfT:Qb t 0=0:=by
 unfold Qb;rw[List.length_eq_zero_iff,GY];intro L hL;have:=g.itr hL;simp;omega
theorem itemN_step {i:Nat}(hi:i<t.nodes.length):∃L:Nat,Qb t i<t.items.length/\t.items.getD (Qb t i) 0=(L:Int)/\i<=L/\L<t.nodes.length/\Qb t (i+1)=if i=L then Qb t i+1 else Qb t i:=by
 obtain⟨k,L,hk,Ba,h1,h2,h3,h4⟩:=Jg2 g hi;have hL:(L:Int)∈t.items:=List.mem_of_getElem? Ba;have jG:=g.itr hL;refine⟨L,by omega,by rw[h1,Gc,Ba];rfl,h4,by omega,?_⟩;rw[h1];have ha:=Y9 g.ord.ok g.olen _ _ _ g.its;have Aw:t.items=t.items.take k++(L:Int)::t.items.drop (k+1):=by
  have h6:=Gq hk;have h7:=Gf hk;rw[Ba]at h7;rw[<-Hl h7]at h6;rw[<-h6,Ht]
 rw[Aw,List.pairwise_append]at ha;obtain⟨_,Dl,jD⟩:=ha;rw[GH]at Dl;have Ab:∀x∈t.items.take k,x<(i:Int):=λx hx=>by
  have:=(QG g.ord.ok g.olen _ _ _ (JaX g k (GV hk)).1 x hx).2.2.1;omega
 unfold Qb;rw[Aw,HV,List.filter_cons,Hw.2 (λx hx=>by have:=Ab x hx;simp;omega),GY.2 (λx hx=>by have:=Dl.1 x hx;simp;omega)];have CK:(t.items.take k).length=k:=by rw[Gu];omega
 by_cases he:i=L
 ·rw[if_pos he,if_pos (by simp;omega),G5,CK];rfl
 ·rw[if_neg he,if_neg (by simp;omega),La,CK]
end
end
end Go.Cm
end
section
open Go.Proofs
namespace Go.Cm
section
section
variable {P:Program}{E:Env}{H:List CObj}
theorem putCells_get {α:Type}[Inhabited α](enc:α->Value)(off:Nat)(d:Array α)(c:Array Value)(k:Nat):(Sort.putCells enc off d c)[k]? = (c[k]?).map λx=>if off<=k/\k<off+d.size then enc d[k-off]! else x:=by
 simp[Sort.putCells]
theorem putRow_heap {α:Type}[Inhabited α](enc:α->Value)(w:World)(B off:Nat)(d:Array α){c:Array Value}{e:TypeId}{fr:Nat×Nat}(hb:w.heap[B]? = some (.cells c e fr)):(Sort.putRow enc w B off d).heap[B]? = some (.cells (Sort.putCells enc off d c) e fr):=by
 simp[Sort.putRow,Sort.mapBlock,Array.getElem?_modify,hb,Sort.onCells]
theorem putRow_other {α:Type}[Inhabited α](enc:α->Value)(w:World)(B off:Nat)(d:Array α)(B':Nat)(h:B'≠B):(Sort.putRow enc w B off d).heap[B']? = w.heap[B']?:=by
 simp[Sort.putRow,Sort.mapBlock,Array.getElem?_modify,Ne.symm h]
theorem rels_ints {own:List Own}{imm:Nat->Nat->Option Value}:∀{ys:List Int}{vs:List Value},JS own imm (ys.map (CV.int .i64)) vs->vs=ys.map (Value.int .i64)
 |[],_,h=>h
 |y::ys,_,h=>by
  simp only[GN,JS,rel]at h;obtain⟨r,rs,rfl,rfl,h2⟩:=h;rw[rels_ints h2];rfl
theorem JcF {f id:Nat}{l l' ys:List Int}{cap:Option Nat}{v:CV}(R:Nat->Nat->Nat->Value)(hl:l≠[])(Ad:l'.length=l.length)(hH:H[id]? = some (.arr 1 (iz l)))
  (hR:∀(own:List Own) imm (x:Own) c,own[id]? = some x->x.z=1->l.length<=c->(∀n,cap=some n->c=n)->x.o+c<=x.n->rel own imm v (R x.B x.o c))
  (h:∀(blk off c:Nat) (w:World),l.length<=c->Sort.Holds (Value.int .i64) w blk off l.toArray->blk<w.heap.size->Calls P f (Value.slice (some ⟨blk,off,none⟩) l.length c::ys.map (Value.int .i64)).toArray w λe w'=>e=.returned (R blk off c)/\∃n os,w'=Sort.grow (Sort.putRow (Value.int .i64) (Sort.ahead w n) blk off l'.toArray) os) :
  CallsC P E f (.slc id 0 l.length cap::ys.map (CV.int .i64)) H λv' H'=>v'=v/\H'=H.set id (.arr 1 (iz l')):=by
 intro m w vs hs hv;have Uc:0<l.length:=List.length_pos_iff.2 hl;simp only[JS,rel]at hv;obtain⟨r,rs,BI,⟨x,a,c,hx,rfl,Dc,Bi,ha,Br⟩,dO⟩:=hv;obtain rfl:=rels_ints dO;obtain⟨hz,cells,elem,hb,BA,A9,AB,Bo⟩:=hs.obj id _ x hH hx;rw[hz]at A9 AB ha Br;have ha:=ha (by omega);rw[Li,Hq]at ha;have BI:vs=(Value.slice (some a) l.length c::ys.map (Value.int .i64)).toArray:=by
  cases vs;simp only[]at BI;rw[BI]
 subst BI ha;have bv:∀j,j<l.length->cells[x.o+j]? = some (Value.int .i64 (l.getD j 0)):=by
  intro j hj;obtain⟨r,h1,h2⟩:=(AB j [.int .i64 (l.getD j 0)] (by simp[iz,Gf hj])).2 0 _ rfl;simp only[rel]at h2;subst h2;simpa using h1
 have hB:x.B<w.heap.size:=(Array.getElem?_eq_some_iff.1 hb).1;have O8:Sort.Holds (Value.int .i64) w x.B x.o l.toArray:=by
  intro j hj;have M4:j<l.length:=by simpa using hj
  refine⟨?_,?_⟩
  ·simp only[World.cell?,hb];rw[bv j M4];simp[getElem!_pos,M4,Gc]
  ·simp[World.frozen?,hb]
 refine⟨trivial,λcs _=>?_⟩;obtain⟨e,w',fr,⟨rfl,n,os,rfl⟩,Al,Eg⟩:=h x.B x.o c w Dc O8 hB cs;have Ep:(Sort.putRow (Value.int .i64) (Sort.ahead w n) x.B x.o l'.toArray).heap[x.B]? = some (.cells (Sort.putCells (Value.int .i64) x.o l'.toArray cells) elem (0,0)):=putRow_heap _ _ _ _ _ (by rw[Sort.heap_ahead];exact hb);have FH:(Sort.putRow (Value.int .i64) (Sort.ahead w n) x.B x.o l'.toArray).heap.size=w.heap.size:=by rw[Sort.size_putRow];rfl
 have FN:∀B,B≠x.B->(Sort.putRow (Value.int .i64) (Sort.ahead w n) x.B x.o l'.toArray).heap[B]? = w.heap[B]?:=λB hB=>by rw[putRow_other _ _ _ _ _ _ hB];rfl
 have Ba:∀k,(Sort.putCells (Value.int .i64) x.o l'.toArray cells)[k]? = if x.o<=k/\k<x.o+l.length then some (Value.int .i64 (l'.getD (k-x.o) 0)) else cells[k]?:=by
  intro k;rw[putCells_get];by_cases hk:x.o<=k/\k<x.o+l.length
  ·have h1:=bv (k-x.o) (by omega);rw[show x.o+(k-x.o)=k by omega]at h1;have h3:k-x.o<l'.length:=by omega
   rw[h1,if_pos hk,Gz,if_pos (by simp;omega)];simp[getElem!_pos,h3,Gc]
  ·rw[if_neg hk]
   cases jv:cells[k]? with
   |none=>rfl
   |some v=>rw[Gz,if_neg (by simp;omega)]
 have OA:YK m.own m.imm x (.arr 1 (iz l')) (Sort.putRow (Value.int .i64) (Sort.ahead w n) x.B x.o l'.toArray):=by
  refine⟨hz,_,elem,Ep,?_,?_,?_,?_⟩
  ·simp only[Sort.putCells,Array.size_mapIdx];exact BA
  ·rw[hz,Jg,Ad];rw[Jg]at A9;exact A9
  ·intro j e he;rw[hz];have hj:j<l'.length:=by
    have:=(GX.1 he).1
    rwa [Jg]at this
   simp only[iz,G8,Gf hj,Gz,GA]at he;subst he;refine⟨rfl,λt c hc=>?_⟩
   cases t with
   |zero=>
    simp only[List.getElem?_cons_zero,GA]at hc;subst hc;refine⟨.int .i64 (l'[j]),?_,by simp only[rel]⟩;show (Sort.putCells (Value.int .i64) x.o l'.toArray cells)[x.o+j*1+0]? = _;rw[Ba,iP7,show x.o+j*1+0-x.o=j by omega,Gc,Gf hj];rfl
   |succ t=>simp at hc
  ·intro i v hv;rw[Ba]at hv
   split at hv
   ·simp only[GA]at hv;subst hv;rfl
   ·exact Bo i v hv
 have AR:(Sort.putRow (Value.int .i64) (Sort.ahead w n) x.B x.o l'.toArray).os=w.os/\(Sort.putRow (Value.int .i64) (Sort.ahead w n) x.B x.o l'.toArray).output=w.output/\(Sort.putRow (Value.int .i64) (Sort.ahead w n) x.B x.o l'.toArray).tape=w.tape:=⟨rfl,rfl,rfl⟩;have EA:=hs.put hH rfl hx FH FN (λi hi=>by simp only[World.cell?,Ep,hb];rw[Ba,if_neg (show ¬(x.o<=i/\i<x.o+l.length) by omega)]) OA (by intro s b h;cases h);have F4:Ext H.length m H w m (H.set id (.arr 1 (iz l'))) _:=Ext.put hH rfl hx FH FN AR;have hg:∀B,B<(Sort.putRow (Value.int .i64) (Sort.ahead w n) x.B x.o l'.toArray).heap.size->(Sort.grow (Sort.putRow (Value.int .i64) (Sort.ahead w n) x.B x.o l'.toArray) os).heap[B]? = (Sort.putRow (Value.int .i64) (Sort.ahead w n) x.B x.o l'.toArray).heap[B]?:=λB hB=>Sort.heap_grow_old _ _ hB
 have DF:(Sort.putRow (Value.int .i64) (Sort.ahead w n) x.B x.o l'.toArray).heap.size<=(Sort.grow (Sort.putRow (Value.int .i64) (Sort.ahead w n) x.B x.o l'.toArray) os).heap.size:=by rw[Sort.size_grow];omega
 exact⟨_,_,fr,⟨R x.B x.o c,m,v,_,rfl,F4.trans (Ext.grown DF hg ⟨rfl,rfl,rfl⟩),EA.grown DF hg,hR _ _ x c hx hz Dc Bi (by simp only[Nat.mul_one,Hq]at Br;exact Br),rfl,rfl⟩,(show StepsIn _ _ _ _ from JgC Al),Eg⟩
theorem callsC_sort {f id:Nat}{l:List Int}{cap:Option Nat}(hl:l≠[])(De:l.length<=1000000)(hH:H[id]? = some (.arr 1 (iz l)))
  (h:∀(blk off c:Nat) (w:World),Sort.Holds (Value.int .i64) w blk off l.toArray->blk<w.heap.size->l.length<4611686018427387904->Calls P f #[.slice (some ⟨blk,off,none⟩) l.length c] w λe w'=>e=.returned (.tuple #[])/\∃n os,w'=Sort.grow (Sort.putRow (Value.int .i64) (Sort.ahead w n) blk off (l.mergeSort λx y=>decide (x<=y)).toArray) os) :
  CallsC P E f [.slc id 0 l.length cap] H λv' H'=>v'=.tup []/\H'=H.set id (.arr 1 (iz (l.mergeSort λx y=>decide (x<=y)))):=
 JcF (ys:=[]) (λ_ _ _=>.tuple #[]) hl (List.length_mergeSort _) hH (λown imm x c _ _ _ _ _=>by simp only[rel,JS];exact⟨_,rfl,rfl⟩) λblk off c w _ h1 h2=>h blk off c w h1 h2 (by omega)
theorem compact_len (l:List Int):(Lib.compact l).length<=l.length:=by
 unfold Lib.compact Lib.compactUpTo;rw[H9];have:=List.length_filter_le (Lib.keeps l.toArray) (Ga l.length)
 rwa [GJ]at this
theorem Jfq {f id:Nat}{l:List Int}{cap:Option Nat}(hl:l≠[])(De:l.length<=1000000)(hH:H[id]? = some (.arr 1 (iz l)))
  (h:∀(blk off c:Nat) (w:World),Sort.Holds (Value.int .i64) w blk off l.toArray->l.length<=9223372036854775807->l.length<=c->Calls P f #[.slice (some ⟨blk,off,none⟩) l.length c] w λe w'=>e=.returned (.slice (some ⟨blk,off,none⟩) (Lib.compact l).length c)/\∃n,w'=Sort.putRow (Value.int .i64) (Sort.ahead w n) blk off (Lib.compact l++Gg (l.length-(Lib.compact l).length) 0).toArray) :
  CallsC P E f [.slc id 0 l.length cap] H λv' H'=>v'=.slc id 0 (Lib.compact l).length cap/\H'=H.set id (.arr 1 (iz (Lib.compact l++Gg (l.length-(Lib.compact l).length) 0))):=
 have A9:=compact_len l
 JcF (ys:=[]) (λblk off c=>.slice (some ⟨blk,off,none⟩) (Lib.compact l).length c) hl (by simp;omega) hH (λown imm x c hx hz hc Bi Br=>by
  simp only[rel];exact⟨x,_,c,hx,rfl,by omega,Bi,λ_=>by rw[Li,Hq],by rw[hz];omega⟩) λblk off c w hc h1 _=>(h blk off c w h1 (by omega) hc).mono λe w' ⟨h3,n,h4⟩=>⟨h3,n,#[],by rw[Sort.grow_empty];exact h4⟩
theorem Je1 {l:List Int}{x:Int}:x∈Lib.compact l↔x∈l:=by
 unfold Lib.compact Lib.compactUpTo;simp only[Gy,Gm,Gh]
 constructor
 ·rintro⟨i,⟨hi,_⟩,rfl⟩;rw[getElem!_pos l.toArray i (by simpa using hi)];simp
 ·intro hx;have key:∀(n i:Nat),i<=n->i<l.length->l.toArray[i]! = x->∃i,(i<l.length/\Lib.keeps l.toArray i=true)/\l.toArray[i]! = x:=by
   intro n
   induction n with
   |zero=>intro i h1 h2 h3;exact⟨i,⟨h2,by simp[Lib.keeps];left;omega⟩,h3⟩
   |succ n ih=>
    intro i h1 h2 h3;by_cases hk:Lib.keeps l.toArray i=true
    ·exact⟨i,⟨h2,hk⟩,h3⟩
    ·simp only[Lib.keeps,decide_eq_true_eq,not_or,ne_eq,Classical.not_not]at hk;exact ih (i-1) (by omega) (by omega) (by rw[<-hk.2];exact h3)
  obtain⟨i,hi,rfl⟩:=GZ hx;exact key i i (Gp _) hi (by rw[getElem!_pos l.toArray i (by simpa using hi)];simp)
theorem compact_asc {l:List Int}(h:l.Pairwise (·<=·)):(Lib.compact l).Pairwise (· < ·):=by
 unfold Lib.compact Lib.compactUpTo;rw[HY];refine List.Pairwise.imp_of_mem ?_ (Hr.filter _);intro a b ha hb Sd;simp only[Gm,Gh]at ha hb;have hk:=hb.2;simp only[Lib.keeps,decide_eq_true_eq]at hk;have hk:=hk.resolve_left (by omega);have hg:∀i,i<l.length->l.toArray[i]! = l.getD i 0:=λi hi=>by
  rw[getElem!_pos l.toArray i (by simpa using hi),Gc,Gf hi];simp
 rw[hg b hb.1,hg (b-1) (by omega)]at hk;rw[hg a ha.1,hg b hb.1];rw[List.pairwise_iff_getElem]at h;have A9:∀i j,i<=j->j<l.length->l.getD i 0<=l.getD j 0:=λi j Cw hj=>by
  rw[Gc,Gc,Gf hj,Gf (show i<l.length by omega)];by_cases he:i=j
  ·subst he;exact Int.le_refl _
  ·exact h i j _ _ (by omega)
 have h1:=A9 a (b-1) (by omega) (by omega);have h2:=A9 (b-1) b (by omega) hb.1;omega
theorem sort_asc (l:List Int):(l.mergeSort λx y=>decide (x<=y)).Pairwise (·<=·):=by
 have:=List.pairwise_mergeSort (le:=λx y:Int=>decide (x<=y)) (λa b c h1 h2=>by simp at *;omega) (λa b=>by simp;omega) l;exact this.imp λh=>by simpa using h
theorem sort_mem {l:List Int}{x:Int}:x∈(l.mergeSort λx y=>decide (x<=y))↔x∈l:=List.mem_mergeSort
theorem sort_strict {l:List Int}(h:l.Nodup):(l.mergeSort λx y=>decide (x<=y)).Pairwise (· < ·):=by
 have h1:=sort_asc l;have h2:(l.mergeSort λx y=>decide (x<=y)).Nodup:=(List.mergeSort_perm l _).nodup_iff.2 h;exact(h1.and h2).imp λ⟨a,b⟩=>by have:_≠_:=b;omega
end
end
end Go.Cm
end
section
namespace Go.Cm
section
def XE (t:Tr)(o:List Int)(of:List Int)(s:Nat):List Nat->List Int
 |[]=>[]
 |i::l=>if (decide (0<=of.getD i (-1)) && ((nd t (of.getD i (-1)).toNat).k == 42 && ((nd t i).k == 3 && (Jbx o i s && (Kk t (Kk t (of.getD i (-1)).toNat).toNat == Kk t s && !buL t (upL t (Ji t s) t.nodes.length i) false)))))=true
  then Kk t (of.getD i (-1)).toNat::XE t o of s l else XE t o of s l
theorem needC_app {t:Tr}{o of:List Int}{s:Nat}:∀(l m:List Nat),XE t o of s (l++m)=XE t o of s l++XE t o of s m
 |[],_=>rfl
 |i::l,m=>by
  simp only[Gv,XE,needC_app l m]
  split <;> simp
theorem Jew {t:Tr}{o of:List Int}{s:Nat}{x:Int}:∀(l:List Nat),x∈XE t o of s l↔∃i∈l,(decide (0<=of.getD i (-1)) && ((nd t (of.getD i (-1)).toNat).k == 42 && ((nd t i).k == 3 && (Jbx o i s && (Kk t (Kk t (of.getD i (-1)).toNat).toNat == Kk t s && !buL t (upL t (Ji t s) t.nodes.length i) false)))))=true/\Kk t (of.getD i (-1)).toNat=x
 |[]=>by simp[XE]
 |i::l=>by
  simp only[XE,Gi,exists_eq_or_imp]
  split
  ·rename_i h;rw[Gi,Jew l]
   constructor
   ·rintro(e|e)
    ·exact .inl ⟨h,e.symm⟩
    ·exact .inr e
   ·rintro(⟨_,e⟩|e)
    ·exact .inl e.symm
    ·exact .inr e
  ·rename_i h;rw[Jew l]
   constructor
   ·exact .inr
   ·rintro(⟨e,_⟩|e)
    ·exact absurd e h
    ·exact e
theorem Jex {t:Tr}{o of:List Int}{s:Nat}:∀(l:List Nat),(XE t o of s l).length<=l.length
 |[]=>Gp _
 |i::l=>by
  have:=Jex (t:=t) (o:=o) (of:=of) (s:=s) l;simp only[XE]
  split <;> simp only[Gl] <;> omega
section
variable {t:Tr}{o:List Int}(g:GoodT t o)
include g
theorem blw_up {j a:Nat}(hj:j<t.nodes.length)(ha:a<t.nodes.length)(Ai:j≠a):Jbx o j a=if Kk t j<0 then false else Jbx o (Kk t j).toNat a:=by
 rcases Xh g hj with ⟨hp,_⟩|⟨m,hp,Uf,hm,hk⟩
 ·rw[hp,if_pos (by decide),Lf];intro h;obtain⟨m,q,_⟩:=XN g ha (Qp.1 h) Ai;omega
 ·rw[hp,iN7,Gb,Gj,Qp,Qp]
  constructor
  ·intro h;obtain⟨m',q1,_,_,q4,_⟩:=XN g ha h Ai;have:m'=m:=by omega
   rw[<-this];exact q4
  ·intro h;exact Qn g ha (Qt g hm hk) h
omit g in
theorem Jgo {top f m:Nat}:∃l,upL t top f m=m::l:=by
 cases f with
 |zero=>exact⟨_,rfl⟩
 |succ f=>unfold upL;split <;> exact⟨_,rfl⟩
omit g in
theorem late_end {top f:Nat}{late:Bool}:buL t (upL t top f top) late=late:=by
 cases f with
 |zero=>rfl
 |succ f=>unfold upL;rw[if_pos rfl];rfl
theorem late_step {s f a:Nat}{late:Bool}(hs:s<t.nodes.length)(Bu:(Ji t s:Int)∈(nd t s).kids)(hb:blw o a (Ji t s))(hf:t.nodes.length<=a+f) :
  (a=Ji t s/\Kk t a=s)\/(a≠Ji t s/\∃m f':Nat,Kk t a=m/\m≠s/\a<m/\m<t.nodes.length/\blw o m (Ji t s)/\(a:Int)∈(nd t m).kids/\t.nodes.length<=m+f'/\buL t (upL t (Ji t s) f a) late=buL t (upL t (Ji t s) f' m) (JcS t m a late)):=by
 have hk:=JR g hs Bu;by_cases he:a=Ji t s
 ·exact .inl ⟨he,by rw[he];exact hk.1⟩
 ·have Dn:Ji t s<t.nodes.length:=by omega
  obtain⟨m,q1,q2,q3,q4,q5⟩:=XN g Dn hb he;have Am:a<t.nodes.length:=by have:=hb.1;omega
  obtain⟨f',rfl⟩:∃f',f=f' + 1:=⟨f-1,by omega⟩;refine .inr ⟨he,m,f',q1,by omega,q2,by omega,q4,q5,by omega,?_⟩;have hu:upL t (Ji t s) (f' + 1) a=a::upL t (Ji t s) f' m:=by
   rw[upL,if_neg he,q1,Gb]
  obtain⟨l,hl⟩:=Jgo (top:=Ji t s) (f:=f') (m:=m);rw[hu,hl,buL]
theorem set_kid {s:Nat}(hs:s<t.nodes.length)(hk:(nd t s).k=41):(Ji t s:Int)∈(nd t s).kids/\0<(nd t s).kids.length:=by
 obtain⟨a,hN,hl,k1,k2⟩:=YH g hs hk;change (nd t s).kids.length=a+1 at hl;exact⟨(Jz g hs (i:=(nd t s).kids.length-1) (by omega)).1,by omega⟩
theorem need_done {of:List Int}{s:Nat}:Lib.compact ((XE t o of s (Ga t.nodes.length)).mergeSort λx y=>decide (x<=y))=XD t o of s:=by
 refine asc_eq (compact_asc (sort_asc _)) (Jd0.filter _) λx=>?_
 unfold XD;rw[Je1,sort_mem,Jew,Gm,KE];simp only[Gw,Gh,Gd,beq_iff_eq,decide_eq_true_eq,GR]
 constructor
 ·rintro⟨i,hi,⟨h1,h2,h3,h4,h5,h6⟩,rfl⟩;have hm:=nd_in (t:=t) (i:=(of.getD i (-1)).toNat) (by omega);obtain⟨u,q1,q2,q3,q4⟩:=QV g hm (by omega);exact⟨⟨by omega,by omega⟩,i,hi,h3,h1,h2,h4,rfl,h5,h6⟩
 ·rintro⟨_,i,hi,h3,h1,h2,h4,rfl,h5,h6⟩;exact⟨i,hi,⟨h1,h2,h3,h4,h5,h6⟩,rfl⟩
end
end
section
theorem pairs_get {t:Tr}{q:Nat->Nat->Prop}:∀(l:List Nat) (k:Nat),JcZ t q l->k+1<l.length->q (l.getD (k+1) 0) (l.getD k 0)
 |[],_,_,h=>by simp at h
 |[x],_,_,h=>by simp at h
 |c::u::l,0,h,_=>h.1
 |c::u::l,k+1,h,hk=>by
  have:=pairs_get (u::l) k h.2 (by simpa using hk);simpa using this
theorem rev_get {l:List Nat}{i:Nat}(h:i<l.length):l.reverse.getD i 0=l.getD (l.length-1-i) 0:=by
 rw[Gc,List.getElem?_reverse h,Gc]
theorem pairs_rev {t:Tr}{q:Nat->Nat->Prop}{l:List Nat}{i:Nat}(h:JcZ t q l)(hi:i+1<l.reverse.length):q (l.reverse.getD i 0) (l.reverse.getD (i+1) 0):=by
 rw[List.length_reverse]at hi;rw[rev_get (by omega),rev_get (by omega)];have:=pairs_get l (l.length-1-(i+1)) h (by omega)
 rwa [show l.length-1-(i+1)+1=l.length-1-i by omega]at this
theorem tdL_drop {t:Tr}{l:List Nat}{i:Nat}(hi:i+1<l.length):tdL t (l.drop i) false=match JhD t (l.getD i 0) (l.getD (i+1) 0) with|some b=>b|none=>tdL t (l.drop (i+1)) false:=by
 rw[Gq (show i<l.length by omega),Gq hi,tdL];simp only[Gc,Gf (show i<l.length by omega),Gf hi,GQ]
 all_goals (cases JhD t l[i] l[i+1] <;> rfl)
theorem tdL_end {t:Tr}{l:List Nat}{i:Nat}(hi:l.length<=i+1):tdL t (l.drop i) false=false:=by
 rcases Lj i l.length with h|h
 ·rw[Gq h,GD (by omega)];rfl
 ·rw[GD h];rfl
def setL (b:List Bool):List Int:=((Ga b.length).filter λi=>b.getD i false).map λi:Nat=>(i:Int)
def KL (n:Nat)(f:Int->Bool):List Bool:=(Ga n).map λi:Nat=>f i
theorem QJ {n:Nat}{f:Int->Bool}:(KL n f).length=n:=by simp[KL]
theorem Jgb {n i:Nat}{f:Int->Bool}(h:i<n):(KL n f).getD i false=f i:=by
 simp[KL,Gc,h]
theorem Jga {n i:Nat}{f g:Int->Bool}(h:i<n)(h1:∀j:Nat,j<n->j≠i->g j=f j)(h2:g i=true):(KL n f).set i true=KL n g:=by
 refine GL (by simp[KL]) λj a1 a2=>?_
 rw[QJ]at a2;rw[List.getElem_set];simp only[KL,Hd,GI]
 split
 ·rename_i e;subst e;exact h2.symm
 ·rename_i e;exact(h1 j a2 (λx=>e x.symm)).symm
theorem boolsN_congr {n:Nat}{f g:Int->Bool}(h:∀j:Nat,j<n->f j=g j):KL n f=KL n g:=by
 unfold KL;exact List.map_congr_left λj hj=>h j (Gh.1 hj)
theorem Jdu {n:Nat}:KL n (λ_=>false)=Gg n false:=by
 refine GL (by simp[KL]) λj a1 a2=>?_
 simp[KL]
theorem JfA {t:Tr}{f:Int->Bool}:setL (KL t.nodes.length f)=(K6 t).filter f:=by
 unfold setL K6;rw[List.filter_map,QJ]
 congr 1
 refine H5 λi hi=>?_
 rw[Jgb (Gh.1 hi)];rfl
def JbC (t:Tr)(o of:List Int)(s:Nat)(x:Int)(i:Nat):Bool:=(nd t i).k == 3 && (decide (0<=of.getD i (-1)) && (Jbx o i (Ji t s) && ((nd t (of.getD i (-1)).toNat).k == 42 && (Kk t (of.getD i (-1)).toNat == x && (Kk t x.toNat == Kk t s && !tdL t (upL t (Ji t s) t.nodes.length i).reverse false)))))
theorem needR_eq {t:Tr}{o of:List Int}{s:Nat}:YB t o of s=setL (KL t.nodes.length λx=>(Ga t.nodes.length).any (JbC t o of s x)):=by
 rw[JfA];rfl
section
variable {t:Tr}{o:List Int}(g:GoodT t o)
include g
theorem up_kids:∀(f c top:Nat),top<t.nodes.length->blw o c top->JcZ t (λu c=>(c:Int)∈(nd t u).kids/\u<t.nodes.length) (upL t top f c)
 |0,_,_,_,_=>trivial
 |f+1,c,top,Bu,Ma=>by
  unfold upL;by_cases he:c=top
  ·rw[if_pos he];trivial
  ·rw[if_neg he];obtain⟨m,hp,bX,bH,Rw,hk⟩:=XN g Bu Ma he;rw[hp,Gb];have hm:m<t.nodes.length:=by omega
   have ih:=up_kids f m top Bu Rw;obtain⟨l,hl⟩:=Jgo (top:=top) (f:=f) (m:=m);rw[hl]at ih|-;exact⟨⟨hk,hm⟩,ih⟩
theorem up_rng:∀(f c top:Nat),top<t.nodes.length->blw o c top->∀x∈upL t top f c,x<t.nodes.length
 |0,c,top,Bu,Ma,x,hx=>by
  simp only[upL,Gt]at hx;have:=Ma.1;omega
 |f+1,c,top,Bu,Ma,x,hx=>by
  unfold upL at hx;have:=Ma.1;by_cases he:c=top
  ·rw[if_pos he,Gt]at hx;omega
  ·rw[if_neg he]at hx;obtain⟨m,hp,bX,bH,Rw,hk⟩:=XN g Bu Ma he;rw[hp,Gb]at hx;rcases Gi.1 hx with h|h
   ·omega
   ·exact up_rng f m top Bu Rw x h
theorem way_step {top f a:Nat}(Bu:top<t.nodes.length)(hb:blw o a top)(hf:t.nodes.length<=a+f)(Ai:a≠top):∃m f':Nat,Kk t a=m/\a<m/\m<t.nodes.length/\blw o m top/\t.nodes.length<=m+f'/\∀w:List Nat,(upL t top f a).tail.reverse++w=(upL t top f' m).tail.reverse++(m::w):=by
 obtain⟨m,q1,q2,q3,q4,q5⟩:=XN g Bu hb Ai;obtain⟨f',rfl⟩:∃f',f=f' + 1:=⟨f-1,by have:=hb.1;omega⟩;refine⟨m,f',q1,q2,by omega,q4,by omega,λw=>?_⟩;obtain⟨l,hl⟩:=Jgo (top:=top) (f:=f') (m:=m);rw[upL,if_neg Ai,q1,Gb,Hg,hl,Hg,G6,Ha];rfl
omit g in
theorem way_start {top f a:Nat}:(upL t top f a).reverse=(upL t top f a).tail.reverse++[a]:=by
 obtain⟨l,hl⟩:=Jgo (top:=top) (f:=f) (m:=a);rw[hl,G6,Hg]
omit g in
theorem way_end {top f:Nat}:(upL t top f top).tail=[]:=by
 cases f with
 |zero=>rfl
 |succ f=>rw[upL,if_pos rfl];rfl
theorem up_len {top f a:Nat}(Bu:top<t.nodes.length)(hb:blw o a top)(hf:t.nodes.length<=a+f):(upL t top f a).length<=t.nodes.length-a:=by
 induction f generalizing a with
 |zero=>have:=hb.1;omega
 |succ f ih=>
  unfold upL;have:=hb.1;by_cases he:a=top
  ·rw[if_pos he];simp;omega
  ·rw[if_neg he];obtain⟨m,q1,q2,q3,q4,q5⟩:=XN g Bu hb he;rw[q1,Gb,Gl];have:=ih q4 (by omega);omega
end
end
section
section
variable {P:Program}{E:Env}{n0:Nat}{N:Fr}{Q:Exit->List CV->List CObj->Prop}{H:List CObj}{T:List CV}{k:List KItem}{m:Bk}{w:World}
theorem JgE {id k:Nat}{o o':CObj}(h:(H.set id o')[k]? = some o):(k=id/\o=o')\/(k≠id/\H[k]? = some o):=by
 rw[HZ]at h
 split at h
 ·rename_i e
  split at h
  ·exact .inl ⟨e.symm,(Hl h).symm⟩
  ·cases h
 ·rename_i e;exact .inr ⟨λx=>e x.symm,h⟩
theorem Sim.trunc {id z:Nat}{els:List (List CV)}(hs:Sim E m H w)(hH:H[id]? = some (.arr z els))(j:Nat):Sim E m (H.set id (.arr z (els.take j))) w/\Ext n0 m H w m (H.set id (.arr z (els.take j))) w:=by
 have key:∀(k:Nat) o,(H.set id (.arr z (els.take j)))[k]? = some o->∃o',H[k]? = some o'/\o'.alive=o.alive/\(k≠id->o'=o):=by
  intro k o h;rcases JgE h with ⟨rfl,rfl⟩|⟨h1,h2⟩
  ·exact⟨_,hH,rfl,λh=>absurd rfl h⟩
  ·exact⟨o,h2,rfl,λ_=>rfl⟩
 refine⟨⟨by rw[Hf];exact hs.len,λk o x hk hx=>?_,hs.imm,hs.one,λk k' o o' x x' hk AA ha AX hx Aq hB=>?_,λk o x hk ha hx=>?_,λk s b hk=>?_,λk o x hk ha hx=>?_,hs.extlt,hs.gl⟩,
  ⟨Gp _,λ_ _ _=>rfl,Kw.refl _,λB hB=>.inl ?_,λB i v hv=>.inl hv,λk x _ hx=>hx,λh=>h,rfl,rfl,rfl⟩⟩
 ·rcases JgE hk with ⟨rfl,rfl⟩|⟨_,h2⟩
  ·obtain⟨hz,c,elem,h1,h2,h3,h4,h5⟩:=hs.obj k _ x hH hx;refine⟨hz,c,elem,h1,h2,?_,λi e he=>?_,h5⟩
   ·have:(els.take j).length*x.z<=els.length*x.z:=Ho _ (by rw[Gu];omega);omega
   ·have Cw:i<j:=by
     have:=(GX.1 he).1;rw[Gu]at this;omega
    rw[Hz,if_pos Cw]at he;exact h4 i e he
  ·exact hs.obj k o x h2 hx
 ·obtain⟨p,hp,CQ,_⟩:=key k o hk;obtain⟨p',DC,Iz,_⟩:=key k' o' AA;exact hs.sep k k' p p' x x' hp DC (CQ.trans ha) (Iz.trans AX) hx Aq hB
 ·obtain⟨p,hp,CQ,_⟩:=key k o hk;exact hs.ro k p x hp (CQ.trans ha) hx
 ·rcases JgE hk with ⟨_,h2⟩|⟨_,h2⟩
  ·cases h2
  ·exact hs.ext k s b h2
 ·obtain⟨p,hp,CQ,_⟩:=key k o hk;exact hs.extsep k p x hp (CQ.trans ha) hx
 ·rcases hB with h|⟨k,o,x,hk,ha,hx,hB⟩
  ·exact .inl h
  ·obtain⟨p,hp,CQ,_⟩:=key k o hk;exact .inr ⟨k,p,x,hp,CQ.trans ha,hx,hB⟩
theorem CallsC.trunc {f id z j:Nat}{args:List CV}{els:List (List CV)}{v:CV}{R R':CV->List CObj->Prop}(h:CallsC P E f args H R)(hR:∀v H',R v H'->R' v H'\/∃id z els j,H'[id]? = some (.arr z els)/\R' v (H'.set id (.arr z (els.take j)))):CallsC P E f args H R':=by
 intro m w vs hs hv;refine(h m w vs hs hv).mono ?_;rintro e w' ⟨r,m',v,H',h1,h2,h3,h4,h5⟩;rcases hR _ _ h5 with g|⟨id,z,els,j,g1,g2⟩
 ·exact⟨r,m',v,H',h1,h2,h3,h4,g⟩
 ·obtain⟨t1,t2⟩:=h3.trunc (n0:=H.length) g1 j;exact⟨r,m',v,_,h1,h2.trans t2,t1,h4,g2⟩
def rowW (id:Nat)(els:List (List CV)):CV:=.slc id 0 els.length (Jhy els)
def Jfg (P:Program)(f:Nat)(args:List CV)(z:Nat)(els:List (List CV)):Prop:=∀(E:Env) (H:List CObj),CallsC P E f args H λv H'=>v=rowW H.length els/\H'=H++[.arr z els]
theorem rowW_shift {els:List (List CV)}(i n:Nat){own own':List Own}{imm:Nat->Nat->Option Value}{r:Value}(ho:∀(k:Nat) x,own[k]? = some x->own'[n+k]? = some x)(h:rel own imm (rowW i els) r):rel own' imm (rowW (n+i) els) r:=by
 simp only[rowW,rel]at h|-;obtain⟨x,a,c,hx,g⟩:=h;exact⟨x,a,c,ho _ _ hx,g⟩
theorem JeM {f:Nat}{args:List CV}{z:Nat}{els:List (List CV)}(h:CallsC P Env.none f args [] λv H'=>∃id,v=rowW id els/\H'[id]? = some (.arr z els))(ha:Jm args=true)(hc:Jq els=true):Jfg P f args z els:=λE H=>by
 refine CallsC.frameG (mk:=λn=>rowW n els) (G:=[.arr z els]) (h.ren λv H' ⟨id,hv,hH⟩=>⟨[id],?_,?_,?_⟩) ha (λo ho=>by simp only[Gt]at ho;rw[ho];exact .inr ⟨_,_,rfl,hc⟩) λn own own' imm r ho h=>rowW_shift 0 n ho h
 ·have:=(GX.1 hH).1;simp[Jdx,this]
 ·rw[hv];simp[rowW,ren,Jn]
 ·simp only[Kq,GN,Le,Gc,hH,GQ,Jo,Jc hc]
theorem Jfg.fn {f:Nat}{args:List CV}{z:Nat}{els:List (List CV)}(h:Jfg P f args z els)(ha:Jm args=true)(hc:Jq els=true):Fn P f args (.rslc z els none):=by
 refine Ja3 (((h Env.none []).mono λv H' ⟨h1,h2⟩=>?_)) ha rfl;subst h1 h2;refine .inr ⟨0,z,els,rfl,hc,?_⟩;simp only[rowW,frz,H8,if_true,Nat.zero_add,Gp,Lb,List.take_length];exact wk.refl _
theorem vr_rowW {d:Option Nat}{g:Option (Nat×Bool)}{f:Nat}{xa:List IArg}{l:List IOper}{z:Nat}{els:List (List CV)}(hg:GOk T g)(Ah:Jfg P f (xa.map (Ka T)) z els)(h:Ko P E n0 N Q (.ops l::k) (put T d (rowW H.length els)) (H++[.arr z els])):Ok P E n0 N Q (.ops (⟨d,.call f xa,g⟩::l)::k) T H:=
 Km hg (Ah E H) λv H' ⟨h1,h2⟩=>by rw[h1,h2];exact h
end
end
end Go.Cm
end
section
set_option maxRecDepth 100000
open Go.RowKit Go.Proofs
namespace Go.Cm
section
theorem inrU64 {x:Int}(h1:0<=x)(h2:x<=18446744073709551615):InR .u64 x:=⟨h1,h2⟩
section
variable {P:Program}{E:Env}{H:List CObj}{T:List CV}
theorem CallsC.wk {f:Nat}{args:List CV}{R R':CV->List CObj->Prop}(h:CallsC P E f args H R)(hR:∀v H',R v H'->∃v',Cm.wk v v'/\R' v' H'):CallsC P E f args H R':=by
 intro m w vs hs hv;refine(h m w vs hs hv).mono ?_;rintro e w' ⟨r,m',v,H',h1,h2,h3,h4,h5⟩;obtain⟨v',w1,w2⟩:=hR _ _ h5;exact⟨r,m',v',H',h1,h2,h3,w1 _ _ _ h4,w2⟩
theorem wk_cap {i o l c:Nat}:wk (.slc i o l (some c)) (.slc i o l none):=by
 intro own imm v h;simp only[rel]at h|-;obtain⟨x,a,c',h1,h2,h3,h4,h5⟩:=h;exact⟨x,a,c',h1,h2,h3,λ_ h=>(by cases h),h5⟩
theorem hs_sl {d:Option Nat}{z:Nat}{x:IArg}{lo hi mx:Option IArg}{id off len:Nat}{cap:Option Nat}{c:Cond}{v:CV}(ha:Ka T x=.slc id off len cap)(he:exec (.slice z x lo hi mx) T H=some (c,v,H))(hc:c.holds) :
  HS P E ⟨d,.slice z x lo hi mx,none⟩ T H v H (.on [id+1],.on []):=by
 refine⟨λ_ _=>rfl,λT2 H2 BN hx=>⟨H2,λy hy=>(by cases hy),λ_ _=>rfl,λ_ _ _ _ _ Ap=>?_⟩⟩;have hH:H2[id]? = H[id]?:=by
  have:=hx (id+1) (by simp[Foot.has]);simpa [hat]using this
 have hE:∀lo hi mx,XR z H2 (.slc id off len cap) lo hi mx=XR z H (.slc id off len cap) lo hi mx:=λlo hi mx=>by simp only[XR,hH]
 have EC:exec (.slice z x lo hi mx) T2 H2=some (c,v,H2):=by
  rw[<-Qv (Jj BN).2];simp only[exec,ha,hE]at he|-
  split at he
  ·split at he
   ·rename_i h1;simp only[GA,Prod.mk.injEq]at he;obtain⟨rfl,rfl,_⟩:=he;simp[]
   ·cases he
  ·cases he
 exact Jet (.inl rfl) EC hc Ap
theorem sortRow {id:Nat}{l:List Int}{cap:Option Nat}(hl:l≠[])(De:l.length<=1000000)(hH:H[id]? = some (.arr 1 (iz l))):CallsC Gs E 145 [.slc id 0 l.length cap] H λv' H'=>v'=.tup []/\H'=H.set id (.arr 1 (iz (l.mergeSort λx y=>decide (x<=y)))):=
 callsC_sort hl De hH λblk off c w h1 h2 h3=>Tryz.slices_Sort_int blk off c l w h1 h2 h3
theorem compactRow {id:Nat}{l:List Int}{cap:Option Nat}(hl:l≠[])(De:l.length<=1000000)(hH:H[id]? = some (.arr 1 (iz l))):CallsC Gs E 149 [.slc id 0 l.length cap] H λv' H'=>v'=.slc id 0 (Lib.compact l).length cap/\H'=H.set id (.arr 1 (iz (Lib.compact l++Gg (l.length-(Lib.compact l).length) 0))):=
 Jfq hl De hH λblk off c w h1 h2 h3=>Tryz.slices_Compact_int blk off c l w h1 h2 h3
theorem sortNil:Fn Gs 145 [.nils] (.tup []):=by
 intro E H;refine KP λm w vs hs hv=>?_
 simp only[JS,rel]at hv;obtain⟨r,rs,e,rfl,rfl⟩:=hv;have BI:vs=#[.slice none 0 0]:=by cases vs;simp_all
 subst BI;exact⟨_,(Tryz.slices_Sort_int_none none 0 w).mono λe w' ⟨h1,h2⟩=>⟨h1,by rw[h2];exact Below.refl _ _⟩,by simp only[rel,JS];exact⟨_,rfl,rfl⟩⟩
theorem compactNil:Fn Gs 149 [.nils] .nils:=by
 intro E H;refine KP λm w vs hs hv=>?_
 simp only[JS,rel]at hv;obtain⟨r,rs,e,rfl,rfl⟩:=hv;have BI:vs=#[.slice none 0 0]:=by cases vs;simp_all
 subst BI;exact⟨_,(Tryz.slices_Compact_int_empty none 0 w).mono λe w' ⟨h1,h2⟩=>⟨h1,by rw[h2];exact Below.refl _ _⟩,by simp only[rel]⟩
theorem mulOne (m:Nat)(hm:m<18446744073709551616):Fn Gs 141 [.int .u64 1,.int .u64 (m:Int)] (.tup [.int .u64 0,.int .u64 (m:Int)]):=by
 intro E H;refine KP λm' w vs hs hv=>?_
 simp only[JS,rel]at hv;obtain⟨r,rs,e,rfl,r2,rs2,rfl,rfl,rfl⟩:=hv;have BI:vs=#[.int .u64 ((1:Nat):Int),.int .u64 (m:Int)]:=by cases vs;simp_all
 subst BI;have h:=Tryz.bits_Mul 1 m (by omega) hm w;rw[Nat.one_mul,Nat.div_eq_of_lt hm,Nat.mod_eq_of_lt hm]at h;exact⟨_,h.mono λe w' ⟨h1,h2⟩=>⟨h1,by rw[h2];exact Below.refl _ _⟩,by simp only[rel,JS];exact⟨_,rfl,_,_,rfl,rfl,_,_,rfl,rfl,rfl⟩⟩
end
def repS (v:Int)(m k:Nat):List Int:=Gg k v++Gg (m-k) 0
theorem repS_len {v:Int}{m k:Nat}(h:k<=m):(repS v m k).length=m:=by simp[repS];omega
theorem repS_step {v:Int}{m k q:Nat}(h:k+q<=m)(hq:q<=k):(iz (repS v m k)).take k++((((iz (repS v m k)).take k).take q)++(iz (repS v m k)).drop (k+q))=iz (repS v m (k+q)):=by
 have h1:(repS v m k).take k=Gg k v:=by unfold repS;rw[List.take_left' (by simp)]
 have h2:(repS v m k).drop (k+q)=Gg (m-(k+q)) 0:=by
  unfold repS;rw[List.drop_append,GD (by simp),List.length_replicate,GM,Hy]
  congr 1;omega
 unfold iz;rw[<-Lc,<-Lc,<-List.map_drop,<-He,<-He,h1,h2,List.take_replicate,Nat.min_eq_left hq,<-Ha,List.replicate_append_replicate];rfl
theorem repeatO (v:Int)(m:Nat)(hm:m<=100000)(E:Env)(H:List CObj):CallsC Gs E 112 [.rslc 1 (iz [v]) none,.int .i64 (m:Int)] H λv' H'=>v'=.slc H.length 0 m none/\H'=H++[.arr 1 (iz (Gg m v))]:=by
 refine CallsC.frameG (mk:=λn=>.slc n 0 m none) (G:=[.arr 1 (iz (Gg m v))]) (CallsC.wk (R:=λv' H'=>v'=.slc 0 0 m (some m)/\H'=[.arr 1 (iz (Gg m v))]) (Kc c112_ok λN=>?_) λv' H' ⟨e1,e2⟩=>⟨.slc 0 0 m none,by rw[e1];exact wk_cap,rfl,e2⟩) rfl (λo ho=>by simp only[Gt]at ho;rw[ho];exact .inr ⟨_,_,rfl,Jf _⟩) (λn own own' imm r ho h=>by
  simp only[rel]at h|-;obtain⟨x,a,c,hx,g⟩:=h;exact⟨x,a,c,ho _ _ hx,g⟩)
 have d0:((m:Int)<0)=False:=Ki;have d1:((m:Int) > 9223372036854775807)=False:=Ki;have d1':((9223372036854775807:Int)<(m:Int))=False:=Ki;have dm:decide ((9223372036854775807:Int)<(m:Int))=false:=decide_eq_false (by omega);simp -implicitDefEqProofs only[c112,go_sem,d0,iz,GN,Le,Gl,H8];refine⟨inrU64 (by omega) (by omega),inrU64 (by omega) (by omega),?_⟩;refine JV (mulOne m (by omega)) ?_;simp -implicitDefEqProofs only[go_sem,d1];refine⟨Jh,⟨by omega,Int.le_refl _,by omega,by omega⟩,by simp,?_⟩;refine JE (I:=λk:Nat=>(m=0\/1<=k)/\k<=m) (inv:=λk=>gp [(7,.slc 0 0 m (some m)),(0,.int .i64 (k:Int))] 39) (hp:=λk=>[.arr 1 (iz (repS v m k))]) (μ:=λk=>m-k) (min 1 m) ⟨by omega,by omega⟩ ?_ ?_ ?_
 ·simp[forget,gp]
 ·rcases Nat.eq_zero_or_pos m with rfl|h
  ·simp[repS,iz]
  ·rw[show min 1 m=1 by omega];simp[repS,iz,Hy]
 ·rintro k ⟨Du,Av⟩;by_cases Ab:k<m
  ·have e1:=dtT k m;obtain⟨q,hq⟩:∃q,q=min k (m-k):=⟨_,rfl⟩;have fw:q<=k:=by omega
   have Al:=repS_step (v:=v) (m:=m) (k:=k) (q:=q) (by omega) fw;have hL:(iz (repS v m k)).length=m:=by rw[Jg,repS_len Av]
   simp -implicitDefEqProofs only[go_sem,e1];refine Jbi [Foot.no,Foot.no,Foot.no,(.on [1],.on []),Foot.no,Foot.no,(.on [1],.on []),Foot.any,Foot.no,Foot.no] Jp (by decide +kernel) ?_;refine⟨_,_,YS rfl rfl trivial,_,_,YS rfl rfl trivial,_,_,YS rfl rfl trivial,_,_,hs_sl (id:=0) (off:=0) (len:=m) (cap:=some m) rfl rfl ?_,_,_,YS rfl rfl trivial,_,_,YS rfl rfl trivial,_,_,hs_sl (id:=0) (off:=0) (len:=m) (cap:=some m) rfl rfl ?_,.int .i64 (q:Int),[.arr 1 (iz (repS v m (k+q)))],?_,_,_,YS rfl rfl ?_,_,_,YS rfl rfl trivial,?_⟩
   ·show 0<=(k:Int)/\(k:Int)<=(m:Int)/\(m:Int)<=(m:Int);omega
   ·show 0<=(0:Int)/\(0:Int)<=(k:Int)/\(k:Int)<=(m:Int);omega
   ·refine hs_any (.inl rfl) (c:=.le m m) ?_ (Gp m);simp -implicitDefEqProofs only[go_sem];have hx:(List.take k (iz (repS v m k))).length=k:=by rw[Gu,hL];omega
    rw[Nat.sub_zero,iP7];simp only[hx,hL,<-hq,Al];rw[show k+(m-k)=m by omega]
   ·exact Jh
   ·simp -implicitDefEqProofs only[vdf,go_sem];refine⟨k+q,⟨by omega,by omega⟩,by omega,?_⟩;simp[forget]
  ·have e1:=dfF k m;have Cv:k=m:=by omega
   subst Cv;simp -implicitDefEqProofs only[go_sem,e1];simp[repS,iz]
end
end Go.Cm
end
end
