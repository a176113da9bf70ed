/-
  A part of the proof. Conditions: none.
-/
import Derived.Test.YtebakpoggommpaaGreatDoorQP12
import Derived.Lib.SlicesCompact
set_option linter.unusedSimpArgs false
set_option linter.unusedVariables false
open List renaming getD_eq_getElem?_getD→Gc,getElem?_eq_getElem→Gd,mem_replicate→Gi,replicate→Gh,range→Ga,mem_cons→Gg,length_cons→Gl,mem_range→Gj,mem_append→Gm,drop_eq_getElem_cons→Gt,mem_singleton→Gr,mem_filter→Gp,drop_of_length_le→GG,getElem?_eq_none→GH,length_take→Gu,filter_cons→Gv,cons_append→Gw,any_eq_true→Gx,find?_cons→Gy,pairwise_cons→GI,length_append→GJ,getElem_range→GK,getElem?_eq_some_iff→G7,length_range→GL,getElem_mem→GM,ext_getElem→GN,filter_eq_nil_iff→G8,nil_append→GQ,mem_map→Gz,getElem_of_mem→G9,map_cons→GR,reverse_cons→Ha,nodup_append→Hd,getElem?_map→He,find?_filter→Hf,append_assoc→Hg,getElem_map→Hl,map_append→Hm,length_set→Ho,tail_cons→Hq,pairwise_lt_range→Hy,take_append_drop→Hz,contains_eq_mem→HV,filter_eq_self→HY,drop_replicate→HZ,getElem?_take→H5,filter_append→H6,pairwise_map→H7,getElem?_set→H8,filter_congr→H9,mem_flatten→La,nodup_cons→Lb,length_nil→Lc,length_map→Ld,append_nil→Le,drop_zero→Lf,map_take→Lg,any_cons→Lh,map_nil→Li
open Option renaming map_some→GA,getD_some→GU
open Option.some renaming injEq→GD,inj→Hr
open Bool renaming and_eq_true→Gf,eq_iff_iff→Gn,not_eq_true'→GV,or_eq_true→Ht,eq_false_iff→Lj,false_and→Ll
open Int renaming toNat_natCast→Gb,toNat_of_nonneg→Hu
open Nat renaming le_refl→Gq,mul_le_mul_right→GX,lt_succ_self→GY,zero_mul→GZ,le_of_lt→G5,add_zero→G6,add_mul→Hw,lt_or_ge→Lm
open Go.Proofs.Tryz renaming prog→Gs
noncomputable section
section
namespace Go.Cm
section
theorem YT {k : Nat} (c : UInt8) (m : Nat) (h : Jey k = c) (hm : (c, m) ∈ ([(66, 40), (83, 41), (98, 42), (73, 43), (78, 44), (71, 45), (79, 48), (80, 64)] : List (UInt8 × Nat))) : k = m := by
  unfold Jey letter at h
  simp only [Gg, List.not_mem_nil, or_false, Prod.mk.injEq] at hm
  by_cases a1 : 1 ≤ k ∧ k ≤ 29
  · rw [if_pos a1] at h; rcases hm with ⟨rfl, rfl⟩ | ⟨rfl, rfl⟩ | ⟨rfl, rfl⟩ | ⟨rfl, rfl⟩ | ⟨rfl, rfl⟩ | ⟨rfl, rfl⟩ | ⟨rfl, rfl⟩ | ⟨rfl, rfl⟩ <;> exact absurd h (by decide)
  rw [if_neg a1] at h
  by_cases a2 : 60 ≤ k ∧ k ≤ 63
  · rw [if_pos a2] at h; rcases hm with ⟨rfl, rfl⟩ | ⟨rfl, rfl⟩ | ⟨rfl, rfl⟩ | ⟨rfl, rfl⟩ | ⟨rfl, rfl⟩ | ⟨rfl, rfl⟩ | ⟨rfl, rfl⟩ | ⟨rfl, rfl⟩ <;> exact absurd h (by decide)
  rw [if_neg a2] at h
  by_cases a3 : k = 46 ∨ k = 47
  · rw [if_pos a3] at h; rcases hm with ⟨rfl, rfl⟩ | ⟨rfl, rfl⟩ | ⟨rfl, rfl⟩ | ⟨rfl, rfl⟩ | ⟨rfl, rfl⟩ | ⟨rfl, rfl⟩ | ⟨rfl, rfl⟩ | ⟨rfl, rfl⟩ <;> exact absurd h (by decide)
  rw [if_neg a3] at h
  rcases (show k = 40 ∨ k = 41 ∨ k = 42 ∨ k = 43 ∨ k = 44 ∨ k = 45 ∨ k = 48 ∨ k = 64 ∨ k = 65 ∨ (k ≠ 40 ∧ k ≠ 41 ∧ k ≠ 42 ∧ k ≠ 43 ∧ k ≠ 44 ∧ k ≠ 45 ∧ k ≠ 48 ∧ k ≠ 64 ∧ k ≠ 65) by omega) with rfl | rfl | rfl | rfl | rfl | rfl | rfl | rfl | rfl | ⟨b1, b2, b3, b4, b5, b6, b7, b8, b9⟩
  all_goals first
    | (rcases hm with ⟨rfl, rfl⟩ | ⟨rfl, rfl⟩ | ⟨rfl, rfl⟩ | ⟨rfl, rfl⟩ | ⟨rfl, rfl⟩ | ⟨rfl, rfl⟩ | ⟨rfl, rfl⟩ | ⟨rfl, rfl⟩ <;> first | rfl | exact absurd h (by decide))
    | (rw [if_neg b1, if_neg b2, if_neg b3, if_neg b4, if_neg b5, if_neg b6, if_neg b7, if_neg b8, if_neg b9] at h
       rcases hm with ⟨rfl, rfl⟩ | ⟨rfl, rfl⟩ | ⟨rfl, rfl⟩ | ⟨rfl, rfl⟩ | ⟨rfl, rfl⟩ | ⟨rfl, rfl⟩ | ⟨rfl, rfl⟩ | ⟨rfl, rfl⟩ <;> exact absurd h (by decide))
theorem JdL {k:Nat}(h:Jey k=116):60≤k∧k≤63:=by
 unfold Jey letter at h
 by_cases a1:1≤k∧k≤29
 ·rw[if_pos a1]at h; exact absurd h (by decide)
 rw[if_neg a1]at h
 by_cases a2:60≤k∧k≤63
 ·exact a2
 exfalso
 rw[if_neg a2]at h
 repeat' (split at h)
 all_goals exact absurd h (by decide)
theorem JdM {k:Nat}(h:Jey k=101):1≤k∧k≤29:=by
 by_cases a1:1≤k∧k≤29
 ·exact a1
 exfalso
 unfold Jey letter at h
 rw[if_neg a1]at h
 repeat' (split at h)
 all_goals exact absurd h (by decide)
section
variable {t:Tr}{o:List Int}(g:GoodT t o)
include g
omit g in
theorem QL {u:Nat}(hu:u < t.nodes.length) {a b:Int}{c:UInt8}(h:JU (lets t.nodes (t.nodes.getD u default)) a b c=true) {i:Nat}(h1:a≤i) (h2:(i:Int) < b):i < (t.nodes.getD u default).kids.length∧Jey (Jq t.nodes ((t.nodes.getD u default).kids.getD i 0))=c:=by
 obtain ⟨p1,p2,p3,p4⟩:=JX.1 h
 rw[QK]at p3
 have hi:i < (t.nodes.getD u default).kids.length:=by omega
 refine ⟨hi,?_⟩
 have hg:((lets t.nodes (t.nodes.getD u default)).take b.toNat).drop a.toNat=Gh (b.toNat-a.toNat) c:=p4
 have hx:(((lets t.nodes (t.nodes.getD u default)).take b.toNat).drop a.toNat)[i-a.toNat]? = some c:=by
  rw[hg,List.getElem?_replicate,if_pos (by omega)]
 rw[List.getElem?_drop,H5,if_pos (by omega),show a.toNat+(i-a.toNat)=i by omega]at hx
 unfold lets at hx
 rw[He,Gd hi]at hx
 simp only[GA,GD]at hx
 rw[Gc,Gd hi]
 exact hx
theorem JdO {u:Nat}(hu:u < t.nodes.length):KZ (t.nodes.getD u default).k (t.nodes.getD u default).n (lets t.nodes (t.nodes.getD u default))=true:=by
 have h:=g.nds (t.nodes.getD u default) (by rw[rowN hu]; exact GM hu)
 unfold ndI at h
 rw[node_eq]at h
 simp only[J9,Gf]at h
 exact h.1.1
theorem Jax {u:Nat}(hu:u < t.nodes.length) (hk:(t.nodes.getD u default).k=28):∃ a b:Nat,(t.nodes.getD u default).n=(a:Int)∧a+1≤b∧b < (t.nodes.getD u default).kids.length∧
  (∀ i,i < a→Jq t.nodes ((t.nodes.getD u default).kids.getD i 0)=43)∧(1≤Jq t.nodes ((t.nodes.getD u default).kids.getD a 0)∧Jq t.nodes ((t.nodes.getD u default).kids.getD a 0)≤29)∧
  (∀ i,a+1≤i→i < b→Jq t.nodes ((t.nodes.getD u default).kids.getD i 0)=41)∧(∀ i,b≤i→i+1 < (t.nodes.getD u default).kids.length→Jq t.nodes ((t.nodes.getD u default).kids.getD i 0)=44)∧
  Jq t.nodes ((t.nodes.getD u default).kids.getD ((t.nodes.getD u default).kids.length-1) 0)=45:=by
 have h:=JdO g hu
 rw[hk]at h
 unfold KZ at h
 rw[if_neg (by omega),if_neg (by omega),if_neg (by omega),if_neg (by omega),if_neg (by omega),if_neg (by omega),if_neg (by omega),if_neg (by omega),if_neg (by omega),if_neg (by omega),if_neg (by omega),if_neg (by omega),if_pos rfl]at h
 simp only[Gf,decide_eq_true_eq,QK]at h
 obtain ⟨⟨⟨⟨⟨⟨q0,q1⟩,q2⟩,q3⟩,q4⟩,q5⟩,q6⟩:=h
 generalize hb:K9 83 (lets t.nodes (t.nodes.getD u default))=c at q4 q5
 obtain ⟨a,ha⟩:∃ a:Nat,(t.nodes.getD u default).n=(a:Int):=⟨_,(Hu q0).symm⟩
 rw[ha]at q1 q2 q3 q4 q5
 have r5:=JX.1 q5
 have r6:=JX.1 q6
 rw[QK]at r5 r6
 refine ⟨a,a+1+c,ha,by omega,by omega,fun i hi=>?_,?_,fun i h1 h2=>?_,fun i h1 h2=>?_,?_⟩
 ·exact YT 73 43 (QL hu q2 (by omega) (by omega)).2 (by simp)
 ·exact JdM (QL hu q3 (i:=a) (by omega) (by omega)).2
 ·exact YT 83 41 (QL hu q4 (by omega) (by omega)).2 (by simp)
 ·exact YT 78 44 (QL hu q5 (by omega) (by omega)).2 (by simp)
 ·exact YT 71 45 (QL hu q6 (i:=(t.nodes.getD u default).kids.length-1) (by omega) (by omega)).2 (by simp)
theorem Jc0 {u:Nat}(hu:u < t.nodes.length) (hk:(t.nodes.getD u default).k=41):∃ a:Nat,(t.nodes.getD u default).n=(a:Int)∧(t.nodes.getD u default).kids.length=a+1∧
  (∀ i,i < a→Jq t.nodes ((t.nodes.getD u default).kids.getD i 0)=42)∧(1≤Jq t.nodes ((t.nodes.getD u default).kids.getD a 0)∧Jq t.nodes ((t.nodes.getD u default).kids.getD a 0)≤29):=by
 have h:=JdO g hu
 rw[hk]at h
 unfold KZ at h
 rw[if_neg (by omega),if_neg (by omega),if_neg (by omega),if_neg (by omega),if_neg (by omega),if_neg (by omega),if_neg (by omega),if_pos rfl]at h
 simp only[Gf,beq_iff_eq,QK]at h
 have r:=JX.1 h.1.2
 obtain ⟨a,ha⟩:∃ a:Nat,(t.nodes.getD u default).n=(a:Int):=⟨_,(Hu r.2.1).symm⟩
 rw[ha]at h
 refine ⟨a,ha,by omega,fun i hi=>?_,?_⟩
 ·exact YT 98 42 (QL hu h.1.2 (by omega) (by omega)).2 (by simp)
 ·exact JdM (QL hu h.2 (i:=a) (by omega) (by omega)).2
theorem def_kids {u:Nat}(hu:u < t.nodes.length) (hk:(t.nodes.getD u default).k=65):∃ a:Nat,(t.nodes.getD u default).n=(a:Int)∧a < (t.nodes.getD u default).kids.length∧
  (∀ i,i < a→Jq t.nodes ((t.nodes.getD u default).kids.getD i 0)=64)∧(∀ i,a≤i→i+1 < (t.nodes.getD u default).kids.length→60≤Jq t.nodes ((t.nodes.getD u default).kids.getD i 0)∧Jq t.nodes ((t.nodes.getD u default).kids.getD i 0)≤63)∧Jq t.nodes ((t.nodes.getD u default).kids.getD ((t.nodes.getD u default).kids.length-1) 0)=40:=by
 have h:=JdO g hu
 rw[hk]at h
 unfold KZ at h
 rw[if_neg (by omega),if_neg (by omega),if_neg (by omega),if_neg (by omega),if_neg (by omega),if_neg (by omega),if_neg (by omega),if_neg (by omega),if_neg (by omega),if_neg (by omega),if_neg (by omega),if_pos rfl]at h
 simp only[Gf,QK]at h
 have r:=JX.1 h.1.1
 have r2:=JX.1 h.2
 rw[QK]at r r2
 obtain ⟨a,ha⟩:∃ a:Nat,(t.nodes.getD u default).n=(a:Int):=⟨_,(Hu r.2.1).symm⟩
 have r3:=JX.1 h.1.2
 rw[ha]at h r r3
 refine ⟨a,ha,by omega,fun i hi=>?_,fun i h1 h2=>?_,?_⟩
 ·exact YT 80 64 (QL hu h.1.1 (by omega) (by omega)).2 (by simp)
 ·exact JdL (QL hu h.1.2 (by omega) (by omega)).2
 ·exact YT 66 40 (QL hu h.2 (i:=(t.nodes.getD u default).kids.length-1) (by omega) (by omega)).2 (by simp)
theorem Jam {u:Nat}(hu:u < t.nodes.length) (hk:(t.nodes.getD u default).k=47):(t.nodes.getD u default).kids.length=3∧(∀ i,i < 2→Jq t.nodes ((t.nodes.getD u default).kids.getD i 0)=48)∧
  (1≤Jq t.nodes ((t.nodes.getD u default).kids.getD 2 0)∧Jq t.nodes ((t.nodes.getD u default).kids.getD 2 0)≤29):=by
 have h:=JdO g hu
 rw[hk]at h
 unfold KZ at h
 rw[if_neg (by omega),if_neg (by omega),if_neg (by omega),if_neg (by omega),if_neg (by omega),if_neg (by omega),if_neg (by omega),if_neg (by omega),if_neg (by omega),if_neg (by omega),if_pos rfl]at h
 simp only[Gf,beq_iff_eq,QK]at h
 refine ⟨by omega,fun i hi=>?_,?_⟩
 ·exact YT 79 48 (QL hu h.1.2 (by omega) (by omega)).2 (by simp)
 ·exact JdM (QL hu h.2 (i:=2) (by omega) (by omega)).2
omit g in
theorem JbC {k:Nat}{hv:List UInt8}{c:UInt8}(h:c∈Qc k hv):(c=80→k=65)∧(c=73→k=28)∧(c=98→k=41)∧(c=83→k=40∨k=28)∧(c=99→k=29)∧(c=78→k=28)∧(c=116→k=25∨k=62∨k=63∨k=64∨k=42∨k=65)∧(c=79→k=46∨k=47)∧c≠68:=by
 unfold Qc at h
 dsimp only at h
 by_cases e0:4≤k∧k≤18
 ·rw[if_pos e0]at h
  refine ⟨?_,?_,?_,?_,?_,?_,?_,?_,?_⟩ <;> rintro rfl <;> first | omega | simp[Gi]at h
 rw[if_neg e0]at h
 by_cases e1:(19≤k∧k≤24)∨k=43∨k=44
 ·rw[if_pos e1]at h
  refine ⟨?_,?_,?_,?_,?_,?_,?_,?_,?_⟩ <;> rintro rfl <;> first | omega | simp[Gi]at h
 rw[if_neg e1]at h
 by_cases e2:k=25∨k=62∨k=63∨k=64
 ·rw[if_pos e2]at h
  refine ⟨?_,?_,?_,?_,?_,?_,?_,?_,?_⟩ <;> rintro rfl <;> first | omega | simp[Gi]at h
 rw[if_neg e2]at h
 by_cases e3:k=26∨k=45
 ·rw[if_pos e3]at h
  refine ⟨?_,?_,?_,?_,?_,?_,?_,?_,?_⟩ <;> rintro rfl <;> first | omega | simp[Gi]at h
 rw[if_neg e3]at h
 by_cases e4:k=27
 ·rw[if_pos e4]at h
  refine ⟨?_,?_,?_,?_,?_,?_,?_,?_,?_⟩ <;> rintro rfl <;> first | omega | simp[Gi]at h
 rw[if_neg e4]at h
 by_cases e5:k=28
 ·rw[if_pos e5]at h
  refine ⟨?_,?_,?_,?_,?_,?_,?_,?_,?_⟩ <;> rintro rfl <;> first | omega | simp[Gi]at h
 rw[if_neg e5]at h
 by_cases e6:k=29
 ·rw[if_pos e6]at h
  refine ⟨?_,?_,?_,?_,?_,?_,?_,?_,?_⟩ <;> rintro rfl <;> first | omega | simp[Gi]at h
 rw[if_neg e6]at h
 by_cases e7:k=40
 ·rw[if_pos e7]at h
  refine ⟨?_,?_,?_,?_,?_,?_,?_,?_,?_⟩ <;> rintro rfl <;> first | omega | simp[Gi]at h
 rw[if_neg e7]at h
 by_cases e8:k=41
 ·rw[if_pos e8]at h
  refine ⟨?_,?_,?_,?_,?_,?_,?_,?_,?_⟩ <;> rintro rfl <;> first | omega | simp[Gi]at h
 rw[if_neg e8]at h
 by_cases e9:k=42∧hv≠[]
 ·rw[if_pos e9]at h
  refine ⟨?_,?_,?_,?_,?_,?_,?_,?_,?_⟩ <;> rintro rfl <;> first | omega | simp[Gi]at h
 rw[if_neg e9]at h
 by_cases e10:k=46
 ·rw[if_pos e10]at h
  refine ⟨?_,?_,?_,?_,?_,?_,?_,?_,?_⟩ <;> rintro rfl <;> first | omega | simp[Gi]at h
 rw[if_neg e10]at h
 by_cases e11:k=47
 ·rw[if_pos e11]at h
  refine ⟨?_,?_,?_,?_,?_,?_,?_,?_,?_⟩ <;> rintro rfl <;> first | omega | simp[Gi]at h
 rw[if_neg e11]at h
 by_cases e12:k=65
 ·rw[if_pos e12]at h
  refine ⟨?_,?_,?_,?_,?_,?_,?_,?_,?_⟩ <;> rintro rfl <;> first | omega | simp[Gi]at h
 rw[if_neg e12]at h
 simp at h
theorem par_kind {u:Nat}(hu:u < t.nodes.length) {c:Int}(hc:c∈(t.nodes.getD u default).kids):Jey (Jq t.nodes c)∈Qc (t.nodes.getD u default).k (lets t.nodes (t.nodes.getD u default)):=by
 have h:=g.nds (t.nodes.getD u default) (by rw[rowN hu]; exact GM hu)
 unfold ndI J3 at h
 simp only[Gf,beq_iff_eq]at h
 rw[← h.1.1.1.2]
 unfold lets
 exact List.mem_map_of_mem hc
end
end
section
section
variable {t:Tr}{o:List Int}(g:GoodT t o)
def nd (t:Tr) (j:Nat):Nd:=t.nodes.getD j default
def blw (o:List Int) (j a:Nat):Prop:=j≤a∧fs o a≤j
include g
theorem JW {n m:Nat}(hm:m < t.nodes.length) (h:(n:Int)∈(nd t m).kids):Kb t n=m∧n < m:=by
 have hr:=g.kid hm h
 rcases Qv g (n:=n) (by omega) with ⟨_,h2⟩ | ⟨m',h1,h2,h3,h4⟩
 ·exact absurd h (h2 m hm)
 ·have:=g.ord.parent_one (JK hm) (JK h3) h h4
  subst this
  exact ⟨h1,h2⟩
theorem fs_le {a:Nat}(ha:a < t.nodes.length):0≤fs o a∧fs o a≤a:=Jgg g.ord.ok (by omega) (by rw[g.olen]; omega)
theorem Yn {a:Nat}(ha:a < t.nodes.length):blw o a a:=⟨Gq _,(fs_le g ha).2⟩
theorem QT {i j a:Nat}(ha:a < t.nodes.length) (h1:blw o i j) (h2:blw o j a):blw o i a:=by
 have:=g.ord.nest a j (by rw[Ko]; exact ha) (by omega) h2.2 (by have:=h2.1; omega)
 refine ⟨Nat.le_trans h1.1 h2.1,?_⟩
 have:=h1.2
 omega
theorem Qm {n m:Nat}(hm:m < t.nodes.length) (h:(n:Int)∈(nd t m).kids):blw o n m:=by
 have h1:=g.ord.kid_rng (JK hm) h
 have h2:=(fs_le g (a:=n) (by omega)).2
 exact ⟨by omega,by omega⟩
theorem Jeg {j u:Nat}(hu:u < t.nodes.length) (h:blw o j u):j=u∨∃ c:Nat,(c:Int)∈(nd t u).kids∧blw o j c:=by
 by_cases he:j=u
 ·exact .inl he
 ·have h1:=h.1
  obtain ⟨c,hc,h3,h4⟩:=Q7 g.ord.ok rfl _ _ _ (j:Int) (g.ord.kids (JK hu)) h.2 (by omega)
  have hr:=g.kid hu hc
  obtain ⟨c,rfl⟩:∃ k:Nat,c=(k:Int):=⟨c.toNat,by omega⟩
  exact .inr ⟨c,hc,by omega,h3⟩
theorem Xf {j a:Nat}(ha:a < t.nodes.length) (h:blw o j a) (hne:j≠a):∃ m:Nat,Kb t j=m∧j < m∧m≤a∧blw o m a∧(j:Int)∈(nd t m).kids:=by
 have h1:=h.1
 obtain ⟨m,q1,q2,q3⟩:=par_in g a j ha h.2 (by omega)
 have:=(JW g (show m < t.nodes.length by omega) q3).1
 exact ⟨m,this,q1,q2,⟨q2,by have:=h.2; omega⟩,q3⟩
def QE (t:Tr) (u k:Nat):List Int:=(nd t u).kids.filter fun c=>Jq t.nodes c == k
def YJ (t:Tr) (u:Nat):List Int:=((QE t u 41).map fun s=>QE t s.toNat 42).flatten
def Jbg (t:Tr) (u a:Nat):List Int:=
 if (nd t u).k=40 then YJ t u
 else if (nd t u).k=65 then QE t u 64
 else if (nd t u).k=47 then (if (a:Int)=(nd t u).kids.getD 2 0 then [(u:Int)] else [])
 else if (nd t u).k=28 then (if (nd t a).k=43 then [] else if (nd t a).k=41∨(nd t a).k=44 then QE t u 43++YJ t u else QE t u 43)
 else []
def XM (t:Tr):Nat→Nat→List Int
 |0,_=>[]
 |f+1,a=>if Kb t a < 0 then [] else Jbg t (Kb t a).toNat a++XM t f (Kb t a).toNat
def inS (t:Tr) (o:List Int) (d:Int) (j:Nat):Prop:=∃ u a:Nat,u < t.nodes.length∧(a:Int)∈(nd t u).kids∧blw o j a∧d∈Jbg t u a
theorem Jea:∀ (f j:Nat) (d:Int),j < t.nodes.length→t.nodes.length≤j+f→(d∈XM t f j↔inS t o d j):=by
 intro f
 induction f with
 |zero=>intro j d h1 h2; omega
 |succ f ih=>
  intro j d h1 h2
  unfold XM
  rcases Qv g h1 with ⟨hp,hno⟩ | ⟨m,hp,hm1,hm2,hm3⟩
  ·rw[hp,if_pos (by decide)]
   refine ⟨fun h=>by simp at h,fun ⟨u,a,hu,ha,hb,_⟩=>?_⟩
   exfalso
   have hau:=(JW g hu ha).2
   by_cases he:j=a
   ·subst he; exact hno u hu ha
   ·obtain ⟨m,q1,_⟩:=Xf g (show a < t.nodes.length by omega) hb he
    rw[hp]at q1; omega
  ·rw[hp,if_neg (by omega),Gm,Gb,ih m d hm2 (by omega)]
   constructor
   ·rintro (h | ⟨u,a,hu,ha,hb,hd⟩)
    ·exact ⟨m,j,hm2,hm3,Yn g h1,h⟩
    ·have hau:=(JW g hu ha).2
     exact ⟨u,a,hu,ha,QT g (by omega) (Qm g hm2 hm3) hb,hd⟩
   ·rintro ⟨u,a,hu,ha,hb,hd⟩
    have hau:=(JW g hu ha)
    by_cases he:j=a
    ·subst he
     have:u=m:=by rw[hp]at hau; omega
     subst this
     exact .inl hd
    ·obtain ⟨m',q1,_,_,q4,_⟩:=Xf g (show a < t.nodes.length by omega) hb he
     have:m'=m:=by rw[hp]at q1; omega
     subst this
     exact .inr ⟨u,a,hu,ha,q4,hd⟩
omit g in
theorem KU {u k:Nat}{c:Int}:c∈QE t u k↔c∈(nd t u).kids∧Jq t.nodes c=k:=by
 unfold QE
 simp
theorem JbW {u:Nat}(hu:u < t.nodes.length) {d:Int}:d∈YJ t u↔∃ s:Nat,(s:Int)∈(nd t u).kids∧(nd t s).k=41∧d∈(nd t s).kids∧Jq t.nodes d=42:=by
 unfold YJ
 simp only[La,Gz]
 constructor
 ·rintro ⟨l,⟨s,hs,rfl⟩,hd⟩
  rw[KU]at hs hd
  have hr:=g.kid hu hs.1
  refine ⟨s.toNat,?_,?_,hd.1,hd.2⟩
  ·rw[show ((s.toNat:Nat):Int)=s by omega]; exact hs.1
  ·exact hs.2
 ·rintro ⟨s,h1,h2,h3,h4⟩
  refine ⟨_,⟨(s:Int),(KU).2 ⟨h1,by unfold Jq; rw[Gb]; exact h2⟩,rfl⟩,?_⟩
  rw[KU,Gb]
  exact ⟨h3,h4⟩
end
end
section
section
variable {t:Tr}{o:List Int}(g:GoodT t o)
def JH (t:Tr) (u:Nat):Nat:=((nd t u).kids.getD ((nd t u).kids.length-1) 0).toNat
def YC (t:Tr) (u i:Nat):Nat:=((nd t u).kids.getD i 0).toNat
def inR (t : Tr) (o : List Int) (d j : Nat) : Prop :=
  if (nd t d).k = 65 then True
  else if (nd t d).k = 64 then blw o j (JH t (Kb t d).toNat)
  else if (nd t d).k = 43 then ∃ i : Nat, (nd t (Kb t d).toNat).n ≤ i ∧ i < (nd t (Kb t d).toNat).kids.length ∧ blw o j (YC t (Kb t d).toNat i)
  else if (nd t d).k = 47 then blw o j (JH t d)
  else if (nd t d).k = 42 then
    (if (nd t (Kb t (Kb t d).toNat).toNat).k = 40 then blw o j (Kb t (Kb t d).toNat).toNat
     else ∃ i : Nat, (nd t (Kb t (Kb t d).toNat).toNat).n + 1 ≤ i ∧ i + 1 < (nd t (Kb t (Kb t d).toNat).toNat).kids.length ∧ blw o j (YC t (Kb t (Kb t d).toNat).toNat i))
  else False
include g
theorem KY {u i:Nat}(hu:u < t.nodes.length) (hi:i < (nd t u).kids.length):((YC t u i:Nat):Int)∈(nd t u).kids∧YC t u i < u∧(nd t (YC t u i)).k=Jq t.nodes ((nd t u).kids.getD i 0):=by
 have hm:(nd t u).kids.getD i 0∈(nd t u).kids:=by
  rw[Gc,Gd hi]; exact GM hi
 have hr:=g.kid hu hm
 unfold YC
 refine ⟨?_,by omega,rfl⟩
 rw[show ((((nd t u).kids.getD i 0).toNat:Nat):Int)=(nd t u).kids.getD i 0 by omega]
 exact hm
omit g in
theorem Jfa {u a:Nat}(ha:(a:Int)∈(nd t u).kids):∃ i,i < (nd t u).kids.length∧YC t u i=a∧(nd t u).kids.getD i 0=(a:Int):=by
 obtain ⟨i,hi,he⟩:=G9 ha
 refine ⟨i,hi,?_,?_⟩
 ·unfold YC; rw[Gc,Gd hi,GU,he]; rfl
 ·rw[Gc,Gd hi,GU,he]
theorem Jdi:∀ (a j:Nat),a < t.nodes.length→60≤(nd t a).k→(nd t a).k≤64→blw o j a→60≤(nd t j).k∧(nd t j).k≤64:=by
 intro a
 induction a using Nat.strongRecOn with
 |_ a ih=>
  intro j ha h1 h2 hb
  rcases Jeg g ha hb with rfl | ⟨c,hc,hb2⟩
  ·exact ⟨h1,h2⟩
  ·have hl:=par_kind g ha hc
   have hr:=g.kid ha hc
   change Jey (Jq t.nodes (c:Int))∈Qc (nd t a).k _ at hl
   have hk:Jey (Jq t.nodes (c:Int))=116:=by
    unfold Qc at hl
    dsimp only at hl
    rcases (show (nd t a).k=60∨(nd t a).k=61∨(nd t a).k=62∨(nd t a).k=63∨(nd t a).k=64 by omega) with e | e | e | e | e <;> rw[e]at hl <;> simp at hl
    all_goals exact hl
   have hk2:=JdL hk
   have hk3:Jq t.nodes (c:Int)=(nd t c).k:=by unfold Jq nd; rw[Gb]
   rw[hk3]at hk2
   exact ih c (by omega) j (by omega) (by omega) (by omega) hb2
theorem Qs {d:Nat}(hd:d < t.nodes.length) (hk:(nd t d).k≠65):∃ u:Nat,Kb t d=u∧u < t.nodes.length∧d < u∧(d:Int)∈(nd t u).kids:=by
 rcases Qv g hd with ⟨h1,h2⟩ | ⟨u,h1,h2,h3,h4⟩
 ·exfalso
  obtain ⟨L,hL,h5,h6⟩:=Q7 g.ord.ok g.olen _ _ _ (d:Int) g.its (by omega) (by omega)
  have hr:=g.itr hL
  obtain ⟨L,rfl⟩:∃ k:Nat,L=(k:Int):=⟨L.toNat,by omega⟩
  by_cases he:d=L
  ·subst he
   have:=g.defs _ hL
   unfold Jq at this
   rw[Gb]at this
   exact hk this
  ·obtain ⟨m,q1,q2,q3⟩:=par_in g L d (by omega) h5 (by omega)
   exact h2 m (by omega) q3
 ·exact ⟨u,h1,h3,h2,h4⟩
theorem JfY {d u:Nat}(hu:u < t.nodes.length) (h:(d:Int)∈(nd t u).kids):Jey (nd t d).k∈Qc (nd t u).k (lets t.nodes (nd t u)):=by
 have:=par_kind g hu h
 unfold Jq at this
 rw[Gb]at this
 exact this
theorem KX {u a d:Nat}(hu:u < t.nodes.length):(d:Int)∈Jbg t u a↔
  ((nd t u).k=40∧∃ s:Nat,(s:Int)∈(nd t u).kids∧(nd t s).k=41∧(d:Int)∈(nd t s).kids∧(nd t d).k=42)∨
  ((nd t u).k=65∧(d:Int)∈(nd t u).kids∧(nd t d).k=64)∨
  ((nd t u).k=47∧(a:Int)=(nd t u).kids.getD 2 0∧d=u)∨
  ((nd t u).k=28∧(nd t a).k≠43∧(((d:Int)∈(nd t u).kids∧(nd t d).k=43)∨(((nd t a).k=41∨(nd t a).k=44)∧∃ s:Nat,(s:Int)∈(nd t u).kids∧(nd t s).k=41∧(d:Int)∈(nd t s).kids∧(nd t d).k=42))):=by
 have hdk:Jq t.nodes (d:Int)=(nd t d).k:=by unfold Jq nd; rw[Gb]
 unfold Jbg
 by_cases e1:(nd t u).k=40
 ·rw[if_pos e1,JbW g hu,hdk]; simp[e1]
 rw[if_neg e1]
 by_cases e2:(nd t u).k=65
 ·rw[if_pos e2,KU,hdk]; simp[e2]
 rw[if_neg e2]
 by_cases e3:(nd t u).k=47
 ·rw[if_pos e3]
  by_cases e4:(a:Int)=(nd t u).kids.getD 2 0
  ·rw[if_pos e4]; simp only[Gr,e3,e4]; simp; omega
  ·rw[if_neg e4]
   refine ⟨fun h=>by simp at h,fun h=>?_⟩
   rcases h with ⟨q,_⟩ | ⟨q,_⟩ | ⟨_,q,_⟩ | ⟨q,_⟩
   ·omega
   ·omega
   ·exact absurd q e4
   ·omega
 rw[if_neg e3]
 by_cases e5:(nd t u).k=28
 ·rw[if_pos e5]
  by_cases e6:(nd t a).k=43
  ·rw[if_pos e6]; simp[e5,e6]
  ·rw[if_neg e6]
   by_cases e7:(nd t a).k=41∨(nd t a).k=44
   ·rw[if_pos e7,Gm,KU,JbW g hu,hdk]; simp[e5,e6,e7]
   ·rw[if_neg e7,KU,hdk]; simp[e5,e6,e7]
 ·rw[if_neg e5]; simp[e1,e2,e3,e5]
theorem inS_inR {d j:Nat}(hd:d < t.nodes.length) (hj:j < t.nodes.length) (hje:1≤(nd t j).k∧(nd t j).k≤29) (hk:(nd t d).k=64∨(nd t d).k=43∨(nd t d).k=47∨(nd t d).k=42):inS t o (d:Int) j↔inR t o d j:=by
 obtain ⟨u,hp,hu,hdu,hdm⟩:=Qs g hd (by omega)
 have hlet:=JbC (JfY g hu hdm)
 unfold inR
 rw[hp,Gb,if_neg (by omega)]
 rcases hk with e | e | e | e
 ·
  rw[if_pos e]
  have hu65:(nd t u).k=65:=hlet.1 (by rw[e]; rfl)
  obtain ⟨N,hN,hNl,k1,k2,k3⟩:=def_kids g hu hu65
  change N < (nd t u).kids.length at hNl
  constructor
  ·rintro ⟨v,a,hv,ha,hb,hdl⟩
   rw[KX g hv]at hdl
   have hvu:v=u∧(nd t v).k=65:=by
    rcases hdl with ⟨_,s,_,_,_,q⟩ | ⟨q1,q2,_⟩ | ⟨q1,_,q2⟩ | ⟨_,_,⟨_,q⟩ | ⟨_,s,_,_,_,q⟩⟩
    ·omega
    ·have:=(JW g hv q2).1
     exact ⟨by omega,q1⟩
    ·subst q2; omega
    ·omega
    ·omega
   obtain ⟨rfl,_⟩:=hvu
   obtain ⟨i,hi,hka,hgi⟩:=Jfa ha
   by_cases hl:i+1 < (nd t v).kids.length
   ·exfalso
    have hka2:60≤(nd t a).k∧(nd t a).k≤64:=by
     have h3:=(KY g hv hi).2.2
     rw[hka]at h3
     by_cases hiN:i < N
     ·have:=k1 i hiN
      change Jq t.nodes ((nd t v).kids.getD i 0)=64 at this
      omega
     ·have:=k2 i (by omega) hl
      change 60≤Jq t.nodes ((nd t v).kids.getD i 0)∧Jq t.nodes ((nd t v).kids.getD i 0)≤63 at this
      omega
    have:=Jdi g a j (by have:=(JW g hv ha).2; omega) hka2.1 hka2.2 hb
    omega
   ·have hil:i=(nd t v).kids.length-1:=by omega
    have:JH t v=a:=by rw[← hka,hil]; rfl
    rw[this]; exact hb
  ·intro h
   have hm:=KY g hu (i:=(nd t u).kids.length-1) (by omega)
   exact ⟨u,JH t u,hu,hm.1,h,(KX g hu).2 (.inr (.inl ⟨hu65,hdm,e⟩))⟩
 ·
  rw[if_neg (by omega),if_pos e]
  have hu28:(nd t u).k=28:=hlet.2.1 (by rw[e]; rfl)
  obtain ⟨N,M,hN,hNM,hMl,k1,k2,k3,k4,k5⟩:=Jax g hu hu28
  change (nd t u).n=(N:Int) at hN
  rw[hN]
  constructor
  ·rintro ⟨v,a,hv,ha,hb,hdl⟩
   rw[KX g hv]at hdl
   have hvu:v=u∧(nd t a).k≠43:=by
    rcases hdl with ⟨_,s,_,_,_,q⟩ | ⟨_,_,q⟩ | ⟨q1,_,q2⟩ | ⟨q0,q1,⟨q2,q⟩ | ⟨_,s,_,_,_,q⟩⟩
    ·omega
    ·omega
    ·subst q2; omega
    ·have:=(JW g hv q2).1
     exact ⟨by omega,q1⟩
    ·omega
   obtain ⟨rfl,hna⟩:=hvu
   obtain ⟨i,hi,hka,hgi⟩:=Jfa ha
   have h3:=(KY g hv hi).2.2
   rw[hka]at h3
   refine ⟨i,?_,hi,by rw[hka]; exact hb⟩
   by_cases hiN:i < N
   ·have:=k1 i hiN
    change Jq t.nodes ((nd t v).kids.getD i 0)=43 at this
    omega
   ·omega
  ·rintro ⟨i,h1,h2,h3⟩
   have hm:=KY g hu h2
   have hna:(nd t (YC t u i)).k≠43:=by
    rw[hm.2.2]
    rcases (show i=N∨(N+1≤i∧i < M)∨(M≤i∧i+1 < (nd t u).kids.length)∨i=(nd t u).kids.length-1 by omega) with rfl | h | h | rfl
    ·have:=k2.2
     change Jq t.nodes ((nd t u).kids.getD i 0)≤29 at this
     omega
    ·have:=k3 i h.1 h.2
     change Jq t.nodes ((nd t u).kids.getD i 0)=41 at this
     omega
    ·have:=k4 i h.1 h.2
     change Jq t.nodes ((nd t u).kids.getD i 0)=44 at this
     omega
    ·have:=k5
     change Jq t.nodes ((nd t u).kids.getD ((nd t u).kids.length-1) 0)=45 at this
     omega
   exact ⟨u,YC t u i,hu,hm.1,h3,(KX g hu).2 (.inr (.inr (.inr ⟨hu28,hna,.inl ⟨hdm,e⟩⟩)))⟩
 ·
  rw[if_neg (by omega),if_neg (by omega),if_pos e]
  obtain ⟨hl3,_,_⟩:=Jam g hd e
  change (nd t d).kids.length=3 at hl3
  constructor
  ·rintro ⟨v,a,hv,ha,hb,hdl⟩
   rw[KX g hv]at hdl
   rcases hdl with ⟨_,s,_,_,_,q⟩ | ⟨_,_,q⟩ | ⟨q1,q3,q2⟩ | ⟨q0,q1,⟨q2,q⟩ | ⟨_,s,_,_,_,q⟩⟩
   ·omega
   ·omega
   ·subst q2
    have:JH t d=a:=by unfold JH; rw[hl3]; change ((nd t d).kids.getD 2 0).toNat=a; rw[← q3]; rfl
    rw[this]; exact hb
   ·omega
   ·omega
  ·intro h
   have hm:=KY g hd (i:=2) (by omega)
   have hlk:JH t d=YC t d 2:=by unfold JH YC; rw[hl3]
   rw[hlk]at h
   refine ⟨d,YC t d 2,hd,hm.1,h,(KX g hd).2 (.inr (.inr (.inl ⟨e,?_,rfl⟩)))⟩
   have hr:=g.kid hd (k:=(nd t d).kids.getD 2 0) (by
    change (nd t d).kids.getD 2 0∈(nd t d).kids
    rw[Gc,Gd (show 2 < (nd t d).kids.length by omega)]; exact GM _)
   unfold YC
   omega
 ·
  rw[if_neg (by omega),if_neg (by omega),if_neg (by omega),if_pos e]
  have hu41:(nd t u).k=41:=hlet.2.2.1 (by rw[e]; rfl)
  obtain ⟨w,hpw,hw,huw,huk⟩:=Qs g hu (by omega)
  have hlet2:=JbC (JfY g hw huk)
  have hw2:(nd t w).k=40∨(nd t w).k=28:=hlet2.2.2.2.1 (by rw[hu41]; rfl)
  rw[hpw,Gb]
  have hvw:∀ v s:Nat,v < t.nodes.length→(s:Int)∈(nd t v).kids→(d:Int)∈(nd t s).kids→v=w∧s=u:=fun v s hv q1 q2=>by
   have hsv:=JW g hv q1
   have hs:=(JW g (show s < t.nodes.length by omega) q2).1
   have:s=u:=by omega
   subst this
   exact ⟨by have:=hsv.1; omega,rfl⟩
  constructor
  ·rintro ⟨v,a,hv,ha,hb,hdl⟩
   rw[KX g hv]at hdl
   rcases hdl with ⟨q0,s,q1,q2,q3,q⟩ | ⟨_,_,q⟩ | ⟨q1,_,q2⟩ | ⟨q0,q4,⟨_,q⟩ | ⟨q5,s,q1,q2,q3,q⟩⟩
   ·obtain ⟨rfl,rfl⟩:=hvw v s hv q1 q3
    rw[if_pos q0]
    exact QT g hv hb (Qm g hv ha)
   ·omega
   ·subst q2; omega
   ·omega
   ·obtain ⟨rfl,rfl⟩:=hvw v s hv q1 q3
    rw[if_neg (by omega)]
    obtain ⟨N,M,hN,hNM,hMl,k1,k2,k3,k4,k5⟩:=Jax g hv q0
    change (nd t v).n=(N:Int) at hN
    obtain ⟨i,hi,hka,hgi⟩:=Jfa ha
    have h3:=(KY g hv hi).2.2
    rw[hka]at h3
    refine ⟨i,?_,?_,by rw[hka]; exact hb⟩
    ·rw[hN]
     by_cases hiN:i < N
     ·have:=k1 i hiN
      change Jq t.nodes ((nd t v).kids.getD i 0)=43 at this
      omega
     ·by_cases hiN2:i=N
      ·subst hiN2
       have:=k2.2
       change Jq t.nodes ((nd t v).kids.getD i 0)≤29 at this
       omega
      ·omega
    ·by_cases hl:i+1 < (nd t v).kids.length
     ·exact hl
     ·have hil:i=(nd t v).kids.length-1:=by omega
      have:=k5
      change Jq t.nodes ((nd t v).kids.getD ((nd t v).kids.length-1) 0)=45 at this
      rw[← hil]at this
      omega
  ·rcases hw2 with hw40 | hw28
   ·rw[if_pos hw40]
    intro h
    rcases Jeg g hw h with rfl | ⟨c,hc,hb⟩
    ·omega
    ·exact ⟨w,c,hw,hc,hb,(KX g hw).2 (.inl ⟨hw40,u,huk,hu41,hdm,e⟩)⟩
   ·rw[if_neg (by omega)]
    obtain ⟨N,M,hN,hNM,hMl,k1,k2,k3,k4,k5⟩:=Jax g hw hw28
    change (nd t w).n=(N:Int) at hN
    rw[hN]
    rintro ⟨i,h1,h2,h3⟩
    have hm:=KY g hw (show i < (nd t w).kids.length by omega)
    have hka:(nd t (YC t w i)).k=41∨(nd t (YC t w i)).k=44:=by
     rw[hm.2.2]
     by_cases hiM:i < M
     ·exact .inl (k3 i (by omega) hiM)
     ·exact .inr (k4 i (by omega) h2)
    exact ⟨w,YC t w i,hw,hm.1,h3,(KX g hw).2 (.inr (.inr (.inr ⟨hw28,by omega,.inr ⟨hka,u,huk,hu41,hdm,e⟩⟩)))⟩
end
end
section
theorem Je6 {α β:Type}{f:α→List β}:∀ {l:List α},l.Nodup→(∀ x∈l,(f x).Nodup)→(∀ x∈l,∀ y∈l,x≠y→∀ z∈f x,z∉f y)→((l.map f).flatten).Nodup
 |[],_,_,_=>by simp
 |x::l,h1,h2,h3=>by
  rw[Lb]at h1
  simp only[GR,List.flatten_cons]
  rw[Hd]
  refine ⟨h2 x (by simp),Je6 h1.2 (fun y hy=>h2 y (by simp[hy])) (fun y hy z hz hyz=>h3 y (by simp[hy]) z (by simp[hz]) hyz),?_⟩
  intro a ha b hb hab
  subst hab
  simp only[La,Gz]at hb
  obtain ⟨_,⟨y,hy,rfl⟩,hb⟩:=hb
  exact h3 x (by simp) y (by simp[hy]) (fun e=>h1.1 (e▸hy)) a ha hb
theorem XA {o:List Int}{m:Nat}(ho:QG o) (hm:o.length=m):∀ (l:List Int) (a e:Int),chain o m a l e→l.Nodup
 |[],_,_,_=>by simp
 |i::l,a,e,h=>by
  simp only[chain]at h
  rw[Lb]
  refine ⟨fun hi=>?_,XA ho hm l _ e h.2⟩
  have h1:=Qp ho hm l _ e h.2 i hi
  have h2:=Jgg ho h1.2.1 (by omega)
  omega
section
variable {t:Tr}{o:List Int}(g:GoodT t o)
include g
theorem kids_nodup {u:Nat}(hu:u < t.nodes.length):(nd t u).kids.Nodup:=XA g.ord.ok rfl _ _ _ (g.ord.kids (JK hu))
theorem X5 {u k:Nat}(hu:u < t.nodes.length):(QE t u k).Nodup:=(kids_nodup g hu).filter _
theorem Jeh {u:Nat}(hu:u < t.nodes.length):(YJ t u).Nodup:=by
 unfold YJ
 have hr:∀ s∈QE t u 41,0≤s∧s < u:=fun s hs=>g.kid hu (KU.1 hs).1
 refine Je6 (X5 g hu) (fun s hs=>X5 g (by have:=hr s hs; omega)) fun s hs s' hs' hne z hz hz'=>?_
 have h1:=hr s hs
 have h2:=hr s' hs'
 have:=g.ord.parent_one (JK (show s.toNat < t.nodes.length by omega)) (JK (show s'.toNat < t.nodes.length by omega)) (KU.1 hz).1 (KU.1 hz').1
 omega
def whoD (t:Tr) (d:Nat):Int:=if (nd t d).k=47 then d else if (nd t d).k=42 then Kb t (Kb t d).toNat else Kb t d
theorem decl_who {u a:Nat}{d:Int}(hu:u < t.nodes.length) (h:d∈Jbg t u a):0≤d∧d < t.nodes.length∧whoD t d.toNat=u:=by
 have hd:0≤d∧d≤u:=by
  have hb:d∈YJ t u→0≤d∧d≤u:=fun h=>by
   rw[JbW g hu]at h
   obtain ⟨s,q1,_,q3,_⟩:=h
   have h1:=(JW g hu q1).2
   have h2:=g.kid (show s < t.nodes.length by omega) q3
   omega
  have hk:∀ k,d∈QE t u k→0≤d∧d≤u:=fun k h=>by
   have:=g.kid hu (KU.1 h).1
   omega
  unfold Jbg at h
  split at h
  ·exact hb h
  split at h
  ·exact hk _ h
  split at h
  ·split at h
   ·simp at h; omega
   ·simp at h
  split at h
  ·split at h
   ·simp at h
   split at h
   ·rcases Gm.1 h with h | h
    ·exact hk _ h
    ·exact hb h
   ·exact hk _ h
  ·simp at h
 obtain ⟨d,rfl⟩:∃ n:Nat,d=(n:Int):=⟨d.toNat,by omega⟩
 rw[KX g hu]at h
 refine ⟨by omega,by omega,?_⟩
 rw[Gb]
 unfold whoD
 have bind:(∃ s:Nat,(s:Int)∈(nd t u).kids∧(nd t s).k=41∧(d:Int)∈(nd t s).kids∧(nd t d).k=42)→(if (nd t d).k=47 then (d:Int) else if (nd t d).k=42 then Kb t (Kb t d).toNat else Kb t d)=u:=by
  rintro ⟨s,q1,_,q3,q4⟩
  have hs:=JW g hu q1
  have hds:=(JW g (show s < t.nodes.length by omega) q3).1
  rw[if_neg (by omega),if_pos q4,hds,Gb]
  exact hs.1
 rcases h with ⟨_,hb⟩ | ⟨_,q,q2⟩ | ⟨q1,_,rfl⟩ | ⟨_,_,⟨q,q2⟩ | ⟨_,hb⟩⟩
 ·exact bind hb
 ·rw[if_neg (by omega),if_neg (by omega)]; exact (JW g hu q).1
 ·rw[if_pos q1]
 ·rw[if_neg (by omega),if_neg (by omega)]; exact (JW g hu q).1
 ·exact bind hb
theorem decl_nodup {u a:Nat}(hu:u < t.nodes.length):(Jbg t u a).Nodup:=by
 unfold Jbg
 split
 ·exact Jeh g hu
 split
 ·exact X5 g hu
 split
 ·split <;> simp
 split
 ·split
  ·simp
  split
  ·rw[Hd]
   refine ⟨X5 g hu,Jeh g hu,fun x hx y hy he=>?_⟩
   subst he
   have h1:=(KU.1 hx).2
   have h0:=g.kid hu (KU.1 hx).1
   rw[JbW g hu]at hy
   obtain ⟨s,_,_,_,h2⟩:=hy
   omega
  ·exact X5 g hu
 ·simp
theorem climb_who:∀ (f j:Nat) (d:Int),j < t.nodes.length→d∈XM t f j→0≤d∧d < t.nodes.length∧(j:Int) < whoD t d.toNat:=by
 intro f
 induction f with
 |zero=>intro j d _ h; simp[XM]at h
 |succ f ih=>
  intro j d hj h
  unfold XM at h
  rcases Qv g hj with ⟨hp,_⟩ | ⟨m,hp,hm1,hm2,_⟩
  ·rw[hp,if_pos (by decide)]at h; simp at h
  ·rw[hp,if_neg (by omega),Gm,Gb]at h
   rcases h with h | h
   ·have:=decl_who g hm2 h
    exact ⟨this.1,this.2.1,by omega⟩
   ·have:=ih m d hm2 h
    exact ⟨this.1,this.2.1,by omega⟩
theorem climb_nodup:∀ (f j:Nat),j < t.nodes.length→(XM t f j).Nodup:=by
 intro f
 induction f with
 |zero=>intro j _; simp[XM]
 |succ f ih=>
  intro j hj
  unfold XM
  rcases Qv g hj with ⟨hp,_⟩ | ⟨m,hp,hm1,hm2,_⟩
  ·rw[hp,if_pos (by decide)]; simp
  ·rw[hp,if_neg (by omega),Gb,Hd]
   refine ⟨decl_nodup g hm2,ih m hm2,fun x hx y hy he=>?_⟩
   subst he
   have h1:=(decl_who g hm2 hx).2.2
   have h2:=(climb_who g f m x hm2 hy).2.2
   omega
theorem Y0 {d:Nat}(hd:d < t.nodes.length) (hk:(nd t d).k=65):Kb t d = -1∧(d:Int)∈t.items:=by
 have hp:Kb t d = -1:=by
  rcases Qv g hd with ⟨h,_⟩ | ⟨m,_,_,hm,hm2⟩
  ·exact h
  ·exfalso
   exact (JbC (JfY g hm hm2)).2.2.2.2.2.2.2.2 (by rw[hk]; rfl)
 refine ⟨hp,?_⟩
 obtain ⟨L,hL,h5,h6⟩:=Q7 g.ord.ok g.olen _ _ _ (d:Int) g.its (by omega) (by omega)
 have hr:=g.itr hL
 obtain ⟨L,rfl⟩:∃ k:Nat,L=(k:Int):=⟨L.toNat,by omega⟩
 by_cases he:d=L
 ·subst he; exact hL
 ·exfalso
  obtain ⟨m,q1,q2,q3⟩:=par_in g L d (by omega) h5 (by omega)
  have:=(JW g (show m < t.nodes.length by omega) q3).1
  omega
end
end
section
def Jae (o:List Int) (j a:Nat):Bool:=decide (j≤a) && decide (fs o a≤j)
theorem Kr {o:List Int}{j a:Nat}:Jae o j a=true↔blw o j a:=by simp[Jae,blw]
def bkB (t:Tr) (o:List Int) (j u:Nat) (m:Int) (last:Bool):Bool:=
 (Ga (nd t u).kids.length).any fun i=>decide (m≤i) && ((last || decide (i+1 < (nd t u).kids.length)) && Jae o j (YC t u i))
def inB (t : Tr) (o : List Int) (d j : Nat) : Bool :=
  if (nd t d).k = 65 then true
  else if (nd t d).k = 64 then Jae o j (JH t (Kb t d).toNat)
  else if (nd t d).k = 43 then bkB t o j (Kb t d).toNat (nd t (Kb t d).toNat).n true
  else if (nd t d).k = 47 then Jae o j (JH t d)
  else if (nd t d).k = 42 then
    (if (nd t (Kb t (Kb t d).toNat).toNat).k = 40 then Jae o j (Kb t (Kb t d).toNat).toNat
     else bkB t o j (Kb t (Kb t d).toNat).toNat ((nd t (Kb t (Kb t d).toNat).toNat).n + 1) false)
  else false
def Kh (k:Nat):Bool:=k == 65 || k == 64 || k == 42 || k == 43 || k == 47
theorem bkB_iff {t:Tr}{o:List Int}{j u:Nat}{m:Int}{last:Bool}:bkB t o j u m last=true↔∃ i:Nat,m≤i∧i < (nd t u).kids.length∧(last=true∨i+1 < (nd t u).kids.length)∧blw o j (YC t u i):=by
 unfold bkB
 simp only[Gx,Gj,Gf,Ht,decide_eq_true_eq,Kr]
 constructor
 ·rintro ⟨i,h1,h2,h3,h4⟩; exact ⟨i,h2,h1,h3,h4⟩
 ·rintro ⟨i,h1,h2,h3,h4⟩; exact ⟨i,h2,h1,h3,h4⟩
theorem inB_iff {t:Tr}{o:List Int}{d j:Nat}:inB t o d j=true↔inR t o d j:=by
 unfold inB inR
 by_cases e1:(nd t d).k=65
 ·simp[e1]
 by_cases e2:(nd t d).k=64
 ·rw[if_neg e1,if_pos e2,if_neg e1,if_pos e2]; exact Kr
 by_cases e3:(nd t d).k=43
 ·rw[if_neg e1,if_neg e2,if_pos e3,if_neg e1,if_neg e2,if_pos e3,bkB_iff]
  constructor
  ·rintro ⟨i,h1,h2,_,h4⟩; exact ⟨i,h1,h2,h4⟩
  ·rintro ⟨i,h1,h2,h4⟩; exact ⟨i,h1,h2,.inl rfl,h4⟩
 by_cases e4:(nd t d).k=47
 ·rw[if_neg e1,if_neg e2,if_neg e3,if_pos e4,if_neg e1,if_neg e2,if_neg e3,if_pos e4]; exact Kr
 by_cases e5:(nd t d).k=42
 ·rw[if_neg e1,if_neg e2,if_neg e3,if_neg e4,if_pos e5,if_neg e1,if_neg e2,if_neg e3,if_neg e4,if_pos e5]
  by_cases e6:(nd t (Kb t (Kb t d).toNat).toNat).k=40
  ·rw[if_pos e6,if_pos e6]; exact Kr
  ·rw[if_neg e6,if_neg e6,bkB_iff]
   constructor
   ·rintro ⟨i,h1,h2,h3,h4⟩
    rcases h3 with h3 | h3
    ·cases h3
    ·exact ⟨i,h1,h3,h4⟩
   ·rintro ⟨i,h1,h3,h4⟩; exact ⟨i,h1,by omega,.inr h3,h4⟩
 ·rw[if_neg e1,if_neg e2,if_neg e3,if_neg e4,if_neg e5,if_neg e1,if_neg e2,if_neg e3,if_neg e4,if_neg e5]; simp
section
variable {t:Tr}{o:List Int}(g:GoodT t o)
def Kq (t:Tr):List Int:=(Ga t.nodes.length).map fun i:Nat=>(i:Int)
def Qj (t:Tr) (j:Nat):List Int:=(Kq t).filter fun d=>(XM t t.nodes.length j).contains d
def Y9 (t:Tr) (l:List Int) (s:List UInt8):Int:=match l.find? fun d=>(nd t d.toNat).text == s with | some d=>d | none=>-1
def Je8 (t:Tr) (o:List Int) (j:Nat):Int:=match (Kq t).find? fun d=>(nd t d.toNat).text == (nd t j).text && (Kh (nd t d.toNat).k && (!((nd t d.toNat).k == 65) && inB t o d.toNat j)) with | some d=>d | none=>-1
include g
theorem decl_kind {u a:Nat}{d:Nat}(hu:u < t.nodes.length) (h:(d:Int)∈Jbg t u a):(nd t d).k=64∨(nd t d).k=43∨(nd t d).k=47∨(nd t d).k=42:=by
 rw[KX g hu]at h
 rcases h with ⟨_,s,_,_,_,q⟩ | ⟨_,_,q⟩ | ⟨q1,_,rfl⟩ | ⟨_,_,⟨_,q⟩ | ⟨_,s,_,_,_,q⟩⟩
 ·exact .inr (.inr (.inr q))
 ·exact .inl q
 ·exact .inr (.inr (.inl q1))
 ·exact .inr (.inl q)
 ·exact .inr (.inr (.inr q))
theorem sight_mem {d j:Nat}(hd:d < t.nodes.length) (hj:j < t.nodes.length) (hje:1≤(nd t j).k∧(nd t j).k≤29):(XM t t.nodes.length j).contains (d:Int)=(Kh (nd t d).k && (!((nd t d).k == 65) && inB t o d j)):=by
 rw[Gn]
 simp only[HV,decide_eq_true_eq,Gf,GV,beq_eq_false_iff_ne,inB_iff]
 rw[Jea g t.nodes.length j (d:Int) hj (by omega)]
 constructor
 ·intro h
  obtain ⟨u,a,hu,ha,hb,hdl⟩:=h
  have hk:=decl_kind g hu hdl
  refine ⟨?_,by omega,(inS_inR g hd hj hje hk).1 ⟨u,a,hu,ha,hb,hdl⟩⟩
  unfold Kh
  rcases hk with e | e | e | e <;> rw[e] <;> rfl
 ·rintro ⟨h1,h2,h3⟩
  have hk:(nd t d).k=64∨(nd t d).k=43∨(nd t d).k=47∨(nd t d).k=42:=by
   unfold Kh at h1
   simp only[Ht,beq_iff_eq]at h1
   omega
  exact (inS_inR g hd hj hje hk).2 h3
theorem Jbw {j:Nat}(hj:j < t.nodes.length) (hje:1≤(nd t j).k∧(nd t j).k≤29):Y9 t (Qj t j) (nd t j).text=Je8 t o j:=by
 unfold Y9 Je8 Qj
 rw[Hf]
 have:∀ l:List Int,(∀ d∈l,0≤d∧d < t.nodes.length)→l.find? (fun d=>decide ((XM t t.nodes.length j).contains d=true∧((nd t d.toNat).text == (nd t j).text)=true))=l.find? fun d=>(nd t d.toNat).text == (nd t j).text && (Kh (nd t d.toNat).k && (!((nd t d.toNat).k == 65) && inB t o d.toNat j)):=by
  intro l
  induction l with
  |nil=>intro _; rfl
  |cons d l ih=>
   intro hl
   obtain ⟨d,rfl⟩:∃ n:Nat,d=(n:Int):=⟨d.toNat,by have:=hl d (by simp); omega⟩
   have hd:=hl d (by simp)
   have hs:=sight_mem g (show d < t.nodes.length by omega) hj hje
   rw[Gy,Gy,ih fun x hx=>hl x (by simp[hx])]
   simp only[Gb]
   rw[hs]
   congr 1
   rw[Gn]
   simp[and_comm,and_left_comm]
 rw[this]
 intro d hd
 unfold Kq at hd
 simp only[Gz,Gj]at hd
 obtain ⟨i,hi,rfl⟩:=hd
 omega
end
end
section
theorem Jel:∀ {l m:List Int},l.Pairwise (· < ·)→m.Pairwise (· < ·)→(∀ x,x∈l↔x∈m)→l=m
 |[],[],_,_,_=>rfl
 |[],y::m,_,_,h=>by simpa using (h y).2 (by simp)
 |x::l,[],_,_,h=>by simpa using (h x).1 (by simp)
 |x::l,y::m,h1,h2,h=>by
  rw[GI]at h1 h2
  have e:x=y:=by
   have a:=(h x).1 (by simp)
   have b:=(h y).2 (by simp)
   rcases Gg.1 a with a | a
   ·exact a
   ·rcases Gg.1 b with b | b
    ·exact b.symm
    ·have:=h1.1 y b
     have:=h2.1 x a
     omega
  subst e
  rw[Jel h1.2 h2.2 fun z=>?_]
  constructor
  ·intro hz
   have:=h1.1 z hz
   rcases Gg.1 ((h z).1 (by simp[hz])) with e | e
   ·omega
   ·exact e
  ·intro hz
   have:=h2.1 z hz
   rcases Gg.1 ((h z).2 (by simp[hz])) with e | e
   ·omega
   ·exact e
theorem YH {o:List Int}{m:Nat}(ho:QG o) (hm:o.length=m):∀ (l:List Int) (a e:Int),chain o m a l e→l.Pairwise (· < ·)
 |[],_,_,_=>.nil
 |i::l,a,e,h=>by
  simp only[chain]at h
  rw[GI]
  refine ⟨fun x hx=>?_,YH ho hm l _ e h.2⟩
  have h1:=Qp ho hm l _ e h.2 x hx
  have h2:=Jgg ho h1.2.1 (by omega)
  omega
theorem Jbb {t:Tr}:(Kq t).Pairwise (· < ·):=by
 unfold Kq
 rw[H7]
 exact Hy.imp fun h=>by omega
theorem J2 {t:Tr}{d:Int}:d∈Kq t↔0≤d∧d < t.nodes.length:=by
 unfold Kq
 simp only[Gz,Gj]
 constructor
 ·rintro ⟨i,hi,rfl⟩; omega
 ·intro h; exact ⟨d.toNat,by omega,by omega⟩
section
variable {t:Tr}{o:List Int}(g:GoodT t o)
def Jaa (t:Tr) (j:Nat):Int:=match (Kq t).find? fun d=>(nd t d.toNat).text == (nd t j).text && (Kh (nd t d.toNat).k && (nd t d.toNat).k == 65) with | some d=>d | none=>-1
def Jav (t:Tr) (j:Nat):Int:=match (Kq t).find? fun d=>(nd t d.toNat).text == (nd t j).text && (Kh (nd t d.toNat).k && ((nd t d.toNat).k == 43 && Kb t d.toNat == Kb t j)) with | some d=>d | none=>-1
include g
theorem items_all:t.items=(Kq t).filter fun d=>(nd t d.toNat).k == 65:=by
 refine Jel (YH g.ord.ok g.olen _ _ _ g.its) (Jbb.filter _) fun x=>?_
 rw[Gp,J2,beq_iff_eq]
 constructor
 ·intro h
  have h1:=g.itr h
  have h2:=g.defs x h
  exact ⟨h1,h2⟩
 ·rintro ⟨h1,h2⟩
  have:=(Y0 g (show x.toNat < t.nodes.length by omega) h2).2
  rwa [show ((x.toNat:Nat):Int)=x by omega]at this
theorem call_means {j:Nat}:Y9 t t.items (nd t j).text=Jaa t j:=by
 unfold Y9 Jaa
 rw[items_all g,Hf]
 congr 2
 funext d
 rw[Gn]
 simp only[decide_eq_true_eq,Gf,beq_iff_eq]
 constructor
 ·rintro ⟨h1,h2⟩; exact ⟨h2,by rw[h1]; rfl,h1⟩
 ·rintro ⟨h1,_,h2⟩; exact ⟨h2,h1⟩
theorem kids_asc {u:Nat}(hu:u < t.nodes.length):(nd t u).kids.Pairwise (· < ·):=YH g.ord.ok rfl _ _ _ (g.ord.kids (JK hu))
theorem kidsK_all {u k:Nat}(hu:u < t.nodes.length) (hk:k≠65):QE t u k=(Kq t).filter fun d=>(nd t d.toNat).k == k && Kb t d.toNat == u:=by
 refine Jel ((kids_asc g hu).filter _) (Jbb.filter _) fun x=>?_
 rw[KU,Gp,J2,Gf,beq_iff_eq,beq_iff_eq]
 constructor
 ·rintro ⟨h1,h2⟩
  have hr:=g.kid hu h1
  obtain ⟨x,rfl⟩:∃ n:Nat,x=(n:Int):=⟨x.toNat,by omega⟩
  exact ⟨by omega,h2,(JW g hu h1).1⟩
 ·rintro ⟨h1,h2,h3⟩
  obtain ⟨x,rfl⟩:∃ n:Nat,x=(n:Int):=⟨x.toNat,by omega⟩
  rw[Gb]at h2 h3
  obtain ⟨u',q1,_,_,q2⟩:=Qs g (show x < t.nodes.length by omega) (by omega)
  have:u'=u:=by omega
  subst this
  exact ⟨q2,h2⟩
theorem next_means {j u:Nat}(hu:u < t.nodes.length) (hp:Kb t j=u):Y9 t (QE t u 43) (nd t j).text=Jav t j:=by
 unfold Y9 Jav
 rw[kidsK_all g hu (by decide),Hf,hp]
 congr 2
 funext d
 rw[Gn]
 simp only[decide_eq_true_eq,Gf,beq_iff_eq]
 constructor
 ·rintro ⟨⟨h1,h3⟩,h2⟩; exact ⟨h2,by rw[h1]; rfl,h1,h3⟩
 ·rintro ⟨h1,_,h2,h3⟩; exact ⟨⟨h2,h3⟩,h1⟩
end
end
section
def J5 (t:Tr) (i:Nat):Nat:=(t.items.filter fun L=>decide (L < (i:Int))).length
def XI (t:Tr) (o:List Int) (i:Nat):Int:=match t.items.find? fun L=>Jae o i L.toNat with | some L=>L | none=>-1
def twN (t:Tr) (i:Nat):Bool:=
 if (nd t i).k≠44∧Kh (nd t i).k=false then false
 else (Ga i).any fun k=>(nd t k).text == (nd t i).text && (if (nd t i).k=44 then (nd t k).k == 44 && Kb t k == Kb t i else if (nd t i).k=65 then (nd t k).k == 65 else !((nd t k).k == 65) && (Kh (nd t k).k && J5 t k == J5 t i))
def twR (t:Tr) (o:List Int) (i:Nat):Bool:=
 if (nd t i).k≠44∧Kh (nd t i).k=false then false
 else (Ga i).any fun k=>(nd t k).text == (nd t i).text && (if (nd t i).k=65 then (nd t k).k == 65 else if (nd t i).k=44 then (nd t k).k == 44 && Kb t k == Kb t i else Kh (nd t k).k && (!((nd t k).k == 65) && XI t o k == XI t o i))
theorem Jgm {α:Type}{q:α→Bool}:∀ {l:List α}{k:Nat}{x:α},l[k]? = some x→q x=true→(∀ y∈l.take k,q y=false)→l.find? q=some x
 |[],_,_,h,_,_=>by simp at h
 |y::l,0,x,h,hq,_=>by simp at h; subst h; simp[hq]
 |y::l,k+1,x,h,hq,hn=>by
  rw[Gy,hn y (by simp)]
  exact Jgm (k:=k) (by simpa using h) hq fun z hz=>hn z (by simp[hz])
section
variable {t:Tr}{o:List Int}(g:GoodT t o)
include g
theorem YV {i:Nat}(hi:i < t.nodes.length):∃ k L:Nat,k < t.items.length∧t.items[k]? = some (L:Int)∧J5 t i=k∧XI t o i=L∧Xz t k≤i∧i≤L:=by
 obtain ⟨L,hL,h5,h6⟩:=Q7 g.ord.ok g.olen _ _ _ (i:Int) g.its (by omega) (by omega)
 obtain ⟨k,hk,he⟩:=G9 hL
 obtain ⟨L',e1,e2,e3,e4,e5⟩:=JcA g hk
 have eL:L=(L':Int):=by rw[← e1,Gc,Gd hk,← he]; rfl
 subst eL
 rw[e2]at h5
 have hget:t.items[k]? = some (L':Int):=by rw[Gd hk,he]
 have hlt:∀ x∈t.items.take k,x < (i:Int):=fun x hx=>by
  have:=(Qp g.ord.ok g.olen _ _ _ (X4 g k (G5 hk)).1 x hx).2.2.1
  omega
 have hge:∀ x∈t.items.drop k,(i:Int)≤x:=fun x hx=>by
  have ha:=YH g.ord.ok g.olen _ _ _ (X4 g k (G5 hk)).2
  rw[Gt hk,he]at hx ha
  rw[GI]at ha
  rcases Gg.1 hx with rfl | hx
  ·exact h6
  ·have:=ha.1 x hx; omega
 refine ⟨k,L',hk,hget,?_,?_,by omega,by omega⟩
 ·unfold J5
  rw[← Hz k t.items,H6,HY.2 (fun x hx=>by simpa using hlt x hx),G8.2 (fun x hx=>by have:=hge x hx; simp; omega),Le,Gu]
  omega
 ·unfold XI
  rw[Jgm hget (by rw[Kr,Gb]; exact ⟨by omega,by rw[e2]; omega⟩) fun y hy=>?_]
  have h1:=hlt y hy
  have h2:=(Qp g.ord.ok g.olen _ _ _ (X4 g k (G5 hk)).1 y hy).2.1
  rw[Lj]
  intro hb
  have:=(Kr.1 hb).1
  omega
theorem item_same {i k:Nat}(hi:i < t.nodes.length) (hk:k < t.nodes.length):(J5 t k == J5 t i)=(XI t o k == XI t o i):=by
 obtain ⟨a,A,a1,a2,a3,a4,a5,a6⟩:=YV g hi
 obtain ⟨b,B,b1,b2,b3,b4,b5,b6⟩:=YV g hk
 rw[a3,a4,b3,b4,Gn,beq_iff_eq,beq_iff_eq]
 constructor
 ·rintro rfl
  rw[a2]at b2
  exact (Hr b2).symm
 ·intro h
  have hn:t.items.Nodup:=XA g.ord.ok g.olen _ _ _ g.its
  rw[h]at b2
  exact (List.getElem?_inj b1 hn).1 (b2.trans a2.symm)
theorem tw_eq {i:Nat}(hi:i < t.nodes.length):twN t i=twR t o i:=by
 unfold twN twR
 by_cases h:(nd t i).k≠44∧Kh (nd t i).k=false
 ·rw[if_pos h,if_pos h]
 rw[if_neg h,if_neg h]
 have hl:∀ l:List Nat,(∀ k∈l,k < i)→(l.any fun k=>(nd t k).text == (nd t i).text && (if (nd t i).k=44 then (nd t k).k == 44 && Kb t k == Kb t i else if (nd t i).k=65 then (nd t k).k == 65 else !((nd t k).k == 65) && (Kh (nd t k).k && J5 t k == J5 t i)))=(l.any fun k=>(nd t k).text == (nd t i).text && (if (nd t i).k=65 then (nd t k).k == 65 else if (nd t i).k=44 then (nd t k).k == 44 && Kb t k == Kb t i else Kh (nd t k).k && (!((nd t k).k == 65) && XI t o k == XI t o i))):=by
  intro l
  induction l with
  |nil=>intro _; rfl
  |cons k l ih=>
   intro hk
   have hki:=hk k (by simp)
   rw[Lh,Lh,ih fun x hx=>hk x (by simp[hx]),item_same g hi (show k < t.nodes.length by omega)]
   congr 2
   by_cases e1:(nd t i).k=44
   ·rw[if_pos e1,if_neg (by omega),if_pos e1]
   ·rw[if_neg e1]
    by_cases e2:(nd t i).k=65
    ·rw[if_pos e2,if_pos e2]
    ·rw[if_neg e2,if_neg e2,if_neg e1]
     cases Kh (nd t k).k <;> cases ((nd t k).k == 65) <;> simp
 exact hl _ fun k hk=>Gj.1 hk
end
end
section
def Jal (t:Tr) (u c:Nat) (late:Bool):Bool:=
 if (nd t u).k=4 then true else if (nd t u).k=46∨(nd t u).k=47 then late || c == JH t u else if (nd t u).k=28 then late && (nd t c).k == 43 else late
def JgA (t:Tr) (u c:Nat):Option Bool:=
 if (nd t u).k=4 then some true else if (nd t u).k=46∨(nd t u).k=47 then some (c == JH t u) else if (nd t u).k=28 then (if (nd t c).k=43 then none else some false) else none
def buL (t:Tr):List Nat→Bool→Bool
 |c::u::l,late=>buL t (u::l) (Jal t u c late)
 |_,late=>late
def tdL (t:Tr):List Nat→Bool→Bool
 |u::c::l,late=>match JgA t u c with
  |some b=>b
  |none=>tdL t (c::l) late
 |_,late=>late
theorem tdL_snoc {t:Tr}{late:Bool}{u c:Nat}:∀ l:List Nat,tdL t (l++[u,c]) late=tdL t (l++[u]) (match JgA t u c with | some b=>b | none=>late)
 |[]=>by
  simp only[GQ,tdL]
 |[x]=>by
  simp only[Gw,GQ,tdL]
 |x::y::l=>by
  have:=tdL_snoc (t:=t) (late:=late) (u:=u) (c:=c) (y::l)
  simp only[Gw]at this
  simp only[Gw,tdL]
  rw[this]
def Jbt (t:Tr) (q:Nat→Nat→Prop):List Nat→Prop
 |c::u::l=>q u c∧Jbt t q (u::l)
 |_=>True
theorem bu_td {t:Tr}:∀ (l:List Nat) (late:Bool),Jbt t (fun u c=>(nd t u).k=46∨(nd t u).k=47→c=JH t u) l→buL t l late=tdL t l.reverse late
 |[],_,_=>rfl
 |[x],_,_=>rfl
 |c::u::l,late,h=>by
  have hs:Jal t u c late=(match JgA t u c with | some b=>b | none=>late):=by
   have h1:=h.1
   unfold Jal JgA
   by_cases e1:(nd t u).k=4
   ·rw[if_pos e1,if_pos e1]
   rw[if_neg e1,if_neg e1]
   by_cases e2:(nd t u).k=46∨(nd t u).k=47
   ·rw[if_pos e2,if_pos e2,h1 e2]; simp
   rw[if_neg e2,if_neg e2]
   by_cases e3:(nd t u).k=28
   ·rw[if_pos e3,if_pos e3]
    by_cases e4:(nd t c).k=43
    ·rw[if_pos e4,e4]; simp
    ·rw[if_neg e4]; simp[e4]
   ·rw[if_neg e3,if_neg e3]
  rw[buL,bu_td (u::l) _ h.2,hs]
  simp only[Ha,Hg,Gw,GQ]
  rw[tdL_snoc]
section
variable {t:Tr}{o:List Int}(g:GoodT t o)
def upL (t:Tr) (top:Nat):Nat→Nat→List Nat
 |0,n=>[n]
 |f+1,n=>if n=top then [n] else n::upL t top f (Kb t n).toNat
include g
theorem bound_below {a j:Nat}(ha:a < t.nodes.length) (hk:(nd t a).k=48) (hb:blw o j a):j=a:=by
 rcases Jeg g ha hb with h | ⟨c,hc,_⟩
 ·exact h
 ·exfalso
  have hl:=JfY g ha hc
  rw[hk]at hl
  unfold Qc at hl
  simp at hl
theorem bind_below {a j:Nat}(ha:a < t.nodes.length) (hk:(nd t a).k=42) (hb:blw o j a):(nd t j).k=42∨(60≤(nd t j).k∧(nd t j).k≤64):=by
 rcases Jeg g ha hb with rfl | ⟨c,hc,hb2⟩
 ·exact .inl hk
 ·refine .inr ?_
  have hl:=JfY g ha hc
  have hr:=(JW g ha hc).2
  rw[hk]at hl
  have hk2:Jey (nd t c).k=116:=by
   unfold Qc at hl
   dsimp only at hl
   rw[if_neg (by omega),if_neg (by omega),if_neg (by omega),if_neg (by omega),if_neg (by omega),if_neg (by omega),if_neg (by omega),if_neg (by omega),if_neg (by omega)]at hl
   split at hl
   ·simpa using hl
   ·simp at hl
  have h3:=JdL hk2
  exact Jdi g c j (by omega) (by omega) (by omega) hb2
theorem Jed {u c j:Nat}(hu:u < t.nodes.length) (hk:(nd t u).k=46∨(nd t u).k=47) (hc:(c:Int)∈(nd t u).kids) (hb:blw o j c) (hje:1≤(nd t j).k∧(nd t j).k≤29):c=JH t u:=by
 obtain ⟨i,hi,hka,hgi⟩:=Jfa hc
 have h3:=(KY g hu hi).2.2
 rw[hka]at h3
 have hr:=(JW g hu hc).2
 by_cases hl:i+1 < (nd t u).kids.length
 ·exfalso
  have h48:(nd t c).k=48:=by
   rcases hk with e | e
   ·have h:=JdO g hu
    change KZ (nd t u).k (nd t u).n (lets t.nodes (nd t u))=true at h
    rw[e]at h
    unfold KZ at h
    rw[if_neg (by omega),if_neg (by omega),if_neg (by omega),if_neg (by omega),if_neg (by omega),if_neg (by omega),if_neg (by omega),if_neg (by omega),if_neg (by omega),if_pos rfl]at h
    simp only[Gf,beq_iff_eq,QK]at h
    have:=YT 79 48 (QL hu h.1.2 (i:=i) (by omega) (by omega)).2 (by simp)
    rw[h3]; exact this
   ·have h:=Jam g hu e
    change (nd t u).kids.length=3∧_ at h
    have:=h.2.1 i (by omega)
    rw[h3]; exact this
  have:=bound_below g (show c < t.nodes.length by omega) h48 hb
  subst this
  omega
 ·have hil:i=(nd t u).kids.length-1:=by omega
  rw[← hka,hil]; rfl
theorem JbN {s j:Nat}(hs:s < t.nodes.length) (hk:(nd t s).k=41) (hje:1≤(nd t j).k∧(nd t j).k≤29):blw o j s↔blw o j (JH t s):=by
 obtain ⟨a,hN,hl,k1,k2⟩:=Jc0 g hs hk
 change (nd t s).kids.length=a+1 at hl
 have hm:=KY g hs (i:=(nd t s).kids.length-1) (by omega)
 constructor
 ·intro h
  rcases Jeg g hs h with rfl | ⟨c,hc,hb⟩
  ·omega
  ·obtain ⟨i,hi,hka,hgi⟩:=Jfa hc
   by_cases hil:i < a
   ·exfalso
    have h3:=(KY g hs hi).2.2
    rw[hka]at h3
    have:=k1 i hil
    change Jq t.nodes ((nd t s).kids.getD i 0)=42 at this
    have:=bind_below g (show c < t.nodes.length by have:=(JW g hs hc).2; omega) (by omega) hb
    omega
   ·have:i=(nd t s).kids.length-1:=by omega
    rw[← hka,this]at hb
    exact hb
 ·intro h
  exact QT g hs h (Qm g hs hm.1)
end
end
section
section
variable {t:Tr}{o:List Int}(g:GoodT t o)
include g
theorem up_pairs {j:Nat}(hje:1≤(nd t j).k∧(nd t j).k≤29):∀ (f c top:Nat),top < t.nodes.length→blw o c top→blw o j c→Jbt t (fun u c=>(nd t u).k=46∨(nd t u).k=47→c=JH t u) (upL t top f c)
 |0,_,_,_,_,_=>trivial
 |f+1,c,top,htop,hct,hjc=>by
  unfold upL
  by_cases he:c=top
  ·rw[if_pos he]; trivial
  ·rw[if_neg he]
   obtain ⟨m,hp,hcm,hmt,hmb,hk⟩:=Xf g htop hct he
   rw[hp,Gb]
   have hm:m < t.nodes.length:=by omega
   have hjm:=QT g hm hjc (Qm g hm hk)
   have ih:=up_pairs hje f m top htop hmb hjm
   cases f with
   |zero=>
    refine ⟨fun h=>Jed g hm h hk hjc hje,?_⟩
    trivial
   |succ f=>
    unfold upL at ih ⊢
    by_cases he2:m=top
    ·rw[if_pos he2]at ih ⊢
     exact ⟨fun h=>Jed g hm h hk hjc hje,trivial⟩
    ·rw[if_neg he2]at ih ⊢
     exact ⟨fun h=>Jed g hm h hk hjc hje,ih⟩
theorem late_eq {j s:Nat}(hs:s < t.nodes.length) (hk:(nd t s).k=41) (hje:1≤(nd t j).k∧(nd t j).k≤29) (hb:blw o j s) (f:Nat):buL t (upL t (JH t s) f j) false=tdL t (upL t (JH t s) f j).reverse false:=by
 have h1:=(JbN g hs hk hje).1 hb
 obtain ⟨a,hN,hl,_,_⟩:=Jc0 g hs hk
 change (nd t s).kids.length=a+1 at hl
 have hm:=KY g hs (i:=(nd t s).kids.length-1) (by omega)
 have hlt:JH t s < t.nodes.length:=by
  have:=hm.2.1
  change JH t s < s at this
  omega
 have hj:j < t.nodes.length:=by have:=h1.1; omega
 exact bu_td _ _ (up_pairs g hje f j (JH t s) hlt h1 (Yn g hj))
end
def KD (t:Tr) (o:List Int) (of:List Int) (s:Nat):List Int:=
 (Kq t).filter fun x=>(Ga t.nodes.length).any fun i=>(nd t i).k == 3 && (decide (0≤of.getD i (-1)) && ((nd t (of.getD i (-1)).toNat).k == 42 && (Jae o i s && (Kb t (of.getD i (-1)).toNat == x && (Kb t x.toNat == Kb t s && !buL t (upL t (JH t s) t.nodes.length i) false)))))
def Ye (t:Tr) (o:List Int) (of:List Int) (s:Nat):List Int:=
 (Kq t).filter fun x=>(Ga t.nodes.length).any fun i=>(nd t i).k == 3 && (decide (0≤of.getD i (-1)) && (Jae o i (JH t s) && ((nd t (of.getD i (-1)).toNat).k == 42 && (Kb t (of.getD i (-1)).toNat == x && (Kb t x.toNat == Kb t s && !tdL t (upL t (JH t s) t.nodes.length i).reverse false)))))
theorem need_eq {t:Tr}{o:List Int}(g:GoodT t o) {of:List Int}{s:Nat}(hs:s < t.nodes.length) (hk:(nd t s).k=41):KD t o of s=Ye t o of s:=by
 unfold KD Ye
 refine H9 fun x _=>?_
 rw[Gn]
 simp only[Gx,Gj,Gf,beq_iff_eq,decide_eq_true_eq,GV,Kr]
 constructor
 ·rintro ⟨i,hi,h1,h2,h3,h4,h5,h6,h7⟩
  have he:1≤(nd t i).k∧(nd t i).k≤29:=by omega
  exact ⟨i,hi,h1,h2,(JbN g hs hk he).1 h4,h3,h5,h6,by rw[← late_eq g hs hk he h4]; exact h7⟩
 ·rintro ⟨i,hi,h1,h2,h4,h3,h5,h6,h7⟩
  have he:1≤(nd t i).k∧(nd t i).k≤29:=by omega
  have hb:=(JbN g hs hk he).2 h4
  exact ⟨i,hi,h1,h2,h3,hb,h5,h6,by rw[late_eq g hs hk he hb]; exact h7⟩
end
def Jer (N:Int→List Int):Nat→List Int→List Int→List Int
 |0,_,out=>out
 |_+1,[],out=>out
 |f+1,x::todo,out=>if out.contains x then Jer N f todo out else Jer N f (todo++N x) (out++[x])
def Xh:List Int→List Int→Nat
 |[],_=>0
 |y::l,out=>(if out.contains y=true then 0 else 1)+Xh l out
def muB (l todo out:List Int):Nat:=Xh l out*(l.length+1)+todo.length
theorem left_le {out:List Int}{x:Int}:∀ m:List Int,Xh m (out++[x])≤Xh m out
 |[]=>Gq _
 |y::m=>by
  have ih:=left_le (out:=out) (x:=x) m
  simp only[Xh]
  by_cases h1:out.contains y=true
  ·have h2:(out++[x]).contains y=true:=by simp at h1 ⊢; exact .inl h1
   rw[if_pos h1,if_pos h2]; omega
  ·rw[if_neg h1]; split <;> omega
theorem XF {out:List Int}{x:Int}:∀ {l:List Int},x∈l→out.contains x=false→Xh l (out++[x]) < Xh l out
 |[],hx,_=>by cases hx
 |y::l,hx,hn=>by
  have hle:=left_le (out:=out) (x:=x) l
  simp only[Xh]
  by_cases he:y=x
  ·subst he
   have h2:(out++[y]).contains y=true:=by simp
   rw[if_pos h2,if_neg (by rw[hn]; simp)]
   omega
  ·have hxl:x∈l:=by
    rcases Gg.1 hx with h | h
    ·exact absurd h.symm he
    ·exact h
   have:=XF hxl hn
   have h3:(out++[x]).contains y=out.contains y:=by
    rw[Gn]; simp[he]
   rw[h3]
   omega
theorem Jb9 {N:Int→List Int}{l:List Int}(hN:∀ x∈l,(∀ y∈N x,y∈l)∧(N x).length≤l.length):∀ (f f':Nat) (todo out:List Int),(∀ x∈todo,x∈l)→muB l todo out < f→muB l todo out < f'→Jer N f todo out=Jer N f' todo out
 |0,_,_,_,_,h,_=>by omega
 |_,0,_,_,_,_,h=>by omega
 |f+1,f' + 1,[],out,_,_,_=>rfl
 |f+1,f' + 1,x::todo,out,ht,h1,h2=>by
  simp only[Jer]
  have hx:=ht x (by simp)
  by_cases hc:out.contains x=true
  ·rw[if_pos hc,if_pos hc]
   refine Jb9 hN f f' todo out (fun y hy=>ht y (by simp[hy])) ?_ ?_ <;> (unfold muB at *; simp only[Gl]at *; omega)
  ·rw[if_neg hc,if_neg hc]
   have hl:=XF hx (by simpa using hc)
   have hn:=hN x hx
   have hm:(Xh l (out++[x])+1)*(l.length+1)≤Xh l out*(l.length+1):=GX _ hl
   refine Jb9 hN f f' (todo++N x) (out++[x]) (fun y hy=>?_) ?_ ?_
   ·rcases Gm.1 hy with hy | hy
    ·exact ht y (by simp[hy])
    ·exact hn.1 y hy
   all_goals
    unfold muB at *
    simp only[Gl,GJ,Hw]at *
    omega
def bfs (N:Int→List Int) (l todo out:List Int):List Int:=Jer N (muB l todo out+1) todo out
theorem Jgy {N:Int→List Int}{l out:List Int}:bfs N l [] out=out:=rfl
theorem bfs_old {N:Int→List Int}{l todo out:List Int}{x:Int}(hN:∀ x∈l,(∀ y∈N x,y∈l)∧(N x).length≤l.length) (ht:∀ y∈x::todo,y∈l) (hc:out.contains x=true):bfs N l (x::todo) out=bfs N l todo out:=by
 unfold bfs
 rw[Jer,if_pos hc]
 refine Jb9 hN _ _ todo out (fun y hy=>ht y (by simp[hy])) ?_ (GY _)
 unfold muB
 simp only[Gl]
 omega
theorem bfs_new {N:Int→List Int}{l todo out:List Int}{x:Int}(hN:∀ x∈l,(∀ y∈N x,y∈l)∧(N x).length≤l.length) (ht:∀ y∈x::todo,y∈l) (hc:out.contains x=false):bfs N l (x::todo) out=bfs N l (todo++N x) (out++[x]):=by
 unfold bfs
 rw[Jer,if_neg (by rw[hc]; simp)]
 have hx:=ht x (by simp)
 have hl:=XF hx hc
 have hn:=hN x hx
 have hm:(Xh l (out++[x])+1)*(l.length+1)≤Xh l out*(l.length+1):=GX _ hl
 refine Jb9 hN _ _ _ _ (fun y hy=>?_) ?_ (GY _)
 ·rcases Gm.1 hy with hy | hy
  ·exact ht y (by simp[hy])
  ·exact hn.1 y hy
 ·unfold muB
  simp only[Gl,GJ,Hw]at *
  omega
section
def JO (t:Tr) (o:List Int) (i:Nat):Int:=if (nd t i).k=3 then Je8 t o i else if (nd t i).k=26 then Jaa t i else if (nd t i).k=44 then Jav t i else -1
def JJ (t:Tr) (i:Nat):Bool:=(nd t i).k == 3 || (nd t i).k == 26 || (nd t i).k == 44
def Xn (t:Tr) (o:List Int) (a b:Int):List Nat→Option (Nat×Int)
 |[]=>none
 |i::l=>if twN t i=true then some (i,a) else if (JJ t i && JO t o i == -1)=true then some (i,b) else Xn t o a b l
def JfM (t:Tr) (o:List Int) (a b:Int):List Nat→Option (Nat×Int)
 |[]=>none
 |i::l=>if (JJ t i && decide (JO t o i < 0))=true then some (i,b) else if twR t o i=true then some (i,a) else JfM t o a b l
theorem Jgl {l:List Int}{q:Int→Bool}(h:∀ x∈l,0≤x):(match l.find? q with | some d=>d | none=>-1) < 0↔(match l.find? q with | some d=>d | none=>-1) = -1:=by
 cases hf:l.find? q with
 |none=>simp
 |some d=>
  have:=h d (List.mem_of_find?_eq_some hf)
  simp only
  omega
theorem mean_neg {t:Tr}{o:List Int}{i:Nat}:JO t o i < 0↔JO t o i = -1:=by
 have h:∀ x∈Kq t,0≤x:=fun x hx=>(J2.1 hx).1
 unfold JO
 split
 ·exact Jgl h
 split
 ·exact Jgl h
 split
 ·exact Jgl h
 ·omega
section
variable {t:Tr}{o:List Int}(g:GoodT t o)
include g
omit g in
theorem tw_next {i:Nat}(hk:(nd t i).k=44) (h:twN t i=true):∃ k,k < i∧(nd t k).k=44∧JO t o k=JO t o i:=by
 unfold twN at h
 rw[if_neg (by rintro ⟨h1,_⟩; exact h1 hk),Gx]at h
 obtain ⟨k,hki,hb⟩:=h
 rw[if_pos hk]at hb
 simp only[Gf,beq_iff_eq]at hb
 obtain ⟨h1,h2,h3⟩:=hb
 refine ⟨k,Gj.1 hki,h2,?_⟩
 unfold JO
 rw[hk,h2,if_neg (by decide),if_neg (by decide),if_pos rfl,if_neg (by decide),if_neg (by decide),if_pos rfl]
 unfold Jav
 rw[h1,h3]
theorem scan_eq (a b:Int):∀ (n m:Nat),n+m=t.nodes.length→(∀ k,k < n→(JJ t k && JO t o k == -1)=false)→Xn t o a b ((Ga t.nodes.length).drop n)=JfM t o a b ((Ga t.nodes.length).drop n)
 |n,0,hnm,_=>by
  rw[GG (by rw[GL]; omega)]; rfl
 |n,m+1,hnm,hprev=>by
  have hlt:n < (Ga t.nodes.length).length:=by rw[GL]; omega
  rw[Gt hlt,GK]
  have hnl:n < t.nodes.length:=by omega
  have hneg:(JJ t n && decide (JO t o n < 0))=(JJ t n && JO t o n == -1):=by
   congr 1
   rw[Gn,decide_eq_true_eq,beq_iff_eq]
   exact mean_neg
  simp only[Xn,JfM]
  rw[hneg,← tw_eq g hnl]
  by_cases h1:(JJ t n && JO t o n == -1)=true
  ·rw[if_pos h1]
   by_cases h2:twN t n=true
   ·exfalso
    have hk:(nd t n).k=44:=by
     unfold twN at h2
     by_cases h3:(nd t n).k≠44∧Kh (nd t n).k=false
     ·rw[if_pos h3]at h2; cases h2
     ·unfold JJ at h1
      simp only[Gf,Ht,beq_iff_eq]at h1
      by_cases h4:(nd t n).k=44
      ·exact h4
      ·exfalso
       apply h3
       refine ⟨h4,?_⟩
       rcases h1.1 with (e | e) | e
       ·rw[e]; rfl
       ·rw[e]; rfl
       ·exact absurd e h4
    obtain ⟨k,hkn,hkk,hkm⟩:=tw_next (o:=o) hk h2
    have hp:=hprev k hkn
    rw[hkm]at hp
    unfold JJ at hp h1
    rw[hkk]at hp
    simp only[Gf]at h1
    rw[h1.2]at hp
    simp at hp
   ·rw[if_neg h2,if_pos h1]
  ·rw[if_neg h1,if_neg h1]
   by_cases h2:twN t n=true
   ·rw[if_pos h2,if_pos h2]
   ·rw[if_neg h2,if_neg h2]
    refine scan_eq a b (n+1) m (by omega) fun k hk=>?_
    by_cases hkn:k < n
    ·exact hprev k hkn
    ·have:k=n:=by omega
     subst this
     simpa using h1
end
end
section
theorem Jei {N M:Int→List Int}{q:Int→Prop}(hN:∀ x,q x→N x=M x∧∀ y∈N x,q y):∀ (f:Nat) (todo out:List Int),(∀ x∈todo,q x)→Jer N f todo out=Jer M f todo out
 |0,_,_,_=>rfl
 |_+1,[],_,_=>rfl
 |f+1,x::todo,out,h=>by
  have hx:=hN x (h x (by simp))
  simp only[Jer]
  split
  ·exact Jei hN f todo out fun y hy=>h y (by simp[hy])
  ·rw[← hx.1]
   refine Jei hN f _ _ fun y hy=>?_
   rcases Gm.1 hy with hy | hy
   ·exact h y (by simp[hy])
   ·exact hx.2 y hy
def ofL (t:Tr) (o:List Int):List Int:=(Ga t.nodes.length).map fun i=>JO t o i
def stN (t:Tr) (o:List Int) (i:Nat):Bool:=(nd t i).k == 41 && (bfs (fun x=>KD t o (ofL t o) x.toNat) (Kq t) (KD t o (ofL t o) i) []).contains (i:Int)
def stR (t:Tr) (o:List Int) (i:Nat):Bool:=(nd t i).k == 41 && ((Kq t).filter fun x=>(bfs (fun x=>Ye t o (ofL t o) x.toNat) (Kq t) (Ye t o (ofL t o) i) []).contains x).contains (i:Int)
theorem nd_in {t:Tr}{i:Nat}(h:(nd t i).k≠0):i < t.nodes.length:=by
 rcases Lm i t.nodes.length with h1 | h1
 ·exact h1
 ·exfalso
  apply h
  unfold nd
  rw[Gc,GH h1]
  rfl
section
variable {t:Tr}{o:List Int}(g:GoodT t o)
include g
theorem YR {of:List Int}{s:Nat}{x:Int}(h:x∈KD t o of s):0≤x∧x < t.nodes.length∧(nd t x.toNat).k=41:=by
 unfold KD at h
 rw[Gp,J2]at h
 obtain ⟨h0,h⟩:=h
 simp only[Gx,Gj,Gf,beq_iff_eq,decide_eq_true_eq,GV,Kr]at h
 obtain ⟨i,hi,h1,h2,h3,h4,h5,h6,h7⟩:=h
 refine ⟨h0.1,h0.2,?_⟩
 generalize (of.getD i (-1)).toNat=m at h3 h5
 have hm:=nd_in (t:=t) (i:=m) (by omega)
 obtain ⟨u,q1,q2,q3,q4⟩:=Qs g hm (by omega)
 have:x.toNat=u:=by omega
 rw[this]
 exact (JbC (JfY g q2 q4)).2.2.1 (by rw[h3]; rfl)
theorem st_eq {i:Nat}(hi:i < t.nodes.length):stN t o i=stR t o i:=by
 unfold stN stR
 by_cases hk:(nd t i).k=41
 ·have hq:∀ x:Int,(0≤x∧x < t.nodes.length∧(nd t x.toNat).k=41)→KD t o (ofL t o) x.toNat=Ye t o (ofL t o) x.toNat∧∀ y∈KD t o (ofL t o) x.toNat,(0≤y∧y < t.nodes.length∧(nd t y.toNat).k=41):=fun x hx=>
   ⟨need_eq g (by omega) hx.2.2,fun y hy=>YR g hy⟩
  rw[← need_eq g hi hk]
  unfold bfs
  rw[Jei hq _ _ _ fun x hx=>YR g hx]
  congr 1
  rw[Gn]
  simp only[HV,decide_eq_true_eq,Gp,J2]
  constructor
  ·intro h; exact ⟨by omega,h⟩
  ·intro h; exact h.2
 ·have e:((nd t i).k == 41)=false:=by simpa using hk
  rw[e,Ll,Ll]
end
def Xa (t:Tr) (o:List Int):Nat×Int:=match Xn t o 6 10 (Ga t.nodes.length) with
 |some r=>r
 |none=>match (Ga t.nodes.length).find? (stN t o) with
  |some i=>(i,9)
  |none=>(0,0)
def resR (t:Tr) (o:List Int):Nat×Int:=match JfM t o 6 10 (Ga t.nodes.length) with
 |some r=>r
 |none=>match (Ga t.nodes.length).find? (stR t o) with
  |some i=>(i,9)
  |none=>(0,0)
theorem res_eq {t:Tr}{o:List Int}(g:GoodT t o):Xa t o=resR t o:=by
 have h:=scan_eq g 6 10 0 t.nodes.length (by omega) (fun k hk=>by omega)
 rw[Lf]at h
 have hf:∀ l:List Nat,(∀ i∈l,i < t.nodes.length)→l.find? (stN t o)=l.find? (stR t o):=by
  intro l
  induction l with
  |nil=>intro _; rfl
  |cons i l ih=>
   intro hl
   rw[Gy,Gy,st_eq g (hl i (by simp)),ih fun x hx=>hl x (by simp[hx])]
 unfold Xa resR
 rw[h,hf _ fun i hi=>Gj.1 hi]
end
theorem JaO {N:Int→List Int}{q:Int→Prop}(hq:∀ x,q x→∀ y∈N x,q y):∀ (f:Nat) (todo out:List Int),(∀ x∈todo,q x)→(∀ x∈out,q x)→∀ x∈Jer N f todo out,q x
 |0,_,_,_,h2,x,hx=>h2 x hx
 |_+1,[],_,_,h2,x,hx=>h2 x hx
 |f+1,y::todo,out,h1,h2,x,hx=>by
  simp only[Jer]at hx
  split at hx
  ·exact JaO hq f todo out (fun z hz=>h1 z (by simp[hz])) h2 x hx
  ·refine JaO hq f _ _ (fun z hz=>?_) (fun z hz=>?_) x hx
   ·rcases Gm.1 hz with hz | hz
    ·exact h1 z (by simp[hz])
    ·exact hq y (h1 y (by simp)) z hz
   ·rcases Gm.1 hz with hz | hz
    ·exact h2 z hz
    ·rw[Gr]at hz
     rw[hz]; exact h1 y (by simp)
theorem XZ {N:Int→List Int}{l:List Int}(hN:∀ x∈l,(∀ y∈N x,y∈l)∧(N x).length≤l.length):∀ (f:Nat) (todo out:List Int),(∀ x∈todo,x∈l)→muB l todo out < f→(∀ x∈out,∀ y∈N x,y∈out∨y∈todo)→
  (∀ x∈out,x∈Jer N f todo out)∧(∀ x∈todo,x∈Jer N f todo out)∧∀ x∈Jer N f todo out,∀ y∈N x,y∈Jer N f todo out
 |0,_,_,_,h,_=>by omega
 |f+1,[],out,_,_,h3=>by
  simp only[Jer]
  refine ⟨fun x hx=>hx,fun x hx=>(by cases hx),fun x hx y hy=>?_⟩
  rcases h3 x hx y hy with h | h
  ·exact h
  ·cases h
 |f+1,x::todo,out,ht,h1,h3=>by
  simp only[Jer]
  have hx:=ht x (by simp)
  by_cases hc:out.contains x=true
  ·rw[if_pos hc]
   have hxo:x∈out:=by simpa using hc
   obtain ⟨a1,a2,a3⟩:=XZ hN f todo out (fun y hy=>ht y (by simp[hy])) (by unfold muB at *; simp only[Gl]at *; omega) (fun z hz y hy=>by
    rcases h3 z hz y hy with h | h
    ·exact .inl h
    ·rcases Gg.1 h with rfl | h
     ·exact .inl hxo
     ·exact .inr h)
   refine ⟨a1,fun z hz=>?_,a3⟩
   rcases Gg.1 hz with rfl | hz
   ·exact a1 _ hxo
   ·exact a2 z hz
  ·rw[if_neg hc]
   have hl:=XF hx (by simpa using hc)
   have hn:=hN x hx
   have hm:(Xh l (out++[x])+1)*(l.length+1)≤Xh l out*(l.length+1):=GX _ hl
   obtain ⟨a1,a2,a3⟩:=XZ hN f (todo++N x) (out++[x]) (fun y hy=>by
    rcases Gm.1 hy with hy | hy
    ·exact ht y (by simp[hy])
    ·exact hn.1 y hy) (by unfold muB at *; simp only[Gl,GJ,Hw]at *; omega) (fun z hz y hy=>by
    rcases Gm.1 hz with hz | hz
    ·rcases h3 z hz y hy with h | h
     ·exact .inl (by simp[h])
     ·rcases Gg.1 h with rfl | h
      ·exact .inl (by simp)
      ·exact .inr (by simp[h])
    ·rw[Gr]at hz
     subst hz
     exact .inr (by simp[hy]))
   refine ⟨fun z hz=>a1 z (by simp[hz]),fun z hz=>?_,a3⟩
   rcases Gg.1 hz with rfl | hz
   ·exact a1 _ (by simp)
   ·exact a2 z (by simp[hz])
theorem free_one {N:Int→List Int}{l:List Int}(hN:∀ x∈l,(∀ y∈N x,y∈l)∧(N x).length≤l.length) (hno:∀ x∈l,x∉bfs N l (N x) []) {left:List Int}(hl:∀ x∈left,x∈l) (hne:left≠[]):∃ x∈left,∀ y∈N x,y∉left:=by
 have key:∀ (m:Nat) (x:Int),x∈left→(l.filter fun z=>(bfs N l (N x) []).contains z).length≤m→∃ x∈left,∀ y∈N x,y∉left:=by
  intro m
  induction m with
  |zero=>
   intro x hx hm
   refine ⟨x,hx,fun y hy hyl=>?_⟩
   have hc:=XZ hN _ (N x) [] (hN x (hl x hx)).1 (GY _) (fun z hz=>by cases hz)
   have:y∈l.filter fun z=>(bfs N l (N x) []).contains z:=by
    rw[Gp]
    exact ⟨hl y hyl,by simpa [bfs]using hc.2.1 y hy⟩
   have:=List.length_pos_of_mem this
   omega
  |succ m ih=>
   intro x hx hm
   by_cases hf:∀ y∈N x,y∉left
   ·exact ⟨x,hx,hf⟩
   ·simp only[Classical.not_forall]at hf
    obtain ⟨y,hy,hyl⟩:=hf
    have hyl:y∈left:=Classical.not_not.1 hyl
    have hc:=XZ hN _ (N x) [] (hN x (hl x hx)).1 (GY _) (fun z hz=>by cases hz)
    have hyR:y∈bfs N l (N x) []:=hc.2.1 y hy
    have hsub:∀ z∈bfs N l (N y) [],z∈bfs N l (N x) []:=JaO (q:=fun z=>z∈bfs N l (N x) []) hc.2.2 _ _ _ (hc.2.2 y hyR) (fun z hz=>by cases hz)
    refine ih y hyl ?_
    have hlt:∀ k:List Int,y∈k→(k.filter fun z=>(bfs N l (N y) []).contains z).length < (k.filter fun z=>(bfs N l (N x) []).contains z).length:=by
     have hle:∀ k:List Int,(k.filter fun z=>(bfs N l (N y) []).contains z).length≤(k.filter fun z=>(bfs N l (N x) []).contains z).length:=by
      intro k
      induction k with
      |nil=>simp
      |cons z k ihk=>
       rw[Gv,Gv]
       by_cases h1:(bfs N l (N y) []).contains z=true
       ·have h2:(bfs N l (N x) []).contains z=true:=by simp at h1 ⊢; exact hsub z h1
        rw[if_pos h1,if_pos h2]; simpa using ihk
       ·rw[if_neg h1]; split
        ·simp only[Gl]; omega
        ·exact ihk
     intro k
     induction k with
     |nil=>intro h; cases h
     |cons z k ihk=>
      intro h
      rw[Gv,Gv]
      by_cases he:z=y
      ·subst he
       have h1:¬ (bfs N l (N z) []).contains z=true:=by simpa using hno z (hl z hyl)
       have h2:(bfs N l (N x) []).contains z=true:=by simpa using hyR
       rw[if_neg h1,if_pos h2]
       have:=hle k
       simp only[Gl]
       omega
      ·have hk:y∈k:=by
        rcases Gg.1 h with h | h
        ·exact absurd h.symm he
        ·exact h
       have:=ihk hk
       by_cases h1:(bfs N l (N y) []).contains z=true
       ·have h2:(bfs N l (N x) []).contains z=true:=by simp at h1 ⊢; exact hsub z h1
        rw[if_pos h1,if_pos h2]; simpa using this
       ·rw[if_neg h1]; split
        ·simp only[Gl]; omega
        ·exact this
    have:=hlt l (hl y hyl)
    omega
 cases left with
 |nil=>exact absurd rfl hne
 |cons x left=>exact key _ x (by simp) (Gq _)
section
def upT (t:Tr):List Int:=(Ga t.nodes.length).map fun j=>Kb t j
def upTo (t:Tr) (i:Nat):List Int:=(Ga t.nodes.length).map fun j=>if Kb t j < i then Kb t j else -1
def Yh (v:Int):List Int→List Int→List Int
 |r,[]=>r
 |r,k::ks=>Yh v (r.set k.toNat v) ks
theorem JeP {v:Int}:∀ (ks r:List Int),(Yh v r ks).length=r.length
 |[],_=>rfl
 |k::ks,r=>by rw[Yh,JeP ks,Ho]
theorem Jdl {v k:Int}:∀ (ks r:List Int),Yh v r (ks++[k])=(Yh v r ks).set k.toNat v
 |[],_=>rfl
 |_::ks,_=>Jdl ks _
theorem JeQ {v:Int}:∀ (ks r:List Int) (j:Nat),(∀ k∈ks,0≤k)→(Yh v r ks)[j]? = if (j:Int)∈ks∧j < r.length then some v else r[j]?
 |[],_,_,_=>by simp[Yh]
 |k::ks,r,j,h=>by
  rw[Yh,JeQ ks _ j fun x hx=>h x (by simp[hx]),Ho,H8]
  have hk:=h k (by simp)
  by_cases h1:(j:Int)∈ks∧j < r.length
  ·rw[if_pos h1,if_pos ⟨by simp[h1.1],h1.2⟩]
  ·rw[if_neg h1]
   by_cases h2:k.toNat=j
   ·rw[if_pos h2]
    by_cases h3:j < r.length
    ·rw[if_pos (by omega),if_pos ⟨by simp; left; omega,h3⟩]
    ·rw[if_neg (by omega),if_neg (fun h=>h3 h.2),GH (by omega)]
   ·rw[if_neg h2,if_neg]
    rintro ⟨h3,h4⟩
    rcases Gg.1 h3 with h5 | h5
    ·omega
    ·exact h1 ⟨h5,h4⟩
def XH (t:Tr) (i:Nat):List Int:=(Ga i).map (fun j=>(J5 t j:Int))++Gh (t.nodes.length-i) 0
def JcX (t:Tr):List Int:=(Ga t.nodes.length).map fun j=>(J5 t j:Int)
theorem itemTo_zero {t:Tr}:XH t 0=Gh t.nodes.length 0:=by simp[XH]
theorem itemTo_all {t:Tr}:XH t t.nodes.length=JcX t:=by simp[XH,JcX]
theorem Jfb {t:Tr}{i:Nat}(h:i≤t.nodes.length):(XH t i).length=t.nodes.length:=by simp[XH]; omega
theorem itemTo_succ {t:Tr}{i:Nat}(h:i < t.nodes.length):(XH t i).set i (J5 t i:Int)=XH t (i+1):=by
 unfold XH
 rw[List.set_append_right _ _ (by simp)]
 simp only[Ld,GL,Nat.sub_self]
 rw[show t.nodes.length-i=(t.nodes.length-(i+1))+1 by omega,List.replicate_succ,List.set_cons_zero,List.range_succ,Hm]
 simp
theorem JaS {t:Tr}{i:Nat}:(upTo t i).length=t.nodes.length:=by simp[upTo]
theorem Jdh {t:Tr}:(upT t).length=t.nodes.length:=by simp[upT]
theorem JbY {t:Tr}:(JcX t).length=t.nodes.length:=by simp[JcX]
theorem upT_get {t:Tr}{i:Nat}(h:i < t.nodes.length):(upT t).getD i 0=Kb t i:=by
 simp[upT,Gc,h]
theorem itemT_get {t:Tr}{i:Nat}(h:i < t.nodes.length):(JcX t).getD i 0=J5 t i:=by
 simp[JcX,Gc,h]
section
variable {t:Tr}{o:List Int}(g:GoodT t o)
include g
theorem par_rng {j:Nat}(hj:j < t.nodes.length) : -1≤Kb t j∧Kb t j < t.nodes.length:=by
 rcases Qv g hj with ⟨h,_⟩ | ⟨m,h,h1,h2,_⟩ <;> omega
theorem upTo_zero:upTo t 0=Gh t.nodes.length (-1):=by
 refine GN (by simp[upTo]) fun j h1 h2=>?_
 have hj:j < t.nodes.length:=by rwa [JaS]at h1
 have:=par_rng g hj
 simp only[upTo,Hl,GK,List.getElem_replicate]
 split <;> omega
theorem upTo_all:upTo t t.nodes.length=upT t:=by
 refine GN (by simp[upTo,upT]) fun j h1 h2=>?_
 have hj:j < t.nodes.length:=by rwa [JaS]at h1
 have:=par_rng g hj
 simp only[upTo,upT,Hl,GK]
 split <;> omega
theorem upTo_succ {i:Nat}(hi:i < t.nodes.length):upTo t (i+1)=Yh i (upTo t i) (nd t i).kids:=by
 refine List.ext_getElem? fun j=>?_
 rw[JeQ (nd t i).kids _ _ fun k hk=>(g.kid hi hk).1,JaS]
 by_cases hj:j < t.nodes.length
 ·simp only[upTo,He,List.getElem?_range hj,GA]
  by_cases hm:(j:Int)∈(nd t i).kids
  ·have:=(JW g hi hm).1
   rw[if_pos (show (j:Int)∈(nd t i).kids∧j < t.nodes.length from ⟨hm,hj⟩),if_pos (show Kb t j < ((i+1:Nat):Int) by omega),this]
  ·rw[if_neg (show ¬ ((j:Int)∈(nd t i).kids∧j < t.nodes.length) from fun h=>hm h.1)]
   have hne:Kb t j≠i:=by
    intro he
    rcases Qv g hj with ⟨h,_⟩ | ⟨m,h,_,_,h4⟩
    ·omega
    ·have:m=i:=by omega
     subst this
     exact hm h4
   by_cases h1:Kb t j < i
   ·rw[if_pos h1,if_pos (show Kb t j < ((i+1:Nat):Int) by omega)]
   ·rw[if_neg h1,if_neg (show ¬ Kb t j < ((i+1:Nat):Int) by omega)]
 ·rw[if_neg (fun h=>hj h.2),GH (by rw[JaS]; omega),GH (by rw[JaS]; omega)]
theorem Jfc:J5 t 0=0:=by
 unfold J5
 rw[List.length_eq_zero_iff,G8]
 intro L hL
 have:=g.itr hL
 simp; omega
theorem itemN_step {i:Nat}(hi:i < t.nodes.length):∃ L:Nat,J5 t i < t.items.length∧t.items.getD (J5 t i) 0=(L:Int)∧i≤L∧L < t.nodes.length∧J5 t (i+1)=if i=L then J5 t i+1 else J5 t i:=by
 obtain ⟨k,L,hk,hget,h1,h2,h3,h4⟩:=YV g hi
 have hL:(L:Int)∈t.items:=List.mem_of_getElem? hget
 have hLr:=g.itr hL
 refine ⟨L,by omega,by rw[h1,Gc,hget]; rfl,h4,by omega,?_⟩
 rw[h1]
 have ha:=YH g.ord.ok g.olen _ _ _ g.its
 have hkl:t.items=t.items.take k++(L:Int)::t.items.drop (k+1):=by
  have h6:=Gt hk
  have h7:=Gd hk
  rw[hget]at h7
  rw[← Hr h7]at h6
  rw[← h6,Hz]
 rw[hkl,List.pairwise_append]at ha
 obtain ⟨_,ha2,ha3⟩:=ha
 rw[GI]at ha2
 have hlt:∀ x∈t.items.take k,x < (i:Int):=fun x hx=>by
  have:=(Qp g.ord.ok g.olen _ _ _ (X4 g k (G5 hk)).1 x hx).2.2.1
  omega
 unfold J5
 rw[hkl,H6,Gv,HY.2 (fun x hx=>by have:=hlt x hx; simp; omega),G8.2 (fun x hx=>by have:=ha2.1 x hx; simp; omega)]
 have hlk:(t.items.take k).length=k:=by rw[Gu]; omega
 by_cases he:i=L
 ·rw[if_pos he,if_pos (by simp; omega),GJ,hlk]; rfl
 ·rw[if_neg he,if_neg (by simp; omega),Le,hlk]
end
end
end Go.Cm
end
section
open Go.Proofs
namespace Go.Cm
section
section
variable {P:Program}{E:Env}{H:List CObj}
theorem putCells_get {α:Type} [Inhabited α] (enc:α→Value) (off:Nat) (d:Array α) (c:Array Value) (k:Nat):(Sort.putCells enc off d c)[k]? = (c[k]?).map fun x=>if off≤k∧k < off+d.size then enc d[k-off]! else x:=by
 simp[Sort.putCells]
theorem putRow_heap {α:Type} [Inhabited α] (enc:α→Value) (w:World) (B off:Nat) (d:Array α) {c:Array Value}{e:TypeId}{fr:Nat×Nat}(hb:w.heap[B]? = some (.cells c e fr)):(Sort.putRow enc w B off d).heap[B]? = some (.cells (Sort.putCells enc off d c) e fr):=by
 simp[Sort.putRow,Sort.mapBlock,Array.getElem?_modify,hb,Sort.onCells]
theorem putRow_other {α:Type} [Inhabited α] (enc:α→Value) (w:World) (B off:Nat) (d:Array α) (B':Nat) (h:B'≠B):(Sort.putRow enc w B off d).heap[B']? = w.heap[B']?:=by
 simp[Sort.putRow,Sort.mapBlock,Array.getElem?_modify,Ne.symm h]
theorem rels_ints {own:List Own}{imm:Nat→Nat→Option Value}:∀ {ys:List Int}{vs:List Value},JM own imm (ys.map (CV.int .i64)) vs→vs=ys.map (Value.int .i64)
 |[],_,h=>h
 |y::ys,_,h=>by
  simp only[GR,JM,rel]at h
  obtain ⟨r,rs,rfl,rfl,h2⟩:=h
  rw[rels_ints h2]; rfl
theorem Y3 {f id:Nat}{l l' ys:List Int}{cap:Option Nat}{v:CV}(R:Nat→Nat→Nat→Value) (hl:l≠[]) (hlen:l'.length=l.length) (hH:H[id]? = some (.arr 1 (iz l)))
  (hR:∀ (own:List Own) imm (x:Own) c,own[id]? = some x→x.z=1→l.length≤c→(∀ n,cap=some n→c=n)→x.o+c≤x.n→rel own imm v (R x.B x.o c))
  (h:∀ (blk off c:Nat) (w:World),l.length≤c→Sort.Holds (Value.int .i64) w blk off l.toArray→blk < w.heap.size→Calls P f (Value.slice (some ⟨blk,off,none⟩) l.length c::ys.map (Value.int .i64)).toArray w fun e w'=>e=.returned (R blk off c)∧∃ n os,w'=Sort.grow (Sort.putRow (Value.int .i64) (Sort.ahead w n) blk off l'.toArray) os) :
  CallsC P E f (.slc id 0 l.length cap::ys.map (CV.int .i64)) H fun v' H'=>v'=v∧H'=H.set id (.arr 1 (iz l')):=by
 intro m w vs hs hv
 have hlp:0 < l.length:=List.length_pos_iff.2 hl
 simp only[JM,rel]at hv
 obtain ⟨r,rs,hvs,⟨x,a,c,hx,rfl,hc1,hcap,ha,hroom⟩,hys⟩:=hv
 obtain rfl:=rels_ints hys
 obtain ⟨hz,cells,elem,hb,hsz,hle,hrow,hone⟩:=hs.obj id _ x hH hx
 rw[hz]at hle hrow ha hroom
 have ha:=ha (by omega)
 rw[GZ,G6]at ha
 have hvs:vs=(Value.slice (some a) l.length c::ys.map (Value.int .i64)).toArray:=by
  cases vs; simp only[]at hvs; rw[hvs]
 subst hvs ha
 have hrd:∀ j,j < l.length→cells[x.o+j]? = some (Value.int .i64 (l.getD j 0)):=by
  intro j hj
  obtain ⟨r,h1,h2⟩:=(hrow j [.int .i64 (l.getD j 0)] (by simp[iz,Gd hj])).2 0 _ rfl
  simp only[rel]at h2
  subst h2
  simpa using h1
 have hB:x.B < w.heap.size:=(Array.getElem?_eq_some_iff.1 hb).1
 have hHolds:Sort.Holds (Value.int .i64) w x.B x.o l.toArray:=by
  intro j hj
  have hj':j < l.length:=by simpa using hj
  refine ⟨?_,?_⟩
  ·simp only[World.cell?,hb]
   rw[hrd j hj']
   simp[getElem!_pos,hj',Gc,Gd hj']
  ·simp[World.frozen?,hb]
 refine ⟨trivial,fun cs _=>?_⟩
 obtain ⟨e,w',fr,⟨rfl,n,os,rfl⟩,hst,hl2⟩:=h x.B x.o c w hc1 hHolds hB cs
 have hb1:(Sort.putRow (Value.int .i64) (Sort.ahead w n) x.B x.o l'.toArray).heap[x.B]? = some (.cells (Sort.putCells (Value.int .i64) x.o l'.toArray cells) elem (0,0)):=putRow_heap _ _ _ _ _ (by rw[Sort.heap_ahead]; exact hb)
 have hsz1:(Sort.putRow (Value.int .i64) (Sort.ahead w n) x.B x.o l'.toArray).heap.size=w.heap.size:=by rw[Sort.size_putRow]; rfl
 have hot:∀ B,B≠x.B→(Sort.putRow (Value.int .i64) (Sort.ahead w n) x.B x.o l'.toArray).heap[B]? = w.heap[B]?:=fun B hB=>by rw[putRow_other _ _ _ _ _ _ hB]; rfl
 have hget:∀ k,(Sort.putCells (Value.int .i64) x.o l'.toArray cells)[k]? = if x.o≤k∧k < x.o+l.length then some (Value.int .i64 (l'.getD (k-x.o) 0)) else cells[k]?:=by
  intro k
  rw[putCells_get]
  by_cases hk:x.o≤k∧k < x.o+l.length
  ·have h1:=hrd (k-x.o) (by omega)
   rw[show x.o+(k-x.o)=k by omega]at h1
   have h3:k-x.o < l'.length:=by omega
   rw[h1,if_pos hk,GA,if_pos (by simp; omega)]
   simp[getElem!_pos,h3,Gc,Gd h3]
  ·rw[if_neg hk]
   cases hck:cells[k]? with
   |none=>rfl
   |some v=>rw[GA,if_neg (by simp; omega)]
 have hobj:Y8 m.own m.imm x (.arr 1 (iz l')) (Sort.putRow (Value.int .i64) (Sort.ahead w n) x.B x.o l'.toArray):=by
  refine ⟨hz,_,elem,hb1,?_,?_,?_,?_⟩
  ·simp only[Sort.putCells,Array.size_mapIdx]; exact hsz
  ·rw[hz,Jf,hlen]; rw[Jf]at hle; exact hle
  ·intro j e he
   rw[hz]
   have hj:j < l'.length:=by
    have:=(G7.1 he).1
    rwa [Jf]at this
   simp only[iz,He,Gd hj,GA,GD]at he
   subst he
   refine ⟨rfl,fun t c hc=>?_⟩
   cases t with
   |zero=>
    simp only[List.getElem?_cons_zero,GD]at hc
    subst hc
    refine ⟨.int .i64 (l'[j]),?_,by simp only[rel]⟩
    show (Sort.putCells (Value.int .i64) x.o l'.toArray cells)[x.o+j*1+0]? = _
    rw[hget,if_pos (by omega),show x.o+j*1+0-x.o=j by omega,Gc,Gd hj]; rfl
   |succ t=>simp at hc
  ·intro i v hv
   rw[hget]at hv
   split at hv
   ·simp only[GD]at hv; subst hv; rfl
   ·exact hone i v hv
 have hsame:(Sort.putRow (Value.int .i64) (Sort.ahead w n) x.B x.o l'.toArray).os=w.os∧(Sort.putRow (Value.int .i64) (Sort.ahead w n) x.B x.o l'.toArray).output=w.output∧(Sort.putRow (Value.int .i64) (Sort.ahead w n) x.B x.o l'.toArray).tape=w.tape:=⟨rfl,rfl,rfl⟩
 have hs1:=hs.put hH rfl hx hsz1 hot (fun i hi=>by simp only[World.cell?,hb1,hb]; rw[hget,if_neg (show ¬ (x.o≤i∧i < x.o+l.length) by omega)]) hobj (by intro s b h; cases h)
 have he1:Ext H.length m H w m (H.set id (.arr 1 (iz l'))) _:=Ext.put hH rfl hx hsz1 hot hsame
 have hg:∀ B,B < (Sort.putRow (Value.int .i64) (Sort.ahead w n) x.B x.o l'.toArray).heap.size→(Sort.grow (Sort.putRow (Value.int .i64) (Sort.ahead w n) x.B x.o l'.toArray) os).heap[B]? = (Sort.putRow (Value.int .i64) (Sort.ahead w n) x.B x.o l'.toArray).heap[B]?:=fun B hB=>Sort.heap_grow_old _ _ hB
 have hgs:(Sort.putRow (Value.int .i64) (Sort.ahead w n) x.B x.o l'.toArray).heap.size≤(Sort.grow (Sort.putRow (Value.int .i64) (Sort.ahead w n) x.B x.o l'.toArray) os).heap.size:=by rw[Sort.size_grow]; omega
 exact ⟨_,_,fr,⟨R x.B x.o c,m,v,_,rfl,he1.trans (Ext.grown hgs hg ⟨rfl,rfl,rfl⟩),hs1.grown hgs hg,hR _ _ x c hx hz hc1 hcap (by simp only[GZ,Nat.mul_one,G6]at hroom; exact hroom),rfl,rfl⟩,(show StepsIn _ _ _ _ from JfG hst),hl2⟩
theorem callsC_sort {f id:Nat}{l:List Int}{cap:Option Nat}(hl:l≠[]) (hbig:l.length≤1000000) (hH:H[id]? = some (.arr 1 (iz l)))
  (h:∀ (blk off c:Nat) (w:World),Sort.Holds (Value.int .i64) w blk off l.toArray→blk < w.heap.size→l.length < 4611686018427387904→Calls P f #[.slice (some ⟨blk,off,none⟩) l.length c] w fun e w'=>e=.returned (.tuple #[])∧∃ n os,w'=Sort.grow (Sort.putRow (Value.int .i64) (Sort.ahead w n) blk off (l.mergeSort fun x y=>decide (x≤y)).toArray) os) :
  CallsC P E f [.slc id 0 l.length cap] H fun v' H'=>v'=.tup []∧H'=H.set id (.arr 1 (iz (l.mergeSort fun x y=>decide (x≤y)))):=
 Y3 (ys:=[]) (fun _ _ _=>.tuple #[]) hl (List.length_mergeSort _) hH (fun own imm x c _ _ _ _ _=>by simp only[rel,JM]; exact ⟨_,rfl,rfl⟩) fun blk off c w _ h1 h2=>h blk off c w h1 h2 (by omega)
theorem compact_len (l:List Int):(Lib.compact l).length≤l.length:=by
 unfold Lib.compact Lib.compactUpTo
 rw[Ld]
 have:=List.length_filter_le (Lib.keeps l.toArray) (Ga l.length)
 rwa [GL]at this
theorem JeD {f id:Nat}{l:List Int}{cap:Option Nat}(hl:l≠[]) (hbig:l.length≤1000000) (hH:H[id]? = some (.arr 1 (iz l)))
  (h:∀ (blk off c:Nat) (w:World),Sort.Holds (Value.int .i64) w blk off l.toArray→l.length≤9223372036854775807→l.length≤c→Calls P f #[.slice (some ⟨blk,off,none⟩) l.length c] w fun e w'=>e=.returned (.slice (some ⟨blk,off,none⟩) (Lib.compact l).length c)∧∃ n,w'=Sort.putRow (Value.int .i64) (Sort.ahead w n) blk off (Lib.compact l++Gh (l.length-(Lib.compact l).length) 0).toArray) :
  CallsC P E f [.slc id 0 l.length cap] H fun v' H'=>v'=.slc id 0 (Lib.compact l).length cap∧H'=H.set id (.arr 1 (iz (Lib.compact l++Gh (l.length-(Lib.compact l).length) 0))):=
 have hle:=compact_len l
 Y3 (ys:=[]) (fun blk off c=>.slice (some ⟨blk,off,none⟩) (Lib.compact l).length c) hl (by simp; omega) hH (fun own imm x c hx hz hc hcap hroom=>by
  simp only[rel]
  exact ⟨x,_,c,hx,rfl,by omega,hcap,fun _=>by rw[GZ,G6],by rw[hz]; omega⟩) fun blk off c w hc h1 _=>(h blk off c w h1 (by omega) hc).mono fun e w' ⟨h3,n,h4⟩=>⟨h3,n,#[],by rw[Sort.grow_empty]; exact h4⟩
theorem Y1 {l:List Int}{x:Int}:x∈Lib.compact l↔x∈l:=by
 unfold Lib.compact Lib.compactUpTo
 simp only[Gz,Gp,Gj]
 constructor
 ·rintro ⟨i,⟨hi,_⟩,rfl⟩
  rw[getElem!_pos l.toArray i (by simpa using hi)]
  simp
 ·intro hx
  have key:∀ (n i:Nat),i≤n→i < l.length→l.toArray[i]! = x→∃ i,(i < l.length∧Lib.keeps l.toArray i=true)∧l.toArray[i]! = x:=by
   intro n
   induction n with
   |zero=>intro i h1 h2 h3; exact ⟨i,⟨h2,by simp[Lib.keeps]; left; omega⟩,h3⟩
   |succ n ih=>
    intro i h1 h2 h3
    by_cases hk:Lib.keeps l.toArray i=true
    ·exact ⟨i,⟨h2,hk⟩,h3⟩
    ·simp only[Lib.keeps,decide_eq_true_eq,not_or,ne_eq,Classical.not_not]at hk
     exact ih (i-1) (by omega) (by omega) (by rw[← hk.2]; exact h3)
  obtain ⟨i,hi,rfl⟩:=G9 hx
  exact key i i (Gq _) hi (by rw[getElem!_pos l.toArray i (by simpa using hi)]; simp)
theorem Jd8 {l:List Int}(h:l.Pairwise (·≤·)):(Lib.compact l).Pairwise (· < ·):=by
 unfold Lib.compact Lib.compactUpTo
 rw[H7]
 refine List.Pairwise.imp_of_mem ?_ (Hy.filter _)
 intro a b ha hb hab
 simp only[Gp,Gj]at ha hb
 have hk:=hb.2
 simp only[Lib.keeps,decide_eq_true_eq]at hk
 have hk:=hk.resolve_left (by omega)
 have hg:∀ i,i < l.length→l.toArray[i]! = l.getD i 0:=fun i hi=>by
  rw[getElem!_pos l.toArray i (by simpa using hi),Gc,Gd hi]; simp
 rw[hg b hb.1,hg (b-1) (by omega)]at hk
 rw[hg a ha.1,hg b hb.1]
 rw[List.pairwise_iff_getElem]at h
 have hle:∀ i j,i≤j→j < l.length→l.getD i 0≤l.getD j 0:=fun i j hij hj=>by
  rw[Gc,Gc,Gd hj,Gd (show i < l.length by omega)]
  by_cases he:i=j
  ·subst he; exact Int.le_refl _
  ·exact h i j _ _ (by omega)
 have h1:=hle a (b-1) (by omega) (by omega)
 have h2:=hle (b-1) b (by omega) hb.1
 omega
theorem JfI (l:List Int):(l.mergeSort fun x y=>decide (x≤y)).Pairwise (·≤·):=by
 have:=List.pairwise_mergeSort (le:=fun x y:Int=>decide (x≤y)) (fun a b c h1 h2=>by simp at *; omega) (fun a b=>by simp; omega) l
 exact this.imp fun h=>by simpa using h
theorem JfH {l:List Int}{x:Int}:x∈(l.mergeSort fun x y=>decide (x≤y))↔x∈l:=List.mem_mergeSort
theorem sort_strict {l:List Int}(h:l.Nodup):(l.mergeSort fun x y=>decide (x≤y)).Pairwise (· < ·):=by
 have h1:=JfI l
 have h2:(l.mergeSort fun x y=>decide (x≤y)).Nodup:=(List.mergeSort_perm l _).nodup_iff.2 h
 exact (h1.and h2).imp fun ⟨a,b⟩=>by have:_≠_:=b; omega
end
end
end Go.Cm
end
section
namespace Go.Cm
section
def Xg (t:Tr) (o:List Int) (of:List Int) (s:Nat):List Nat→List Int
 |[]=>[]
 |i::l=>if (decide (0≤of.getD i (-1)) && ((nd t (of.getD i (-1)).toNat).k == 42 && ((nd t i).k == 3 && (Jae o i s && (Kb t (Kb t (of.getD i (-1)).toNat).toNat == Kb t s && !buL t (upL t (JH t s) t.nodes.length i) false)))))=true
  then Kb t (of.getD i (-1)).toNat::Xg t o of s l else Xg t o of s l
theorem needC_app {t:Tr}{o of:List Int}{s:Nat}:∀ (l m:List Nat),Xg t o of s (l++m)=Xg t o of s l++Xg t o of s m
 |[],_=>rfl
 |i::l,m=>by
  simp only[Gw,Xg,needC_app l m]
  split <;> simp
theorem JdC {t:Tr}{o of:List Int}{s:Nat}{x:Int}:∀ (l:List Nat),x∈Xg t o of s l↔∃ i∈l,(decide (0≤of.getD i (-1)) && ((nd t (of.getD i (-1)).toNat).k == 42 && ((nd t i).k == 3 && (Jae o i s && (Kb t (Kb t (of.getD i (-1)).toNat).toNat == Kb t s && !buL t (upL t (JH t s) t.nodes.length i) false)))))=true∧Kb t (of.getD i (-1)).toNat=x
 |[]=>by simp[Xg]
 |i::l=>by
  simp only[Xg,Gg,exists_eq_or_imp]
  split
  ·rename_i h
   rw[Gg,JdC l]
   constructor
   ·rintro (e | e)
    ·exact .inl ⟨h,e.symm⟩
    ·exact .inr e
   ·rintro (⟨_,e⟩ | e)
    ·exact .inl e.symm
    ·exact .inr e
  ·rename_i h
   rw[JdC l]
   constructor
   ·exact .inr
   ·rintro (⟨e,_⟩ | e)
    ·exact absurd e h
    ·exact e
theorem JdD {t:Tr}{o of:List Int}{s:Nat}:∀ (l:List Nat),(Xg t o of s l).length≤l.length
 |[]=>Gq _
 |i::l=>by
  have:=JdD (t:=t) (o:=o) (of:=of) (s:=s) l
  simp only[Xg]
  split <;> simp only[Gl] <;> omega
section
variable {t:Tr}{o:List Int}(g:GoodT t o)
include g
theorem blw_up {j a:Nat}(hj:j < t.nodes.length) (ha:a < t.nodes.length) (hne:j≠a):Jae o j a=if Kb t j < 0 then false else Jae o (Kb t j).toNat a:=by
 rcases Qv g hj with ⟨hp,_⟩ | ⟨m,hp,hjm,hm,hk⟩
 ·rw[hp,if_pos (by decide),Lj]
  intro h
  obtain ⟨m,q,_⟩:=Xf g ha (Kr.1 h) hne
  omega
 ·rw[hp,if_neg (by omega),Gb,Gn,Kr,Kr]
  constructor
  ·intro h
   obtain ⟨m',q1,_,_,q4,_⟩:=Xf g ha h hne
   have:m'=m:=by omega
   rw[← this]; exact q4
  ·intro h
   exact QT g ha (Qm g hm hk) h
omit g in
theorem JfD {top f m:Nat}:∃ l,upL t top f m=m::l:=by
 cases f with
 |zero=>exact ⟨_,rfl⟩
 |succ f=>unfold upL; split <;> exact ⟨_,rfl⟩
omit g in
theorem late_end {top f:Nat}{late:Bool}:buL t (upL t top f top) late=late:=by
 cases f with
 |zero=>rfl
 |succ f=>unfold upL; rw[if_pos rfl]; rfl
theorem late_step {s f a:Nat}{late:Bool}(hs:s < t.nodes.length) (htop:(JH t s:Int)∈(nd t s).kids) (hb:blw o a (JH t s)) (hf:t.nodes.length≤a+f) :
  (a=JH t s∧Kb t a=s)∨(a≠JH t s∧∃ m f':Nat,Kb t a=m∧m≠s∧a < m∧m < t.nodes.length∧blw o m (JH t s)∧(a:Int)∈(nd t m).kids∧t.nodes.length≤m+f'∧buL t (upL t (JH t s) f a) late=buL t (upL t (JH t s) f' m) (Jal t m a late)):=by
 have hk:=JW g hs htop
 by_cases he:a=JH t s
 ·exact .inl ⟨he,by rw[he]; exact hk.1⟩
 ·have htl:JH t s < t.nodes.length:=by omega
  obtain ⟨m,q1,q2,q3,q4,q5⟩:=Xf g htl hb he
  have hal:a < t.nodes.length:=by have:=hb.1; omega
  obtain ⟨f',rfl⟩:∃ f',f=f' + 1:=⟨f-1,by omega⟩
  refine .inr ⟨he,m,f',q1,by omega,q2,by omega,q4,q5,by omega,?_⟩
  have hu:upL t (JH t s) (f' + 1) a=a::upL t (JH t s) f' m:=by
   rw[upL,if_neg he,q1,Gb]
  obtain ⟨l,hl⟩:=JfD (top:=JH t s) (f:=f') (m:=m)
  rw[hu,hl,buL]
theorem set_kid {s:Nat}(hs:s < t.nodes.length) (hk:(nd t s).k=41):(JH t s:Int)∈(nd t s).kids∧0 < (nd t s).kids.length:=by
 obtain ⟨a,hN,hl,k1,k2⟩:=Jc0 g hs hk
 change (nd t s).kids.length=a+1 at hl
 exact ⟨(KY g hs (i:=(nd t s).kids.length-1) (by omega)).1,by omega⟩
theorem need_done {of:List Int}{s:Nat}:Lib.compact ((Xg t o of s (Ga t.nodes.length)).mergeSort fun x y=>decide (x≤y))=KD t o of s:=by
 refine Jel (Jd8 (JfI _)) (Jbb.filter _) fun x=>?_
 unfold KD
 rw[Y1,JfH,JdC,Gp,J2]
 simp only[Gx,Gj,Gf,beq_iff_eq,decide_eq_true_eq,GV]
 constructor
 ·rintro ⟨i,hi,⟨h1,h2,h3,h4,h5,h6⟩,rfl⟩
  have hm:=nd_in (t:=t) (i:=(of.getD i (-1)).toNat) (by omega)
  obtain ⟨u,q1,q2,q3,q4⟩:=Qs g hm (by omega)
  exact ⟨⟨by omega,by omega⟩,i,hi,h3,h1,h2,h4,rfl,h5,h6⟩
 ·rintro ⟨_,i,hi,h3,h1,h2,h4,rfl,h5,h6⟩
  exact ⟨i,hi,⟨h1,h2,h3,h4,h5,h6⟩,rfl⟩
end
end
section
theorem pairs_get {t:Tr}{q:Nat→Nat→Prop}:∀ (l:List Nat) (k:Nat),Jbt t q l→k+1 < l.length→q (l.getD (k+1) 0) (l.getD k 0)
 |[],_,_,h=>by simp at h
 |[x],_,_,h=>by simp at h
 |c::u::l,0,h,_=>h.1
 |c::u::l,k+1,h,hk=>by
  have:=pairs_get (u::l) k h.2 (by simpa using hk)
  simpa using this
theorem rev_get {l:List Nat}{i:Nat}(h:i < l.length):l.reverse.getD i 0=l.getD (l.length-1-i) 0:=by
 rw[Gc,List.getElem?_reverse h,Gc]
theorem pairs_rev {t:Tr}{q:Nat→Nat→Prop}{l:List Nat}{i:Nat}(h:Jbt t q l) (hi:i+1 < l.reverse.length):q (l.reverse.getD i 0) (l.reverse.getD (i+1) 0):=by
 rw[List.length_reverse]at hi
 rw[rev_get (by omega),rev_get (by omega)]
 have:=pairs_get l (l.length-1-(i+1)) h (by omega)
 rwa [show l.length-1-(i+1)+1=l.length-1-i by omega]at this
theorem tdL_drop {t:Tr}{l:List Nat}{i:Nat}(hi:i+1 < l.length):tdL t (l.drop i) false=match JgA t (l.getD i 0) (l.getD (i+1) 0) with | some b=>b | none=>tdL t (l.drop (i+1)) false:=by
 rw[Gt (show i < l.length by omega),Gt hi,tdL]
 simp only[Gc,Gd (show i < l.length by omega),Gd hi,GU]
 all_goals (cases JgA t l[i] l[i+1] <;> rfl)
theorem tdL_end {t:Tr}{l:List Nat}{i:Nat}(hi:l.length≤i+1):tdL t (l.drop i) false=false:=by
 rcases Lm i l.length with h | h
 ·rw[Gt h,GG (by omega)]; rfl
 ·rw[GG h]; rfl
def setL (b:List Bool):List Int:=((Ga b.length).filter fun i=>b.getD i false).map fun i:Nat=>(i:Int)
def KA (n:Nat) (f:Int→Bool):List Bool:=(Ga n).map fun i:Nat=>f i
theorem Qq {n:Nat}{f:Int→Bool}:(KA n f).length=n:=by simp[KA]
theorem Jft {n i:Nat}{f:Int→Bool}(h:i < n):(KA n f).getD i false=f i:=by
 simp[KA,Gc,h]
theorem Jfs {n i:Nat}{f g:Int→Bool}(h:i < n) (h1:∀ j:Nat,j < n→j≠i→g j=f j) (h2:g i=true):(KA n f).set i true=KA n g:=by
 refine GN (by simp[KA]) fun j a1 a2=>?_
 rw[Qq]at a2
 rw[List.getElem_set]
 simp only[KA,Hl,GK]
 split
 ·rename_i e; subst e; exact h2.symm
 ·rename_i e; exact (h1 j a2 (fun x=>e x.symm)).symm
theorem boolsN_congr {n:Nat}{f g:Int→Bool}(h:∀ j:Nat,j < n→f j=g j):KA n f=KA n g:=by
 unfold KA
 exact List.map_congr_left fun j hj=>h j (Gj.1 hj)
theorem JcS {n:Nat}:KA n (fun _=>false)=Gh n false:=by
 refine GN (by simp[KA]) fun j a1 a2=>?_
 simp[KA]
theorem JeO {t:Tr}{f:Int→Bool}:setL (KA t.nodes.length f)=(Kq t).filter f:=by
 unfold setL Kq
 rw[List.filter_map,Qq]
 congr 1
 refine H9 fun i hi=>?_
 rw[Jft (Gj.1 hi)]; rfl
def Jbe (t:Tr) (o of:List Int) (s:Nat) (x:Int) (i:Nat):Bool:=(nd t i).k == 3 && (decide (0≤of.getD i (-1)) && (Jae o i (JH t s) && ((nd t (of.getD i (-1)).toNat).k == 42 && (Kb t (of.getD i (-1)).toNat == x && (Kb t x.toNat == Kb t s && !tdL t (upL t (JH t s) t.nodes.length i).reverse false)))))
theorem needR_eq {t:Tr}{o of:List Int}{s:Nat}:Ye t o of s=setL (KA t.nodes.length fun x=>(Ga t.nodes.length).any (Jbe t o of s x)):=by
 rw[JeO]; rfl
section
variable {t:Tr}{o:List Int}(g:GoodT t o)
include g
theorem up_kids:∀ (f c top:Nat),top < t.nodes.length→blw o c top→Jbt t (fun u c=>(c:Int)∈(nd t u).kids∧u < t.nodes.length) (upL t top f c)
 |0,_,_,_,_=>trivial
 |f+1,c,top,htop,hct=>by
  unfold upL
  by_cases he:c=top
  ·rw[if_pos he]; trivial
  ·rw[if_neg he]
   obtain ⟨m,hp,hcm,hmt,hmb,hk⟩:=Xf g htop hct he
   rw[hp,Gb]
   have hm:m < t.nodes.length:=by omega
   have ih:=up_kids f m top htop hmb
   obtain ⟨l,hl⟩:=JfD (top:=top) (f:=f) (m:=m)
   rw[hl]at ih ⊢
   exact ⟨⟨hk,hm⟩,ih⟩
theorem up_rng:∀ (f c top:Nat),top < t.nodes.length→blw o c top→∀ x∈upL t top f c,x < t.nodes.length
 |0,c,top,htop,hct,x,hx=>by
  simp only[upL,Gr]at hx
  have:=hct.1; omega
 |f+1,c,top,htop,hct,x,hx=>by
  unfold upL at hx
  have:=hct.1
  by_cases he:c=top
  ·rw[if_pos he,Gr]at hx; omega
  ·rw[if_neg he]at hx
   obtain ⟨m,hp,hcm,hmt,hmb,hk⟩:=Xf g htop hct he
   rw[hp,Gb]at hx
   rcases Gg.1 hx with h | h
   ·omega
   ·exact up_rng f m top htop hmb x h
theorem way_step {top f a:Nat}(htop:top < t.nodes.length) (hb:blw o a top) (hf:t.nodes.length≤a+f) (hne:a≠top):∃ m f':Nat,Kb t a=m∧a < m∧m < t.nodes.length∧blw o m top∧t.nodes.length≤m+f'∧∀ w:List Nat,(upL t top f a).tail.reverse++w=(upL t top f' m).tail.reverse++(m::w):=by
 obtain ⟨m,q1,q2,q3,q4,q5⟩:=Xf g htop hb hne
 obtain ⟨f',rfl⟩:∃ f',f=f' + 1:=⟨f-1,by have:=hb.1; omega⟩
 refine ⟨m,f',q1,q2,by omega,q4,by omega,fun w=>?_⟩
 obtain ⟨l,hl⟩:=JfD (top:=top) (f:=f') (m:=m)
 rw[upL,if_neg hne,q1,Gb,Hq,hl,Hq,Ha,Hg]; rfl
omit g in
theorem way_start {top f a:Nat}:(upL t top f a).reverse=(upL t top f a).tail.reverse++[a]:=by
 obtain ⟨l,hl⟩:=JfD (top:=top) (f:=f) (m:=a)
 rw[hl,Ha,Hq]
omit g in
theorem way_end {top f:Nat}:(upL t top f top).tail=[]:=by
 cases f with
 |zero=>rfl
 |succ f=>rw[upL,if_pos rfl]; rfl
theorem up_len {top f a:Nat}(htop:top < t.nodes.length) (hb:blw o a top) (hf:t.nodes.length≤a+f):(upL t top f a).length≤t.nodes.length-a:=by
 induction f generalizing a with
 |zero=>have:=hb.1; omega
 |succ f ih=>
  unfold upL
  have:=hb.1
  by_cases he:a=top
  ·rw[if_pos he]; simp; omega
  ·rw[if_neg he]
   obtain ⟨m,q1,q2,q3,q4,q5⟩:=Xf g htop hb he
   rw[q1,Gb,Gl]
   have:=ih q4 (by omega)
   omega
end
end
section
section
variable {P:Program}{E:Env}{n0:Nat}{N:Fr}{Q:Exit→List CV→List CObj→Prop}{H:List CObj}{T:List CV}{k:List KItem}{m:Bk}{w:World}
theorem JfJ {id k:Nat}{o o':CObj}(h:(H.set id o')[k]? = some o):(k=id∧o=o')∨(k≠id∧H[k]? = some o):=by
 rw[H8]at h
 split at h
 ·rename_i e
  split at h
  ·exact .inl ⟨e.symm,(Hr h).symm⟩
  ·cases h
 ·rename_i e; exact .inr ⟨fun x=>e x.symm,h⟩
theorem Sim.trunc {id z:Nat}{els:List (List CV)}(hs:Sim E m H w) (hH:H[id]? = some (.arr z els)) (j:Nat):Sim E m (H.set id (.arr z (els.take j))) w∧Ext n0 m H w m (H.set id (.arr z (els.take j))) w:=by
 have key:∀ (k:Nat) o,(H.set id (.arr z (els.take j)))[k]? = some o→∃ o',H[k]? = some o'∧o'.alive=o.alive∧(k≠id→o'=o):=by
  intro k o h
  rcases JfJ h with ⟨rfl,rfl⟩ | ⟨h1,h2⟩
  ·exact ⟨_,hH,rfl,fun h=>absurd rfl h⟩
  ·exact ⟨o,h2,rfl,fun _=>rfl⟩
 refine ⟨⟨by rw[Ho]; exact hs.len,fun k o x hk hx=>?_,hs.imm,hs.one,fun k k' o o' x x' hk hk' ha ha' hx hx' hB=>?_,fun k o x hk ha hx=>?_,fun k s b hk=>?_,fun k o x hk ha hx=>?_,hs.extlt,hs.gl⟩,
  ⟨Gq _,fun _ _ _=>rfl,Kl.refl _,fun B hB=>.inl ?_,fun B i v hv=>.inl hv,fun k x _ hx=>hx,fun h=>h,rfl,rfl,rfl⟩⟩
 ·rcases JfJ hk with ⟨rfl,rfl⟩ | ⟨_,h2⟩
  ·obtain ⟨hz,c,elem,h1,h2,h3,h4,h5⟩:=hs.obj k _ x hH hx
   refine ⟨hz,c,elem,h1,h2,?_,fun i e he=>?_,h5⟩
   ·have:(els.take j).length*x.z≤els.length*x.z:=GX _ (by rw[Gu]; omega)
    omega
   ·have hij:i < j:=by
     have:=(G7.1 he).1
     rw[Gu]at this; omega
    rw[H5,if_pos hij]at he
    exact h4 i e he
  ·exact hs.obj k o x h2 hx
 ·obtain ⟨p,hp,hpa,_⟩:=key k o hk
  obtain ⟨p',hp',hpa',_⟩:=key k' o' hk'
  exact hs.sep k k' p p' x x' hp hp' (hpa.trans ha) (hpa'.trans ha') hx hx' hB
 ·obtain ⟨p,hp,hpa,_⟩:=key k o hk
  exact hs.ro k p x hp (hpa.trans ha) hx
 ·rcases JfJ hk with ⟨_,h2⟩ | ⟨_,h2⟩
  ·cases h2
  ·exact hs.ext k s b h2
 ·obtain ⟨p,hp,hpa,_⟩:=key k o hk
  exact hs.extsep k p x hp (hpa.trans ha) hx
 ·rcases hB with h | ⟨k,o,x,hk,ha,hx,hB⟩
  ·exact .inl h
  ·obtain ⟨p,hp,hpa,_⟩:=key k o hk
   exact .inr ⟨k,p,x,hp,hpa.trans ha,hx,hB⟩
theorem CallsC.trunc {f id z j:Nat}{args:List CV}{els:List (List CV)}{v:CV}{R R':CV→List CObj→Prop}(h:CallsC P E f args H R) (hR:∀ v H',R v H'→R' v H'∨∃ id z els j,H'[id]? = some (.arr z els)∧R' v (H'.set id (.arr z (els.take j)))):CallsC P E f args H R':=by
 intro m w vs hs hv
 refine (h m w vs hs hv).mono ?_
 rintro e w' ⟨r,m',v,H',h1,h2,h3,h4,h5⟩
 rcases hR _ _ h5 with g | ⟨id,z,els,j,g1,g2⟩
 ·exact ⟨r,m',v,H',h1,h2,h3,h4,g⟩
 ·obtain ⟨t1,t2⟩:=h3.trunc (n0:=H.length) g1 j
  exact ⟨r,m',v,_,h1,h2.trans t2,t1,h4,g2⟩
def rowW (id:Nat) (els:List (List CV)):CV:=.slc id 0 els.length (JbF els)
def Jep (P:Program) (f:Nat) (args:List CV) (z:Nat) (els:List (List CV)):Prop:=∀ (E:Env) (H:List CObj),CallsC P E f args H fun v H'=>v=rowW H.length els∧H'=H++[.arr z els]
theorem rowW_shift {els:List (List CV)}(i n:Nat) {own own':List Own}{imm:Nat→Nat→Option Value}{r:Value}(ho:∀ (k:Nat) x,own[k]? = some x→own'[n+k]? = some x) (h:rel own imm (rowW i els) r):rel own' imm (rowW (n+i) els) r:=by
 simp only[rowW,rel]at h ⊢
 obtain ⟨x,a,c,hx,g⟩:=h
 exact ⟨x,a,c,ho _ _ hx,g⟩
theorem JdX {f:Nat}{args:List CV}{z:Nat}{els:List (List CV)}(h:CallsC P Env.none f args [] fun v H'=>∃ id,v=rowW id els∧H'[id]? = some (.arr z els)) (ha:Jv args=true) (hc:Jw els=true):Jep P f args z els:=fun E H=>by
 refine CallsC.frameG (mk:=fun n=>rowW n els) (G:=[.arr z els]) (h.ren fun v H' ⟨id,hv,hH⟩=>⟨[id],?_,?_,?_⟩) ha (fun o ho=>by simp only[Gr]at ho; rw[ho]; exact .inr ⟨_,_,rfl,hc⟩) fun n own own' imm r ho h=>rowW_shift 0 n ho h
 ·have:=(G7.1 hH).1
  simp[Jet,this]
 ·rw[hv]; simp[rowW,ren,Jl]
 ·simp only[Ke,GR,Li,Gc,hH,GU,Ji,Ja hc]
theorem Jep.fn {f:Nat}{args:List CV}{z:Nat}{els:List (List CV)}(h:Jep P f args z els) (ha:Jv args=true) (hc:Jw els=true):Fn P f args (.rslc z els none):=by
 refine X8 (((h Env.none []).mono fun v H' ⟨h1,h2⟩=>?_)) ha rfl
 subst h1 h2
 refine .inr ⟨0,z,els,rfl,hc,?_⟩
 simp only[rowW,frz,Lc,if_true,Nat.zero_add,Gq,Lf,List.take_length]
 exact wk.refl _
theorem vr_rowW {d:Option Nat}{g:Option (Nat×Bool)}{f:Nat}{xa:List IArg}{l:List IOper}{z:Nat}{els:List (List CV)}(hg:GOk T g) (hcall:Jep P f (xa.map (Kc T)) z els) (h:Kn P E n0 N Q (.ops l::k) (put T d (rowW H.length els)) (H++[.arr z els])):Ok P E n0 N Q (.ops (⟨d,.call f xa,g⟩::l)::k) T H:=
 J8 hg (hcall E H) fun v H' ⟨h1,h2⟩=>by rw[h1,h2]; exact h
end
end
end Go.Cm
end
section
set_option maxRecDepth 100000
open Go.RowKit Go.Proofs
namespace Go.Cm
section
theorem inrU64 {x:Int}(h1:0≤x) (h2:x≤18446744073709551615):InR .u64 x:=⟨h1,h2⟩
section
variable {P:Program}{E:Env}{H:List CObj}{T:List CV}
theorem CallsC.wk {f:Nat}{args:List CV}{R R':CV→List CObj→Prop}(h:CallsC P E f args H R) (hR:∀ v H',R v H'→∃ v',Cm.wk v v'∧R' v' H'):CallsC P E f args H R':=by
 intro m w vs hs hv
 refine (h m w vs hs hv).mono ?_
 rintro e w' ⟨r,m',v,H',h1,h2,h3,h4,h5⟩
 obtain ⟨v',w1,w2⟩:=hR _ _ h5
 exact ⟨r,m',v',H',h1,h2,h3,w1 _ _ _ h4,w2⟩
theorem wk_cap {i o l c:Nat}:wk (.slc i o l (some c)) (.slc i o l none):=by
 intro own imm v h
 simp only[rel]at h ⊢
 obtain ⟨x,a,c',h1,h2,h3,h4,h5⟩:=h
 exact ⟨x,a,c',h1,h2,h3,fun _ h=>(by cases h),h5⟩
theorem hs_sl {d:Option Nat}{z:Nat}{x:IArg}{lo hi mx:Option IArg}{id off len:Nat}{cap:Option Nat}{c:Cond}{v:CV}(ha:Kc T x=.slc id off len cap) (he:exec (.slice z x lo hi mx) T H=some (c,v,H)) (hc:c.holds) :
  HS P E ⟨d,.slice z x lo hi mx,none⟩ T H v H (.on [id+1],.on []):=by
 refine ⟨fun _ _=>rfl,fun T2 H2 hag hx=>⟨H2,fun y hy=>(by cases hy),fun _ _=>rfl,fun _ _ _ _ _ hok=>?_⟩⟩
 have hH:H2[id]? = H[id]?:=by
  have:=hx (id+1) (by simp[Foot.has])
  simpa [hat]using this
 have hE:∀ lo hi mx,Xx z H2 (.slc id off len cap) lo hi mx=Xx z H (.slc id off len cap) lo hi mx:=fun lo hi mx=>by simp only[Xx,hH]
 have he2:exec (.slice z x lo hi mx) T2 H2=some (c,v,H2):=by
  rw[← Xw (Jm hag).2]
  simp only[exec,ha,hE]at he ⊢
  split at he
  ·split at he
   ·rename_i h1
    simp only[GD,Prod.mk.injEq]at he
    obtain ⟨rfl,rfl,_⟩:=he
    simp[h1]
   ·cases he
  ·cases he
 exact ok_op (.inl rfl) he2 hc hok
theorem sortRow {id:Nat}{l:List Int}{cap:Option Nat}(hl:l≠[]) (hbig:l.length≤1000000) (hH:H[id]? = some (.arr 1 (iz l))):CallsC Gs E 56 [.slc id 0 l.length cap] H fun v' H'=>v'=.tup []∧H'=H.set id (.arr 1 (iz (l.mergeSort fun x y=>decide (x≤y)))):=
 callsC_sort hl hbig hH fun blk off c w h1 h2 h3=>Tryz.slices_Sort_int blk off c l w h1 h2 h3
theorem Jfo {id:Nat}{l:List Int}{cap:Option Nat}(hl:l≠[]) (hbig:l.length≤1000000) (hH:H[id]? = some (.arr 1 (iz l))):CallsC Gs E 57 [.slc id 0 l.length cap] H fun v' H'=>v'=.slc id 0 (Lib.compact l).length cap∧H'=H.set id (.arr 1 (iz (Lib.compact l++Gh (l.length-(Lib.compact l).length) 0))):=
 JeD hl hbig hH fun blk off c w h1 h2 h3=>Tryz.slices_Compact_int blk off c l w h1 h2 h3
theorem deleteRow {id i:Nat}{l:List Int}{cap:Option Nat}(hi:i < l.length) (hH:H[id]? = some (.arr 1 (iz l))):CallsC Gs E 82 [.slc id 0 l.length cap,.int .i64 (i:Int),.int .i64 ((i+1:Nat):Int)] H fun v' H'=>v'=.slc id 0 (l.length-1) cap∧H'=H.set id (.arr 1 (iz (l.take i++l.drop (i+1)++[0]))):=
 Y3 (ys:=[(i:Int),((i+1:Nat):Int)]) (fun blk off c=>.slice (some ⟨blk,off,none⟩) (l.length-1) c) (by rintro rfl; simp at hi) (by simp; omega) hH (fun own imm x c hx hz hc hcap hroom=>by
  simp only[rel]
  exact ⟨x,_,c,hx,rfl,by omega,hcap,fun _=>by rw[GZ,G6],by rw[hz]; omega⟩) fun blk off c w hc h1 _=>(delOne Tryz.laysNm223 blk off c i (i+1) rfl l w h1 hc hi).mono fun e w' ⟨h3,n,h4⟩=>⟨h3,n,#[],by rw[Sort.grow_empty]; exact h4⟩
theorem sortNil:Fn Gs 56 [.nils] (.tup []):=by
 intro E H
 refine KG fun m w vs hs hv=>?_
 simp only[JM,rel]at hv
 obtain ⟨r,rs,e,rfl,rfl⟩:=hv
 have hvs:vs=#[.slice none 0 0]:=by cases vs; simp_all
 subst hvs
 exact ⟨_,(Tryz.slices_Sort_int_none none 0 w).mono fun e w' ⟨h1,h2⟩=>⟨h1,by rw[h2]; exact Below.refl _ _⟩,by simp only[rel,JM]; exact ⟨_,rfl,rfl⟩⟩
theorem Jfp:Fn Gs 57 [.nils] .nils:=by
 intro E H
 refine KG fun m w vs hs hv=>?_
 simp only[JM,rel]at hv
 obtain ⟨r,rs,e,rfl,rfl⟩:=hv
 have hvs:vs=#[.slice none 0 0]:=by cases vs; simp_all
 subst hvs
 exact ⟨_,(Tryz.slices_Compact_int_empty none 0 w).mono fun e w' ⟨h1,h2⟩=>⟨h1,by rw[h2]; exact Below.refl _ _⟩,by simp only[rel]⟩
theorem mulOne (m:Nat) (hm:m < 18446744073709551616):Fn Gs 157 [.int .u64 1,.int .u64 (m:Int)] (.tup [.int .u64 0,.int .u64 (m:Int)]):=by
 intro E H
 refine KG fun m' w vs hs hv=>?_
 simp only[JM,rel]at hv
 obtain ⟨r,rs,e,rfl,r2,rs2,rfl,rfl,rfl⟩:=hv
 have hvs:vs=#[.int .u64 ((1:Nat):Int),.int .u64 (m:Int)]:=by cases vs; simp_all
 subst hvs
 have h:=Tryz.bits_Mul 1 m (by omega) hm w
 rw[Nat.one_mul,Nat.div_eq_of_lt hm,Nat.mod_eq_of_lt hm]at h
 exact ⟨_,h.mono fun e w' ⟨h1,h2⟩=>⟨h1,by rw[h2]; exact Below.refl _ _⟩,by simp only[rel,JM]; exact ⟨_,rfl,_,_,rfl,rfl,_,_,rfl,rfl,rfl⟩⟩
end
def repS (v:Int) (m k:Nat):List Int:=Gh k v++Gh (m-k) 0
theorem repS_len {v:Int}{m k:Nat}(h:k≤m):(repS v m k).length=m:=by simp[repS]; omega
theorem repS_step {v:Int}{m k q:Nat}(h:k+q≤m) (hq:q≤k):(iz (repS v m k)).take k++((((iz (repS v m k)).take k).take q)++(iz (repS v m k)).drop (k+q))=iz (repS v m (k+q)):=by
 have h1:(repS v m k).take k=Gh k v:=by unfold repS; rw[List.take_left' (by simp)]
 have h2:(repS v m k).drop (k+q)=Gh (m-(k+q)) 0:=by
  unfold repS
  rw[List.drop_append,GG (by simp),List.length_replicate,GQ,HZ]
  congr 1; omega
 unfold iz
 rw[← Lg,← Lg,← List.map_drop,← Hm,← Hm,h1,h2,List.take_replicate,Nat.min_eq_left hq,← Hg,List.replicate_append_replicate]
 rfl
theorem repeatO (v:Int) (m:Nat) (hm:m≤100000) (E:Env) (H:List CObj):CallsC Gs E 126 [.rslc 1 (iz [v]) none,.int .i64 (m:Int)] H fun v' H'=>v'=.slc H.length 0 m none∧H'=H++[.arr 1 (iz (Gh m v))]:=by
 refine CallsC.frameG (mk:=fun n=>.slc n 0 m none) (G:=[.arr 1 (iz (Gh m v))]) (CallsC.wk (R:=fun v' H'=>v'=.slc 0 0 m (some m)∧H'=[.arr 1 (iz (Gh m v))]) (J7 c126_ok fun N=>?_) fun v' H' ⟨e1,e2⟩=>⟨.slc 0 0 m none,by rw[e1]; exact wk_cap,rfl,e2⟩) rfl (fun o ho=>by simp only[Gr]at ho; rw[ho]; exact .inr ⟨_,_,rfl,Jd _⟩) (fun n own own' imm r ho h=>by
  simp only[rel]at h ⊢
  obtain ⟨x,a,c,hx,g⟩:=h
  exact ⟨x,a,c,ho _ _ hx,g⟩)
 have d0:((m:Int) < 0)=False:=Jn
 have d1:((m:Int) > 9223372036854775807)=False:=Jn
 have d1':((9223372036854775807:Int) < (m:Int))=False:=Jn
 have dm:decide ((9223372036854775807:Int) < (m:Int))=false:=decide_eq_false (by omega)
 simp -implicitDefEqProofs only[c126,go_sem,d0,iz,GR,Li,Gl,Lc]
 refine ⟨inrU64 (by omega) (by omega),inrU64 (by omega) (by omega),?_⟩
 refine JR (mulOne m (by omega)) ?_
 simp -implicitDefEqProofs only[go_sem,d1,d1',dm]
 refine ⟨Jj,⟨by omega,Int.le_refl _,by omega,by omega⟩,by simp,?_⟩
 refine JC (I:=fun k:Nat=>(m=0∨1≤k)∧k≤m) (inv:=fun k=>gp [(7,.slc 0 0 m (some m)),(0,.int .i64 (k:Int))] 39) (hp:=fun k=>[.arr 1 (iz (repS v m k))]) (μ:=fun k=>m-k) (min 1 m) ⟨by omega,by omega⟩ ?_ ?_ ?_
 ·simp[forget,gp]
 ·rcases Nat.eq_zero_or_pos m with rfl | h
  ·simp[repS,iz]
  ·rw[show min 1 m=1 by omega]; simp[repS,iz,HZ]
 ·rintro k ⟨hk1,hk2⟩
  by_cases hlt:k < m
  ·have e1:((k:Int) < (m:Int))=True:=Jo
   obtain ⟨q,hq⟩:∃ q,q=min k (m-k):=⟨_,rfl⟩
   have hqk:q≤k:=by omega
   have hst:=repS_step (v:=v) (m:=m) (k:=k) (q:=q) (by omega) hqk
   have hL:(iz (repS v m k)).length=m:=by rw[Jf,repS_len hk2]
   simp -implicitDefEqProofs only[go_sem,e1]
   refine YL [Foot.no,Foot.no,Foot.no,(.on [1],.on []),Foot.no,Foot.no,(.on [1],.on []),Foot.any,Foot.no,Foot.no] Jz (by decide +kernel) ?_
   refine ⟨_,_,Yt rfl rfl trivial,_,_,Yt rfl rfl trivial,_,_,Yt rfl rfl trivial,_,_,hs_sl (id:=0) (off:=0) (len:=m) (cap:=some m) rfl rfl ?_,_,_,Yt rfl rfl trivial,_,_,Yt rfl rfl trivial,_,_,hs_sl (id:=0) (off:=0) (len:=m) (cap:=some m) rfl rfl ?_,.int .i64 (q:Int),[.arr 1 (iz (repS v m (k+q)))],?_,_,_,Yt rfl rfl ?_,_,_,Yt rfl rfl trivial,?_⟩
   ·show 0≤(k:Int)∧(k:Int)≤(m:Int)∧(m:Int)≤(m:Int); omega
   ·show 0≤(0:Int)∧(0:Int)≤(k:Int)∧(k:Int)≤(m:Int); omega
   ·refine hs_any (.inl rfl) (c:=.le m m) ?_ (Gq m)
    simp -implicitDefEqProofs only[go_sem]
    have hx:(List.take k (iz (repS v m k))).length=k:=by rw[Gu,hL]; omega
    rw[Nat.sub_zero,if_pos (by omega)]
    simp only[hx,hL,← hq,hst]
    rw[show k+(m-k)=m by omega]
   ·exact Jj
   ·simp -implicitDefEqProofs only[vdf,go_sem]
    refine ⟨k+q,⟨by omega,by omega⟩,by omega,?_⟩
    simp[forget]
  ·have e1:((k:Int) < (m:Int))=False:=Jn
   have hkm:k=m:=by omega
   subst hkm
   simp -implicitDefEqProofs only[go_sem,e1]
   simp[repS,iz]
end
end Go.Cm
end
end
