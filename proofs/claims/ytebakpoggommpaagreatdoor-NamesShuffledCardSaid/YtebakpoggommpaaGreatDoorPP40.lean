/-
  A part of the proof. Conditions: none.
-/
import Derived.Test.YtebakpoggommpaaGreatDoorPP12
import Derived.Lib.SlicesCompact
set_option linter.unusedSimpArgs false
set_option linter.unusedVariables false
open List renaming getD_eq_getElem?_getD→Gb,getElem?_eq_getElem→Gc,mem_replicate→Gi,replicate→Gd,mem_cons→Gf,length_cons→Gj,mem_append→Gl,range→Gg,mem_filter→Gn,mem_range→Gp,mem_singleton→Gs,getElem?_eq_none→Gy,length_take→Gt,filter_cons→Gu,pairwise_cons→Gz,length_append→GA,getElem?_eq_some_iff→GN,getElem_mem→GD,ext_getElem→GG,filter_eq_nil_iff→GQ,mem_map→Gv,getElem_of_mem→GR,map_cons→GH,getElem_range→GU,nodup_append→GV,getElem?_map→GX,find?_filter→GY,getElem_map→GZ,any_eq_true→G5,map_append→G6,length_set→G7,find?_cons→G8,drop_eq_getElem_cons→Hf,pairwise_lt_range→Hg,take_append_drop→Hl,filter_eq_self→Hm,drop_replicate→Ho,getElem?_take→Hq,filter_append→Hr,pairwise_map→Ht,length_range→Hu,getElem?_set→Hw,mem_flatten→Hy,nodup_cons→Hz,length_nil→HV,length_map→HY,append_nil→HZ,map_take→H5,map_nil→H6
open Option renaming map_some→Gw,getD_some→G9
open Option.some renaming injEq→Gx,inj→H7
open Bool renaming and_eq_true→Gh,eq_iff_iff→Gr,not_eq_true'→Ha,eq_false_iff→H8,or_eq_true→H9
open Int renaming toNat_natCast→Ga,toNat_of_nonneg→Hd
open Nat renaming le_refl→Gm,mul_le_mul_right→GI,lt_succ_self→GJ,zero_mul→GK,le_of_lt→GL,add_zero→GM,add_mul→He
open Go.Proofs.Tryz renaming prog→Gq
noncomputable section
section
namespace Go.Cm
section
theorem YJ {k : Nat} (c : UInt8) (m : Nat) (h : JcG k = c) (hm : (c, m) ∈ ([(66, 40), (83, 41), (98, 42), (73, 43), (78, 44), (71, 45), (79, 48), (80, 64)] : List (UInt8 × Nat))) : k = m := by
  unfold JcG letter at h
  simp only [Gf, List.not_mem_nil, or_false, Prod.mk.injEq] at hm
  by_cases a1 : 1 ≤ k ∧ k ≤ 29
  · rw [if_pos a1] at h; rcases hm with ⟨rfl, rfl⟩ | ⟨rfl, rfl⟩ | ⟨rfl, rfl⟩ | ⟨rfl, rfl⟩ | ⟨rfl, rfl⟩ | ⟨rfl, rfl⟩ | ⟨rfl, rfl⟩ | ⟨rfl, rfl⟩ <;> exact absurd h (by decide)
  rw [if_neg a1] at h
  by_cases a2 : 60 ≤ k ∧ k ≤ 63
  · rw [if_pos a2] at h; rcases hm with ⟨rfl, rfl⟩ | ⟨rfl, rfl⟩ | ⟨rfl, rfl⟩ | ⟨rfl, rfl⟩ | ⟨rfl, rfl⟩ | ⟨rfl, rfl⟩ | ⟨rfl, rfl⟩ | ⟨rfl, rfl⟩ <;> exact absurd h (by decide)
  rw [if_neg a2] at h
  by_cases a3 : k = 46 ∨ k = 47
  · rw [if_pos a3] at h; rcases hm with ⟨rfl, rfl⟩ | ⟨rfl, rfl⟩ | ⟨rfl, rfl⟩ | ⟨rfl, rfl⟩ | ⟨rfl, rfl⟩ | ⟨rfl, rfl⟩ | ⟨rfl, rfl⟩ | ⟨rfl, rfl⟩ <;> exact absurd h (by decide)
  rw [if_neg a3] at h
  rcases (show k = 40 ∨ k = 41 ∨ k = 42 ∨ k = 43 ∨ k = 44 ∨ k = 45 ∨ k = 48 ∨ k = 64 ∨ k = 65 ∨ (k ≠ 40 ∧ k ≠ 41 ∧ k ≠ 42 ∧ k ≠ 43 ∧ k ≠ 44 ∧ k ≠ 45 ∧ k ≠ 48 ∧ k ≠ 64 ∧ k ≠ 65) by omega) with rfl | rfl | rfl | rfl | rfl | rfl | rfl | rfl | rfl | ⟨b1, b2, b3, b4, b5, b6, b7, b8, b9⟩
  all_goals first
    | (rcases hm with ⟨rfl, rfl⟩ | ⟨rfl, rfl⟩ | ⟨rfl, rfl⟩ | ⟨rfl, rfl⟩ | ⟨rfl, rfl⟩ | ⟨rfl, rfl⟩ | ⟨rfl, rfl⟩ | ⟨rfl, rfl⟩ <;> first | rfl | exact absurd h (by decide))
    | (rw [if_neg b1, if_neg b2, if_neg b3, if_neg b4, if_neg b5, if_neg b6, if_neg b7, if_neg b8, if_neg b9] at h
       rcases hm with ⟨rfl, rfl⟩ | ⟨rfl, rfl⟩ | ⟨rfl, rfl⟩ | ⟨rfl, rfl⟩ | ⟨rfl, rfl⟩ | ⟨rfl, rfl⟩ | ⟨rfl, rfl⟩ | ⟨rfl, rfl⟩ <;> exact absurd h (by decide))
theorem Jdk {k:Nat}(h:JcG k=116):60≤k∧k≤63:=by
 unfold JcG letter at h
 by_cases a1:1≤k∧k≤29
 ·rw[if_pos a1]at h; exact absurd h (by decide)
 rw[if_neg a1]at h
 by_cases a2:60≤k∧k≤63
 ·exact a2
 exfalso
 rw[if_neg a2]at h
 repeat' (split at h)
 all_goals exact absurd h (by decide)
theorem Jdl {k:Nat}(h:JcG k=101):1≤k∧k≤29:=by
 by_cases a1:1≤k∧k≤29
 ·exact a1
 exfalso
 unfold JcG letter at h
 rw[if_neg a1]at h
 repeat' (split at h)
 all_goals exact absurd h (by decide)
section
variable {t:Tr}{o:List Int}(g:GoodT t o)
include g
omit g in
theorem QG {u:Nat}(hu:u < t.nodes.length) {a b:Int}{c:UInt8}(h:JQ (lets t.nodes (t.nodes.getD u default)) a b c=true) {i:Nat}(h1:a≤i) (h2:(i:Int) < b):i < (t.nodes.getD u default).kids.length∧JcG (Jn t.nodes ((t.nodes.getD u default).kids.getD i 0))=c:=by
 obtain ⟨p1,p2,p3,p4⟩:=JR.1 h
 rw[QF]at p3
 have hi:i < (t.nodes.getD u default).kids.length:=by omega
 refine ⟨hi,?_⟩
 have hg:((lets t.nodes (t.nodes.getD u default)).take b.toNat).drop a.toNat=Gd (b.toNat-a.toNat) c:=p4
 have hx:(((lets t.nodes (t.nodes.getD u default)).take b.toNat).drop a.toNat)[i-a.toNat]? = some c:=by
  rw[hg,List.getElem?_replicate,if_pos (by omega)]
 rw[List.getElem?_drop,Hq,if_pos (by omega),show a.toNat+(i-a.toNat)=i by omega]at hx
 unfold lets at hx
 rw[GX,Gc hi]at hx
 simp only[Gw,Gx]at hx
 rw[Gb,Gc hi]
 exact hx
theorem Jdm {u:Nat}(hu:u < t.nodes.length):KX (t.nodes.getD u default).k (t.nodes.getD u default).n (lets t.nodes (t.nodes.getD u default))=true:=by
 have h:=g.nds (t.nodes.getD u default) (by rw[rowN hu]; exact GD hu)
 unfold ndI at h
 rw[node_eq]at h
 simp only[J3,Gh]at h
 exact h.1.1
theorem Jbz {u:Nat}(hu:u < t.nodes.length) (hk:(t.nodes.getD u default).k=28):∃ a b:Nat,(t.nodes.getD u default).n=(a:Int)∧a+1≤b∧b < (t.nodes.getD u default).kids.length∧
  (∀ i,i < a→Jn t.nodes ((t.nodes.getD u default).kids.getD i 0)=43)∧(1≤Jn t.nodes ((t.nodes.getD u default).kids.getD a 0)∧Jn t.nodes ((t.nodes.getD u default).kids.getD a 0)≤29)∧
  (∀ i,a+1≤i→i < b→Jn t.nodes ((t.nodes.getD u default).kids.getD i 0)=41)∧(∀ i,b≤i→i+1 < (t.nodes.getD u default).kids.length→Jn t.nodes ((t.nodes.getD u default).kids.getD i 0)=44)∧
  Jn t.nodes ((t.nodes.getD u default).kids.getD ((t.nodes.getD u default).kids.length-1) 0)=45:=by
 have h:=Jdm g hu
 rw[hk]at h
 unfold KX at h
 rw[if_neg (by omega),if_neg (by omega),if_neg (by omega),if_neg (by omega),if_neg (by omega),if_neg (by omega),if_neg (by omega),if_neg (by omega),if_neg (by omega),if_neg (by omega),if_neg (by omega),if_neg (by omega),if_pos rfl]at h
 simp only[Gh,decide_eq_true_eq,QF]at h
 obtain ⟨⟨⟨⟨⟨⟨q0,q1⟩,q2⟩,q3⟩,q4⟩,q5⟩,q6⟩:=h
 generalize hb:K9 83 (lets t.nodes (t.nodes.getD u default))=c at q4 q5
 obtain ⟨a,ha⟩:∃ a:Nat,(t.nodes.getD u default).n=(a:Int):=⟨_,(Hd q0).symm⟩
 rw[ha]at q1 q2 q3 q4 q5
 have r5:=JR.1 q5
 have r6:=JR.1 q6
 rw[QF]at r5 r6
 refine ⟨a,a+1+c,ha,by omega,by omega,fun i hi=>?_,?_,fun i h1 h2=>?_,fun i h1 h2=>?_,?_⟩
 ·exact YJ 73 43 (QG hu q2 (by omega) (by omega)).2 (by simp)
 ·exact Jdl (QG hu q3 (i:=a) (by omega) (by omega)).2
 ·exact YJ 83 41 (QG hu q4 (by omega) (by omega)).2 (by simp)
 ·exact YJ 78 44 (QG hu q5 (by omega) (by omega)).2 (by simp)
 ·exact YJ 71 45 (QG hu q6 (i:=(t.nodes.getD u default).kids.length-1) (by omega) (by omega)).2 (by simp)
theorem Jfc {u:Nat}(hu:u < t.nodes.length) (hk:(t.nodes.getD u default).k=41):∃ a:Nat,(t.nodes.getD u default).n=(a:Int)∧(t.nodes.getD u default).kids.length=a+1∧
  (∀ i,i < a→Jn t.nodes ((t.nodes.getD u default).kids.getD i 0)=42)∧(1≤Jn t.nodes ((t.nodes.getD u default).kids.getD a 0)∧Jn t.nodes ((t.nodes.getD u default).kids.getD a 0)≤29):=by
 have h:=Jdm g hu
 rw[hk]at h
 unfold KX at h
 rw[if_neg (by omega),if_neg (by omega),if_neg (by omega),if_neg (by omega),if_neg (by omega),if_neg (by omega),if_neg (by omega),if_pos rfl]at h
 simp only[Gh,beq_iff_eq,QF]at h
 have r:=JR.1 h.1.2
 obtain ⟨a,ha⟩:∃ a:Nat,(t.nodes.getD u default).n=(a:Int):=⟨_,(Hd r.2.1).symm⟩
 rw[ha]at h
 refine ⟨a,ha,by omega,fun i hi=>?_,?_⟩
 ·exact YJ 98 42 (QG hu h.1.2 (by omega) (by omega)).2 (by simp)
 ·exact Jdl (QG hu h.2 (i:=a) (by omega) (by omega)).2
theorem def_kids {u:Nat}(hu:u < t.nodes.length) (hk:(t.nodes.getD u default).k=65):∃ a:Nat,(t.nodes.getD u default).n=(a:Int)∧a < (t.nodes.getD u default).kids.length∧
  (∀ i,i < a→Jn t.nodes ((t.nodes.getD u default).kids.getD i 0)=64)∧(∀ i,a≤i→i+1 < (t.nodes.getD u default).kids.length→60≤Jn t.nodes ((t.nodes.getD u default).kids.getD i 0)∧Jn t.nodes ((t.nodes.getD u default).kids.getD i 0)≤63)∧Jn t.nodes ((t.nodes.getD u default).kids.getD ((t.nodes.getD u default).kids.length-1) 0)=40:=by
 have h:=Jdm g hu
 rw[hk]at h
 unfold KX at h
 rw[if_neg (by omega),if_neg (by omega),if_neg (by omega),if_neg (by omega),if_neg (by omega),if_neg (by omega),if_neg (by omega),if_neg (by omega),if_neg (by omega),if_neg (by omega),if_neg (by omega),if_pos rfl]at h
 simp only[Gh,QF]at h
 have r:=JR.1 h.1.1
 have r2:=JR.1 h.2
 rw[QF]at r r2
 obtain ⟨a,ha⟩:∃ a:Nat,(t.nodes.getD u default).n=(a:Int):=⟨_,(Hd r.2.1).symm⟩
 have r3:=JR.1 h.1.2
 rw[ha]at h r r3
 refine ⟨a,ha,by omega,fun i hi=>?_,fun i h1 h2=>?_,?_⟩
 ·exact YJ 80 64 (QG hu h.1.1 (by omega) (by omega)).2 (by simp)
 ·exact Jdk (QG hu h.1.2 (by omega) (by omega)).2
 ·exact YJ 66 40 (QG hu h.2 (i:=(t.nodes.getD u default).kids.length-1) (by omega) (by omega)).2 (by simp)
theorem Y3 {u:Nat}(hu:u < t.nodes.length) (hk:(t.nodes.getD u default).k=47):(t.nodes.getD u default).kids.length=3∧(∀ i,i < 2→Jn t.nodes ((t.nodes.getD u default).kids.getD i 0)=48)∧
  (1≤Jn t.nodes ((t.nodes.getD u default).kids.getD 2 0)∧Jn t.nodes ((t.nodes.getD u default).kids.getD 2 0)≤29):=by
 have h:=Jdm g hu
 rw[hk]at h
 unfold KX at h
 rw[if_neg (by omega),if_neg (by omega),if_neg (by omega),if_neg (by omega),if_neg (by omega),if_neg (by omega),if_neg (by omega),if_neg (by omega),if_neg (by omega),if_neg (by omega),if_pos rfl]at h
 simp only[Gh,beq_iff_eq,QF]at h
 refine ⟨by omega,fun i hi=>?_,?_⟩
 ·exact YJ 79 48 (QG hu h.1.2 (by omega) (by omega)).2 (by simp)
 ·exact Jdl (QG hu h.2 (i:=2) (by omega) (by omega)).2
omit g in
theorem JdF {k:Nat}{hv:List UInt8}{c:UInt8}(h:c∈Qb k hv):(c=80→k=65)∧(c=73→k=28)∧(c=98→k=41)∧(c=83→k=40∨k=28)∧(c=99→k=29)∧(c=78→k=28)∧(c=116→k=25∨k=62∨k=63∨k=64∨k=42∨k=65)∧(c=79→k=46∨k=47)∧c≠68:=by
 unfold Qb at h
 dsimp only at h
 by_cases e0:4≤k∧k≤18
 ·rw[if_pos e0]at h
  refine ⟨?_,?_,?_,?_,?_,?_,?_,?_,?_⟩ <;> rintro rfl <;> first | omega | simp[Gi]at h
 rw[if_neg e0]at h
 by_cases e1:(19≤k∧k≤24)∨k=43∨k=44
 ·rw[if_pos e1]at h
  refine ⟨?_,?_,?_,?_,?_,?_,?_,?_,?_⟩ <;> rintro rfl <;> first | omega | simp[Gi]at h
 rw[if_neg e1]at h
 by_cases e2:k=25∨k=62∨k=63∨k=64
 ·rw[if_pos e2]at h
  refine ⟨?_,?_,?_,?_,?_,?_,?_,?_,?_⟩ <;> rintro rfl <;> first | omega | simp[Gi]at h
 rw[if_neg e2]at h
 by_cases e3:k=26∨k=45
 ·rw[if_pos e3]at h
  refine ⟨?_,?_,?_,?_,?_,?_,?_,?_,?_⟩ <;> rintro rfl <;> first | omega | simp[Gi]at h
 rw[if_neg e3]at h
 by_cases e4:k=27
 ·rw[if_pos e4]at h
  refine ⟨?_,?_,?_,?_,?_,?_,?_,?_,?_⟩ <;> rintro rfl <;> first | omega | simp[Gi]at h
 rw[if_neg e4]at h
 by_cases e5:k=28
 ·rw[if_pos e5]at h
  refine ⟨?_,?_,?_,?_,?_,?_,?_,?_,?_⟩ <;> rintro rfl <;> first | omega | simp[Gi]at h
 rw[if_neg e5]at h
 by_cases e6:k=29
 ·rw[if_pos e6]at h
  refine ⟨?_,?_,?_,?_,?_,?_,?_,?_,?_⟩ <;> rintro rfl <;> first | omega | simp[Gi]at h
 rw[if_neg e6]at h
 by_cases e7:k=40
 ·rw[if_pos e7]at h
  refine ⟨?_,?_,?_,?_,?_,?_,?_,?_,?_⟩ <;> rintro rfl <;> first | omega | simp[Gi]at h
 rw[if_neg e7]at h
 by_cases e8:k=41
 ·rw[if_pos e8]at h
  refine ⟨?_,?_,?_,?_,?_,?_,?_,?_,?_⟩ <;> rintro rfl <;> first | omega | simp[Gi]at h
 rw[if_neg e8]at h
 by_cases e9:k=42∧hv≠[]
 ·rw[if_pos e9]at h
  refine ⟨?_,?_,?_,?_,?_,?_,?_,?_,?_⟩ <;> rintro rfl <;> first | omega | simp[Gi]at h
 rw[if_neg e9]at h
 by_cases e10:k=46
 ·rw[if_pos e10]at h
  refine ⟨?_,?_,?_,?_,?_,?_,?_,?_,?_⟩ <;> rintro rfl <;> first | omega | simp[Gi]at h
 rw[if_neg e10]at h
 by_cases e11:k=47
 ·rw[if_pos e11]at h
  refine ⟨?_,?_,?_,?_,?_,?_,?_,?_,?_⟩ <;> rintro rfl <;> first | omega | simp[Gi]at h
 rw[if_neg e11]at h
 by_cases e12:k=65
 ·rw[if_pos e12]at h
  refine ⟨?_,?_,?_,?_,?_,?_,?_,?_,?_⟩ <;> rintro rfl <;> first | omega | simp[Gi]at h
 rw[if_neg e12]at h
 simp at h
theorem par_kind {u:Nat}(hu:u < t.nodes.length) {c:Int}(hc:c∈(t.nodes.getD u default).kids):JcG (Jn t.nodes c)∈Qb (t.nodes.getD u default).k (lets t.nodes (t.nodes.getD u default)):=by
 have h:=g.nds (t.nodes.getD u default) (by rw[rowN hu]; exact GD hu)
 unfold ndI JU at h
 simp only[Gh,beq_iff_eq]at h
 rw[← h.1.1.1.2]
 unfold lets
 exact List.mem_map_of_mem hc
end
end
section
section
variable {t:Tr}{o:List Int}(g:GoodT t o)
def nd (t:Tr) (j:Nat):Nd:=t.nodes.getD j default
def blw (o:List Int) (j a:Nat):Prop:=j≤a∧fs o a≤j
include g
theorem JJ {n m:Nat}(hm:m < t.nodes.length) (h:(n:Int)∈(nd t m).kids):KG t n=m∧n < m:=by
 have hr:=g.kid hm h
 rcases Qp g (n:=n) (by omega) with ⟨_,h2⟩ | ⟨m',h1,h2,h3,h4⟩
 ·exact absurd h (h2 m hm)
 ·have:=g.ord.parent_one (JS hm) (JS h3) h h4
  subst this
  exact ⟨h1,h2⟩
theorem fs_le {a:Nat}(ha:a < t.nodes.length):0≤fs o a∧fs o a≤a:=JfJ g.ord.ok (by omega) (by rw[g.olen]; omega)
theorem QH {a:Nat}(ha:a < t.nodes.length):blw o a a:=⟨Gm _,(fs_le g ha).2⟩
theorem Kr {i j a:Nat}(ha:a < t.nodes.length) (h1:blw o i j) (h2:blw o j a):blw o i a:=by
 have:=g.ord.nest a j (by rw[Qg]; exact ha) (by omega) h2.2 (by have:=h2.1; omega)
 refine ⟨Nat.le_trans h1.1 h2.1,?_⟩
 have:=h1.2
 omega
theorem KC {n m:Nat}(hm:m < t.nodes.length) (h:(n:Int)∈(nd t m).kids):blw o n m:=by
 have h1:=g.ord.kid_rng (JS hm) h
 have h2:=(fs_le g (a:=n) (by omega)).2
 exact ⟨by omega,by omega⟩
theorem Jar {j u:Nat}(hu:u < t.nodes.length) (h:blw o j u):j=u∨∃ c:Nat,(c:Int)∈(nd t u).kids∧blw o j c:=by
 by_cases he:j=u
 ·exact .inl he
 ·have h1:=h.1
  obtain ⟨c,hc,h3,h4⟩:=QY g.ord.ok rfl _ _ _ (j:Int) (g.ord.kids (JS hu)) h.2 (by omega)
  have hr:=g.kid hu hc
  obtain ⟨c,rfl⟩:∃ k:Nat,c=(k:Int):=⟨c.toNat,by omega⟩
  exact .inr ⟨c,hc,by omega,h3⟩
theorem JfC {j u c d:Nat}(hu:u < t.nodes.length) (hc:(c:Int)∈(nd t u).kids) (hd:(d:Int)∈(nd t u).kids) (h1:blw o j c) (h2:blw o j d):c=d:=by
 have a1:=h1.1
 have a2:=h2.1
 have:=JdP g.ord.ok rfl _ _ _ (j:Int) c d (g.ord.kids (JS hu)) hc hd h1.2 (by omega) h2.2 (by omega)
 omega
theorem XP {j a:Nat}(ha:a < t.nodes.length) (h:blw o j a) (hne:j≠a):∃ m:Nat,KG t j=m∧j < m∧m≤a∧blw o m a∧(j:Int)∈(nd t m).kids:=by
 have h1:=h.1
 obtain ⟨m,q1,q2,q3⟩:=par_in g a j ha h.2 (by omega)
 have:=(JJ g (show m < t.nodes.length by omega) q3).1
 exact ⟨m,this,q1,q2,⟨q2,by have:=h.2; omega⟩,q3⟩
def Qx (t:Tr) (u k:Nat):List Int:=(nd t u).kids.filter fun c=>Jn t.nodes c == k
def YB (t:Tr) (u:Nat):List Int:=((Qx t u 41).map fun s=>Qx t s.toNat 42).flatten
def JaV (t:Tr) (u a:Nat):List Int:=
 if (nd t u).k=40 then YB t u
 else if (nd t u).k=65 then Qx t u 64
 else if (nd t u).k=47 then (if (a:Int)=(nd t u).kids.getD 2 0 then [(u:Int)] else [])
 else if (nd t u).k=28 then (if (nd t a).k=43 then [] else if (nd t a).k=41∨(nd t a).k=44 then Qx t u 43++YB t u else Qx t u 43)
 else []
def Xu (t:Tr):Nat→Nat→List Int
 |0,_=>[]
 |f+1,a=>if KG t a < 0 then [] else JaV t (KG t a).toNat a++Xu t f (KG t a).toNat
def inS (t:Tr) (o:List Int) (d:Int) (j:Nat):Prop:=∃ u a:Nat,u < t.nodes.length∧(a:Int)∈(nd t u).kids∧blw o j a∧d∈JaV t u a
theorem JdO:∀ (f j:Nat) (d:Int),j < t.nodes.length→t.nodes.length≤j+f→(d∈Xu t f j↔inS t o d j):=by
 intro f
 induction f with
 |zero=>intro j d h1 h2; omega
 |succ f ih=>
  intro j d h1 h2
  unfold Xu
  rcases Qp g h1 with ⟨hp,hno⟩ | ⟨m,hp,hm1,hm2,hm3⟩
  ·rw[hp,if_pos (by decide)]
   refine ⟨fun h=>by simp at h,fun ⟨u,a,hu,ha,hb,_⟩=>?_⟩
   exfalso
   have hau:=(JJ g hu ha).2
   by_cases he:j=a
   ·subst he; exact hno u hu ha
   ·obtain ⟨m,q1,_⟩:=XP g (show a < t.nodes.length by omega) hb he
    rw[hp]at q1; omega
  ·rw[hp,if_neg (by omega),Gl,Ga,ih m d hm2 (by omega)]
   constructor
   ·rintro (h | ⟨u,a,hu,ha,hb,hd⟩)
    ·exact ⟨m,j,hm2,hm3,QH g h1,h⟩
    ·have hau:=(JJ g hu ha).2
     exact ⟨u,a,hu,ha,Kr g (by omega) (KC g hm2 hm3) hb,hd⟩
   ·rintro ⟨u,a,hu,ha,hb,hd⟩
    have hau:=(JJ g hu ha)
    by_cases he:j=a
    ·subst he
     have:u=m:=by rw[hp]at hau; omega
     subst this
     exact .inl hd
    ·obtain ⟨m',q1,_,_,q4,_⟩:=XP g (show a < t.nodes.length by omega) hb he
     have:m'=m:=by rw[hp]at q1; omega
     subst this
     exact .inr ⟨u,a,hu,ha,q4,hd⟩
omit g in
theorem KU {u k:Nat}{c:Int}:c∈Qx t u k↔c∈(nd t u).kids∧Jn t.nodes c=k:=by
 unfold Qx
 simp
theorem Jby {u:Nat}(hu:u < t.nodes.length) {d:Int}:d∈YB t u↔∃ s:Nat,(s:Int)∈(nd t u).kids∧(nd t s).k=41∧d∈(nd t s).kids∧Jn t.nodes d=42:=by
 unfold YB
 simp only[Hy,Gv]
 constructor
 ·rintro ⟨l,⟨s,hs,rfl⟩,hd⟩
  rw[KU]at hs hd
  have hr:=g.kid hu hs.1
  refine ⟨s.toNat,?_,?_,hd.1,hd.2⟩
  ·rw[show ((s.toNat:Nat):Int)=s by omega]; exact hs.1
  ·exact hs.2
 ·rintro ⟨s,h1,h2,h3,h4⟩
  refine ⟨_,⟨(s:Int),(KU).2 ⟨h1,by unfold Jn; rw[Ga]; exact h2⟩,rfl⟩,?_⟩
  rw[KU,Ga]
  exact ⟨h3,h4⟩
end
end
section
section
variable {t:Tr}{o:List Int}(g:GoodT t o)
def J8 (t:Tr) (u:Nat):Nat:=((nd t u).kids.getD ((nd t u).kids.length-1) 0).toNat
def JbA (t:Tr) (u i:Nat):Nat:=((nd t u).kids.getD i 0).toNat
def inR (t : Tr) (o : List Int) (d j : Nat) : Prop :=
  if (nd t d).k = 65 then True
  else if (nd t d).k = 64 then blw o j (J8 t (KG t d).toNat)
  else if (nd t d).k = 43 then ∃ i : Nat, (nd t (KG t d).toNat).n ≤ i ∧ i < (nd t (KG t d).toNat).kids.length ∧ blw o j (JbA t (KG t d).toNat i)
  else if (nd t d).k = 47 then blw o j (J8 t d)
  else if (nd t d).k = 42 then
    (if (nd t (KG t (KG t d).toNat).toNat).k = 40 then blw o j (KG t (KG t d).toNat).toNat
     else ∃ i : Nat, (nd t (KG t (KG t d).toNat).toNat).n + 1 ≤ i ∧ i + 1 < (nd t (KG t (KG t d).toNat).toNat).kids.length ∧ blw o j (JbA t (KG t (KG t d).toNat).toNat i))
  else False
include g
theorem Kq {u i:Nat}(hu:u < t.nodes.length) (hi:i < (nd t u).kids.length):((JbA t u i:Nat):Int)∈(nd t u).kids∧JbA t u i < u∧(nd t (JbA t u i)).k=Jn t.nodes ((nd t u).kids.getD i 0):=by
 have hm:(nd t u).kids.getD i 0∈(nd t u).kids:=by
  rw[Gb,Gc hi]; exact GD hi
 have hr:=g.kid hu hm
 unfold JbA
 refine ⟨?_,by omega,rfl⟩
 rw[show ((((nd t u).kids.getD i 0).toNat:Nat):Int)=(nd t u).kids.getD i 0 by omega]
 exact hm
omit g in
theorem Jdo {u a:Nat}(ha:(a:Int)∈(nd t u).kids):∃ i,i < (nd t u).kids.length∧JbA t u i=a∧(nd t u).kids.getD i 0=(a:Int):=by
 obtain ⟨i,hi,he⟩:=GR ha
 refine ⟨i,hi,?_,?_⟩
 ·unfold JbA; rw[Gb,Gc hi,G9,he]; rfl
 ·rw[Gb,Gc hi,G9,he]
theorem JcS:∀ (a j:Nat),a < t.nodes.length→60≤(nd t a).k→(nd t a).k≤64→blw o j a→60≤(nd t j).k∧(nd t j).k≤64:=by
 intro a
 induction a using Nat.strongRecOn with
 |_ a ih=>
  intro j ha h1 h2 hb
  rcases Jar g ha hb with rfl | ⟨c,hc,hb2⟩
  ·exact ⟨h1,h2⟩
  ·have hl:=par_kind g ha hc
   have hr:=g.kid ha hc
   change JcG (Jn t.nodes (c:Int))∈Qb (nd t a).k _ at hl
   have hk:JcG (Jn t.nodes (c:Int))=116:=by
    unfold Qb at hl
    dsimp only at hl
    rcases (show (nd t a).k=60∨(nd t a).k=61∨(nd t a).k=62∨(nd t a).k=63∨(nd t a).k=64 by omega) with e | e | e | e | e <;> rw[e]at hl <;> simp at hl
    all_goals exact hl
   have hk2:=Jdk hk
   have hk3:Jn t.nodes (c:Int)=(nd t c).k:=by unfold Jn nd; rw[Ga]
   rw[hk3]at hk2
   exact ih c (by omega) j (by omega) (by omega) (by omega) hb2
theorem Q8 {d:Nat}(hd:d < t.nodes.length) (hk:(nd t d).k≠65):∃ u:Nat,KG t d=u∧u < t.nodes.length∧d < u∧(d:Int)∈(nd t u).kids:=by
 rcases Qp g hd with ⟨h1,h2⟩ | ⟨u,h1,h2,h3,h4⟩
 ·exfalso
  obtain ⟨L,hL,h5,h6⟩:=QY g.ord.ok g.olen _ _ _ (d:Int) g.its (by omega) (by omega)
  have hr:=g.itr hL
  obtain ⟨L,rfl⟩:∃ k:Nat,L=(k:Int):=⟨L.toNat,by omega⟩
  by_cases he:d=L
  ·subst he
   have:=g.defs _ hL
   unfold Jn at this
   rw[Ga]at this
   exact hk this
  ·obtain ⟨m,q1,q2,q3⟩:=par_in g L d (by omega) h5 (by omega)
   exact h2 m (by omega) q3
 ·exact ⟨u,h1,h3,h2,h4⟩
theorem par_k {d u:Nat}(hu:u < t.nodes.length) (h:(d:Int)∈(nd t u).kids):JcG (nd t d).k∈Qb (nd t u).k (lets t.nodes (nd t u)):=by
 have:=par_kind g hu h
 unfold Jn at this
 rw[Ga]at this
 exact this
theorem KV {u a d:Nat}(hu:u < t.nodes.length):(d:Int)∈JaV t u a↔
  ((nd t u).k=40∧∃ s:Nat,(s:Int)∈(nd t u).kids∧(nd t s).k=41∧(d:Int)∈(nd t s).kids∧(nd t d).k=42)∨
  ((nd t u).k=65∧(d:Int)∈(nd t u).kids∧(nd t d).k=64)∨
  ((nd t u).k=47∧(a:Int)=(nd t u).kids.getD 2 0∧d=u)∨
  ((nd t u).k=28∧(nd t a).k≠43∧(((d:Int)∈(nd t u).kids∧(nd t d).k=43)∨(((nd t a).k=41∨(nd t a).k=44)∧∃ s:Nat,(s:Int)∈(nd t u).kids∧(nd t s).k=41∧(d:Int)∈(nd t s).kids∧(nd t d).k=42))):=by
 have hdk:Jn t.nodes (d:Int)=(nd t d).k:=by unfold Jn nd; rw[Ga]
 unfold JaV
 by_cases e1:(nd t u).k=40
 ·rw[if_pos e1,Jby g hu,hdk]; simp[e1]
 rw[if_neg e1]
 by_cases e2:(nd t u).k=65
 ·rw[if_pos e2,KU,hdk]; simp[e2]
 rw[if_neg e2]
 by_cases e3:(nd t u).k=47
 ·rw[if_pos e3]
  by_cases e4:(a:Int)=(nd t u).kids.getD 2 0
  ·rw[if_pos e4]; simp only[Gs,e3,e4]; simp; omega
  ·rw[if_neg e4]
   refine ⟨fun h=>by simp at h,fun h=>?_⟩
   rcases h with ⟨q,_⟩ | ⟨q,_⟩ | ⟨_,q,_⟩ | ⟨q,_⟩
   ·omega
   ·omega
   ·exact absurd q e4
   ·omega
 rw[if_neg e3]
 by_cases e5:(nd t u).k=28
 ·rw[if_pos e5]
  by_cases e6:(nd t a).k=43
  ·rw[if_pos e6]; simp[e5,e6]
  ·rw[if_neg e6]
   by_cases e7:(nd t a).k=41∨(nd t a).k=44
   ·rw[if_pos e7,Gl,KU,Jby g hu,hdk]; simp[e5,e6,e7]
   ·rw[if_neg e7,KU,hdk]; simp[e5,e6,e7]
 ·rw[if_neg e5]; simp[e1,e2,e3,e5]
theorem inS_inR {d j:Nat}(hd:d < t.nodes.length) (hj:j < t.nodes.length) (hje:1≤(nd t j).k∧(nd t j).k≤29) (hk:(nd t d).k=64∨(nd t d).k=43∨(nd t d).k=47∨(nd t d).k=42):inS t o (d:Int) j↔inR t o d j:=by
 obtain ⟨u,hp,hu,hdu,hdm⟩:=Q8 g hd (by omega)
 have hlet:=JdF (par_k g hu hdm)
 unfold inR
 rw[hp,Ga,if_neg (by omega)]
 rcases hk with e | e | e | e
 ·
  rw[if_pos e]
  have hu65:(nd t u).k=65:=hlet.1 (by rw[e]; rfl)
  obtain ⟨N,hN,hNl,k1,k2,k3⟩:=def_kids g hu hu65
  change N < (nd t u).kids.length at hNl
  constructor
  ·rintro ⟨v,a,hv,ha,hb,hdl⟩
   rw[KV g hv]at hdl
   have hvu:v=u∧(nd t v).k=65:=by
    rcases hdl with ⟨_,s,_,_,_,q⟩ | ⟨q1,q2,_⟩ | ⟨q1,_,q2⟩ | ⟨_,_,⟨_,q⟩ | ⟨_,s,_,_,_,q⟩⟩
    ·omega
    ·have:=(JJ g hv q2).1
     exact ⟨by omega,q1⟩
    ·subst q2; omega
    ·omega
    ·omega
   obtain ⟨rfl,_⟩:=hvu
   obtain ⟨i,hi,hka,hgi⟩:=Jdo ha
   by_cases hl:i+1 < (nd t v).kids.length
   ·exfalso
    have hka2:60≤(nd t a).k∧(nd t a).k≤64:=by
     have h3:=(Kq g hv hi).2.2
     rw[hka]at h3
     by_cases hiN:i < N
     ·have:=k1 i hiN
      change Jn t.nodes ((nd t v).kids.getD i 0)=64 at this
      omega
     ·have:=k2 i (by omega) hl
      change 60≤Jn t.nodes ((nd t v).kids.getD i 0)∧Jn t.nodes ((nd t v).kids.getD i 0)≤63 at this
      omega
    have:=JcS g a j (by have:=(JJ g hv ha).2; omega) hka2.1 hka2.2 hb
    omega
   ·have hil:i=(nd t v).kids.length-1:=by omega
    have:J8 t v=a:=by rw[← hka,hil]; rfl
    rw[this]; exact hb
  ·intro h
   have hm:=Kq g hu (i:=(nd t u).kids.length-1) (by omega)
   exact ⟨u,J8 t u,hu,hm.1,h,(KV g hu).2 (.inr (.inl ⟨hu65,hdm,e⟩))⟩
 ·
  rw[if_neg (by omega),if_pos e]
  have hu28:(nd t u).k=28:=hlet.2.1 (by rw[e]; rfl)
  obtain ⟨N,M,hN,hNM,hMl,k1,k2,k3,k4,k5⟩:=Jbz g hu hu28
  change (nd t u).n=(N:Int) at hN
  rw[hN]
  constructor
  ·rintro ⟨v,a,hv,ha,hb,hdl⟩
   rw[KV g hv]at hdl
   have hvu:v=u∧(nd t a).k≠43:=by
    rcases hdl with ⟨_,s,_,_,_,q⟩ | ⟨_,_,q⟩ | ⟨q1,_,q2⟩ | ⟨q0,q1,⟨q2,q⟩ | ⟨_,s,_,_,_,q⟩⟩
    ·omega
    ·omega
    ·subst q2; omega
    ·have:=(JJ g hv q2).1
     exact ⟨by omega,q1⟩
    ·omega
   obtain ⟨rfl,hna⟩:=hvu
   obtain ⟨i,hi,hka,hgi⟩:=Jdo ha
   have h3:=(Kq g hv hi).2.2
   rw[hka]at h3
   refine ⟨i,?_,hi,by rw[hka]; exact hb⟩
   by_cases hiN:i < N
   ·have:=k1 i hiN
    change Jn t.nodes ((nd t v).kids.getD i 0)=43 at this
    omega
   ·omega
  ·rintro ⟨i,h1,h2,h3⟩
   have hm:=Kq g hu h2
   have hna:(nd t (JbA t u i)).k≠43:=by
    rw[hm.2.2]
    rcases (show i=N∨(N+1≤i∧i < M)∨(M≤i∧i+1 < (nd t u).kids.length)∨i=(nd t u).kids.length-1 by omega) with rfl | h | h | rfl
    ·have:=k2.2
     change Jn t.nodes ((nd t u).kids.getD i 0)≤29 at this
     omega
    ·have:=k3 i h.1 h.2
     change Jn t.nodes ((nd t u).kids.getD i 0)=41 at this
     omega
    ·have:=k4 i h.1 h.2
     change Jn t.nodes ((nd t u).kids.getD i 0)=44 at this
     omega
    ·have:=k5
     change Jn t.nodes ((nd t u).kids.getD ((nd t u).kids.length-1) 0)=45 at this
     omega
   exact ⟨u,JbA t u i,hu,hm.1,h3,(KV g hu).2 (.inr (.inr (.inr ⟨hu28,hna,.inl ⟨hdm,e⟩⟩)))⟩
 ·
  rw[if_neg (by omega),if_neg (by omega),if_pos e]
  obtain ⟨hl3,_,_⟩:=Y3 g hd e
  change (nd t d).kids.length=3 at hl3
  constructor
  ·rintro ⟨v,a,hv,ha,hb,hdl⟩
   rw[KV g hv]at hdl
   rcases hdl with ⟨_,s,_,_,_,q⟩ | ⟨_,_,q⟩ | ⟨q1,q3,q2⟩ | ⟨q0,q1,⟨q2,q⟩ | ⟨_,s,_,_,_,q⟩⟩
   ·omega
   ·omega
   ·subst q2
    have:J8 t d=a:=by unfold J8; rw[hl3]; change ((nd t d).kids.getD 2 0).toNat=a; rw[← q3]; rfl
    rw[this]; exact hb
   ·omega
   ·omega
  ·intro h
   have hm:=Kq g hd (i:=2) (by omega)
   have hlk:J8 t d=JbA t d 2:=by unfold J8 JbA; rw[hl3]
   rw[hlk]at h
   refine ⟨d,JbA t d 2,hd,hm.1,h,(KV g hd).2 (.inr (.inr (.inl ⟨e,?_,rfl⟩)))⟩
   have hr:=g.kid hd (k:=(nd t d).kids.getD 2 0) (by
    change (nd t d).kids.getD 2 0∈(nd t d).kids
    rw[Gb,Gc (show 2 < (nd t d).kids.length by omega)]; exact GD _)
   unfold JbA
   omega
 ·
  rw[if_neg (by omega),if_neg (by omega),if_neg (by omega),if_pos e]
  have hu41:(nd t u).k=41:=hlet.2.2.1 (by rw[e]; rfl)
  obtain ⟨w,hpw,hw,huw,huk⟩:=Q8 g hu (by omega)
  have hlet2:=JdF (par_k g hw huk)
  have hw2:(nd t w).k=40∨(nd t w).k=28:=hlet2.2.2.2.1 (by rw[hu41]; rfl)
  rw[hpw,Ga]
  have hvw:∀ v s:Nat,v < t.nodes.length→(s:Int)∈(nd t v).kids→(d:Int)∈(nd t s).kids→v=w∧s=u:=fun v s hv q1 q2=>by
   have hsv:=JJ g hv q1
   have hs:=(JJ g (show s < t.nodes.length by omega) q2).1
   have:s=u:=by omega
   subst this
   exact ⟨by have:=hsv.1; omega,rfl⟩
  constructor
  ·rintro ⟨v,a,hv,ha,hb,hdl⟩
   rw[KV g hv]at hdl
   rcases hdl with ⟨q0,s,q1,q2,q3,q⟩ | ⟨_,_,q⟩ | ⟨q1,_,q2⟩ | ⟨q0,q4,⟨_,q⟩ | ⟨q5,s,q1,q2,q3,q⟩⟩
   ·obtain ⟨rfl,rfl⟩:=hvw v s hv q1 q3
    rw[if_pos q0]
    exact Kr g hv hb (KC g hv ha)
   ·omega
   ·subst q2; omega
   ·omega
   ·obtain ⟨rfl,rfl⟩:=hvw v s hv q1 q3
    rw[if_neg (by omega)]
    obtain ⟨N,M,hN,hNM,hMl,k1,k2,k3,k4,k5⟩:=Jbz g hv q0
    change (nd t v).n=(N:Int) at hN
    obtain ⟨i,hi,hka,hgi⟩:=Jdo ha
    have h3:=(Kq g hv hi).2.2
    rw[hka]at h3
    refine ⟨i,?_,?_,by rw[hka]; exact hb⟩
    ·rw[hN]
     by_cases hiN:i < N
     ·have:=k1 i hiN
      change Jn t.nodes ((nd t v).kids.getD i 0)=43 at this
      omega
     ·by_cases hiN2:i=N
      ·subst hiN2
       have:=k2.2
       change Jn t.nodes ((nd t v).kids.getD i 0)≤29 at this
       omega
      ·omega
    ·by_cases hl:i+1 < (nd t v).kids.length
     ·exact hl
     ·have hil:i=(nd t v).kids.length-1:=by omega
      have:=k5
      change Jn t.nodes ((nd t v).kids.getD ((nd t v).kids.length-1) 0)=45 at this
      rw[← hil]at this
      omega
  ·rcases hw2 with hw40 | hw28
   ·rw[if_pos hw40]
    intro h
    rcases Jar g hw h with rfl | ⟨c,hc,hb⟩
    ·omega
    ·exact ⟨w,c,hw,hc,hb,(KV g hw).2 (.inl ⟨hw40,u,huk,hu41,hdm,e⟩)⟩
   ·rw[if_neg (by omega)]
    obtain ⟨N,M,hN,hNM,hMl,k1,k2,k3,k4,k5⟩:=Jbz g hw hw28
    change (nd t w).n=(N:Int) at hN
    rw[hN]
    rintro ⟨i,h1,h2,h3⟩
    have hm:=Kq g hw (show i < (nd t w).kids.length by omega)
    have hka:(nd t (JbA t w i)).k=41∨(nd t (JbA t w i)).k=44:=by
     rw[hm.2.2]
     by_cases hiM:i < M
     ·exact .inl (k3 i (by omega) hiM)
     ·exact .inr (k4 i (by omega) h2)
    exact ⟨w,JbA t w i,hw,hm.1,h3,(KV g hw).2 (.inr (.inr (.inr ⟨hw28,by omega,.inr ⟨hka,u,huk,hu41,hdm,e⟩⟩)))⟩
end
end
section
theorem Jex {α β:Type}{f:α→List β}:∀ {l:List α},l.Nodup→(∀ x∈l,(f x).Nodup)→(∀ x∈l,∀ y∈l,x≠y→∀ z∈f x,z∉f y)→((l.map f).flatten).Nodup
 |[],_,_,_=>by simp
 |x::l,h1,h2,h3=>by
  rw[Hz]at h1
  simp only[GH,List.flatten_cons]
  rw[GV]
  refine ⟨h2 x (by simp),Jex h1.2 (fun y hy=>h2 y (by simp[hy])) (fun y hy z hz hyz=>h3 y (by simp[hy]) z (by simp[hz]) hyz),?_⟩
  intro a ha b hb hab
  subst hab
  simp only[Hy,Gv]at hb
  obtain ⟨_,⟨y,hy,rfl⟩,hb⟩:=hb
  exact h3 x (by simp) y (by simp[hy]) (fun e=>h1.1 (e▸hy)) a ha hb
theorem Xk {o:List Int}{m:Nat}(ho:Qr o) (hm:o.length=m):∀ (l:List Int) (a e:Int),chain o m a l e→l.Nodup
 |[],_,_,_=>by simp
 |i::l,a,e,h=>by
  simp only[chain]at h
  rw[Hz]
  refine ⟨fun hi=>?_,Xk ho hm l _ e h.2⟩
  have h1:=Qm ho hm l _ e h.2 i hi
  have h2:=JfJ ho h1.2.1 (by omega)
  omega
section
variable {t:Tr}{o:List Int}(g:GoodT t o)
include g
theorem kids_nodup {u:Nat}(hu:u < t.nodes.length):(nd t u).kids.Nodup:=Xk g.ord.ok rfl _ _ _ (g.ord.kids (JS hu))
theorem XT {u k:Nat}(hu:u < t.nodes.length):(Qx t u k).Nodup:=(kids_nodup g hu).filter _
theorem JdR {u:Nat}(hu:u < t.nodes.length):(YB t u).Nodup:=by
 unfold YB
 have hr:∀ s∈Qx t u 41,0≤s∧s < u:=fun s hs=>g.kid hu (KU.1 hs).1
 refine Jex (XT g hu) (fun s hs=>XT g (by have:=hr s hs; omega)) fun s hs s' hs' hne z hz hz'=>?_
 have h1:=hr s hs
 have h2:=hr s' hs'
 have:=g.ord.parent_one (JS (show s.toNat < t.nodes.length by omega)) (JS (show s'.toNat < t.nodes.length by omega)) (KU.1 hz).1 (KU.1 hz').1
 omega
def whoD (t:Tr) (d:Nat):Int:=if (nd t d).k=47 then d else if (nd t d).k=42 then KG t (KG t d).toNat else KG t d
theorem decl_who {u a:Nat}{d:Int}(hu:u < t.nodes.length) (h:d∈JaV t u a):0≤d∧d < t.nodes.length∧whoD t d.toNat=u:=by
 have hd:0≤d∧d≤u:=by
  have hb:d∈YB t u→0≤d∧d≤u:=fun h=>by
   rw[Jby g hu]at h
   obtain ⟨s,q1,_,q3,_⟩:=h
   have h1:=(JJ g hu q1).2
   have h2:=g.kid (show s < t.nodes.length by omega) q3
   omega
  have hk:∀ k,d∈Qx t u k→0≤d∧d≤u:=fun k h=>by
   have:=g.kid hu (KU.1 h).1
   omega
  unfold JaV at h
  split at h
  ·exact hb h
  split at h
  ·exact hk _ h
  split at h
  ·split at h
   ·simp at h; omega
   ·simp at h
  split at h
  ·split at h
   ·simp at h
   split at h
   ·rcases Gl.1 h with h | h
    ·exact hk _ h
    ·exact hb h
   ·exact hk _ h
  ·simp at h
 obtain ⟨d,rfl⟩:∃ n:Nat,d=(n:Int):=⟨d.toNat,by omega⟩
 rw[KV g hu]at h
 refine ⟨by omega,by omega,?_⟩
 rw[Ga]
 unfold whoD
 have bind:(∃ s:Nat,(s:Int)∈(nd t u).kids∧(nd t s).k=41∧(d:Int)∈(nd t s).kids∧(nd t d).k=42)→(if (nd t d).k=47 then (d:Int) else if (nd t d).k=42 then KG t (KG t d).toNat else KG t d)=u:=by
  rintro ⟨s,q1,_,q3,q4⟩
  have hs:=JJ g hu q1
  have hds:=(JJ g (show s < t.nodes.length by omega) q3).1
  rw[if_neg (by omega),if_pos q4,hds,Ga]
  exact hs.1
 rcases h with ⟨_,hb⟩ | ⟨_,q,q2⟩ | ⟨q1,_,rfl⟩ | ⟨_,_,⟨q,q2⟩ | ⟨_,hb⟩⟩
 ·exact bind hb
 ·rw[if_neg (by omega),if_neg (by omega)]; exact (JJ g hu q).1
 ·rw[if_pos q1]
 ·rw[if_neg (by omega),if_neg (by omega)]; exact (JJ g hu q).1
 ·exact bind hb
theorem decl_nodup {u a:Nat}(hu:u < t.nodes.length):(JaV t u a).Nodup:=by
 unfold JaV
 split
 ·exact JdR g hu
 split
 ·exact XT g hu
 split
 ·split <;> simp
 split
 ·split
  ·simp
  split
  ·rw[GV]
   refine ⟨XT g hu,JdR g hu,fun x hx y hy he=>?_⟩
   subst he
   have h1:=(KU.1 hx).2
   have h0:=g.kid hu (KU.1 hx).1
   rw[Jby g hu]at hy
   obtain ⟨s,_,_,_,h2⟩:=hy
   omega
  ·exact XT g hu
 ·simp
theorem climb_who:∀ (f j:Nat) (d:Int),j < t.nodes.length→d∈Xu t f j→0≤d∧d < t.nodes.length∧(j:Int) < whoD t d.toNat:=by
 intro f
 induction f with
 |zero=>intro j d _ h; simp[Xu]at h
 |succ f ih=>
  intro j d hj h
  unfold Xu at h
  rcases Qp g hj with ⟨hp,_⟩ | ⟨m,hp,hm1,hm2,_⟩
  ·rw[hp,if_pos (by decide)]at h; simp at h
  ·rw[hp,if_neg (by omega),Gl,Ga]at h
   rcases h with h | h
   ·have:=decl_who g hm2 h
    exact ⟨this.1,this.2.1,by omega⟩
   ·have:=ih m d hm2 h
    exact ⟨this.1,this.2.1,by omega⟩
theorem climb_nodup:∀ (f j:Nat),j < t.nodes.length→(Xu t f j).Nodup:=by
 intro f
 induction f with
 |zero=>intro j _; simp[Xu]
 |succ f ih=>
  intro j hj
  unfold Xu
  rcases Qp g hj with ⟨hp,_⟩ | ⟨m,hp,hm1,hm2,_⟩
  ·rw[hp,if_pos (by decide)]; simp
  ·rw[hp,if_neg (by omega),Ga,GV]
   refine ⟨decl_nodup g hm2,ih m hm2,fun x hx y hy he=>?_⟩
   subst he
   have h1:=(decl_who g hm2 hx).2.2
   have h2:=(climb_who g f m x hm2 hy).2.2
   omega
theorem JbF {d:Nat}(hd:d < t.nodes.length) (hk:(nd t d).k=65):KG t d = -1∧(d:Int)∈t.items:=by
 have hp:KG t d = -1:=by
  rcases Qp g hd with ⟨h,_⟩ | ⟨m,_,_,hm,hm2⟩
  ·exact h
  ·exfalso
   exact (JdF (par_k g hm hm2)).2.2.2.2.2.2.2.2 (by rw[hk]; rfl)
 refine ⟨hp,?_⟩
 obtain ⟨L,hL,h5,h6⟩:=QY g.ord.ok g.olen _ _ _ (d:Int) g.its (by omega) (by omega)
 have hr:=g.itr hL
 obtain ⟨L,rfl⟩:∃ k:Nat,L=(k:Int):=⟨L.toNat,by omega⟩
 by_cases he:d=L
 ·subst he; exact hL
 ·exfalso
  obtain ⟨m,q1,q2,q3⟩:=par_in g L d (by omega) h5 (by omega)
  have:=(JJ g (show m < t.nodes.length by omega) q3).1
  omega
end
end
section
def Jbi (o:List Int) (j a:Nat):Bool:=decide (j≤a) && decide (fs o a≤j)
theorem JP {o:List Int}{j a:Nat}:Jbi o j a=true↔blw o j a:=by simp[Jbi,blw]
def bkB (t:Tr) (o:List Int) (j u:Nat) (m:Int) (last:Bool):Bool:=
 (Gg (nd t u).kids.length).any fun i=>decide (m≤i) && ((last || decide (i+1 < (nd t u).kids.length)) && Jbi o j (JbA t u i))
def inB (t : Tr) (o : List Int) (d j : Nat) : Bool :=
  if (nd t d).k = 65 then true
  else if (nd t d).k = 64 then Jbi o j (J8 t (KG t d).toNat)
  else if (nd t d).k = 43 then bkB t o j (KG t d).toNat (nd t (KG t d).toNat).n true
  else if (nd t d).k = 47 then Jbi o j (J8 t d)
  else if (nd t d).k = 42 then
    (if (nd t (KG t (KG t d).toNat).toNat).k = 40 then Jbi o j (KG t (KG t d).toNat).toNat
     else bkB t o j (KG t (KG t d).toNat).toNat ((nd t (KG t (KG t d).toNat).toNat).n + 1) false)
  else false
def QN (k:Nat):Bool:=k == 65 || k == 64 || k == 42 || k == 43 || k == 47
theorem JdQ {t:Tr}{o:List Int}{j u:Nat}{m:Int}{last:Bool}:bkB t o j u m last=true↔∃ i:Nat,m≤i∧i < (nd t u).kids.length∧(last=true∨i+1 < (nd t u).kids.length)∧blw o j (JbA t u i):=by
 unfold bkB
 simp only[G5,Gp,Gh,H9,decide_eq_true_eq,JP]
 constructor
 ·rintro ⟨i,h1,h2,h3,h4⟩; exact ⟨i,h2,h1,h3,h4⟩
 ·rintro ⟨i,h1,h2,h3,h4⟩; exact ⟨i,h2,h1,h3,h4⟩
theorem inB_iff {t:Tr}{o:List Int}{d j:Nat}:inB t o d j=true↔inR t o d j:=by
 unfold inB inR
 by_cases e1:(nd t d).k=65
 ·simp[e1]
 by_cases e2:(nd t d).k=64
 ·rw[if_neg e1,if_pos e2,if_neg e1,if_pos e2]; exact JP
 by_cases e3:(nd t d).k=43
 ·rw[if_neg e1,if_neg e2,if_pos e3,if_neg e1,if_neg e2,if_pos e3,JdQ]
  constructor
  ·rintro ⟨i,h1,h2,_,h4⟩; exact ⟨i,h1,h2,h4⟩
  ·rintro ⟨i,h1,h2,h4⟩; exact ⟨i,h1,h2,.inl rfl,h4⟩
 by_cases e4:(nd t d).k=47
 ·rw[if_neg e1,if_neg e2,if_neg e3,if_pos e4,if_neg e1,if_neg e2,if_neg e3,if_pos e4]; exact JP
 by_cases e5:(nd t d).k=42
 ·rw[if_neg e1,if_neg e2,if_neg e3,if_neg e4,if_pos e5,if_neg e1,if_neg e2,if_neg e3,if_neg e4,if_pos e5]
  by_cases e6:(nd t (KG t (KG t d).toNat).toNat).k=40
  ·rw[if_pos e6,if_pos e6]; exact JP
  ·rw[if_neg e6,if_neg e6,JdQ]
   constructor
   ·rintro ⟨i,h1,h2,h3,h4⟩
    rcases h3 with h3 | h3
    ·cases h3
    ·exact ⟨i,h1,h3,h4⟩
   ·rintro ⟨i,h1,h3,h4⟩; exact ⟨i,h1,by omega,.inr h3,h4⟩
 ·rw[if_neg e1,if_neg e2,if_neg e3,if_neg e4,if_neg e5,if_neg e1,if_neg e2,if_neg e3,if_neg e4,if_neg e5]; simp
section
variable {t:Tr}{o:List Int}(g:GoodT t o)
def QC (t:Tr):List Int:=(Gg t.nodes.length).map fun i:Nat=>(i:Int)
def K7 (t:Tr) (j:Nat):List Int:=(QC t).filter fun d=>(Xu t t.nodes.length j).contains d
def Ya (t:Tr) (l:List Int) (s:List UInt8):Int:=match l.find? fun d=>(nd t d.toNat).text == s with | some d=>d | none=>-1
def meansN (t:Tr) (o:List Int) (j:Nat):Int:=match (QC t).find? fun d=>(nd t d.toNat).text == (nd t j).text && (QN (nd t d.toNat).k && (!((nd t d.toNat).k == 65) && inB t o d.toNat j)) with | some d=>d | none=>-1
include g
theorem decl_kind {u a:Nat}{d:Nat}(hu:u < t.nodes.length) (h:(d:Int)∈JaV t u a):(nd t d).k=64∨(nd t d).k=43∨(nd t d).k=47∨(nd t d).k=42:=by
 rw[KV g hu]at h
 rcases h with ⟨_,s,_,_,_,q⟩ | ⟨_,_,q⟩ | ⟨q1,_,rfl⟩ | ⟨_,_,⟨_,q⟩ | ⟨_,s,_,_,_,q⟩⟩
 ·exact .inr (.inr (.inr q))
 ·exact .inl q
 ·exact .inr (.inr (.inl q1))
 ·exact .inr (.inl q)
 ·exact .inr (.inr (.inr q))
theorem sight_mem {d j:Nat}(hd:d < t.nodes.length) (hj:j < t.nodes.length) (hje:1≤(nd t j).k∧(nd t j).k≤29):(Xu t t.nodes.length j).contains (d:Int)=(QN (nd t d).k && (!((nd t d).k == 65) && inB t o d j)):=by
 rw[Gr]
 simp only[List.contains_eq_mem,decide_eq_true_eq,Gh,Ha,beq_eq_false_iff_ne,inB_iff]
 rw[JdO g t.nodes.length j (d:Int) hj (by omega)]
 constructor
 ·intro h
  obtain ⟨u,a,hu,ha,hb,hdl⟩:=h
  have hk:=decl_kind g hu hdl
  refine ⟨?_,by omega,(inS_inR g hd hj hje hk).1 ⟨u,a,hu,ha,hb,hdl⟩⟩
  unfold QN
  rcases hk with e | e | e | e <;> rw[e] <;> rfl
 ·rintro ⟨h1,h2,h3⟩
  have hk:(nd t d).k=64∨(nd t d).k=43∨(nd t d).k=47∨(nd t d).k=42:=by
   unfold QN at h1
   simp only[H9,beq_iff_eq]at h1
   omega
  exact (inS_inR g hd hj hje hk).2 h3
theorem YH {j:Nat}(hj:j < t.nodes.length) (hje:1≤(nd t j).k∧(nd t j).k≤29):Ya t (K7 t j) (nd t j).text=meansN t o j:=by
 unfold Ya meansN K7
 rw[GY]
 have:∀ l:List Int,(∀ d∈l,0≤d∧d < t.nodes.length)→l.find? (fun d=>decide ((Xu t t.nodes.length j).contains d=true∧((nd t d.toNat).text == (nd t j).text)=true))=l.find? fun d=>(nd t d.toNat).text == (nd t j).text && (QN (nd t d.toNat).k && (!((nd t d.toNat).k == 65) && inB t o d.toNat j)):=by
  intro l
  induction l with
  |nil=>intro _; rfl
  |cons d l ih=>
   intro hl
   obtain ⟨d,rfl⟩:∃ n:Nat,d=(n:Int):=⟨d.toNat,by have:=hl d (by simp); omega⟩
   have hd:=hl d (by simp)
   have hs:=sight_mem g (show d < t.nodes.length by omega) hj hje
   rw[G8,G8,ih fun x hx=>hl x (by simp[hx])]
   simp only[Ga]
   rw[hs]
   congr 1
   rw[Gr]
   simp[and_comm,and_left_comm]
 rw[this]
 intro d hd
 unfold QC at hd
 simp only[Gv,Gp]at hd
 obtain ⟨i,hi,rfl⟩:=hd
 omega
end
end
section
theorem JbN:∀ {l m:List Int},l.Pairwise (· < ·)→m.Pairwise (· < ·)→(∀ x,x∈l↔x∈m)→l=m
 |[],[],_,_,_=>rfl
 |[],y::m,_,_,h=>by simpa using (h y).2 (by simp)
 |x::l,[],_,_,h=>by simpa using (h x).1 (by simp)
 |x::l,y::m,h1,h2,h=>by
  rw[Gz]at h1 h2
  have e:x=y:=by
   have a:=(h x).1 (by simp)
   have b:=(h y).2 (by simp)
   rcases Gf.1 a with a | a
   ·exact a
   ·rcases Gf.1 b with b | b
    ·exact b.symm
    ·have:=h1.1 y b
     have:=h2.1 x a
     omega
  subst e
  rw[JbN h1.2 h2.2 fun z=>?_]
  constructor
  ·intro hz
   have:=h1.1 z hz
   rcases Gf.1 ((h z).1 (by simp[hz])) with e | e
   ·omega
   ·exact e
  ·intro hz
   have:=h2.1 z hz
   rcases Gf.1 ((h z).2 (by simp[hz])) with e | e
   ·omega
   ·exact e
theorem Yz {o:List Int}{m:Nat}(ho:Qr o) (hm:o.length=m):∀ (l:List Int) (a e:Int),chain o m a l e→l.Pairwise (· < ·)
 |[],_,_,_=>.nil
 |i::l,a,e,h=>by
  simp only[chain]at h
  rw[Gz]
  refine ⟨fun x hx=>?_,Yz ho hm l _ e h.2⟩
  have h1:=Qm ho hm l _ e h.2 x hx
  have h2:=JfJ ho h1.2.1 (by omega)
  omega
theorem JaQ {t:Tr}:(QC t).Pairwise (· < ·):=by
 unfold QC
 rw[Ht]
 exact Hg.imp fun h=>by omega
theorem JY {t:Tr}{d:Int}:d∈QC t↔0≤d∧d < t.nodes.length:=by
 unfold QC
 simp only[Gv,Gp]
 constructor
 ·rintro ⟨i,hi,rfl⟩; omega
 ·intro h; exact ⟨d.toNat,by omega,by omega⟩
section
variable {t:Tr}{o:List Int}(g:GoodT t o)
def Jco (t:Tr) (j:Nat):Int:=match (QC t).find? fun d=>(nd t d.toNat).text == (nd t j).text && (QN (nd t d.toNat).k && (nd t d.toNat).k == 65) with | some d=>d | none=>-1
def Jcn (t:Tr) (j:Nat):Int:=match (QC t).find? fun d=>(nd t d.toNat).text == (nd t j).text && (QN (nd t d.toNat).k && ((nd t d.toNat).k == 43 && KG t d.toNat == KG t j)) with | some d=>d | none=>-1
include g
theorem items_all:t.items=(QC t).filter fun d=>(nd t d.toNat).k == 65:=by
 refine JbN (Yz g.ord.ok g.olen _ _ _ g.its) (JaQ.filter _) fun x=>?_
 rw[Gn,JY,beq_iff_eq]
 constructor
 ·intro h
  have h1:=g.itr h
  have h2:=g.defs x h
  exact ⟨h1,h2⟩
 ·rintro ⟨h1,h2⟩
  have:=(JbF g (show x.toNat < t.nodes.length by omega) h2).2
  rwa [show ((x.toNat:Nat):Int)=x by omega]at this
theorem call_means {j:Nat}:Ya t t.items (nd t j).text=Jco t j:=by
 unfold Ya Jco
 rw[items_all g,GY]
 congr 2
 funext d
 rw[Gr]
 simp only[decide_eq_true_eq,Gh,beq_iff_eq]
 constructor
 ·rintro ⟨h1,h2⟩; exact ⟨h2,by rw[h1]; rfl,h1⟩
 ·rintro ⟨h1,_,h2⟩; exact ⟨h2,h1⟩
theorem JfB {u:Nat}(hu:u < t.nodes.length):(nd t u).kids.Pairwise (· < ·):=Yz g.ord.ok rfl _ _ _ (g.ord.kids (JS hu))
theorem kidsK_all {u k:Nat}(hu:u < t.nodes.length) (hk:k≠65):Qx t u k=(QC t).filter fun d=>(nd t d.toNat).k == k && KG t d.toNat == u:=by
 refine JbN ((JfB g hu).filter _) (JaQ.filter _) fun x=>?_
 rw[KU,Gn,JY,Gh,beq_iff_eq,beq_iff_eq]
 constructor
 ·rintro ⟨h1,h2⟩
  have hr:=g.kid hu h1
  obtain ⟨x,rfl⟩:∃ n:Nat,x=(n:Int):=⟨x.toNat,by omega⟩
  exact ⟨by omega,h2,(JJ g hu h1).1⟩
 ·rintro ⟨h1,h2,h3⟩
  obtain ⟨x,rfl⟩:∃ n:Nat,x=(n:Int):=⟨x.toNat,by omega⟩
  rw[Ga]at h2 h3
  obtain ⟨u',q1,_,_,q2⟩:=Q8 g (show x < t.nodes.length by omega) (by omega)
  have:u'=u:=by omega
  subst this
  exact ⟨q2,h2⟩
theorem next_means {j u:Nat}(hu:u < t.nodes.length) (hp:KG t j=u):Ya t (Qx t u 43) (nd t j).text=Jcn t j:=by
 unfold Ya Jcn
 rw[kidsK_all g hu (by decide),GY,hp]
 congr 2
 funext d
 rw[Gr]
 simp only[decide_eq_true_eq,Gh,beq_iff_eq]
 constructor
 ·rintro ⟨⟨h1,h3⟩,h2⟩; exact ⟨h2,by rw[h1]; rfl,h1,h3⟩
 ·rintro ⟨h1,_,h2,h3⟩; exact ⟨⟨h2,h3⟩,h1⟩
end
end
section
def Qi (t:Tr) (i:Nat):Nat:=(t.items.filter fun L=>decide (L < (i:Int))).length
def itemOf (t:Tr) (o:List Int) (i:Nat):Int:=match t.items.find? fun L=>Jbi o i L.toNat with | some L=>L | none=>-1
def twN (t:Tr) (i:Nat):Bool:=
 if (nd t i).k≠44∧QN (nd t i).k=false then false
 else (Gg i).any fun k=>(nd t k).text == (nd t i).text && (if (nd t i).k=44 then (nd t k).k == 44 && KG t k == KG t i else if (nd t i).k=65 then (nd t k).k == 65 else !((nd t k).k == 65) && (QN (nd t k).k && Qi t k == Qi t i))
theorem JfO {α:Type}{q:α→Bool}:∀ {l:List α}{k:Nat}{x:α},l[k]? = some x→q x=true→(∀ y∈l.take k,q y=false)→l.find? q=some x
 |[],_,_,h,_,_=>by simp at h
 |y::l,0,x,h,hq,_=>by simp at h; subst h; simp[hq]
 |y::l,k+1,x,h,hq,hn=>by
  rw[G8,hn y (by simp)]
  exact JfO (k:=k) (by simpa using h) hq fun z hz=>hn z (by simp[hz])
section
variable {t:Tr}{o:List Int}(g:GoodT t o)
include g
theorem Jb4 {i:Nat}(hi:i < t.nodes.length):∃ k L:Nat,k < t.items.length∧t.items[k]? = some (L:Int)∧Qi t i=k∧itemOf t o i=L∧endI t k≤i∧i≤L:=by
 obtain ⟨L,hL,h5,h6⟩:=QY g.ord.ok g.olen _ _ _ (i:Int) g.its (by omega) (by omega)
 obtain ⟨k,hk,he⟩:=GR hL
 obtain ⟨L',e1,e2,e3,e4,e5⟩:=item_at g hk
 have eL:L=(L':Int):=by rw[← e1,Gb,Gc hk,← he]; rfl
 subst eL
 rw[e2]at h5
 have hget:t.items[k]? = some (L':Int):=by rw[Gc hk,he]
 have hlt:∀ x∈t.items.take k,x < (i:Int):=fun x hx=>by
  have:=(Qm g.ord.ok g.olen _ _ _ (Y9 g k (GL hk)).1 x hx).2.2.1
  omega
 have hge:∀ x∈t.items.drop k,(i:Int)≤x:=fun x hx=>by
  have ha:=Yz g.ord.ok g.olen _ _ _ (Y9 g k (GL hk)).2
  rw[Hf hk,he]at hx ha
  rw[Gz]at ha
  rcases Gf.1 hx with rfl | hx
  ·exact h6
  ·have:=ha.1 x hx; omega
 refine ⟨k,L',hk,hget,?_,?_,by omega,by omega⟩
 ·unfold Qi
  rw[← Hl k t.items,Hr,Hm.2 (fun x hx=>by simpa using hlt x hx),GQ.2 (fun x hx=>by have:=hge x hx; simp; omega),HZ,Gt]
  omega
 ·unfold itemOf
  rw[JfO hget (by rw[JP,Ga]; exact ⟨by omega,by rw[e2]; omega⟩) fun y hy=>?_]
  have h1:=hlt y hy
  have h2:=(Qm g.ord.ok g.olen _ _ _ (Y9 g k (GL hk)).1 y hy).2.1
  rw[H8]
  intro hb
  have:=(JP.1 hb).1
  omega
end
end
section
def Ja3 (t:Tr) (u c:Nat) (late:Bool):Bool:=
 if (nd t u).k=4 then true else if (nd t u).k=46∨(nd t u).k=47 then late || c == J8 t u else if (nd t u).k=28 then late && (nd t c).k == 43 else late
def buL (t:Tr):List Nat→Bool→Bool
 |c::u::l,late=>buL t (u::l) (Ja3 t u c late)
 |_,late=>late
def pairsOk (t:Tr) (q:Nat→Nat→Prop):List Nat→Prop
 |c::u::l=>q u c∧pairsOk t q (u::l)
 |_=>True
section
variable {t:Tr}{o:List Int}(g:GoodT t o)
def upL (t:Tr) (top:Nat):Nat→Nat→List Nat
 |0,n=>[n]
 |f+1,n=>if n=top then [n] else n::upL t top f (KG t n).toNat
include g
theorem bound_below {a j:Nat}(ha:a < t.nodes.length) (hk:(nd t a).k=48) (hb:blw o j a):j=a:=by
 rcases Jar g ha hb with h | ⟨c,hc,_⟩
 ·exact h
 ·exfalso
  have hl:=par_k g ha hc
  rw[hk]at hl
  unfold Qb at hl
  simp at hl
theorem bind_below {a j:Nat}(ha:a < t.nodes.length) (hk:(nd t a).k=42) (hb:blw o j a):(nd t j).k=42∨(60≤(nd t j).k∧(nd t j).k≤64):=by
 rcases Jar g ha hb with rfl | ⟨c,hc,hb2⟩
 ·exact .inl hk
 ·refine .inr ?_
  have hl:=par_k g ha hc
  have hr:=(JJ g ha hc).2
  rw[hk]at hl
  have hk2:JcG (nd t c).k=116:=by
   unfold Qb at hl
   dsimp only at hl
   rw[if_neg (by omega),if_neg (by omega),if_neg (by omega),if_neg (by omega),if_neg (by omega),if_neg (by omega),if_neg (by omega),if_neg (by omega),if_neg (by omega)]at hl
   split at hl
   ·simpa using hl
   ·simp at hl
  have h3:=Jdk hk2
  exact JcS g c j (by omega) (by omega) (by omega) hb2
theorem cell_last {u c j:Nat}(hu:u < t.nodes.length) (hk:(nd t u).k=46∨(nd t u).k=47) (hc:(c:Int)∈(nd t u).kids) (hb:blw o j c) (hje:1≤(nd t j).k∧(nd t j).k≤29):c=J8 t u:=by
 obtain ⟨i,hi,hka,hgi⟩:=Jdo hc
 have h3:=(Kq g hu hi).2.2
 rw[hka]at h3
 have hr:=(JJ g hu hc).2
 by_cases hl:i+1 < (nd t u).kids.length
 ·exfalso
  have h48:(nd t c).k=48:=by
   rcases hk with e | e
   ·have h:=Jdm g hu
    change KX (nd t u).k (nd t u).n (lets t.nodes (nd t u))=true at h
    rw[e]at h
    unfold KX at h
    rw[if_neg (by omega),if_neg (by omega),if_neg (by omega),if_neg (by omega),if_neg (by omega),if_neg (by omega),if_neg (by omega),if_neg (by omega),if_neg (by omega),if_pos rfl]at h
    simp only[Gh,beq_iff_eq,QF]at h
    have:=YJ 79 48 (QG hu h.1.2 (i:=i) (by omega) (by omega)).2 (by simp)
    rw[h3]; exact this
   ·have h:=Y3 g hu e
    change (nd t u).kids.length=3∧_ at h
    have:=h.2.1 i (by omega)
    rw[h3]; exact this
  have:=bound_below g (show c < t.nodes.length by omega) h48 hb
  subst this
  omega
 ·have hil:i=(nd t u).kids.length-1:=by omega
  rw[← hka,hil]; rfl
theorem Jfb {s j:Nat}(hs:s < t.nodes.length) (hk:(nd t s).k=41) (hje:1≤(nd t j).k∧(nd t j).k≤29):blw o j s↔blw o j (J8 t s):=by
 obtain ⟨a,hN,hl,k1,k2⟩:=Jfc g hs hk
 change (nd t s).kids.length=a+1 at hl
 have hm:=Kq g hs (i:=(nd t s).kids.length-1) (by omega)
 constructor
 ·intro h
  rcases Jar g hs h with rfl | ⟨c,hc,hb⟩
  ·omega
  ·obtain ⟨i,hi,hka,hgi⟩:=Jdo hc
   by_cases hil:i < a
   ·exfalso
    have h3:=(Kq g hs hi).2.2
    rw[hka]at h3
    have:=k1 i hil
    change Jn t.nodes ((nd t s).kids.getD i 0)=42 at this
    have:=bind_below g (show c < t.nodes.length by have:=(JJ g hs hc).2; omega) (by omega) hb
    omega
   ·have:i=(nd t s).kids.length-1:=by omega
    rw[← hka,this]at hb
    exact hb
 ·intro h
  exact Kr g hs h (KC g hs hm.1)
end
end
section
section
variable {t:Tr}{o:List Int}(g:GoodT t o)
include g
end
def Ke (t:Tr) (o:List Int) (of:List Int) (s:Nat):List Int:=
 (QC t).filter fun x=>(Gg t.nodes.length).any fun i=>(nd t i).k == 3 && (decide (0≤of.getD i (-1)) && ((nd t (of.getD i (-1)).toNat).k == 42 && (Jbi o i s && (KG t (of.getD i (-1)).toNat == x && (KG t x.toNat == KG t s && !buL t (upL t (J8 t s) t.nodes.length i) false)))))
end
def JfZ (N:Int→List Int):Nat→List Int→List Int→List Int
 |0,_,out=>out
 |_+1,[],out=>out
 |f+1,x::todo,out=>if out.contains x then JfZ N f todo out else JfZ N f (todo++N x) (out++[x])
def XR:List Int→List Int→Nat
 |[],_=>0
 |y::l,out=>(if out.contains y=true then 0 else 1)+XR l out
def muB (l todo out:List Int):Nat:=XR l out*(l.length+1)+todo.length
theorem left_le {out:List Int}{x:Int}:∀ m:List Int,XR m (out++[x])≤XR m out
 |[]=>Gm _
 |y::m=>by
  have ih:=left_le (out:=out) (x:=x) m
  simp only[XR]
  by_cases h1:out.contains y=true
  ·have h2:(out++[x]).contains y=true:=by simp at h1 ⊢; exact .inl h1
   rw[if_pos h1,if_pos h2]; omega
  ·rw[if_neg h1]; split <;> omega
theorem Yt {out:List Int}{x:Int}:∀ {l:List Int},x∈l→out.contains x=false→XR l (out++[x]) < XR l out
 |[],hx,_=>by cases hx
 |y::l,hx,hn=>by
  have hle:=left_le (out:=out) (x:=x) l
  simp only[XR]
  by_cases he:y=x
  ·subst he
   have h2:(out++[y]).contains y=true:=by simp
   rw[if_pos h2,if_neg (by rw[hn]; simp)]
   omega
  ·have hxl:x∈l:=by
    rcases Gf.1 hx with h | h
    ·exact absurd h.symm he
    ·exact h
   have:=Yt hxl hn
   have h3:(out++[x]).contains y=out.contains y:=by
    rw[Gr]; simp[he]
   rw[h3]
   omega
theorem JbK {N:Int→List Int}{l:List Int}(hN:∀ x∈l,(∀ y∈N x,y∈l)∧(N x).length≤l.length):∀ (f f':Nat) (todo out:List Int),(∀ x∈todo,x∈l)→muB l todo out < f→muB l todo out < f'→JfZ N f todo out=JfZ N f' todo out
 |0,_,_,_,_,h,_=>by omega
 |_,0,_,_,_,_,h=>by omega
 |f+1,f' + 1,[],out,_,_,_=>rfl
 |f+1,f' + 1,x::todo,out,ht,h1,h2=>by
  simp only[JfZ]
  have hx:=ht x (by simp)
  by_cases hc:out.contains x=true
  ·rw[if_pos hc,if_pos hc]
   refine JbK hN f f' todo out (fun y hy=>ht y (by simp[hy])) ?_ ?_ <;> (unfold muB at *; simp only[Gj]at *; omega)
  ·rw[if_neg hc,if_neg hc]
   have hl:=Yt hx (by simpa using hc)
   have hn:=hN x hx
   have hm:(XR l (out++[x])+1)*(l.length+1)≤XR l out*(l.length+1):=GI _ hl
   refine JbK hN f f' (todo++N x) (out++[x]) (fun y hy=>?_) ?_ ?_
   ·rcases Gl.1 hy with hy | hy
    ·exact ht y (by simp[hy])
    ·exact hn.1 y hy
   all_goals
    unfold muB at *
    simp only[Gj,GA,He]at *
    omega
def bfs (N:Int→List Int) (l todo out:List Int):List Int:=JfZ N (muB l todo out+1) todo out
theorem bfs_nil {N:Int→List Int}{l out:List Int}:bfs N l [] out=out:=rfl
theorem bfs_old {N:Int→List Int}{l todo out:List Int}{x:Int}(hN:∀ x∈l,(∀ y∈N x,y∈l)∧(N x).length≤l.length) (ht:∀ y∈x::todo,y∈l) (hc:out.contains x=true):bfs N l (x::todo) out=bfs N l todo out:=by
 unfold bfs
 rw[JfZ,if_pos hc]
 refine JbK hN _ _ todo out (fun y hy=>ht y (by simp[hy])) ?_ (GJ _)
 unfold muB
 simp only[Gj]
 omega
theorem bfs_new {N:Int→List Int}{l todo out:List Int}{x:Int}(hN:∀ x∈l,(∀ y∈N x,y∈l)∧(N x).length≤l.length) (ht:∀ y∈x::todo,y∈l) (hc:out.contains x=false):bfs N l (x::todo) out=bfs N l (todo++N x) (out++[x]):=by
 unfold bfs
 rw[JfZ,if_neg (by rw[hc]; simp)]
 have hx:=ht x (by simp)
 have hl:=Yt hx hc
 have hn:=hN x hx
 have hm:(XR l (out++[x])+1)*(l.length+1)≤XR l out*(l.length+1):=GI _ hl
 refine JbK hN _ _ _ _ (fun y hy=>?_) ?_ (GJ _)
 ·rcases Gl.1 hy with hy | hy
  ·exact ht y (by simp[hy])
  ·exact hn.1 y hy
 ·unfold muB
  simp only[Gj,GA,He]at *
  omega
section
def J6 (t:Tr) (o:List Int) (i:Nat):Int:=if (nd t i).k=3 then meansN t o i else if (nd t i).k=26 then Jco t i else if (nd t i).k=44 then Jcn t i else -1
def Kh (t:Tr) (i:Nat):Bool:=(nd t i).k == 3 || (nd t i).k == 26 || (nd t i).k == 44
def Xo (t:Tr) (o:List Int) (a b:Int):List Nat→Option (Nat×Int)
 |[]=>none
 |i::l=>if twN t i=true then some (i,a) else if (Kh t i && J6 t o i == -1)=true then some (i,b) else Xo t o a b l
section
variable {t:Tr}{o:List Int}(g:GoodT t o)
include g
end
end
section
def ofL (t:Tr) (o:List Int):List Int:=(Gg t.nodes.length).map fun i=>J6 t o i
def stN (t:Tr) (o:List Int) (i:Nat):Bool:=(nd t i).k == 41 && (bfs (fun x=>Ke t o (ofL t o) x.toNat) (QC t) (Ke t o (ofL t o) i) []).contains (i:Int)
theorem nd_in {t:Tr}{i:Nat}(h:(nd t i).k≠0):i < t.nodes.length:=by
 rcases Nat.lt_or_ge i t.nodes.length with h1 | h1
 ·exact h1
 ·exfalso
  apply h
  unfold nd
  rw[Gb,Gy h1]
  rfl
section
variable {t:Tr}{o:List Int}(g:GoodT t o)
include g
theorem JaH {of:List Int}{s:Nat}{x:Int}(h:x∈Ke t o of s):0≤x∧x < t.nodes.length∧(nd t x.toNat).k=41:=by
 unfold Ke at h
 rw[Gn,JY]at h
 obtain ⟨h0,h⟩:=h
 simp only[G5,Gp,Gh,beq_iff_eq,decide_eq_true_eq,Ha,JP]at h
 obtain ⟨i,hi,h1,h2,h3,h4,h5,h6,h7⟩:=h
 refine ⟨h0.1,h0.2,?_⟩
 generalize (of.getD i (-1)).toNat=m at h3 h5
 have hm:=nd_in (t:=t) (i:=m) (by omega)
 obtain ⟨u,q1,q2,q3,q4⟩:=Q8 g hm (by omega)
 have:x.toNat=u:=by omega
 rw[this]
 exact (JdF (par_k g q2 q4)).2.2.1 (by rw[h3]; rfl)
end
def Q0 (t:Tr) (o:List Int):Nat×Int:=match Xo t o 6 10 (Gg t.nodes.length) with
 |some r=>r
 |none=>match (Gg t.nodes.length).find? (stN t o) with
  |some i=>(i,9)
  |none=>(0,0)
end
theorem JbJ {N:Int→List Int}{q:Int→Prop}(hq:∀ x,q x→∀ y∈N x,q y):∀ (f:Nat) (todo out:List Int),(∀ x∈todo,q x)→(∀ x∈out,q x)→∀ x∈JfZ N f todo out,q x
 |0,_,_,_,h2,x,hx=>h2 x hx
 |_+1,[],_,_,h2,x,hx=>h2 x hx
 |f+1,y::todo,out,h1,h2,x,hx=>by
  simp only[JfZ]at hx
  split at hx
  ·exact JbJ hq f todo out (fun z hz=>h1 z (by simp[hz])) h2 x hx
  ·refine JbJ hq f _ _ (fun z hz=>?_) (fun z hz=>?_) x hx
   ·rcases Gl.1 hz with hz | hz
    ·exact h1 z (by simp[hz])
    ·exact hq y (h1 y (by simp)) z hz
   ·rcases Gl.1 hz with hz | hz
    ·exact h2 z hz
    ·rw[Gs]at hz
     rw[hz]; exact h1 y (by simp)
theorem YC {N:Int→List Int}{l:List Int}(hN:∀ x∈l,(∀ y∈N x,y∈l)∧(N x).length≤l.length):∀ (f:Nat) (todo out:List Int),(∀ x∈todo,x∈l)→muB l todo out < f→(∀ x∈out,∀ y∈N x,y∈out∨y∈todo)→
  (∀ x∈out,x∈JfZ N f todo out)∧(∀ x∈todo,x∈JfZ N f todo out)∧∀ x∈JfZ N f todo out,∀ y∈N x,y∈JfZ N f todo out
 |0,_,_,_,h,_=>by omega
 |f+1,[],out,_,_,h3=>by
  simp only[JfZ]
  refine ⟨fun x hx=>hx,fun x hx=>(by cases hx),fun x hx y hy=>?_⟩
  rcases h3 x hx y hy with h | h
  ·exact h
  ·cases h
 |f+1,x::todo,out,ht,h1,h3=>by
  simp only[JfZ]
  have hx:=ht x (by simp)
  by_cases hc:out.contains x=true
  ·rw[if_pos hc]
   have hxo:x∈out:=by simpa using hc
   obtain ⟨a1,a2,a3⟩:=YC hN f todo out (fun y hy=>ht y (by simp[hy])) (by unfold muB at *; simp only[Gj]at *; omega) (fun z hz y hy=>by
    rcases h3 z hz y hy with h | h
    ·exact .inl h
    ·rcases Gf.1 h with rfl | h
     ·exact .inl hxo
     ·exact .inr h)
   refine ⟨a1,fun z hz=>?_,a3⟩
   rcases Gf.1 hz with rfl | hz
   ·exact a1 _ hxo
   ·exact a2 z hz
  ·rw[if_neg hc]
   have hl:=Yt hx (by simpa using hc)
   have hn:=hN x hx
   have hm:(XR l (out++[x])+1)*(l.length+1)≤XR l out*(l.length+1):=GI _ hl
   obtain ⟨a1,a2,a3⟩:=YC hN f (todo++N x) (out++[x]) (fun y hy=>by
    rcases Gl.1 hy with hy | hy
    ·exact ht y (by simp[hy])
    ·exact hn.1 y hy) (by unfold muB at *; simp only[Gj,GA,He]at *; omega) (fun z hz y hy=>by
    rcases Gl.1 hz with hz | hz
    ·rcases h3 z hz y hy with h | h
     ·exact .inl (by simp[h])
     ·rcases Gf.1 h with rfl | h
      ·exact .inl (by simp)
      ·exact .inr (by simp[h])
    ·rw[Gs]at hz
     subst hz
     exact .inr (by simp[hy]))
   refine ⟨fun z hz=>a1 z (by simp[hz]),fun z hz=>?_,a3⟩
   rcases Gf.1 hz with rfl | hz
   ·exact a1 _ (by simp)
   ·exact a2 z (by simp[hz])
theorem free_one {N:Int→List Int}{l:List Int}(hN:∀ x∈l,(∀ y∈N x,y∈l)∧(N x).length≤l.length) (hno:∀ x∈l,x∉bfs N l (N x) []) {left:List Int}(hl:∀ x∈left,x∈l) (hne:left≠[]):∃ x∈left,∀ y∈N x,y∉left:=by
 have key:∀ (m:Nat) (x:Int),x∈left→(l.filter fun z=>(bfs N l (N x) []).contains z).length≤m→∃ x∈left,∀ y∈N x,y∉left:=by
  intro m
  induction m with
  |zero=>
   intro x hx hm
   refine ⟨x,hx,fun y hy hyl=>?_⟩
   have hc:=YC hN _ (N x) [] (hN x (hl x hx)).1 (GJ _) (fun z hz=>by cases hz)
   have:y∈l.filter fun z=>(bfs N l (N x) []).contains z:=by
    rw[Gn]
    exact ⟨hl y hyl,by simpa [bfs]using hc.2.1 y hy⟩
   have:=List.length_pos_of_mem this
   omega
  |succ m ih=>
   intro x hx hm
   by_cases hf:∀ y∈N x,y∉left
   ·exact ⟨x,hx,hf⟩
   ·simp only[Classical.not_forall]at hf
    obtain ⟨y,hy,hyl⟩:=hf
    have hyl:y∈left:=Classical.not_not.1 hyl
    have hc:=YC hN _ (N x) [] (hN x (hl x hx)).1 (GJ _) (fun z hz=>by cases hz)
    have hyR:y∈bfs N l (N x) []:=hc.2.1 y hy
    have hsub:∀ z∈bfs N l (N y) [],z∈bfs N l (N x) []:=JbJ (q:=fun z=>z∈bfs N l (N x) []) hc.2.2 _ _ _ (hc.2.2 y hyR) (fun z hz=>by cases hz)
    refine ih y hyl ?_
    have hlt:∀ k:List Int,y∈k→(k.filter fun z=>(bfs N l (N y) []).contains z).length < (k.filter fun z=>(bfs N l (N x) []).contains z).length:=by
     have hle:∀ k:List Int,(k.filter fun z=>(bfs N l (N y) []).contains z).length≤(k.filter fun z=>(bfs N l (N x) []).contains z).length:=by
      intro k
      induction k with
      |nil=>simp
      |cons z k ihk=>
       rw[Gu,Gu]
       by_cases h1:(bfs N l (N y) []).contains z=true
       ·have h2:(bfs N l (N x) []).contains z=true:=by simp at h1 ⊢; exact hsub z h1
        rw[if_pos h1,if_pos h2]; simpa using ihk
       ·rw[if_neg h1]; split
        ·simp only[Gj]; omega
        ·exact ihk
     intro k
     induction k with
     |nil=>intro h; cases h
     |cons z k ihk=>
      intro h
      rw[Gu,Gu]
      by_cases he:z=y
      ·subst he
       have h1:¬ (bfs N l (N z) []).contains z=true:=by simpa using hno z (hl z hyl)
       have h2:(bfs N l (N x) []).contains z=true:=by simpa using hyR
       rw[if_neg h1,if_pos h2]
       have:=hle k
       simp only[Gj]
       omega
      ·have hk:y∈k:=by
        rcases Gf.1 h with h | h
        ·exact absurd h.symm he
        ·exact h
       have:=ihk hk
       by_cases h1:(bfs N l (N y) []).contains z=true
       ·have h2:(bfs N l (N x) []).contains z=true:=by simp at h1 ⊢; exact hsub z h1
        rw[if_pos h1,if_pos h2]; simpa using this
       ·rw[if_neg h1]; split
        ·simp only[Gj]; omega
        ·exact this
    have:=hlt l (hl y hyl)
    omega
 cases left with
 |nil=>exact absurd rfl hne
 |cons x left=>exact key _ x (by simp) (Gm _)
section
def upT (t:Tr):List Int:=(Gg t.nodes.length).map fun j=>KG t j
def upTo (t:Tr) (i:Nat):List Int:=(Gg t.nodes.length).map fun j=>if KG t j < i then KG t j else -1
def X5 (v:Int):List Int→List Int→List Int
 |r,[]=>r
 |r,k::ks=>X5 v (r.set k.toNat v) ks
theorem Jej {v:Int}:∀ (ks r:List Int),(X5 v r ks).length=r.length
 |[],_=>rfl
 |k::ks,r=>by rw[X5,Jej ks,G7]
theorem JcW {v k:Int}:∀ (ks r:List Int),X5 v r (ks++[k])=(X5 v r ks).set k.toNat v
 |[],_=>rfl
 |_::ks,_=>JcW ks _
theorem Jek {v:Int}:∀ (ks r:List Int) (j:Nat),(∀ k∈ks,0≤k)→(X5 v r ks)[j]? = if (j:Int)∈ks∧j < r.length then some v else r[j]?
 |[],_,_,_=>by simp[X5]
 |k::ks,r,j,h=>by
  rw[X5,Jek ks _ j fun x hx=>h x (by simp[hx]),G7,Hw]
  have hk:=h k (by simp)
  by_cases h1:(j:Int)∈ks∧j < r.length
  ·rw[if_pos h1,if_pos ⟨by simp[h1.1],h1.2⟩]
  ·rw[if_neg h1]
   by_cases h2:k.toNat=j
   ·rw[if_pos h2]
    by_cases h3:j < r.length
    ·rw[if_pos (by omega),if_pos ⟨by simp; left; omega,h3⟩]
    ·rw[if_neg (by omega),if_neg (fun h=>h3 h.2),Gy (by omega)]
   ·rw[if_neg h2,if_neg]
    rintro ⟨h3,h4⟩
    rcases Gf.1 h3 with h5 | h5
    ·omega
    ·exact h1 ⟨h5,h4⟩
def Xq (t:Tr) (i:Nat):List Int:=(Gg i).map (fun j=>(Qi t j:Int))++Gd (t.nodes.length-i) 0
def Jcu (t:Tr):List Int:=(Gg t.nodes.length).map fun j=>(Qi t j:Int)
theorem itemTo_zero {t:Tr}:Xq t 0=Gd t.nodes.length 0:=by simp[Xq]
theorem itemTo_all {t:Tr}:Xq t t.nodes.length=Jcu t:=by simp[Xq,Jcu]
theorem JeD {t:Tr}{i:Nat}(h:i≤t.nodes.length):(Xq t i).length=t.nodes.length:=by simp[Xq]; omega
theorem itemTo_succ {t:Tr}{i:Nat}(h:i < t.nodes.length):(Xq t i).set i (Qi t i:Int)=Xq t (i+1):=by
 unfold Xq
 rw[List.set_append_right _ _ (by simp)]
 simp only[HY,Hu,Nat.sub_self]
 rw[show t.nodes.length-i=(t.nodes.length-(i+1))+1 by omega,List.replicate_succ,List.set_cons_zero,List.range_succ,G6]
 simp
theorem Jay {t:Tr}{i:Nat}:(upTo t i).length=t.nodes.length:=by simp[upTo]
theorem JcR {t:Tr}:(upT t).length=t.nodes.length:=by simp[upT]
theorem JbB {t:Tr}:(Jcu t).length=t.nodes.length:=by simp[Jcu]
theorem upT_get {t:Tr}{i:Nat}(h:i < t.nodes.length):(upT t).getD i 0=KG t i:=by
 simp[upT,Gb,h]
theorem itemT_get {t:Tr}{i:Nat}(h:i < t.nodes.length):(Jcu t).getD i 0=Qi t i:=by
 simp[Jcu,Gb,h]
section
variable {t:Tr}{o:List Int}(g:GoodT t o)
include g
theorem par_rng {j:Nat}(hj:j < t.nodes.length) : -1≤KG t j∧KG t j < t.nodes.length:=by
 rcases Qp g hj with ⟨h,_⟩ | ⟨m,h,h1,h2,_⟩ <;> omega
theorem upTo_zero:upTo t 0=Gd t.nodes.length (-1):=by
 refine GG (by simp[upTo]) fun j h1 h2=>?_
 have hj:j < t.nodes.length:=by rwa [Jay]at h1
 have:=par_rng g hj
 simp only[upTo,GZ,GU,List.getElem_replicate]
 split <;> omega
theorem upTo_all:upTo t t.nodes.length=upT t:=by
 refine GG (by simp[upTo,upT]) fun j h1 h2=>?_
 have hj:j < t.nodes.length:=by rwa [Jay]at h1
 have:=par_rng g hj
 simp only[upTo,upT,GZ,GU]
 split <;> omega
theorem upTo_succ {i:Nat}(hi:i < t.nodes.length):upTo t (i+1)=X5 i (upTo t i) (nd t i).kids:=by
 refine List.ext_getElem? fun j=>?_
 rw[Jek (nd t i).kids _ _ fun k hk=>(g.kid hi hk).1,Jay]
 by_cases hj:j < t.nodes.length
 ·simp only[upTo,GX,List.getElem?_range hj,Gw]
  by_cases hm:(j:Int)∈(nd t i).kids
  ·have:=(JJ g hi hm).1
   rw[if_pos (show (j:Int)∈(nd t i).kids∧j < t.nodes.length from ⟨hm,hj⟩),if_pos (show KG t j < ((i+1:Nat):Int) by omega),this]
  ·rw[if_neg (show ¬ ((j:Int)∈(nd t i).kids∧j < t.nodes.length) from fun h=>hm h.1)]
   have hne:KG t j≠i:=by
    intro he
    rcases Qp g hj with ⟨h,_⟩ | ⟨m,h,_,_,h4⟩
    ·omega
    ·have:m=i:=by omega
     subst this
     exact hm h4
   by_cases h1:KG t j < i
   ·rw[if_pos h1,if_pos (show KG t j < ((i+1:Nat):Int) by omega)]
   ·rw[if_neg h1,if_neg (show ¬ KG t j < ((i+1:Nat):Int) by omega)]
 ·rw[if_neg (fun h=>hj h.2),Gy (by rw[Jay]; omega),Gy (by rw[Jay]; omega)]
theorem JeE:Qi t 0=0:=by
 unfold Qi
 rw[List.length_eq_zero_iff,GQ]
 intro L hL
 have:=g.itr hL
 simp; omega
theorem itemN_step {i:Nat}(hi:i < t.nodes.length):∃ L:Nat,Qi t i < t.items.length∧t.items.getD (Qi t i) 0=(L:Int)∧i≤L∧L < t.nodes.length∧Qi t (i+1)=if i=L then Qi t i+1 else Qi t i:=by
 obtain ⟨k,L,hk,hget,h1,h2,h3,h4⟩:=Jb4 g hi
 have hL:(L:Int)∈t.items:=List.mem_of_getElem? hget
 have hLr:=g.itr hL
 refine ⟨L,by omega,by rw[h1,Gb,hget]; rfl,h4,by omega,?_⟩
 rw[h1]
 have ha:=Yz g.ord.ok g.olen _ _ _ g.its
 have hkl:t.items=t.items.take k++(L:Int)::t.items.drop (k+1):=by
  have h6:=Hf hk
  have h7:=Gc hk
  rw[hget]at h7
  rw[← H7 h7]at h6
  rw[← h6,Hl]
 rw[hkl,List.pairwise_append]at ha
 obtain ⟨_,ha2,ha3⟩:=ha
 rw[Gz]at ha2
 have hlt:∀ x∈t.items.take k,x < (i:Int):=fun x hx=>by
  have:=(Qm g.ord.ok g.olen _ _ _ (Y9 g k (GL hk)).1 x hx).2.2.1
  omega
 unfold Qi
 rw[hkl,Hr,Gu,Hm.2 (fun x hx=>by have:=hlt x hx; simp; omega),GQ.2 (fun x hx=>by have:=ha2.1 x hx; simp; omega)]
 have hlk:(t.items.take k).length=k:=by rw[Gt]; omega
 by_cases he:i=L
 ·rw[if_pos he,if_pos (by simp; omega),GA,hlk]; rfl
 ·rw[if_neg he,if_neg (by simp; omega),HZ,hlk]
end
end
end Go.Cm
end
section
open Go.Proofs
namespace Go.Cm
section
section
variable {P:Program}{E:Env}{H:List CObj}
theorem putCells_get {α:Type} [Inhabited α] (enc:α→Value) (off:Nat) (d:Array α) (c:Array Value) (k:Nat):(Sort.putCells enc off d c)[k]? = (c[k]?).map fun x=>if off≤k∧k < off+d.size then enc d[k-off]! else x:=by
 simp[Sort.putCells]
theorem putRow_heap {α:Type} [Inhabited α] (enc:α→Value) (w:World) (B off:Nat) (d:Array α) {c:Array Value}{e:TypeId}{fr:Nat×Nat}(hb:w.heap[B]? = some (.cells c e fr)):(Sort.putRow enc w B off d).heap[B]? = some (.cells (Sort.putCells enc off d c) e fr):=by
 simp[Sort.putRow,Sort.mapBlock,Array.getElem?_modify,hb,Sort.onCells]
theorem putRow_other {α:Type} [Inhabited α] (enc:α→Value) (w:World) (B off:Nat) (d:Array α) (B':Nat) (h:B'≠B):(Sort.putRow enc w B off d).heap[B']? = w.heap[B']?:=by
 simp[Sort.putRow,Sort.mapBlock,Array.getElem?_modify,Ne.symm h]
theorem rels_ints {own:List Own}{imm:Nat→Nat→Option Value}:∀ {ys:List Int}{vs:List Value},JK own imm (ys.map (CV.int .i64)) vs→vs=ys.map (Value.int .i64)
 |[],_,h=>h
 |y::ys,_,h=>by
  simp only[GH,JK,rel]at h
  obtain ⟨r,rs,rfl,rfl,h2⟩:=h
  rw[rels_ints h2]; rfl
theorem YQ {f id:Nat}{l l' ys:List Int}{cap:Option Nat}{v:CV}(R:Nat→Nat→Nat→Value) (hl:l≠[]) (hlen:l'.length=l.length) (hH:H[id]? = some (.arr 1 (iz l)))
  (hR:∀ (own:List Own) imm (x:Own) c,own[id]? = some x→x.z=1→l.length≤c→(∀ n,cap=some n→c=n)→x.o+c≤x.n→rel own imm v (R x.B x.o c))
  (h:∀ (blk off c:Nat) (w:World),l.length≤c→Sort.Holds (Value.int .i64) w blk off l.toArray→blk < w.heap.size→Calls P f (Value.slice (some ⟨blk,off,none⟩) l.length c::ys.map (Value.int .i64)).toArray w fun e w'=>e=.returned (R blk off c)∧∃ n os,w'=Sort.grow (Sort.putRow (Value.int .i64) (Sort.ahead w n) blk off l'.toArray) os) :
  CallsC P E f (.slc id 0 l.length cap::ys.map (CV.int .i64)) H fun v' H'=>v'=v∧H'=H.set id (.arr 1 (iz l')):=by
 intro m w vs hs hv
 have hlp:0 < l.length:=List.length_pos_iff.2 hl
 simp only[JK,rel]at hv
 obtain ⟨r,rs,hvs,⟨x,a,c,hx,rfl,hc1,hcap,ha,hroom⟩,hys⟩:=hv
 obtain rfl:=rels_ints hys
 obtain ⟨hz,cells,elem,hb,hsz,hle,hrow,hone⟩:=hs.obj id _ x hH hx
 rw[hz]at hle hrow ha hroom
 have ha:=ha (by omega)
 rw[GK,GM]at ha
 have hvs:vs=(Value.slice (some a) l.length c::ys.map (Value.int .i64)).toArray:=by
  cases vs; simp only[]at hvs; rw[hvs]
 subst hvs ha
 have hrd:∀ j,j < l.length→cells[x.o+j]? = some (Value.int .i64 (l.getD j 0)):=by
  intro j hj
  obtain ⟨r,h1,h2⟩:=(hrow j [.int .i64 (l.getD j 0)] (by simp[iz,Gc hj])).2 0 _ rfl
  simp only[rel]at h2
  subst h2
  simpa using h1
 have hB:x.B < w.heap.size:=(Array.getElem?_eq_some_iff.1 hb).1
 have hHolds:Sort.Holds (Value.int .i64) w x.B x.o l.toArray:=by
  intro j hj
  have hj':j < l.length:=by simpa using hj
  refine ⟨?_,?_⟩
  ·simp only[World.cell?,hb]
   rw[hrd j hj']
   simp[getElem!_pos,hj',Gb,Gc hj']
  ·simp[World.frozen?,hb]
 refine ⟨trivial,fun cs _=>?_⟩
 obtain ⟨e,w',fr,⟨rfl,n,os,rfl⟩,hst,hl2⟩:=h x.B x.o c w hc1 hHolds hB cs
 have hb1:(Sort.putRow (Value.int .i64) (Sort.ahead w n) x.B x.o l'.toArray).heap[x.B]? = some (.cells (Sort.putCells (Value.int .i64) x.o l'.toArray cells) elem (0,0)):=putRow_heap _ _ _ _ _ (by rw[Sort.heap_ahead]; exact hb)
 have hsz1:(Sort.putRow (Value.int .i64) (Sort.ahead w n) x.B x.o l'.toArray).heap.size=w.heap.size:=by rw[Sort.size_putRow]; rfl
 have hot:∀ B,B≠x.B→(Sort.putRow (Value.int .i64) (Sort.ahead w n) x.B x.o l'.toArray).heap[B]? = w.heap[B]?:=fun B hB=>by rw[putRow_other _ _ _ _ _ _ hB]; rfl
 have hget:∀ k,(Sort.putCells (Value.int .i64) x.o l'.toArray cells)[k]? = if x.o≤k∧k < x.o+l.length then some (Value.int .i64 (l'.getD (k-x.o) 0)) else cells[k]?:=by
  intro k
  rw[putCells_get]
  by_cases hk:x.o≤k∧k < x.o+l.length
  ·have h1:=hrd (k-x.o) (by omega)
   rw[show x.o+(k-x.o)=k by omega]at h1
   have h3:k-x.o < l'.length:=by omega
   rw[h1,if_pos hk,Gw,if_pos (by simp; omega)]
   simp[getElem!_pos,h3,Gb,Gc h3]
  ·rw[if_neg hk]
   cases hck:cells[k]? with
   |none=>rfl
   |some v=>rw[Gw,if_neg (by simp; omega)]
 have hobj:X9 m.own m.imm x (.arr 1 (iz l')) (Sort.putRow (Value.int .i64) (Sort.ahead w n) x.B x.o l'.toArray):=by
  refine ⟨hz,_,elem,hb1,?_,?_,?_,?_⟩
  ·simp only[Sort.putCells,Array.size_mapIdx]; exact hsz
  ·rw[hz,Jd,hlen]; rw[Jd]at hle; exact hle
  ·intro j e he
   rw[hz]
   have hj:j < l'.length:=by
    have:=(GN.1 he).1
    rwa [Jd]at this
   simp only[iz,GX,Gc hj,Gw,Gx]at he
   subst he
   refine ⟨rfl,fun t c hc=>?_⟩
   cases t with
   |zero=>
    simp only[List.getElem?_cons_zero,Gx]at hc
    subst hc
    refine ⟨.int .i64 (l'[j]),?_,by simp only[rel]⟩
    show (Sort.putCells (Value.int .i64) x.o l'.toArray cells)[x.o+j*1+0]? = _
    rw[hget,if_pos (by omega),show x.o+j*1+0-x.o=j by omega,Gb,Gc hj]; rfl
   |succ t=>simp at hc
  ·intro i v hv
   rw[hget]at hv
   split at hv
   ·simp only[Gx]at hv; subst hv; rfl
   ·exact hone i v hv
 have hsame:(Sort.putRow (Value.int .i64) (Sort.ahead w n) x.B x.o l'.toArray).os=w.os∧(Sort.putRow (Value.int .i64) (Sort.ahead w n) x.B x.o l'.toArray).output=w.output∧(Sort.putRow (Value.int .i64) (Sort.ahead w n) x.B x.o l'.toArray).tape=w.tape:=⟨rfl,rfl,rfl⟩
 have hs1:=hs.put hH rfl hx hsz1 hot (fun i hi=>by simp only[World.cell?,hb1,hb]; rw[hget,if_neg (show ¬ (x.o≤i∧i < x.o+l.length) by omega)]) hobj (by intro s b h; cases h)
 have he1:Ext H.length m H w m (H.set id (.arr 1 (iz l'))) _:=Ext.put hH rfl hx hsz1 hot hsame
 have hg:∀ B,B < (Sort.putRow (Value.int .i64) (Sort.ahead w n) x.B x.o l'.toArray).heap.size→(Sort.grow (Sort.putRow (Value.int .i64) (Sort.ahead w n) x.B x.o l'.toArray) os).heap[B]? = (Sort.putRow (Value.int .i64) (Sort.ahead w n) x.B x.o l'.toArray).heap[B]?:=fun B hB=>Sort.heap_grow_old _ _ hB
 have hgs:(Sort.putRow (Value.int .i64) (Sort.ahead w n) x.B x.o l'.toArray).heap.size≤(Sort.grow (Sort.putRow (Value.int .i64) (Sort.ahead w n) x.B x.o l'.toArray) os).heap.size:=by rw[Sort.size_grow]; omega
 exact ⟨_,_,fr,⟨R x.B x.o c,m,v,_,rfl,he1.trans (Ext.grown hgs hg ⟨rfl,rfl,rfl⟩),hs1.grown hgs hg,hR _ _ x c hx hz hc1 hcap (by simp only[GK,Nat.mul_one,GM]at hroom; exact hroom),rfl,rfl⟩,(show StepsIn _ _ _ _ from Je5 hst),hl2⟩
theorem callsC_sort {f id:Nat}{l:List Int}{cap:Option Nat}(hl:l≠[]) (hbig:l.length≤1000000) (hH:H[id]? = some (.arr 1 (iz l)))
  (h:∀ (blk off c:Nat) (w:World),Sort.Holds (Value.int .i64) w blk off l.toArray→blk < w.heap.size→l.length < 4611686018427387904→Calls P f #[.slice (some ⟨blk,off,none⟩) l.length c] w fun e w'=>e=.returned (.tuple #[])∧∃ n os,w'=Sort.grow (Sort.putRow (Value.int .i64) (Sort.ahead w n) blk off (l.mergeSort fun x y=>decide (x≤y)).toArray) os) :
  CallsC P E f [.slc id 0 l.length cap] H fun v' H'=>v'=.tup []∧H'=H.set id (.arr 1 (iz (l.mergeSort fun x y=>decide (x≤y)))):=
 YQ (ys:=[]) (fun _ _ _=>.tuple #[]) hl (List.length_mergeSort _) hH (fun own imm x c _ _ _ _ _=>by simp only[rel,JK]; exact ⟨_,rfl,rfl⟩) fun blk off c w _ h1 h2=>h blk off c w h1 h2 (by omega)
theorem compact_len (l:List Int):(Lib.compact l).length≤l.length:=by
 unfold Lib.compact Lib.compactUpTo
 rw[HY]
 have:=List.length_filter_le (Lib.keeps l.toArray) (Gg l.length)
 rwa [Hu]at this
theorem Jd6 {f id:Nat}{l:List Int}{cap:Option Nat}(hl:l≠[]) (hbig:l.length≤1000000) (hH:H[id]? = some (.arr 1 (iz l)))
  (h:∀ (blk off c:Nat) (w:World),Sort.Holds (Value.int .i64) w blk off l.toArray→l.length≤9223372036854775807→l.length≤c→Calls P f #[.slice (some ⟨blk,off,none⟩) l.length c] w fun e w'=>e=.returned (.slice (some ⟨blk,off,none⟩) (Lib.compact l).length c)∧∃ n,w'=Sort.putRow (Value.int .i64) (Sort.ahead w n) blk off (Lib.compact l++Gd (l.length-(Lib.compact l).length) 0).toArray) :
  CallsC P E f [.slc id 0 l.length cap] H fun v' H'=>v'=.slc id 0 (Lib.compact l).length cap∧H'=H.set id (.arr 1 (iz (Lib.compact l++Gd (l.length-(Lib.compact l).length) 0))):=
 have hle:=compact_len l
 YQ (ys:=[]) (fun blk off c=>.slice (some ⟨blk,off,none⟩) (Lib.compact l).length c) hl (by simp; omega) hH (fun own imm x c hx hz hc hcap hroom=>by
  simp only[rel]
  exact ⟨x,_,c,hx,rfl,by omega,hcap,fun _=>by rw[GK,GM],by rw[hz]; omega⟩) fun blk off c w hc h1 _=>(h blk off c w h1 (by omega) hc).mono fun e w' ⟨h3,n,h4⟩=>⟨h3,n,#[],by rw[Sort.grow_empty]; exact h4⟩
theorem YP {l:List Int}{x:Int}:x∈Lib.compact l↔x∈l:=by
 unfold Lib.compact Lib.compactUpTo
 simp only[Gv,Gn,Gp]
 constructor
 ·rintro ⟨i,⟨hi,_⟩,rfl⟩
  rw[getElem!_pos l.toArray i (by simpa using hi)]
  simp
 ·intro hx
  have key:∀ (n i:Nat),i≤n→i < l.length→l.toArray[i]! = x→∃ i,(i < l.length∧Lib.keeps l.toArray i=true)∧l.toArray[i]! = x:=by
   intro n
   induction n with
   |zero=>intro i h1 h2 h3; exact ⟨i,⟨h2,by simp[Lib.keeps]; left; omega⟩,h3⟩
   |succ n ih=>
    intro i h1 h2 h3
    by_cases hk:Lib.keeps l.toArray i=true
    ·exact ⟨i,⟨h2,hk⟩,h3⟩
    ·simp only[Lib.keeps,decide_eq_true_eq,not_or,ne_eq,Classical.not_not]at hk
     exact ih (i-1) (by omega) (by omega) (by rw[← hk.2]; exact h3)
  obtain ⟨i,hi,rfl⟩:=GR hx
  exact key i i (Gm _) hi (by rw[getElem!_pos l.toArray i (by simpa using hi)]; simp)
theorem JdM {l:List Int}(h:l.Pairwise (·≤·)):(Lib.compact l).Pairwise (· < ·):=by
 unfold Lib.compact Lib.compactUpTo
 rw[Ht]
 refine List.Pairwise.imp_of_mem ?_ (Hg.filter _)
 intro a b ha hb hab
 simp only[Gn,Gp]at ha hb
 have hk:=hb.2
 simp only[Lib.keeps,decide_eq_true_eq]at hk
 have hk:=hk.resolve_left (by omega)
 have hg:∀ i,i < l.length→l.toArray[i]! = l.getD i 0:=fun i hi=>by
  rw[getElem!_pos l.toArray i (by simpa using hi),Gb,Gc hi]; simp
 rw[hg b hb.1,hg (b-1) (by omega)]at hk
 rw[hg a ha.1,hg b hb.1]
 rw[List.pairwise_iff_getElem]at h
 have hle:∀ i j,i≤j→j < l.length→l.getD i 0≤l.getD j 0:=fun i j hij hj=>by
  rw[Gb,Gb,Gc hj,Gc (show i < l.length by omega)]
  by_cases he:i=j
  ·subst he; exact Int.le_refl _
  ·exact h i j _ _ (by omega)
 have h1:=hle a (b-1) (by omega) (by omega)
 have h2:=hle (b-1) b (by omega) hb.1
 omega
theorem Je7 (l:List Int):(l.mergeSort fun x y=>decide (x≤y)).Pairwise (·≤·):=by
 have:=List.pairwise_mergeSort (le:=fun x y:Int=>decide (x≤y)) (fun a b c h1 h2=>by simp at *; omega) (fun a b=>by simp; omega) l
 exact this.imp fun h=>by simpa using h
theorem Je6 {l:List Int}{x:Int}:x∈(l.mergeSort fun x y=>decide (x≤y))↔x∈l:=List.mem_mergeSort
theorem sort_strict {l:List Int}(h:l.Nodup):(l.mergeSort fun x y=>decide (x≤y)).Pairwise (· < ·):=by
 have h1:=Je7 l
 have h2:(l.mergeSort fun x y=>decide (x≤y)).Nodup:=(List.mergeSort_perm l _).nodup_iff.2 h
 exact (h1.and h2).imp fun ⟨a,b⟩=>by have:_≠_:=b; omega
end
end
end Go.Cm
end
section
namespace Go.Cm
section
def Q7 (t:Tr) (o:List Int) (of:List Int) (s:Nat):List Nat→List Int
 |[]=>[]
 |i::l=>if (decide (0≤of.getD i (-1)) && ((nd t (of.getD i (-1)).toNat).k == 42 && ((nd t i).k == 3 && (Jbi o i s && (KG t (KG t (of.getD i (-1)).toNat).toNat == KG t s && !buL t (upL t (J8 t s) t.nodes.length i) false)))))=true
  then KG t (of.getD i (-1)).toNat::Q7 t o of s l else Q7 t o of s l
theorem needC_app {t:Tr}{o of:List Int}{s:Nat}:∀ (l m:List Nat),Q7 t o of s (l++m)=Q7 t o of s l++Q7 t o of s m
 |[],_=>rfl
 |i::l,m=>by
  simp only[List.cons_append,Q7,needC_app l m]
  split <;> simp
theorem Jdd {t:Tr}{o of:List Int}{s:Nat}{x:Int}:∀ (l:List Nat),x∈Q7 t o of s l↔∃ i∈l,(decide (0≤of.getD i (-1)) && ((nd t (of.getD i (-1)).toNat).k == 42 && ((nd t i).k == 3 && (Jbi o i s && (KG t (KG t (of.getD i (-1)).toNat).toNat == KG t s && !buL t (upL t (J8 t s) t.nodes.length i) false)))))=true∧KG t (of.getD i (-1)).toNat=x
 |[]=>by simp[Q7]
 |i::l=>by
  simp only[Q7,Gf,exists_eq_or_imp]
  split
  ·rename_i h
   rw[Gf,Jdd l]
   constructor
   ·rintro (e | e)
    ·exact .inl ⟨h,e.symm⟩
    ·exact .inr e
   ·rintro (⟨_,e⟩ | e)
    ·exact .inl e.symm
    ·exact .inr e
  ·rename_i h
   rw[Jdd l]
   constructor
   ·exact .inr
   ·rintro (⟨e,_⟩ | e)
    ·exact absurd e h
    ·exact e
theorem Jde {t:Tr}{o of:List Int}{s:Nat}:∀ (l:List Nat),(Q7 t o of s l).length≤l.length
 |[]=>Gm _
 |i::l=>by
  have:=Jde (t:=t) (o:=o) (of:=of) (s:=s) l
  simp only[Q7]
  split <;> simp only[Gj] <;> omega
section
variable {t:Tr}{o:List Int}(g:GoodT t o)
include g
theorem blw_up {j a:Nat}(hj:j < t.nodes.length) (ha:a < t.nodes.length) (hne:j≠a):Jbi o j a=if KG t j < 0 then false else Jbi o (KG t j).toNat a:=by
 rcases Qp g hj with ⟨hp,_⟩ | ⟨m,hp,hjm,hm,hk⟩
 ·rw[hp,if_pos (by decide),H8]
  intro h
  obtain ⟨m,q,_⟩:=XP g ha (JP.1 h) hne
  omega
 ·rw[hp,if_neg (by omega),Ga,Gr,JP,JP]
  constructor
  ·intro h
   obtain ⟨m',q1,_,_,q4,_⟩:=XP g ha h hne
   have:m'=m:=by omega
   rw[← this]; exact q4
  ·intro h
   exact Kr g ha (KC g hm hk) h
omit g in
theorem up_head {top f m:Nat}:∃ l,upL t top f m=m::l:=by
 cases f with
 |zero=>exact ⟨_,rfl⟩
 |succ f=>unfold upL; split <;> exact ⟨_,rfl⟩
omit g in
theorem late_end {top f:Nat}{late:Bool}:buL t (upL t top f top) late=late:=by
 cases f with
 |zero=>rfl
 |succ f=>unfold upL; rw[if_pos rfl]; rfl
theorem late_step {s f a:Nat}{late:Bool}(hs:s < t.nodes.length) (htop:(J8 t s:Int)∈(nd t s).kids) (hb:blw o a (J8 t s)) (hf:t.nodes.length≤a+f) :
  (a=J8 t s∧KG t a=s)∨(a≠J8 t s∧∃ m f':Nat,KG t a=m∧m≠s∧a < m∧m < t.nodes.length∧blw o m (J8 t s)∧(a:Int)∈(nd t m).kids∧t.nodes.length≤m+f'∧buL t (upL t (J8 t s) f a) late=buL t (upL t (J8 t s) f' m) (Ja3 t m a late)):=by
 have hk:=JJ g hs htop
 by_cases he:a=J8 t s
 ·exact .inl ⟨he,by rw[he]; exact hk.1⟩
 ·have htl:J8 t s < t.nodes.length:=by omega
  obtain ⟨m,q1,q2,q3,q4,q5⟩:=XP g htl hb he
  have hal:a < t.nodes.length:=by have:=hb.1; omega
  obtain ⟨f',rfl⟩:∃ f',f=f' + 1:=⟨f-1,by omega⟩
  refine .inr ⟨he,m,f',q1,by omega,q2,by omega,q4,q5,by omega,?_⟩
  have hu:upL t (J8 t s) (f' + 1) a=a::upL t (J8 t s) f' m:=by
   rw[upL,if_neg he,q1,Ga]
  obtain ⟨l,hl⟩:=up_head (top:=J8 t s) (f:=f') (m:=m)
  rw[hu,hl,buL]
theorem set_kid {s:Nat}(hs:s < t.nodes.length) (hk:(nd t s).k=41):(J8 t s:Int)∈(nd t s).kids∧0 < (nd t s).kids.length:=by
 obtain ⟨a,hN,hl,k1,k2⟩:=Jfc g hs hk
 change (nd t s).kids.length=a+1 at hl
 exact ⟨(Kq g hs (i:=(nd t s).kids.length-1) (by omega)).1,by omega⟩
theorem need_done {of:List Int}{s:Nat}:Lib.compact ((Q7 t o of s (Gg t.nodes.length)).mergeSort fun x y=>decide (x≤y))=Ke t o of s:=by
 refine JbN (JdM (Je7 _)) (JaQ.filter _) fun x=>?_
 unfold Ke
 rw[YP,Je6,Jdd,Gn,JY]
 simp only[G5,Gp,Gh,beq_iff_eq,decide_eq_true_eq,Ha]
 constructor
 ·rintro ⟨i,hi,⟨h1,h2,h3,h4,h5,h6⟩,rfl⟩
  have hm:=nd_in (t:=t) (i:=(of.getD i (-1)).toNat) (by omega)
  obtain ⟨u,q1,q2,q3,q4⟩:=Q8 g hm (by omega)
  exact ⟨⟨by omega,by omega⟩,i,hi,h3,h1,h2,h4,rfl,h5,h6⟩
 ·rintro ⟨_,i,hi,h3,h1,h2,h4,rfl,h5,h6⟩
  exact ⟨i,hi,⟨h1,h2,h3,h4,h5,h6⟩,rfl⟩
end
end
section
def setL (b:List Bool):List Int:=((Gg b.length).filter fun i=>b.getD i false).map fun i:Nat=>(i:Int)
def YA (n:Nat) (f:Int→Bool):List Bool:=(Gg n).map fun i:Nat=>f i
theorem Jb8 {n:Nat}{f:Int→Bool}:(YA n f).length=n:=by simp[YA]
theorem boolsN_get {n i:Nat}{f:Int→Bool}(h:i < n):(YA n f).getD i false=f i:=by
 simp[YA,Gb,h]
theorem boolsN_set {n i:Nat}{f g:Int→Bool}(h:i < n) (h1:∀ j:Nat,j < n→j≠i→g j=f j) (h2:g i=true):(YA n f).set i true=YA n g:=by
 refine GG (by simp[YA]) fun j a1 a2=>?_
 rw[Jb8]at a2
 rw[List.getElem_set]
 simp only[YA,GZ,GU]
 split
 ·rename_i e; subst e; exact h2.symm
 ·rename_i e; exact (h1 j a2 (fun x=>e x.symm)).symm
theorem boolsN_false {n:Nat}:YA n (fun _=>false)=Gd n false:=by
 refine GG (by simp[YA]) fun j a1 a2=>?_
 simp[YA]
section
variable {t:Tr}{o:List Int}(g:GoodT t o)
include g
theorem up_kids:∀ (f c top:Nat),top < t.nodes.length→blw o c top→pairsOk t (fun u c=>(c:Int)∈(nd t u).kids∧u < t.nodes.length) (upL t top f c)
 |0,_,_,_,_=>trivial
 |f+1,c,top,htop,hct=>by
  unfold upL
  by_cases he:c=top
  ·rw[if_pos he]; trivial
  ·rw[if_neg he]
   obtain ⟨m,hp,hcm,hmt,hmb,hk⟩:=XP g htop hct he
   rw[hp,Ga]
   have hm:m < t.nodes.length:=by omega
   have ih:=up_kids f m top htop hmb
   obtain ⟨l,hl⟩:=up_head (top:=top) (f:=f) (m:=m)
   rw[hl]at ih ⊢
   exact ⟨⟨hk,hm⟩,ih⟩
end
end
section
section
variable {P:Program}{E:Env}{n0:Nat}{N:Fr}{Q:Exit→List CV→List CObj→Prop}{H:List CObj}{T:List CV}{k:List KItem}{m:Bk}{w:World}
theorem Jfd {id k:Nat}{o o':CObj}(h:(H.set id o')[k]? = some o):(k=id∧o=o')∨(k≠id∧H[k]? = some o):=by
 rw[Hw]at h
 split at h
 ·rename_i e
  split at h
  ·exact .inl ⟨e.symm,(H7 h).symm⟩
  ·cases h
 ·rename_i e; exact .inr ⟨fun x=>e x.symm,h⟩
theorem Sim.trunc {id z:Nat}{els:List (List CV)}(hs:Sim E m H w) (hH:H[id]? = some (.arr z els)) (j:Nat):Sim E m (H.set id (.arr z (els.take j))) w∧Ext n0 m H w m (H.set id (.arr z (els.take j))) w:=by
 have key:∀ (k:Nat) o,(H.set id (.arr z (els.take j)))[k]? = some o→∃ o',H[k]? = some o'∧o'.alive=o.alive∧(k≠id→o'=o):=by
  intro k o h
  rcases Jfd h with ⟨rfl,rfl⟩ | ⟨h1,h2⟩
  ·exact ⟨_,hH,rfl,fun h=>absurd rfl h⟩
  ·exact ⟨o,h2,rfl,fun _=>rfl⟩
 refine ⟨⟨by rw[G7]; exact hs.len,fun k o x hk hx=>?_,hs.imm,hs.one,fun k k' o o' x x' hk hk' ha ha' hx hx' hB=>?_,fun k o x hk ha hx=>?_,fun k s b hk=>?_,fun k o x hk ha hx=>?_,hs.extlt,hs.gl⟩,
  ⟨Gm _,fun _ _ _=>rfl,Kj.refl _,fun B hB=>.inl ?_,fun B i v hv=>.inl hv,fun k x _ hx=>hx,fun h=>h,rfl,rfl,rfl⟩⟩
 ·rcases Jfd hk with ⟨rfl,rfl⟩ | ⟨_,h2⟩
  ·obtain ⟨hz,c,elem,h1,h2,h3,h4,h5⟩:=hs.obj k _ x hH hx
   refine ⟨hz,c,elem,h1,h2,?_,fun i e he=>?_,h5⟩
   ·have:(els.take j).length*x.z≤els.length*x.z:=GI _ (by rw[Gt]; omega)
    omega
   ·have hij:i < j:=by
     have:=(GN.1 he).1
     rw[Gt]at this; omega
    rw[Hq,if_pos hij]at he
    exact h4 i e he
  ·exact hs.obj k o x h2 hx
 ·obtain ⟨p,hp,hpa,_⟩:=key k o hk
  obtain ⟨p',hp',hpa',_⟩:=key k' o' hk'
  exact hs.sep k k' p p' x x' hp hp' (hpa.trans ha) (hpa'.trans ha') hx hx' hB
 ·obtain ⟨p,hp,hpa,_⟩:=key k o hk
  exact hs.ro k p x hp (hpa.trans ha) hx
 ·rcases Jfd hk with ⟨_,h2⟩ | ⟨_,h2⟩
  ·cases h2
  ·exact hs.ext k s b h2
 ·obtain ⟨p,hp,hpa,_⟩:=key k o hk
  exact hs.extsep k p x hp (hpa.trans ha) hx
 ·rcases hB with h | ⟨k,o,x,hk,ha,hx,hB⟩
  ·exact .inl h
  ·obtain ⟨p,hp,hpa,_⟩:=key k o hk
   exact .inr ⟨k,p,x,hp,hpa.trans ha,hx,hB⟩
theorem CallsC.trunc {f id z j:Nat}{args:List CV}{els:List (List CV)}{v:CV}{R R':CV→List CObj→Prop}(h:CallsC P E f args H R) (hR:∀ v H',R v H'→R' v H'∨∃ id z els j,H'[id]? = some (.arr z els)∧R' v (H'.set id (.arr z (els.take j)))):CallsC P E f args H R':=by
 intro m w vs hs hv
 refine (h m w vs hs hv).mono ?_
 rintro e w' ⟨r,m',v,H',h1,h2,h3,h4,h5⟩
 rcases hR _ _ h5 with g | ⟨id,z,els,j,g1,g2⟩
 ·exact ⟨r,m',v,H',h1,h2,h3,h4,g⟩
 ·obtain ⟨t1,t2⟩:=h3.trunc (n0:=H.length) g1 j
  exact ⟨r,m',v,_,h1,h2.trans t2,t1,h4,g2⟩
def rowW (id:Nat) (els:List (List CV)):CV:=.slc id 0 els.length (Jb7 els)
def JeW (P:Program) (f:Nat) (args:List CV) (z:Nat) (els:List (List CV)):Prop:=∀ (E:Env) (H:List CObj),CallsC P E f args H fun v H'=>v=rowW H.length els∧H'=H++[.arr z els]
theorem rowW_shift {els:List (List CV)}(i n:Nat) {own own':List Own}{imm:Nat→Nat→Option Value}{r:Value}(ho:∀ (k:Nat) x,own[k]? = some x→own'[n+k]? = some x) (h:rel own imm (rowW i els) r):rel own' imm (rowW (n+i) els) r:=by
 simp only[rowW,rel]at h ⊢
 obtain ⟨x,a,c,hx,g⟩:=h
 exact ⟨x,a,c,ho _ _ hx,g⟩
theorem fnRowW_of {f:Nat}{args:List CV}{z:Nat}{els:List (List CV)}(h:CallsC P Env.none f args [] fun v H'=>∃ id,v=rowW id els∧H'[id]? = some (.arr z els)) (ha:Jr args=true) (hc:Jo els=true):JeW P f args z els:=fun E H=>by
 refine CallsC.frameG (mk:=fun n=>rowW n els) (G:=[.arr z els]) (h.ren fun v H' ⟨id,hv,hH⟩=>⟨[id],?_,?_,?_⟩) ha (fun o ho=>by simp only[Gs]at ho; rw[ho]; exact .inr ⟨_,_,rfl,hc⟩) fun n own own' imm r ho h=>rowW_shift 0 n ho h
 ·have:=(GN.1 hH).1
  simp[Jfj,this]
 ·rw[hv]; simp[rowW,ren,Jm]
 ·simp only[Km,GH,H6,Gb,hH,G9,Jk,Ja hc]
theorem JeW.fn {f:Nat}{args:List CV}{z:Nat}{els:List (List CV)}(h:JeW P f args z els) (ha:Jr args=true) (hc:Jo els=true):Fn P f args (.rslc z els none):=by
 refine JbD (((h Env.none []).mono fun v H' ⟨h1,h2⟩=>?_)) ha rfl
 subst h1 h2
 refine .inr ⟨0,z,els,rfl,hc,?_⟩
 simp only[rowW,frz,HV,if_true,Nat.zero_add,Gm,List.drop_zero,List.take_length]
 exact wk.refl _
theorem vr_rowW {d:Option Nat}{g:Option (Nat×Bool)}{f:Nat}{xa:List IArg}{l:List IOper}{z:Nat}{els:List (List CV)}(hg:GOk T g) (hcall:JeW P f (xa.map (J5 T)) z els) (h:Kk P E n0 N Q (.ops l::k) (put T d (rowW H.length els)) (H++[.arr z els])):Ok P E n0 N Q (.ops (⟨d,.call f xa,g⟩::l)::k) T H:=
 J2 hg (hcall E H) fun v H' ⟨h1,h2⟩=>by rw[h1,h2]; exact h
end
end
end Go.Cm
end
section
set_option maxRecDepth 100000
open Go.RowKit Go.Proofs
namespace Go.Cm
section
theorem inrU64 {x:Int}(h1:0≤x) (h2:x≤18446744073709551615):InR .u64 x:=⟨h1,h2⟩
section
variable {P:Program}{E:Env}{H:List CObj}{T:List CV}
theorem CallsC.wk {f:Nat}{args:List CV}{R R':CV→List CObj→Prop}(h:CallsC P E f args H R) (hR:∀ v H',R v H'→∃ v',Cm.wk v v'∧R' v' H'):CallsC P E f args H R':=by
 intro m w vs hs hv
 refine (h m w vs hs hv).mono ?_
 rintro e w' ⟨r,m',v,H',h1,h2,h3,h4,h5⟩
 obtain ⟨v',w1,w2⟩:=hR _ _ h5
 exact ⟨r,m',v',H',h1,h2,h3,w1 _ _ _ h4,w2⟩
theorem wk_cap {i o l c:Nat}:wk (.slc i o l (some c)) (.slc i o l none):=by
 intro own imm v h
 simp only[rel]at h ⊢
 obtain ⟨x,a,c',h1,h2,h3,h4,h5⟩:=h
 exact ⟨x,a,c',h1,h2,h3,fun _ h=>(by cases h),h5⟩
theorem hs_sl {d:Option Nat}{z:Nat}{x:IArg}{lo hi mx:Option IArg}{id off len:Nat}{cap:Option Nat}{c:Cond}{v:CV}(ha:J5 T x=.slc id off len cap) (he:exec (.slice z x lo hi mx) T H=some (c,v,H)) (hc:c.holds) :
  HS P E ⟨d,.slice z x lo hi mx,none⟩ T H v H (.on [id+1],.on []):=by
 refine ⟨fun _ _=>rfl,fun T2 H2 hag hx=>⟨H2,fun y hy=>(by cases hy),fun _ _=>rfl,fun _ _ _ _ _ hok=>?_⟩⟩
 have hH:H2[id]? = H[id]?:=by
  have:=hx (id+1) (by simp[Foot.has])
  simpa [hat]using this
 have hE:∀ lo hi mx,Xi z H2 (.slc id off len cap) lo hi mx=Xi z H (.slc id off len cap) lo hi mx:=fun lo hi mx=>by simp only[Xi,hH]
 have he2:exec (.slice z x lo hi mx) T2 H2=some (c,v,H2):=by
  rw[← XL (Jj hag).2]
  simp only[exec,ha,hE]at he ⊢
  split at he
  ·split at he
   ·rename_i h1
    simp only[Gx,Prod.mk.injEq]at he
    obtain ⟨rfl,rfl,_⟩:=he
    simp[h1]
   ·cases he
  ·cases he
 exact ok_op (.inl rfl) he2 hc hok
theorem sortRow {id:Nat}{l:List Int}{cap:Option Nat}(hl:l≠[]) (hbig:l.length≤1000000) (hH:H[id]? = some (.arr 1 (iz l))):CallsC Gq E 56 [.slc id 0 l.length cap] H fun v' H'=>v'=.tup []∧H'=H.set id (.arr 1 (iz (l.mergeSort fun x y=>decide (x≤y)))):=
 callsC_sort hl hbig hH fun blk off c w h1 h2 h3=>Tryz.slices_Sort_int blk off c l w h1 h2 h3
theorem JeR {id:Nat}{l:List Int}{cap:Option Nat}(hl:l≠[]) (hbig:l.length≤1000000) (hH:H[id]? = some (.arr 1 (iz l))):CallsC Gq E 57 [.slc id 0 l.length cap] H fun v' H'=>v'=.slc id 0 (Lib.compact l).length cap∧H'=H.set id (.arr 1 (iz (Lib.compact l++Gd (l.length-(Lib.compact l).length) 0))):=
 Jd6 hl hbig hH fun blk off c w h1 h2 h3=>Tryz.slices_Compact_int blk off c l w h1 h2 h3
theorem deleteRow {id i:Nat}{l:List Int}{cap:Option Nat}(hi:i < l.length) (hH:H[id]? = some (.arr 1 (iz l))):CallsC Gq E 82 [.slc id 0 l.length cap,.int .i64 (i:Int),.int .i64 ((i+1:Nat):Int)] H fun v' H'=>v'=.slc id 0 (l.length-1) cap∧H'=H.set id (.arr 1 (iz (l.take i++l.drop (i+1)++[0]))):=
 YQ (ys:=[(i:Int),((i+1:Nat):Int)]) (fun blk off c=>.slice (some ⟨blk,off,none⟩) (l.length-1) c) (by rintro rfl; simp at hi) (by simp; omega) hH (fun own imm x c hx hz hc hcap hroom=>by
  simp only[rel]
  exact ⟨x,_,c,hx,rfl,by omega,hcap,fun _=>by rw[GK,GM],by rw[hz]; omega⟩) fun blk off c w hc h1 _=>(delOne Tryz.laysNm223 blk off c i (i+1) rfl l w h1 hc hi).mono fun e w' ⟨h3,n,h4⟩=>⟨h3,n,#[],by rw[Sort.grow_empty]; exact h4⟩
theorem sortNil:Fn Gq 56 [.nils] (.tup []):=by
 intro E H
 refine KF fun m w vs hs hv=>?_
 simp only[JK,rel]at hv
 obtain ⟨r,rs,e,rfl,rfl⟩:=hv
 have hvs:vs=#[.slice none 0 0]:=by cases vs; simp_all
 subst hvs
 exact ⟨_,(Tryz.slices_Sort_int_none none 0 w).mono fun e w' ⟨h1,h2⟩=>⟨h1,by rw[h2]; exact Below.refl _ _⟩,by simp only[rel,JK]; exact ⟨_,rfl,rfl⟩⟩
theorem JeS:Fn Gq 57 [.nils] .nils:=by
 intro E H
 refine KF fun m w vs hs hv=>?_
 simp only[JK,rel]at hv
 obtain ⟨r,rs,e,rfl,rfl⟩:=hv
 have hvs:vs=#[.slice none 0 0]:=by cases vs; simp_all
 subst hvs
 exact ⟨_,(Tryz.slices_Compact_int_empty none 0 w).mono fun e w' ⟨h1,h2⟩=>⟨h1,by rw[h2]; exact Below.refl _ _⟩,by simp only[rel]⟩
theorem mulOne (m:Nat) (hm:m < 18446744073709551616):Fn Gq 157 [.int .u64 1,.int .u64 (m:Int)] (.tup [.int .u64 0,.int .u64 (m:Int)]):=by
 intro E H
 refine KF fun m' w vs hs hv=>?_
 simp only[JK,rel]at hv
 obtain ⟨r,rs,e,rfl,r2,rs2,rfl,rfl,rfl⟩:=hv
 have hvs:vs=#[.int .u64 ((1:Nat):Int),.int .u64 (m:Int)]:=by cases vs; simp_all
 subst hvs
 have h:=Tryz.bits_Mul 1 m (by omega) hm w
 rw[Nat.one_mul,Nat.div_eq_of_lt hm,Nat.mod_eq_of_lt hm]at h
 exact ⟨_,h.mono fun e w' ⟨h1,h2⟩=>⟨h1,by rw[h2]; exact Below.refl _ _⟩,by simp only[rel,JK]; exact ⟨_,rfl,_,_,rfl,rfl,_,_,rfl,rfl,rfl⟩⟩
end
def repS (v:Int) (m k:Nat):List Int:=Gd k v++Gd (m-k) 0
theorem repS_len {v:Int}{m k:Nat}(h:k≤m):(repS v m k).length=m:=by simp[repS]; omega
theorem repS_step {v:Int}{m k q:Nat}(h:k+q≤m) (hq:q≤k):(iz (repS v m k)).take k++((((iz (repS v m k)).take k).take q)++(iz (repS v m k)).drop (k+q))=iz (repS v m (k+q)):=by
 have h1:(repS v m k).take k=Gd k v:=by unfold repS; rw[List.take_left' (by simp)]
 have h2:(repS v m k).drop (k+q)=Gd (m-(k+q)) 0:=by
  unfold repS
  rw[List.drop_append,List.drop_of_length_le (by simp),List.length_replicate,List.nil_append,Ho]
  congr 1; omega
 unfold iz
 rw[← H5,← H5,← List.map_drop,← G6,← G6,h1,h2,List.take_replicate,Nat.min_eq_left hq,← List.append_assoc,List.replicate_append_replicate]
 rfl
theorem repeatO (v:Int) (m:Nat) (hm:m≤100000) (E:Env) (H:List CObj):CallsC Gq E 126 [.rslc 1 (iz [v]) none,.int .i64 (m:Int)] H fun v' H'=>v'=.slc H.length 0 m none∧H'=H++[.arr 1 (iz (Gd m v))]:=by
 refine CallsC.frameG (mk:=fun n=>.slc n 0 m none) (G:=[.arr 1 (iz (Gd m v))]) (CallsC.wk (R:=fun v' H'=>v'=.slc 0 0 m (some m)∧H'=[.arr 1 (iz (Gd m v))]) (Kg c126_ok fun N=>?_) fun v' H' ⟨e1,e2⟩=>⟨.slc 0 0 m none,by rw[e1]; exact wk_cap,rfl,e2⟩) rfl (fun o ho=>by simp only[Gs]at ho; rw[ho]; exact .inr ⟨_,_,rfl,Jb _⟩) (fun n own own' imm r ho h=>by
  simp only[rel]at h ⊢
  obtain ⟨x,a,c,hx,g⟩:=h
  exact ⟨x,a,c,ho _ _ hx,g⟩)
 have d0:((m:Int) < 0)=False:=Jq
 have d1:((m:Int) > 9223372036854775807)=False:=Jq
 have d1':((9223372036854775807:Int) < (m:Int))=False:=Jq
 have dm:decide ((9223372036854775807:Int) < (m:Int))=false:=decide_eq_false (by omega)
 simp -implicitDefEqProofs only[c126,go_sem,d0,iz,GH,H6,Gj,HV]
 refine ⟨inrU64 (by omega) (by omega),inrU64 (by omega) (by omega),?_⟩
 refine JX (mulOne m (by omega)) ?_
 simp -implicitDefEqProofs only[go_sem,d1,d1',dm]
 refine ⟨Jl,⟨by omega,Int.le_refl _,by omega,by omega⟩,by simp,?_⟩
 refine JE (I:=fun k:Nat=>(m=0∨1≤k)∧k≤m) (inv:=fun k=>gp [(7,.slc 0 0 m (some m)),(0,.int .i64 (k:Int))] 39) (hp:=fun k=>[.arr 1 (iz (repS v m k))]) (μ:=fun k=>m-k) (min 1 m) ⟨by omega,by omega⟩ ?_ ?_ ?_
 ·simp[forget,gp]
 ·rcases Nat.eq_zero_or_pos m with rfl | h
  ·simp[repS,iz]
  ·rw[show min 1 m=1 by omega]; simp[repS,iz,Ho]
 ·rintro k ⟨hk1,hk2⟩
  by_cases hlt:k < m
  ·have e1:((k:Int) < (m:Int))=True:=Ju
   obtain ⟨q,hq⟩:∃ q,q=min k (m-k):=⟨_,rfl⟩
   have hqk:q≤k:=by omega
   have hst:=repS_step (v:=v) (m:=m) (k:=k) (q:=q) (by omega) hqk
   have hL:(iz (repS v m k)).length=m:=by rw[Jd,repS_len hk2]
   simp -implicitDefEqProofs only[go_sem,e1]
   refine Jax [Foot.no,Foot.no,Foot.no,(.on [1],.on []),Foot.no,Foot.no,(.on [1],.on []),Foot.any,Foot.no,Foot.no] JI (by decide +kernel) ?_
   refine ⟨_,_,Yk rfl rfl trivial,_,_,Yk rfl rfl trivial,_,_,Yk rfl rfl trivial,_,_,hs_sl (id:=0) (off:=0) (len:=m) (cap:=some m) rfl rfl ?_,_,_,Yk rfl rfl trivial,_,_,Yk rfl rfl trivial,_,_,hs_sl (id:=0) (off:=0) (len:=m) (cap:=some m) rfl rfl ?_,.int .i64 (q:Int),[.arr 1 (iz (repS v m (k+q)))],?_,_,_,Yk rfl rfl ?_,_,_,Yk rfl rfl trivial,?_⟩
   ·show 0≤(k:Int)∧(k:Int)≤(m:Int)∧(m:Int)≤(m:Int); omega
   ·show 0≤(0:Int)∧(0:Int)≤(k:Int)∧(k:Int)≤(m:Int); omega
   ·refine hs_any (.inl rfl) (c:=.le m m) ?_ (Gm m)
    simp -implicitDefEqProofs only[go_sem]
    have hx:(List.take k (iz (repS v m k))).length=k:=by rw[Gt,hL]; omega
    rw[Nat.sub_zero,if_pos (by omega)]
    simp only[hx,hL,← hq,hst]
    rw[show k+(m-k)=m by omega]
   ·exact Jl
   ·simp -implicitDefEqProofs only[vdf,go_sem]
    refine ⟨k+q,⟨by omega,by omega⟩,by omega,?_⟩
    simp[forget]
  ·have e1:((k:Int) < (m:Int))=False:=Jq
   have hkm:k=m:=by omega
   subst hkm
   simp -implicitDefEqProofs only[go_sem,e1]
   simp[repS,iz]
end
end Go.Cm
end
end
