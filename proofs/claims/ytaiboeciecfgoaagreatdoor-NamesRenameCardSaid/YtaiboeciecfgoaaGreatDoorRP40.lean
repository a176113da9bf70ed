/-
  A part of the proof. Conditions: none.
-/
import Derived.Test.YtaiboeciecfgoaaGreatDoorRP18
import Derived.Test.YtaiboeciecfgoaaGreatDoorRP32
set_option linter.unusedSimpArgs false
set_option linter.unusedVariables false
open List renaming mem_replicate→Gb,getElem?_eq_getElem→Gd,getD_eq_getElem?_getD→Gf,mem_cons→Gg,mem_range→Gj,getElem_mem→Gl,cons_append→Gm,mem_append→Gn,range→Gh,pairwise_cons→Gq,nodup_append→Gr,find?_filter→Gs,mem_map→Gp,nil_append→Gt,find?_cons→Gu,getElem_of_mem→Gw,mem_flatten→Gx,any_eq_true→Gy,nodup_cons→Gz,mem_filter→GA,any_cons→GD
open Bool renaming and_eq_true→Gc,eq_iff_iff→Gi,not_eq_true'→GG,or_eq_true→GH
open Int renaming toNat_natCast→Ga,toNat_of_nonneg→Gv
noncomputable section
section
namespace Go.Cm
section
theorem YD {k : Nat} (c : UInt8) (m : Nat) (h : JeJ k = c) (hm : (c, m) ∈ ([(66, 40), (83, 41), (98, 42), (73, 43), (78, 44), (71, 45), (79, 48), (80, 64)] : List (UInt8 × Nat))) : k = m := by
  unfold JeJ letter at h
  simp only [Gg, List.not_mem_nil, or_false, Prod.mk.injEq] at hm
  by_cases a1 : 1 ≤ k ∧ k ≤ 29
  · rw [if_pos a1] at h; rcases hm with ⟨rfl, rfl⟩ | ⟨rfl, rfl⟩ | ⟨rfl, rfl⟩ | ⟨rfl, rfl⟩ | ⟨rfl, rfl⟩ | ⟨rfl, rfl⟩ | ⟨rfl, rfl⟩ | ⟨rfl, rfl⟩ <;> exact absurd h (by decide)
  rw [if_neg a1] at h
  by_cases a2 : 60 ≤ k ∧ k ≤ 63
  · rw [if_pos a2] at h; rcases hm with ⟨rfl, rfl⟩ | ⟨rfl, rfl⟩ | ⟨rfl, rfl⟩ | ⟨rfl, rfl⟩ | ⟨rfl, rfl⟩ | ⟨rfl, rfl⟩ | ⟨rfl, rfl⟩ | ⟨rfl, rfl⟩ <;> exact absurd h (by decide)
  rw [if_neg a2] at h
  by_cases a3 : k = 46 ∨ k = 47
  · rw [if_pos a3] at h; rcases hm with ⟨rfl, rfl⟩ | ⟨rfl, rfl⟩ | ⟨rfl, rfl⟩ | ⟨rfl, rfl⟩ | ⟨rfl, rfl⟩ | ⟨rfl, rfl⟩ | ⟨rfl, rfl⟩ | ⟨rfl, rfl⟩ <;> exact absurd h (by decide)
  rw [if_neg a3] at h
  rcases (show k = 40 ∨ k = 41 ∨ k = 42 ∨ k = 43 ∨ k = 44 ∨ k = 45 ∨ k = 48 ∨ k = 64 ∨ k = 65 ∨ (k ≠ 40 ∧ k ≠ 41 ∧ k ≠ 42 ∧ k ≠ 43 ∧ k ≠ 44 ∧ k ≠ 45 ∧ k ≠ 48 ∧ k ≠ 64 ∧ k ≠ 65) by omega) with rfl | rfl | rfl | rfl | rfl | rfl | rfl | rfl | rfl | ⟨b1, b2, b3, b4, b5, b6, b7, b8, b9⟩
  all_goals first
    | (rcases hm with ⟨rfl, rfl⟩ | ⟨rfl, rfl⟩ | ⟨rfl, rfl⟩ | ⟨rfl, rfl⟩ | ⟨rfl, rfl⟩ | ⟨rfl, rfl⟩ | ⟨rfl, rfl⟩ | ⟨rfl, rfl⟩ <;> first | rfl | exact absurd h (by decide))
    | (rw [if_neg b1, if_neg b2, if_neg b3, if_neg b4, if_neg b5, if_neg b6, if_neg b7, if_neg b8, if_neg b9] at h
       rcases hm with ⟨rfl, rfl⟩ | ⟨rfl, rfl⟩ | ⟨rfl, rfl⟩ | ⟨rfl, rfl⟩ | ⟨rfl, rfl⟩ | ⟨rfl, rfl⟩ | ⟨rfl, rfl⟩ | ⟨rfl, rfl⟩ <;> exact absurd h (by decide))
theorem JdW {k:Nat}(h:JeJ k=116):60≤k∧k≤63:=by
 unfold JeJ letter at h
 by_cases a1:1≤k∧k≤29
 ·rw[if_pos a1]at h; exact absurd h (by decide)
 rw[if_neg a1]at h
 by_cases a2:60≤k∧k≤63
 ·exact a2
 exfalso
 rw[if_neg a2]at h
 repeat' (split at h)
 all_goals exact absurd h (by decide)
theorem JdX {k:Nat}(h:JeJ k=101):1≤k∧k≤29:=by
 by_cases a1:1≤k∧k≤29
 ·exact a1
 exfalso
 unfold JeJ letter at h
 rw[if_neg a1]at h
 repeat' (split at h)
 all_goals exact absurd h (by decide)
section
variable {t:Tr}{o:List Int}(g:GoodT t o)
include g
omit g in
theorem Qr {u:Nat}(hu:u < t.nodes.length) {a b:Int}{c:UInt8}(h:JL (lets t.nodes (t.nodes.getD u default)) a b c=true) {i:Nat}(h1:a≤i) (h2:(i:Int) < b):i < (t.nodes.getD u default).kids.length∧JeJ (Jt t.nodes ((t.nodes.getD u default).kids.getD i 0))=c:=by
 obtain ⟨p1,p2,p3,p4⟩:=JM.1 h
 rw[Qq]at p3
 have hi:i < (t.nodes.getD u default).kids.length:=by omega
 refine ⟨hi,?_⟩
 have hg:((lets t.nodes (t.nodes.getD u default)).take b.toNat).drop a.toNat=List.replicate (b.toNat-a.toNat) c:=p4
 have hx:(((lets t.nodes (t.nodes.getD u default)).take b.toNat).drop a.toNat)[i-a.toNat]? = some c:=by
  rw[hg,List.getElem?_replicate,if_pos (by omega)]
 rw[List.getElem?_drop,List.getElem?_take,if_pos (by omega),show a.toNat+(i-a.toNat)=i by omega]at hx
 unfold lets at hx
 rw[List.getElem?_map,Gd hi]at hx
 simp only[Option.map_some,Option.some.injEq]at hx
 rw[Gf,Gd hi]
 exact hx
theorem JdY {u:Nat}(hu:u < t.nodes.length):KA (t.nodes.getD u default).k (t.nodes.getD u default).n (lets t.nodes (t.nodes.getD u default))=true:=by
 have h:=g.nds (t.nodes.getD u default) (by rw[rowN hu]; exact Gl hu)
 unfold ndI at h
 rw[node_eq]at h
 simp only[JU,Gc]at h
 exact h.1.1
theorem Jaf {u:Nat}(hu:u < t.nodes.length) (hk:(t.nodes.getD u default).k=28):∃ a b:Nat,(t.nodes.getD u default).n=(a:Int)∧a+1≤b∧b < (t.nodes.getD u default).kids.length∧
  (∀ i,i < a→Jt t.nodes ((t.nodes.getD u default).kids.getD i 0)=43)∧(1≤Jt t.nodes ((t.nodes.getD u default).kids.getD a 0)∧Jt t.nodes ((t.nodes.getD u default).kids.getD a 0)≤29)∧
  (∀ i,a+1≤i→i < b→Jt t.nodes ((t.nodes.getD u default).kids.getD i 0)=41)∧(∀ i,b≤i→i+1 < (t.nodes.getD u default).kids.length→Jt t.nodes ((t.nodes.getD u default).kids.getD i 0)=44)∧
  Jt t.nodes ((t.nodes.getD u default).kids.getD ((t.nodes.getD u default).kids.length-1) 0)=45:=by
 have h:=JdY g hu
 rw[hk]at h
 unfold KA at h
 rw[if_neg (by omega),if_neg (by omega),if_neg (by omega),if_neg (by omega),if_neg (by omega),if_neg (by omega),if_neg (by omega),if_neg (by omega),if_neg (by omega),if_neg (by omega),if_neg (by omega),if_neg (by omega),if_pos rfl]at h
 simp only[Gc,decide_eq_true_eq,Qq]at h
 obtain ⟨⟨⟨⟨⟨⟨q0,q1⟩,q2⟩,q3⟩,q4⟩,q5⟩,q6⟩:=h
 generalize hb:KE 83 (lets t.nodes (t.nodes.getD u default))=c at q4 q5
 obtain ⟨a,ha⟩:∃ a:Nat,(t.nodes.getD u default).n=(a:Int):=⟨_,(Gv q0).symm⟩
 rw[ha]at q1 q2 q3 q4 q5
 have r5:=JM.1 q5
 have r6:=JM.1 q6
 rw[Qq]at r5 r6
 refine ⟨a,a+1+c,ha,by omega,by omega,fun i hi=>?_,?_,fun i h1 h2=>?_,fun i h1 h2=>?_,?_⟩
 ·exact YD 73 43 (Qr hu q2 (by omega) (by omega)).2 (by simp)
 ·exact JdX (Qr hu q3 (i:=a) (by omega) (by omega)).2
 ·exact YD 83 41 (Qr hu q4 (by omega) (by omega)).2 (by simp)
 ·exact YD 78 44 (Qr hu q5 (by omega) (by omega)).2 (by simp)
 ·exact YD 71 45 (Qr hu q6 (i:=(t.nodes.getD u default).kids.length-1) (by omega) (by omega)).2 (by simp)
theorem Jf2 {u:Nat}(hu:u < t.nodes.length) (hk:(t.nodes.getD u default).k=41):∃ a:Nat,(t.nodes.getD u default).n=(a:Int)∧(t.nodes.getD u default).kids.length=a+1∧
  (∀ i,i < a→Jt t.nodes ((t.nodes.getD u default).kids.getD i 0)=42)∧(1≤Jt t.nodes ((t.nodes.getD u default).kids.getD a 0)∧Jt t.nodes ((t.nodes.getD u default).kids.getD a 0)≤29):=by
 have h:=JdY g hu
 rw[hk]at h
 unfold KA at h
 rw[if_neg (by omega),if_neg (by omega),if_neg (by omega),if_neg (by omega),if_neg (by omega),if_neg (by omega),if_neg (by omega),if_pos rfl]at h
 simp only[Gc,beq_iff_eq,Qq]at h
 have r:=JM.1 h.1.2
 obtain ⟨a,ha⟩:∃ a:Nat,(t.nodes.getD u default).n=(a:Int):=⟨_,(Gv r.2.1).symm⟩
 rw[ha]at h
 refine ⟨a,ha,by omega,fun i hi=>?_,?_⟩
 ·exact YD 98 42 (Qr hu h.1.2 (by omega) (by omega)).2 (by simp)
 ·exact JdX (Qr hu h.2 (i:=a) (by omega) (by omega)).2
theorem def_kids {u:Nat}(hu:u < t.nodes.length) (hk:(t.nodes.getD u default).k=65):∃ a:Nat,(t.nodes.getD u default).n=(a:Int)∧a < (t.nodes.getD u default).kids.length∧
  (∀ i,i < a→Jt t.nodes ((t.nodes.getD u default).kids.getD i 0)=64)∧(∀ i,a≤i→i+1 < (t.nodes.getD u default).kids.length→60≤Jt t.nodes ((t.nodes.getD u default).kids.getD i 0)∧Jt t.nodes ((t.nodes.getD u default).kids.getD i 0)≤63)∧Jt t.nodes ((t.nodes.getD u default).kids.getD ((t.nodes.getD u default).kids.length-1) 0)=40:=by
 have h:=JdY g hu
 rw[hk]at h
 unfold KA at h
 rw[if_neg (by omega),if_neg (by omega),if_neg (by omega),if_neg (by omega),if_neg (by omega),if_neg (by omega),if_neg (by omega),if_neg (by omega),if_neg (by omega),if_neg (by omega),if_neg (by omega),if_pos rfl]at h
 simp only[Gc,Qq]at h
 have r:=JM.1 h.1.1
 have r2:=JM.1 h.2
 rw[Qq]at r r2
 obtain ⟨a,ha⟩:∃ a:Nat,(t.nodes.getD u default).n=(a:Int):=⟨_,(Gv r.2.1).symm⟩
 have r3:=JM.1 h.1.2
 rw[ha]at h r r3
 refine ⟨a,ha,by omega,fun i hi=>?_,fun i h1 h2=>?_,?_⟩
 ·exact YD 80 64 (Qr hu h.1.1 (by omega) (by omega)).2 (by simp)
 ·exact JdW (Qr hu h.1.2 (by omega) (by omega)).2
 ·exact YD 66 40 (Qr hu h.2 (i:=(t.nodes.getD u default).kids.length-1) (by omega) (by omega)).2 (by simp)
theorem JbC {u:Nat}(hu:u < t.nodes.length) (hk:(t.nodes.getD u default).k=47):(t.nodes.getD u default).kids.length=3∧(∀ i,i < 2→Jt t.nodes ((t.nodes.getD u default).kids.getD i 0)=48)∧
  (1≤Jt t.nodes ((t.nodes.getD u default).kids.getD 2 0)∧Jt t.nodes ((t.nodes.getD u default).kids.getD 2 0)≤29):=by
 have h:=JdY g hu
 rw[hk]at h
 unfold KA at h
 rw[if_neg (by omega),if_neg (by omega),if_neg (by omega),if_neg (by omega),if_neg (by omega),if_neg (by omega),if_neg (by omega),if_neg (by omega),if_neg (by omega),if_neg (by omega),if_pos rfl]at h
 simp only[Gc,beq_iff_eq,Qq]at h
 refine ⟨by omega,fun i hi=>?_,?_⟩
 ·exact YD 79 48 (Qr hu h.1.2 (by omega) (by omega)).2 (by simp)
 ·exact JdX (Qr hu h.2 (i:=2) (by omega) (by omega)).2
omit g in
theorem Jbi {k:Nat}{hv:List UInt8}{c:UInt8}(h:c∈KJ k hv):(c=80→k=65)∧(c=73→k=28)∧(c=98→k=41)∧(c=83→k=40∨k=28)∧(c=99→k=29)∧(c=78→k=28)∧(c=116→k=25∨k=62∨k=63∨k=64∨k=42∨k=65)∧(c=79→k=46∨k=47)∧c≠68:=by
 unfold KJ at h
 dsimp only at h
 by_cases e0:4≤k∧k≤18
 ·rw[if_pos e0]at h
  refine ⟨?_,?_,?_,?_,?_,?_,?_,?_,?_⟩ <;> rintro rfl <;> first | omega | simp[Gb]at h
 rw[if_neg e0]at h
 by_cases e1:(19≤k∧k≤24)∨k=43∨k=44
 ·rw[if_pos e1]at h
  refine ⟨?_,?_,?_,?_,?_,?_,?_,?_,?_⟩ <;> rintro rfl <;> first | omega | simp[Gb]at h
 rw[if_neg e1]at h
 by_cases e2:k=25∨k=62∨k=63∨k=64
 ·rw[if_pos e2]at h
  refine ⟨?_,?_,?_,?_,?_,?_,?_,?_,?_⟩ <;> rintro rfl <;> first | omega | simp[Gb]at h
 rw[if_neg e2]at h
 by_cases e3:k=26∨k=45
 ·rw[if_pos e3]at h
  refine ⟨?_,?_,?_,?_,?_,?_,?_,?_,?_⟩ <;> rintro rfl <;> first | omega | simp[Gb]at h
 rw[if_neg e3]at h
 by_cases e4:k=27
 ·rw[if_pos e4]at h
  refine ⟨?_,?_,?_,?_,?_,?_,?_,?_,?_⟩ <;> rintro rfl <;> first | omega | simp[Gb]at h
 rw[if_neg e4]at h
 by_cases e5:k=28
 ·rw[if_pos e5]at h
  refine ⟨?_,?_,?_,?_,?_,?_,?_,?_,?_⟩ <;> rintro rfl <;> first | omega | simp[Gb]at h
 rw[if_neg e5]at h
 by_cases e6:k=29
 ·rw[if_pos e6]at h
  refine ⟨?_,?_,?_,?_,?_,?_,?_,?_,?_⟩ <;> rintro rfl <;> first | omega | simp[Gb]at h
 rw[if_neg e6]at h
 by_cases e7:k=40
 ·rw[if_pos e7]at h
  refine ⟨?_,?_,?_,?_,?_,?_,?_,?_,?_⟩ <;> rintro rfl <;> first | omega | simp[Gb]at h
 rw[if_neg e7]at h
 by_cases e8:k=41
 ·rw[if_pos e8]at h
  refine ⟨?_,?_,?_,?_,?_,?_,?_,?_,?_⟩ <;> rintro rfl <;> first | omega | simp[Gb]at h
 rw[if_neg e8]at h
 by_cases e9:k=42∧hv≠[]
 ·rw[if_pos e9]at h
  refine ⟨?_,?_,?_,?_,?_,?_,?_,?_,?_⟩ <;> rintro rfl <;> first | omega | simp[Gb]at h
 rw[if_neg e9]at h
 by_cases e10:k=46
 ·rw[if_pos e10]at h
  refine ⟨?_,?_,?_,?_,?_,?_,?_,?_,?_⟩ <;> rintro rfl <;> first | omega | simp[Gb]at h
 rw[if_neg e10]at h
 by_cases e11:k=47
 ·rw[if_pos e11]at h
  refine ⟨?_,?_,?_,?_,?_,?_,?_,?_,?_⟩ <;> rintro rfl <;> first | omega | simp[Gb]at h
 rw[if_neg e11]at h
 by_cases e12:k=65
 ·rw[if_pos e12]at h
  refine ⟨?_,?_,?_,?_,?_,?_,?_,?_,?_⟩ <;> rintro rfl <;> first | omega | simp[Gb]at h
 rw[if_neg e12]at h
 simp at h
theorem par_kind {u:Nat}(hu:u < t.nodes.length) {c:Int}(hc:c∈(t.nodes.getD u default).kids):JeJ (Jt t.nodes c)∈KJ (t.nodes.getD u default).k (lets t.nodes (t.nodes.getD u default)):=by
 have h:=g.nds (t.nodes.getD u default) (by rw[rowN hu]; exact Gl hu)
 unfold ndI JP at h
 simp only[Gc,beq_iff_eq]at h
 rw[← h.1.1.1.2]
 unfold lets
 exact List.mem_map_of_mem hc
end
end
section
section
variable {t:Tr}{o:List Int}(g:GoodT t o)
def nd (t:Tr) (j:Nat):Nd:=t.nodes.getD j default
def blw (o:List Int) (j a:Nat):Prop:=j≤a∧fs o a≤j
include g
theorem Kn {n m:Nat}(hm:m < t.nodes.length) (h:(n:Int)∈(nd t m).kids):J3 t n=m∧n < m:=by
 have hr:=g.kid hm h
 rcases QI g (n:=n) (by omega) with ⟨_,h2⟩ | ⟨m',h1,h2,h3,h4⟩
 ·exact absurd h (h2 m hm)
 ·have:=g.ord.parent_one (JW hm) (JW h3) h h4
  subst this
  exact ⟨h1,h2⟩
theorem fs_le {a:Nat}(ha:a < t.nodes.length):0≤fs o a∧fs o a≤a:=Jgv g.ord.ok (by omega) (by rw[g.olen]; omega)
theorem JgL {a:Nat}(ha:a < t.nodes.length):blw o a a:=⟨Nat.le_refl _,(fs_le g ha).2⟩
theorem Jat {i j a:Nat}(ha:a < t.nodes.length) (h1:blw o i j) (h2:blw o j a):blw o i a:=by
 have:=g.ord.nest a j (by rw[Qs]; exact ha) (by omega) h2.2 (by have:=h2.1; omega)
 refine ⟨Nat.le_trans h1.1 h2.1,?_⟩
 have:=h1.2
 omega
theorem Jd0 {n m:Nat}(hm:m < t.nodes.length) (h:(n:Int)∈(nd t m).kids):blw o n m:=by
 have h1:=g.ord.kid_rng (JW hm) h
 have h2:=(fs_le g (a:=n) (by omega)).2
 exact ⟨by omega,by omega⟩
theorem Jer {j u:Nat}(hu:u < t.nodes.length) (h:blw o j u):j=u∨∃ c:Nat,(c:Int)∈(nd t u).kids∧blw o j c:=by
 by_cases he:j=u
 ·exact .inl he
 ·have h1:=h.1
  obtain ⟨c,hc,h3,h4⟩:=QR g.ord.ok rfl _ _ _ (j:Int) (g.ord.kids (JW hu)) h.2 (by omega)
  have hr:=g.kid hu hc
  obtain ⟨c,rfl⟩:∃ k:Nat,c=(k:Int):=⟨c.toNat,by omega⟩
  exact .inr ⟨c,hc,by omega,h3⟩
theorem X7 {j a:Nat}(ha:a < t.nodes.length) (h:blw o j a) (hne:j≠a):∃ m:Nat,J3 t j=m∧j < m∧m≤a∧blw o m a∧(j:Int)∈(nd t m).kids:=by
 have h1:=h.1
 obtain ⟨m,q1,q2,q3⟩:=par_in g a j ha h.2 (by omega)
 have:=(Kn g (show m < t.nodes.length by omega) q3).1
 exact ⟨m,this,q1,q2,⟨q2,by have:=h.2; omega⟩,q3⟩
def Qh (t:Tr) (u k:Nat):List Int:=(nd t u).kids.filter fun c=>Jt t.nodes c == k
def Yq (t:Tr) (u:Nat):List Int:=((Qh t u 41).map fun s=>Qh t s.toNat 42).flatten
def Jb0 (t:Tr) (u a:Nat):List Int:=
 if (nd t u).k=40 then Yq t u
 else if (nd t u).k=65 then Qh t u 64
 else if (nd t u).k=47 then (if (a:Int)=(nd t u).kids.getD 2 0 then [(u:Int)] else [])
 else if (nd t u).k=28 then (if (nd t a).k=43 then [] else if (nd t a).k=41∨(nd t a).k=44 then Qh t u 43++Yq t u else Qh t u 43)
 else []
def Xr (t:Tr):Nat→Nat→List Int
 |0,_=>[]
 |f+1,a=>if J3 t a < 0 then [] else Jb0 t (J3 t a).toNat a++Xr t f (J3 t a).toNat
def inS (t:Tr) (o:List Int) (d:Int) (j:Nat):Prop:=∃ u a:Nat,u < t.nodes.length∧(a:Int)∈(nd t u).kids∧blw o j a∧d∈Jb0 t u a
theorem climb_mem:∀ (f j:Nat) (d:Int),j < t.nodes.length→t.nodes.length≤j+f→(d∈Xr t f j↔inS t o d j):=by
 intro f
 induction f with
 |zero=>intro j d h1 h2; omega
 |succ f ih=>
  intro j d h1 h2
  unfold Xr
  rcases QI g h1 with ⟨hp,hno⟩ | ⟨m,hp,hm1,hm2,hm3⟩
  ·rw[hp,if_pos (by decide)]
   refine ⟨fun h=>by simp at h,fun ⟨u,a,hu,ha,hb,_⟩=>?_⟩
   exfalso
   have hau:=(Kn g hu ha).2
   by_cases he:j=a
   ·subst he; exact hno u hu ha
   ·obtain ⟨m,q1,_⟩:=X7 g (show a < t.nodes.length by omega) hb he
    rw[hp]at q1; omega
  ·rw[hp,if_neg (by omega),Gn,Ga,ih m d hm2 (by omega)]
   constructor
   ·rintro (h | ⟨u,a,hu,ha,hb,hd⟩)
    ·exact ⟨m,j,hm2,hm3,JgL g h1,h⟩
    ·have hau:=(Kn g hu ha).2
     exact ⟨u,a,hu,ha,Jat g (by omega) (Jd0 g hm2 hm3) hb,hd⟩
   ·rintro ⟨u,a,hu,ha,hb,hd⟩
    have hau:=(Kn g hu ha)
    by_cases he:j=a
    ·subst he
     have:u=m:=by rw[hp]at hau; omega
     subst this
     exact .inl hd
    ·obtain ⟨m',q1,_,_,q4,_⟩:=X7 g (show a < t.nodes.length by omega) hb he
     have:m'=m:=by rw[hp]at q1; omega
     subst this
     exact .inr ⟨u,a,hu,ha,q4,hd⟩
omit g in
theorem Kv {u k:Nat}{c:Int}:c∈Qh t u k↔c∈(nd t u).kids∧Jt t.nodes c=k:=by
 unfold Qh
 simp
theorem JbP {u:Nat}(hu:u < t.nodes.length) {d:Int}:d∈Yq t u↔∃ s:Nat,(s:Int)∈(nd t u).kids∧(nd t s).k=41∧d∈(nd t s).kids∧Jt t.nodes d=42:=by
 unfold Yq
 simp only[Gx,Gp]
 constructor
 ·rintro ⟨l,⟨s,hs,rfl⟩,hd⟩
  rw[Kv]at hs hd
  have hr:=g.kid hu hs.1
  refine ⟨s.toNat,?_,?_,hd.1,hd.2⟩
  ·rw[show ((s.toNat:Nat):Int)=s by omega]; exact hs.1
  ·exact hs.2
 ·rintro ⟨s,h1,h2,h3,h4⟩
  refine ⟨_,⟨(s:Int),(Kv).2 ⟨h1,by unfold Jt; rw[Ga]; exact h2⟩,rfl⟩,?_⟩
  rw[Kv,Ga]
  exact ⟨h3,h4⟩
end
end
section
section
variable {t:Tr}{o:List Int}(g:GoodT t o)
def JI (t:Tr) (u:Nat):Nat:=((nd t u).kids.getD ((nd t u).kids.length-1) 0).toNat
def Jb9 (t:Tr) (u i:Nat):Nat:=((nd t u).kids.getD i 0).toNat
def inR (t : Tr) (o : List Int) (d j : Nat) : Prop :=
  if (nd t d).k = 65 then True
  else if (nd t d).k = 64 then blw o j (JI t (J3 t d).toNat)
  else if (nd t d).k = 43 then ∃ i : Nat, (nd t (J3 t d).toNat).n ≤ i ∧ i < (nd t (J3 t d).toNat).kids.length ∧ blw o j (Jb9 t (J3 t d).toNat i)
  else if (nd t d).k = 47 then blw o j (JI t d)
  else if (nd t d).k = 42 then
    (if (nd t (J3 t (J3 t d).toNat).toNat).k = 40 then blw o j (J3 t (J3 t d).toNat).toNat
     else ∃ i : Nat, (nd t (J3 t (J3 t d).toNat).toNat).n + 1 ≤ i ∧ i + 1 < (nd t (J3 t (J3 t d).toNat).toNat).kids.length ∧ blw o j (Jb9 t (J3 t (J3 t d).toNat).toNat i))
  else False
include g
theorem KP {u i:Nat}(hu:u < t.nodes.length) (hi:i < (nd t u).kids.length):((Jb9 t u i:Nat):Int)∈(nd t u).kids∧Jb9 t u i < u∧(nd t (Jb9 t u i)).k=Jt t.nodes ((nd t u).kids.getD i 0):=by
 have hm:(nd t u).kids.getD i 0∈(nd t u).kids:=by
  rw[Gf,Gd hi]; exact Gl hi
 have hr:=g.kid hu hm
 unfold Jb9
 refine ⟨?_,by omega,rfl⟩
 rw[show ((((nd t u).kids.getD i 0).toNat:Nat):Int)=(nd t u).kids.getD i 0 by omega]
 exact hm
omit g in
theorem kid_at {u a:Nat}(ha:(a:Int)∈(nd t u).kids):∃ i,i < (nd t u).kids.length∧Jb9 t u i=a∧(nd t u).kids.getD i 0=(a:Int):=by
 obtain ⟨i,hi,he⟩:=Gw ha
 refine ⟨i,hi,?_,?_⟩
 ·unfold Jb9; rw[Gf,Gd hi,Option.getD_some,he]; rfl
 ·rw[Gf,Gd hi,Option.getD_some,he]
theorem Jdv:∀ (a j:Nat),a < t.nodes.length→60≤(nd t a).k→(nd t a).k≤64→blw o j a→60≤(nd t j).k∧(nd t j).k≤64:=by
 intro a
 induction a using Nat.strongRecOn with
 |_ a ih=>
  intro j ha h1 h2 hb
  rcases Jer g ha hb with rfl | ⟨c,hc,hb2⟩
  ·exact ⟨h1,h2⟩
  ·have hl:=par_kind g ha hc
   have hr:=g.kid ha hc
   change JeJ (Jt t.nodes (c:Int))∈KJ (nd t a).k _ at hl
   have hk:JeJ (Jt t.nodes (c:Int))=116:=by
    unfold KJ at hl
    dsimp only at hl
    rcases (show (nd t a).k=60∨(nd t a).k=61∨(nd t a).k=62∨(nd t a).k=63∨(nd t a).k=64 by omega) with e | e | e | e | e <;> rw[e]at hl <;> simp at hl
    all_goals exact hl
   have hk2:=JdW hk
   have hk3:Jt t.nodes (c:Int)=(nd t c).k:=by unfold Jt nd; rw[Ga]
   rw[hk3]at hk2
   exact ih c (by omega) j (by omega) (by omega) (by omega) hb2
theorem Xv {d:Nat}(hd:d < t.nodes.length) (hk:(nd t d).k≠65):∃ u:Nat,J3 t d=u∧u < t.nodes.length∧d < u∧(d:Int)∈(nd t u).kids:=by
 rcases QI g hd with ⟨h1,h2⟩ | ⟨u,h1,h2,h3,h4⟩
 ·exfalso
  obtain ⟨L,hL,h5,h6⟩:=QR g.ord.ok g.olen _ _ _ (d:Int) g.its (by omega) (by omega)
  have hr:=g.itr hL
  obtain ⟨L,rfl⟩:∃ k:Nat,L=(k:Int):=⟨L.toNat,by omega⟩
  by_cases he:d=L
  ·subst he
   have:=g.defs _ hL
   unfold Jt at this
   rw[Ga]at this
   exact hk this
  ·obtain ⟨m,q1,q2,q3⟩:=par_in g L d (by omega) h5 (by omega)
   exact h2 m (by omega) q3
 ·exact ⟨u,h1,h3,h2,h4⟩
theorem Jgf {d u:Nat}(hu:u < t.nodes.length) (h:(d:Int)∈(nd t u).kids):JeJ (nd t d).k∈KJ (nd t u).k (lets t.nodes (nd t u)):=by
 have:=par_kind g hu h
 unfold Jt at this
 rw[Ga]at this
 exact this
theorem Q0 {u a d:Nat}(hu:u < t.nodes.length):(d:Int)∈Jb0 t u a↔
  ((nd t u).k=40∧∃ s:Nat,(s:Int)∈(nd t u).kids∧(nd t s).k=41∧(d:Int)∈(nd t s).kids∧(nd t d).k=42)∨
  ((nd t u).k=65∧(d:Int)∈(nd t u).kids∧(nd t d).k=64)∨
  ((nd t u).k=47∧(a:Int)=(nd t u).kids.getD 2 0∧d=u)∨
  ((nd t u).k=28∧(nd t a).k≠43∧(((d:Int)∈(nd t u).kids∧(nd t d).k=43)∨(((nd t a).k=41∨(nd t a).k=44)∧∃ s:Nat,(s:Int)∈(nd t u).kids∧(nd t s).k=41∧(d:Int)∈(nd t s).kids∧(nd t d).k=42))):=by
 have hdk:Jt t.nodes (d:Int)=(nd t d).k:=by unfold Jt nd; rw[Ga]
 unfold Jb0
 by_cases e1:(nd t u).k=40
 ·rw[if_pos e1,JbP g hu,hdk]; simp[e1]
 rw[if_neg e1]
 by_cases e2:(nd t u).k=65
 ·rw[if_pos e2,Kv,hdk]; simp[e2]
 rw[if_neg e2]
 by_cases e3:(nd t u).k=47
 ·rw[if_pos e3]
  by_cases e4:(a:Int)=(nd t u).kids.getD 2 0
  ·rw[if_pos e4]; simp only[List.mem_singleton,e3,e4]; simp; omega
  ·rw[if_neg e4]
   refine ⟨fun h=>by simp at h,fun h=>?_⟩
   rcases h with ⟨q,_⟩ | ⟨q,_⟩ | ⟨_,q,_⟩ | ⟨q,_⟩
   ·omega
   ·omega
   ·exact absurd q e4
   ·omega
 rw[if_neg e3]
 by_cases e5:(nd t u).k=28
 ·rw[if_pos e5]
  by_cases e6:(nd t a).k=43
  ·rw[if_pos e6]; simp[e5,e6]
  ·rw[if_neg e6]
   by_cases e7:(nd t a).k=41∨(nd t a).k=44
   ·rw[if_pos e7,Gn,Kv,JbP g hu,hdk]; simp[e5,e6,e7]
   ·rw[if_neg e7,Kv,hdk]; simp[e5,e6,e7]
 ·rw[if_neg e5]; simp[e1,e2,e3,e5]
theorem inS_inR {d j:Nat}(hd:d < t.nodes.length) (hj:j < t.nodes.length) (hje:1≤(nd t j).k∧(nd t j).k≤29) (hk:(nd t d).k=64∨(nd t d).k=43∨(nd t d).k=47∨(nd t d).k=42):inS t o (d:Int) j↔inR t o d j:=by
 obtain ⟨u,hp,hu,hdu,hdm⟩:=Xv g hd (by omega)
 have hlet:=Jbi (Jgf g hu hdm)
 unfold inR
 rw[hp,Ga,if_neg (by omega)]
 rcases hk with e | e | e | e
 ·
  rw[if_pos e]
  have hu65:(nd t u).k=65:=hlet.1 (by rw[e]; rfl)
  obtain ⟨N,hN,hNl,k1,k2,k3⟩:=def_kids g hu hu65
  change N < (nd t u).kids.length at hNl
  constructor
  ·rintro ⟨v,a,hv,ha,hb,hdl⟩
   rw[Q0 g hv]at hdl
   have hvu:v=u∧(nd t v).k=65:=by
    rcases hdl with ⟨_,s,_,_,_,q⟩ | ⟨q1,q2,_⟩ | ⟨q1,_,q2⟩ | ⟨_,_,⟨_,q⟩ | ⟨_,s,_,_,_,q⟩⟩
    ·omega
    ·have:=(Kn g hv q2).1
     exact ⟨by omega,q1⟩
    ·subst q2; omega
    ·omega
    ·omega
   obtain ⟨rfl,_⟩:=hvu
   obtain ⟨i,hi,hka,hgi⟩:=kid_at ha
   by_cases hl:i+1 < (nd t v).kids.length
   ·exfalso
    have hka2:60≤(nd t a).k∧(nd t a).k≤64:=by
     have h3:=(KP g hv hi).2.2
     rw[hka]at h3
     by_cases hiN:i < N
     ·have:=k1 i hiN
      change Jt t.nodes ((nd t v).kids.getD i 0)=64 at this
      omega
     ·have:=k2 i (by omega) hl
      change 60≤Jt t.nodes ((nd t v).kids.getD i 0)∧Jt t.nodes ((nd t v).kids.getD i 0)≤63 at this
      omega
    have:=Jdv g a j (by have:=(Kn g hv ha).2; omega) hka2.1 hka2.2 hb
    omega
   ·have hil:i=(nd t v).kids.length-1:=by omega
    have:JI t v=a:=by rw[← hka,hil]; rfl
    rw[this]; exact hb
  ·intro h
   have hm:=KP g hu (i:=(nd t u).kids.length-1) (by omega)
   exact ⟨u,JI t u,hu,hm.1,h,(Q0 g hu).2 (.inr (.inl ⟨hu65,hdm,e⟩))⟩
 ·
  rw[if_neg (by omega),if_pos e]
  have hu28:(nd t u).k=28:=hlet.2.1 (by rw[e]; rfl)
  obtain ⟨N,M,hN,hNM,hMl,k1,k2,k3,k4,k5⟩:=Jaf g hu hu28
  change (nd t u).n=(N:Int) at hN
  rw[hN]
  constructor
  ·rintro ⟨v,a,hv,ha,hb,hdl⟩
   rw[Q0 g hv]at hdl
   have hvu:v=u∧(nd t a).k≠43:=by
    rcases hdl with ⟨_,s,_,_,_,q⟩ | ⟨_,_,q⟩ | ⟨q1,_,q2⟩ | ⟨q0,q1,⟨q2,q⟩ | ⟨_,s,_,_,_,q⟩⟩
    ·omega
    ·omega
    ·subst q2; omega
    ·have:=(Kn g hv q2).1
     exact ⟨by omega,q1⟩
    ·omega
   obtain ⟨rfl,hna⟩:=hvu
   obtain ⟨i,hi,hka,hgi⟩:=kid_at ha
   have h3:=(KP g hv hi).2.2
   rw[hka]at h3
   refine ⟨i,?_,hi,by rw[hka]; exact hb⟩
   by_cases hiN:i < N
   ·have:=k1 i hiN
    change Jt t.nodes ((nd t v).kids.getD i 0)=43 at this
    omega
   ·omega
  ·rintro ⟨i,h1,h2,h3⟩
   have hm:=KP g hu h2
   have hna:(nd t (Jb9 t u i)).k≠43:=by
    rw[hm.2.2]
    rcases (show i=N∨(N+1≤i∧i < M)∨(M≤i∧i+1 < (nd t u).kids.length)∨i=(nd t u).kids.length-1 by omega) with rfl | h | h | rfl
    ·have:=k2.2
     change Jt t.nodes ((nd t u).kids.getD i 0)≤29 at this
     omega
    ·have:=k3 i h.1 h.2
     change Jt t.nodes ((nd t u).kids.getD i 0)=41 at this
     omega
    ·have:=k4 i h.1 h.2
     change Jt t.nodes ((nd t u).kids.getD i 0)=44 at this
     omega
    ·have:=k5
     change Jt t.nodes ((nd t u).kids.getD ((nd t u).kids.length-1) 0)=45 at this
     omega
   exact ⟨u,Jb9 t u i,hu,hm.1,h3,(Q0 g hu).2 (.inr (.inr (.inr ⟨hu28,hna,.inl ⟨hdm,e⟩⟩)))⟩
 ·
  rw[if_neg (by omega),if_neg (by omega),if_pos e]
  obtain ⟨hl3,_,_⟩:=JbC g hd e
  change (nd t d).kids.length=3 at hl3
  constructor
  ·rintro ⟨v,a,hv,ha,hb,hdl⟩
   rw[Q0 g hv]at hdl
   rcases hdl with ⟨_,s,_,_,_,q⟩ | ⟨_,_,q⟩ | ⟨q1,q3,q2⟩ | ⟨q0,q1,⟨q2,q⟩ | ⟨_,s,_,_,_,q⟩⟩
   ·omega
   ·omega
   ·subst q2
    have:JI t d=a:=by unfold JI; rw[hl3]; change ((nd t d).kids.getD 2 0).toNat=a; rw[← q3]; rfl
    rw[this]; exact hb
   ·omega
   ·omega
  ·intro h
   have hm:=KP g hd (i:=2) (by omega)
   have hlk:JI t d=Jb9 t d 2:=by unfold JI Jb9; rw[hl3]
   rw[hlk]at h
   refine ⟨d,Jb9 t d 2,hd,hm.1,h,(Q0 g hd).2 (.inr (.inr (.inl ⟨e,?_,rfl⟩)))⟩
   have hr:=g.kid hd (k:=(nd t d).kids.getD 2 0) (by
    change (nd t d).kids.getD 2 0∈(nd t d).kids
    rw[Gf,Gd (show 2 < (nd t d).kids.length by omega)]; exact Gl _)
   unfold Jb9
   omega
 ·
  rw[if_neg (by omega),if_neg (by omega),if_neg (by omega),if_pos e]
  have hu41:(nd t u).k=41:=hlet.2.2.1 (by rw[e]; rfl)
  obtain ⟨w,hpw,hw,huw,huk⟩:=Xv g hu (by omega)
  have hlet2:=Jbi (Jgf g hw huk)
  have hw2:(nd t w).k=40∨(nd t w).k=28:=hlet2.2.2.2.1 (by rw[hu41]; rfl)
  rw[hpw,Ga]
  have hvw:∀ v s:Nat,v < t.nodes.length→(s:Int)∈(nd t v).kids→(d:Int)∈(nd t s).kids→v=w∧s=u:=fun v s hv q1 q2=>by
   have hsv:=Kn g hv q1
   have hs:=(Kn g (show s < t.nodes.length by omega) q2).1
   have:s=u:=by omega
   subst this
   exact ⟨by have:=hsv.1; omega,rfl⟩
  constructor
  ·rintro ⟨v,a,hv,ha,hb,hdl⟩
   rw[Q0 g hv]at hdl
   rcases hdl with ⟨q0,s,q1,q2,q3,q⟩ | ⟨_,_,q⟩ | ⟨q1,_,q2⟩ | ⟨q0,q4,⟨_,q⟩ | ⟨q5,s,q1,q2,q3,q⟩⟩
   ·obtain ⟨rfl,rfl⟩:=hvw v s hv q1 q3
    rw[if_pos q0]
    exact Jat g hv hb (Jd0 g hv ha)
   ·omega
   ·subst q2; omega
   ·omega
   ·obtain ⟨rfl,rfl⟩:=hvw v s hv q1 q3
    rw[if_neg (by omega)]
    obtain ⟨N,M,hN,hNM,hMl,k1,k2,k3,k4,k5⟩:=Jaf g hv q0
    change (nd t v).n=(N:Int) at hN
    obtain ⟨i,hi,hka,hgi⟩:=kid_at ha
    have h3:=(KP g hv hi).2.2
    rw[hka]at h3
    refine ⟨i,?_,?_,by rw[hka]; exact hb⟩
    ·rw[hN]
     by_cases hiN:i < N
     ·have:=k1 i hiN
      change Jt t.nodes ((nd t v).kids.getD i 0)=43 at this
      omega
     ·by_cases hiN2:i=N
      ·subst hiN2
       have:=k2.2
       change Jt t.nodes ((nd t v).kids.getD i 0)≤29 at this
       omega
      ·omega
    ·by_cases hl:i+1 < (nd t v).kids.length
     ·exact hl
     ·have hil:i=(nd t v).kids.length-1:=by omega
      have:=k5
      change Jt t.nodes ((nd t v).kids.getD ((nd t v).kids.length-1) 0)=45 at this
      rw[← hil]at this
      omega
  ·rcases hw2 with hw40 | hw28
   ·rw[if_pos hw40]
    intro h
    rcases Jer g hw h with rfl | ⟨c,hc,hb⟩
    ·omega
    ·exact ⟨w,c,hw,hc,hb,(Q0 g hw).2 (.inl ⟨hw40,u,huk,hu41,hdm,e⟩)⟩
   ·rw[if_neg (by omega)]
    obtain ⟨N,M,hN,hNM,hMl,k1,k2,k3,k4,k5⟩:=Jaf g hw hw28
    change (nd t w).n=(N:Int) at hN
    rw[hN]
    rintro ⟨i,h1,h2,h3⟩
    have hm:=KP g hw (show i < (nd t w).kids.length by omega)
    have hka:(nd t (Jb9 t w i)).k=41∨(nd t (Jb9 t w i)).k=44:=by
     rw[hm.2.2]
     by_cases hiM:i < M
     ·exact .inl (k3 i (by omega) hiM)
     ·exact .inr (k4 i (by omega) h2)
    exact ⟨w,Jb9 t w i,hw,hm.1,h3,(Q0 g hw).2 (.inr (.inr (.inr ⟨hw28,by omega,.inr ⟨hka,u,huk,hu41,hdm,e⟩⟩)))⟩
end
end
section
theorem Jfk {α β:Type}{f:α→List β}:∀ {l:List α},l.Nodup→(∀ x∈l,(f x).Nodup)→(∀ x∈l,∀ y∈l,x≠y→∀ z∈f x,z∉f y)→((l.map f).flatten).Nodup
 |[],_,_,_=>by simp
 |x::l,h1,h2,h3=>by
  rw[Gz]at h1
  simp only[List.map_cons,List.flatten_cons]
  rw[Gr]
  refine ⟨h2 x (by simp),Jfk h1.2 (fun y hy=>h2 y (by simp[hy])) (fun y hy z hz hyz=>h3 y (by simp[hy]) z (by simp[hz]) hyz),?_⟩
  intro a ha b hb hab
  subst hab
  simp only[Gx,Gp]at hb
  obtain ⟨_,⟨y,hy,rfl⟩,hb⟩:=hb
  exact h3 x (by simp) y (by simp[hy]) (fun e=>h1.1 (e▸hy)) a ha hb
theorem Jbm {o:List Int}{m:Nat}(ho:Qu o) (hm:o.length=m):∀ (l:List Int) (a e:Int),chain o m a l e→l.Nodup
 |[],_,_,_=>by simp
 |i::l,a,e,h=>by
  simp only[chain]at h
  rw[Gz]
  refine ⟨fun hi=>?_,Jbm ho hm l _ e h.2⟩
  have h1:=KW ho hm l _ e h.2 i hi
  have h2:=Jgv ho h1.2.1 (by omega)
  omega
section
variable {t:Tr}{o:List Int}(g:GoodT t o)
include g
theorem kids_nodup {u:Nat}(hu:u < t.nodes.length):(nd t u).kids.Nodup:=Jbm g.ord.ok rfl _ _ _ (g.ord.kids (JW hu))
theorem XG {u k:Nat}(hu:u < t.nodes.length):(Qh t u k).Nodup:=(kids_nodup g hu).filter _
theorem Jes {u:Nat}(hu:u < t.nodes.length):(Yq t u).Nodup:=by
 unfold Yq
 have hr:∀ s∈Qh t u 41,0≤s∧s < u:=fun s hs=>g.kid hu (Kv.1 hs).1
 refine Jfk (XG g hu) (fun s hs=>XG g (by have:=hr s hs; omega)) fun s hs s' hs' hne z hz hz'=>?_
 have h1:=hr s hs
 have h2:=hr s' hs'
 have:=g.ord.parent_one (JW (show s.toNat < t.nodes.length by omega)) (JW (show s'.toNat < t.nodes.length by omega)) (Kv.1 hz).1 (Kv.1 hz').1
 omega
def whoD (t:Tr) (d:Nat):Int:=if (nd t d).k=47 then d else if (nd t d).k=42 then J3 t (J3 t d).toNat else J3 t d
theorem decl_who {u a:Nat}{d:Int}(hu:u < t.nodes.length) (h:d∈Jb0 t u a):0≤d∧d < t.nodes.length∧whoD t d.toNat=u:=by
 have hd:0≤d∧d≤u:=by
  have hb:d∈Yq t u→0≤d∧d≤u:=fun h=>by
   rw[JbP g hu]at h
   obtain ⟨s,q1,_,q3,_⟩:=h
   have h1:=(Kn g hu q1).2
   have h2:=g.kid (show s < t.nodes.length by omega) q3
   omega
  have hk:∀ k,d∈Qh t u k→0≤d∧d≤u:=fun k h=>by
   have:=g.kid hu (Kv.1 h).1
   omega
  unfold Jb0 at h
  split at h
  ·exact hb h
  split at h
  ·exact hk _ h
  split at h
  ·split at h
   ·simp at h; omega
   ·simp at h
  split at h
  ·split at h
   ·simp at h
   split at h
   ·rcases Gn.1 h with h | h
    ·exact hk _ h
    ·exact hb h
   ·exact hk _ h
  ·simp at h
 obtain ⟨d,rfl⟩:∃ n:Nat,d=(n:Int):=⟨d.toNat,by omega⟩
 rw[Q0 g hu]at h
 refine ⟨by omega,by omega,?_⟩
 rw[Ga]
 unfold whoD
 have bind:(∃ s:Nat,(s:Int)∈(nd t u).kids∧(nd t s).k=41∧(d:Int)∈(nd t s).kids∧(nd t d).k=42)→(if (nd t d).k=47 then (d:Int) else if (nd t d).k=42 then J3 t (J3 t d).toNat else J3 t d)=u:=by
  rintro ⟨s,q1,_,q3,q4⟩
  have hs:=Kn g hu q1
  have hds:=(Kn g (show s < t.nodes.length by omega) q3).1
  rw[if_neg (by omega),if_pos q4,hds,Ga]
  exact hs.1
 rcases h with ⟨_,hb⟩ | ⟨_,q,q2⟩ | ⟨q1,_,rfl⟩ | ⟨_,_,⟨q,q2⟩ | ⟨_,hb⟩⟩
 ·exact bind hb
 ·rw[if_neg (by omega),if_neg (by omega)]; exact (Kn g hu q).1
 ·rw[if_pos q1]
 ·rw[if_neg (by omega),if_neg (by omega)]; exact (Kn g hu q).1
 ·exact bind hb
theorem decl_nodup {u a:Nat}(hu:u < t.nodes.length):(Jb0 t u a).Nodup:=by
 unfold Jb0
 split
 ·exact Jes g hu
 split
 ·exact XG g hu
 split
 ·split <;> simp
 split
 ·split
  ·simp
  split
  ·rw[Gr]
   refine ⟨XG g hu,Jes g hu,fun x hx y hy he=>?_⟩
   subst he
   have h1:=(Kv.1 hx).2
   have h0:=g.kid hu (Kv.1 hx).1
   rw[JbP g hu]at hy
   obtain ⟨s,_,_,_,h2⟩:=hy
   omega
  ·exact XG g hu
 ·simp
theorem climb_who:∀ (f j:Nat) (d:Int),j < t.nodes.length→d∈Xr t f j→0≤d∧d < t.nodes.length∧(j:Int) < whoD t d.toNat:=by
 intro f
 induction f with
 |zero=>intro j d _ h; simp[Xr]at h
 |succ f ih=>
  intro j d hj h
  unfold Xr at h
  rcases QI g hj with ⟨hp,_⟩ | ⟨m,hp,hm1,hm2,_⟩
  ·rw[hp,if_pos (by decide)]at h; simp at h
  ·rw[hp,if_neg (by omega),Gn,Ga]at h
   rcases h with h | h
   ·have:=decl_who g hm2 h
    exact ⟨this.1,this.2.1,by omega⟩
   ·have:=ih m d hm2 h
    exact ⟨this.1,this.2.1,by omega⟩
theorem climb_nodup:∀ (f j:Nat),j < t.nodes.length→(Xr t f j).Nodup:=by
 intro f
 induction f with
 |zero=>intro j _; simp[Xr]
 |succ f ih=>
  intro j hj
  unfold Xr
  rcases QI g hj with ⟨hp,_⟩ | ⟨m,hp,hm1,hm2,_⟩
  ·rw[hp,if_pos (by decide)]; simp
  ·rw[hp,if_neg (by omega),Ga,Gr]
   refine ⟨decl_nodup g hm2,ih m hm2,fun x hx y hy he=>?_⟩
   subst he
   have h1:=(decl_who g hm2 hx).2.2
   have h2:=(climb_who g f m x hm2 hy).2.2
   omega
theorem def_root {d:Nat}(hd:d < t.nodes.length) (hk:(nd t d).k=65):J3 t d = -1∧(d:Int)∈t.items:=by
 have hp:J3 t d = -1:=by
  rcases QI g hd with ⟨h,_⟩ | ⟨m,_,_,hm,hm2⟩
  ·exact h
  ·exfalso
   exact (Jbi (Jgf g hm hm2)).2.2.2.2.2.2.2.2 (by rw[hk]; rfl)
 refine ⟨hp,?_⟩
 obtain ⟨L,hL,h5,h6⟩:=QR g.ord.ok g.olen _ _ _ (d:Int) g.its (by omega) (by omega)
 have hr:=g.itr hL
 obtain ⟨L,rfl⟩:∃ k:Nat,L=(k:Int):=⟨L.toNat,by omega⟩
 by_cases he:d=L
 ·subst he; exact hL
 ·exfalso
  obtain ⟨m,q1,q2,q3⟩:=par_in g L d (by omega) h5 (by omega)
  have:=(Kn g (show m < t.nodes.length by omega) q3).1
  omega
end
end
section
def Ja0 (o:List Int) (j a:Nat):Bool:=decide (j≤a) && decide (fs o a≤j)
theorem K9 {o:List Int}{j a:Nat}:Ja0 o j a=true↔blw o j a:=by simp[Ja0,blw]
def bkB (t:Tr) (o:List Int) (j u:Nat) (m:Int) (last:Bool):Bool:=
 (Gh (nd t u).kids.length).any fun i=>decide (m≤i) && ((last || decide (i+1 < (nd t u).kids.length)) && Ja0 o j (Jb9 t u i))
def inB (t : Tr) (o : List Int) (d j : Nat) : Bool :=
  if (nd t d).k = 65 then true
  else if (nd t d).k = 64 then Ja0 o j (JI t (J3 t d).toNat)
  else if (nd t d).k = 43 then bkB t o j (J3 t d).toNat (nd t (J3 t d).toNat).n true
  else if (nd t d).k = 47 then Ja0 o j (JI t d)
  else if (nd t d).k = 42 then
    (if (nd t (J3 t (J3 t d).toNat).toNat).k = 40 then Ja0 o j (J3 t (J3 t d).toNat).toNat
     else bkB t o j (J3 t (J3 t d).toNat).toNat ((nd t (J3 t (J3 t d).toNat).toNat).n + 1) false)
  else false
def Kk (k:Nat):Bool:=k == 65 || k == 64 || k == 42 || k == 43 || k == 47
theorem bkB_iff {t:Tr}{o:List Int}{j u:Nat}{m:Int}{last:Bool}:bkB t o j u m last=true↔∃ i:Nat,m≤i∧i < (nd t u).kids.length∧(last=true∨i+1 < (nd t u).kids.length)∧blw o j (Jb9 t u i):=by
 unfold bkB
 simp only[Gy,Gj,Gc,GH,decide_eq_true_eq,K9]
 constructor
 ·rintro ⟨i,h1,h2,h3,h4⟩; exact ⟨i,h2,h1,h3,h4⟩
 ·rintro ⟨i,h1,h2,h3,h4⟩; exact ⟨i,h2,h1,h3,h4⟩
theorem inB_iff {t:Tr}{o:List Int}{d j:Nat}:inB t o d j=true↔inR t o d j:=by
 unfold inB inR
 by_cases e1:(nd t d).k=65
 ·simp[e1]
 by_cases e2:(nd t d).k=64
 ·rw[if_neg e1,if_pos e2,if_neg e1,if_pos e2]; exact K9
 by_cases e3:(nd t d).k=43
 ·rw[if_neg e1,if_neg e2,if_pos e3,if_neg e1,if_neg e2,if_pos e3,bkB_iff]
  constructor
  ·rintro ⟨i,h1,h2,_,h4⟩; exact ⟨i,h1,h2,h4⟩
  ·rintro ⟨i,h1,h2,h4⟩; exact ⟨i,h1,h2,.inl rfl,h4⟩
 by_cases e4:(nd t d).k=47
 ·rw[if_neg e1,if_neg e2,if_neg e3,if_pos e4,if_neg e1,if_neg e2,if_neg e3,if_pos e4]; exact K9
 by_cases e5:(nd t d).k=42
 ·rw[if_neg e1,if_neg e2,if_neg e3,if_neg e4,if_pos e5,if_neg e1,if_neg e2,if_neg e3,if_neg e4,if_pos e5]
  by_cases e6:(nd t (J3 t (J3 t d).toNat).toNat).k=40
  ·rw[if_pos e6,if_pos e6]; exact K9
  ·rw[if_neg e6,if_neg e6,bkB_iff]
   constructor
   ·rintro ⟨i,h1,h2,h3,h4⟩
    rcases h3 with h3 | h3
    ·cases h3
    ·exact ⟨i,h1,h3,h4⟩
   ·rintro ⟨i,h1,h3,h4⟩; exact ⟨i,h1,by omega,.inr h3,h4⟩
 ·rw[if_neg e1,if_neg e2,if_neg e3,if_neg e4,if_neg e5,if_neg e1,if_neg e2,if_neg e3,if_neg e4,if_neg e5]; simp
section
variable {t:Tr}{o:List Int}(g:GoodT t o)
def Ka (t:Tr):List Int:=(Gh t.nodes.length).map fun i:Nat=>(i:Int)
def JbD (t:Tr) (j:Nat):List Int:=(Ka t).filter fun d=>(Xr t t.nodes.length j).contains d
def JcK (t:Tr) (l:List Int) (s:List UInt8):Int:=match l.find? fun d=>(nd t d.toNat).text == s with | some d=>d | none=>-1
def Jfn (t:Tr) (o:List Int) (j:Nat):Int:=match (Ka t).find? fun d=>(nd t d.toNat).text == (nd t j).text && (Kk (nd t d.toNat).k && (!((nd t d.toNat).k == 65) && inB t o d.toNat j)) with | some d=>d | none=>-1
include g
theorem decl_kind {u a:Nat}{d:Nat}(hu:u < t.nodes.length) (h:(d:Int)∈Jb0 t u a):(nd t d).k=64∨(nd t d).k=43∨(nd t d).k=47∨(nd t d).k=42:=by
 rw[Q0 g hu]at h
 rcases h with ⟨_,s,_,_,_,q⟩ | ⟨_,_,q⟩ | ⟨q1,_,rfl⟩ | ⟨_,_,⟨_,q⟩ | ⟨_,s,_,_,_,q⟩⟩
 ·exact .inr (.inr (.inr q))
 ·exact .inl q
 ·exact .inr (.inr (.inl q1))
 ·exact .inr (.inl q)
 ·exact .inr (.inr (.inr q))
theorem sight_mem {d j:Nat}(hd:d < t.nodes.length) (hj:j < t.nodes.length) (hje:1≤(nd t j).k∧(nd t j).k≤29):(Xr t t.nodes.length j).contains (d:Int)=(Kk (nd t d).k && (!((nd t d).k == 65) && inB t o d j)):=by
 rw[Gi]
 simp only[List.contains_eq_mem,decide_eq_true_eq,Gc,GG,beq_eq_false_iff_ne,inB_iff]
 rw[climb_mem g t.nodes.length j (d:Int) hj (by omega)]
 constructor
 ·intro h
  obtain ⟨u,a,hu,ha,hb,hdl⟩:=h
  have hk:=decl_kind g hu hdl
  refine ⟨?_,by omega,(inS_inR g hd hj hje hk).1 ⟨u,a,hu,ha,hb,hdl⟩⟩
  unfold Kk
  rcases hk with e | e | e | e <;> rw[e] <;> rfl
 ·rintro ⟨h1,h2,h3⟩
  have hk:(nd t d).k=64∨(nd t d).k=43∨(nd t d).k=47∨(nd t d).k=42:=by
   unfold Kk at h1
   simp only[GH,beq_iff_eq]at h1
   omega
  exact (inS_inR g hd hj hje hk).2 h3
theorem named_means {j:Nat}(hj:j < t.nodes.length) (hje:1≤(nd t j).k∧(nd t j).k≤29):JcK t (JbD t j) (nd t j).text=Jfn t o j:=by
 unfold JcK Jfn JbD
 rw[Gs]
 have:∀ l:List Int,(∀ d∈l,0≤d∧d < t.nodes.length)→l.find? (fun d=>decide ((Xr t t.nodes.length j).contains d=true∧((nd t d.toNat).text == (nd t j).text)=true))=l.find? fun d=>(nd t d.toNat).text == (nd t j).text && (Kk (nd t d.toNat).k && (!((nd t d.toNat).k == 65) && inB t o d.toNat j)):=by
  intro l
  induction l with
  |nil=>intro _; rfl
  |cons d l ih=>
   intro hl
   obtain ⟨d,rfl⟩:∃ n:Nat,d=(n:Int):=⟨d.toNat,by have:=hl d (by simp); omega⟩
   have hd:=hl d (by simp)
   have hs:=sight_mem g (show d < t.nodes.length by omega) hj hje
   rw[Gu,Gu,ih fun x hx=>hl x (by simp[hx])]
   simp only[Ga]
   rw[hs]
   congr 1
   rw[Gi]
   simp[and_comm,and_left_comm]
 rw[this]
 intro d hd
 unfold Ka at hd
 simp only[Gp,Gj]at hd
 obtain ⟨i,hi,rfl⟩:=hd
 omega
end
end
section
theorem JfJ:∀ {l m:List Int},l.Pairwise (· < ·)→m.Pairwise (· < ·)→(∀ x,x∈l↔x∈m)→l=m
 |[],[],_,_,_=>rfl
 |[],y::m,_,_,h=>by simpa using (h y).2 (by simp)
 |x::l,[],_,_,h=>by simpa using (h x).1 (by simp)
 |x::l,y::m,h1,h2,h=>by
  rw[Gq]at h1 h2
  have e:x=y:=by
   have a:=(h x).1 (by simp)
   have b:=(h y).2 (by simp)
   rcases Gg.1 a with a | a
   ·exact a
   ·rcases Gg.1 b with b | b
    ·exact b.symm
    ·have:=h1.1 y b
     have:=h2.1 x a
     omega
  subst e
  rw[JfJ h1.2 h2.2 fun z=>?_]
  constructor
  ·intro hz
   have:=h1.1 z hz
   rcases Gg.1 ((h z).1 (by simp[hz])) with e | e
   ·omega
   ·exact e
  ·intro hz
   have:=h2.1 z hz
   rcases Gg.1 ((h z).2 (by simp[hz])) with e | e
   ·omega
   ·exact e
theorem Jas {o:List Int}{m:Nat}(ho:Qu o) (hm:o.length=m):∀ (l:List Int) (a e:Int),chain o m a l e→l.Pairwise (· < ·)
 |[],_,_,_=>.nil
 |i::l,a,e,h=>by
  simp only[chain]at h
  rw[Gq]
  refine ⟨fun x hx=>?_,Jas ho hm l _ e h.2⟩
  have h1:=KW ho hm l _ e h.2 x hx
  have h2:=Jgv ho h1.2.1 (by omega)
  omega
theorem JaP {t:Tr}:(Ka t).Pairwise (· < ·):=by
 unfold Ka
 rw[List.pairwise_map]
 exact List.pairwise_lt_range.imp fun h=>by omega
theorem Qp {t:Tr}{d:Int}:d∈Ka t↔0≤d∧d < t.nodes.length:=by
 unfold Ka
 simp only[Gp,Gj]
 constructor
 ·rintro ⟨i,hi,rfl⟩; omega
 ·intro h; exact ⟨d.toNat,by omega,by omega⟩
section
variable {t:Tr}{o:List Int}(g:GoodT t o)
def Jfo (t:Tr) (j:Nat):Int:=match (Ka t).find? fun d=>(nd t d.toNat).text == (nd t j).text && (Kk (nd t d.toNat).k && (nd t d.toNat).k == 65) with | some d=>d | none=>-1
def JdU (t:Tr) (j:Nat):Int:=match (Ka t).find? fun d=>(nd t d.toNat).text == (nd t j).text && (Kk (nd t d.toNat).k && ((nd t d.toNat).k == 43 && J3 t d.toNat == J3 t j)) with | some d=>d | none=>-1
include g
theorem items_all:t.items=(Ka t).filter fun d=>(nd t d.toNat).k == 65:=by
 refine JfJ (Jas g.ord.ok g.olen _ _ _ g.its) (JaP.filter _) fun x=>?_
 rw[GA,Qp,beq_iff_eq]
 constructor
 ·intro h
  have h1:=g.itr h
  have h2:=g.defs x h
  exact ⟨h1,h2⟩
 ·rintro ⟨h1,h2⟩
  have:=(def_root g (show x.toNat < t.nodes.length by omega) h2).2
  rwa [show ((x.toNat:Nat):Int)=x by omega]at this
theorem call_means {j:Nat}:JcK t t.items (nd t j).text=Jfo t j:=by
 unfold JcK Jfo
 rw[items_all g,Gs]
 congr 2
 funext d
 rw[Gi]
 simp only[decide_eq_true_eq,Gc,beq_iff_eq]
 constructor
 ·rintro ⟨h1,h2⟩; exact ⟨h2,by rw[h1]; rfl,h1⟩
 ·rintro ⟨h1,_,h2⟩; exact ⟨h2,h1⟩
theorem kids_asc {u:Nat}(hu:u < t.nodes.length):(nd t u).kids.Pairwise (· < ·):=Jas g.ord.ok rfl _ _ _ (g.ord.kids (JW hu))
theorem kidsK_all {u k:Nat}(hu:u < t.nodes.length) (hk:k≠65):Qh t u k=(Ka t).filter fun d=>(nd t d.toNat).k == k && J3 t d.toNat == u:=by
 refine JfJ ((kids_asc g hu).filter _) (JaP.filter _) fun x=>?_
 rw[Kv,GA,Qp,Gc,beq_iff_eq,beq_iff_eq]
 constructor
 ·rintro ⟨h1,h2⟩
  have hr:=g.kid hu h1
  obtain ⟨x,rfl⟩:∃ n:Nat,x=(n:Int):=⟨x.toNat,by omega⟩
  exact ⟨by omega,h2,(Kn g hu h1).1⟩
 ·rintro ⟨h1,h2,h3⟩
  obtain ⟨x,rfl⟩:∃ n:Nat,x=(n:Int):=⟨x.toNat,by omega⟩
  rw[Ga]at h2 h3
  obtain ⟨u',q1,_,_,q2⟩:=Xv g (show x < t.nodes.length by omega) (by omega)
  have:u'=u:=by omega
  subst this
  exact ⟨q2,h2⟩
theorem next_means {j u:Nat}(hu:u < t.nodes.length) (hp:J3 t j=u):JcK t (Qh t u 43) (nd t j).text=JdU t j:=by
 unfold JcK JdU
 rw[kidsK_all g hu (by decide),Gs,hp]
 congr 2
 funext d
 rw[Gi]
 simp only[decide_eq_true_eq,Gc,beq_iff_eq]
 constructor
 ·rintro ⟨⟨h1,h3⟩,h2⟩; exact ⟨h2,by rw[h1]; rfl,h1,h3⟩
 ·rintro ⟨h1,_,h2,h3⟩; exact ⟨⟨h2,h3⟩,h1⟩
end
end
section
def Xf (t:Tr) (i:Nat):Nat:=(t.items.filter fun L=>decide (L < (i:Int))).length
def X0 (t:Tr) (o:List Int) (i:Nat):Int:=match t.items.find? fun L=>Ja0 o i L.toNat with | some L=>L | none=>-1
def twN (t:Tr) (i:Nat):Bool:=
 if (nd t i).k≠44∧Kk (nd t i).k=false then false
 else (Gh i).any fun k=>(nd t k).text == (nd t i).text && (if (nd t i).k=44 then (nd t k).k == 44 && J3 t k == J3 t i else if (nd t i).k=65 then (nd t k).k == 65 else !((nd t k).k == 65) && (Kk (nd t k).k && Xf t k == Xf t i))
def twR (t:Tr) (o:List Int) (i:Nat):Bool:=
 if (nd t i).k≠44∧Kk (nd t i).k=false then false
 else (Gh i).any fun k=>(nd t k).text == (nd t i).text && (if (nd t i).k=65 then (nd t k).k == 65 else if (nd t i).k=44 then (nd t k).k == 44 && J3 t k == J3 t i else Kk (nd t k).k && (!((nd t k).k == 65) && X0 t o k == X0 t o i))
theorem find_idx {α:Type}{q:α→Bool}:∀ {l:List α}{k:Nat}{x:α},l[k]? = some x→q x=true→(∀ y∈l.take k,q y=false)→l.find? q=some x
 |[],_,_,h,_,_=>by simp at h
 |y::l,0,x,h,hq,_=>by simp at h; subst h; simp[hq]
 |y::l,k+1,x,h,hq,hn=>by
  rw[Gu,hn y (by simp)]
  exact find_idx (k:=k) (by simpa using h) hq fun z hz=>hn z (by simp[hz])
section
variable {t:Tr}{o:List Int}(g:GoodT t o)
include g
theorem item_of {i:Nat}(hi:i < t.nodes.length):∃ k L:Nat,k < t.items.length∧t.items[k]? = some (L:Int)∧Xf t i=k∧X0 t o i=L∧endI t k≤i∧i≤L:=by
 obtain ⟨L,hL,h5,h6⟩:=QR g.ord.ok g.olen _ _ _ (i:Int) g.its (by omega) (by omega)
 obtain ⟨k,hk,he⟩:=Gw hL
 obtain ⟨L',e1,e2,e3,e4,e5⟩:=item_at g hk
 have eL:L=(L':Int):=by rw[← e1,Gf,Gd hk,← he]; rfl
 subst eL
 rw[e2]at h5
 have hget:t.items[k]? = some (L':Int):=by rw[Gd hk,he]
 have hlt:∀ x∈t.items.take k,x < (i:Int):=fun x hx=>by
  have:=(KW g.ord.ok g.olen _ _ _ (Jab g k (Nat.le_of_lt hk)).1 x hx).2.2.1
  omega
 have hge:∀ x∈t.items.drop k,(i:Int)≤x:=fun x hx=>by
  have ha:=Jas g.ord.ok g.olen _ _ _ (Jab g k (Nat.le_of_lt hk)).2
  rw[List.drop_eq_getElem_cons hk,he]at hx ha
  rw[Gq]at ha
  rcases Gg.1 hx with rfl | hx
  ·exact h6
  ·have:=ha.1 x hx; omega
 refine ⟨k,L',hk,hget,?_,?_,by omega,by omega⟩
 ·unfold Xf
  rw[← List.take_append_drop k t.items,List.filter_append,List.filter_eq_self.2 (fun x hx=>by simpa using hlt x hx),List.filter_eq_nil_iff.2 (fun x hx=>by have:=hge x hx; simp; omega),List.append_nil,List.length_take]
  omega
 ·unfold X0
  rw[find_idx hget (by rw[K9,Ga]; exact ⟨by omega,by rw[e2]; omega⟩) fun y hy=>?_]
  have h1:=hlt y hy
  have h2:=(KW g.ord.ok g.olen _ _ _ (Jab g k (Nat.le_of_lt hk)).1 y hy).2.1
  rw[Bool.eq_false_iff]
  intro hb
  have:=(K9.1 hb).1
  omega
theorem item_same {i k:Nat}(hi:i < t.nodes.length) (hk:k < t.nodes.length):(Xf t k == Xf t i)=(X0 t o k == X0 t o i):=by
 obtain ⟨a,A,a1,a2,a3,a4,a5,a6⟩:=item_of g hi
 obtain ⟨b,B,b1,b2,b3,b4,b5,b6⟩:=item_of g hk
 rw[a3,a4,b3,b4,Gi,beq_iff_eq,beq_iff_eq]
 constructor
 ·rintro rfl
  rw[a2]at b2
  exact (Option.some.inj b2).symm
 ·intro h
  have hn:t.items.Nodup:=Jbm g.ord.ok g.olen _ _ _ g.its
  rw[h]at b2
  exact (List.getElem?_inj b1 hn).1 (b2.trans a2.symm)
theorem tw_eq {i:Nat}(hi:i < t.nodes.length):twN t i=twR t o i:=by
 unfold twN twR
 by_cases h:(nd t i).k≠44∧Kk (nd t i).k=false
 ·rw[if_pos h,if_pos h]
 rw[if_neg h,if_neg h]
 have hl:∀ l:List Nat,(∀ k∈l,k < i)→(l.any fun k=>(nd t k).text == (nd t i).text && (if (nd t i).k=44 then (nd t k).k == 44 && J3 t k == J3 t i else if (nd t i).k=65 then (nd t k).k == 65 else !((nd t k).k == 65) && (Kk (nd t k).k && Xf t k == Xf t i)))=(l.any fun k=>(nd t k).text == (nd t i).text && (if (nd t i).k=65 then (nd t k).k == 65 else if (nd t i).k=44 then (nd t k).k == 44 && J3 t k == J3 t i else Kk (nd t k).k && (!((nd t k).k == 65) && X0 t o k == X0 t o i))):=by
  intro l
  induction l with
  |nil=>intro _; rfl
  |cons k l ih=>
   intro hk
   have hki:=hk k (by simp)
   rw[GD,GD,ih fun x hx=>hk x (by simp[hx]),item_same g hi (show k < t.nodes.length by omega)]
   congr 2
   by_cases e1:(nd t i).k=44
   ·rw[if_pos e1,if_neg (by omega),if_pos e1]
   ·rw[if_neg e1]
    by_cases e2:(nd t i).k=65
    ·rw[if_pos e2,if_pos e2]
    ·rw[if_neg e2,if_neg e2,if_neg e1]
     cases Kk (nd t k).k <;> cases ((nd t k).k == 65) <;> simp
 exact hl _ fun k hk=>Gj.1 hk
end
end
section
def Jcg (t:Tr) (u c:Nat) (late:Bool):Bool:=
 if (nd t u).k=4 then true else if (nd t u).k=46∨(nd t u).k=47 then late || c == JI t u else if (nd t u).k=28 then late && (nd t c).k == 43 else late
def JgS (t:Tr) (u c:Nat):Option Bool:=
 if (nd t u).k=4 then some true else if (nd t u).k=46∨(nd t u).k=47 then some (c == JI t u) else if (nd t u).k=28 then (if (nd t c).k=43 then none else some false) else none
def buL (t:Tr):List Nat→Bool→Bool
 |c::u::l,late=>buL t (u::l) (Jcg t u c late)
 |_,late=>late
def tdL (t:Tr):List Nat→Bool→Bool
 |u::c::l,late=>match JgS t u c with
  |some b=>b
  |none=>tdL t (c::l) late
 |_,late=>late
theorem tdL_snoc {t:Tr}{late:Bool}{u c:Nat}:∀ l:List Nat,tdL t (l++[u,c]) late=tdL t (l++[u]) (match JgS t u c with | some b=>b | none=>late)
 |[]=>by
  simp only[Gt,tdL]
 |[x]=>by
  simp only[Gm,Gt,tdL]
 |x::y::l=>by
  have:=tdL_snoc (t:=t) (late:=late) (u:=u) (c:=c) (y::l)
  simp only[Gm]at this
  simp only[Gm,tdL]
  rw[this]
def Jco (t:Tr) (q:Nat→Nat→Prop):List Nat→Prop
 |c::u::l=>q u c∧Jco t q (u::l)
 |_=>True
theorem bu_td {t:Tr}:∀ (l:List Nat) (late:Bool),Jco t (fun u c=>(nd t u).k=46∨(nd t u).k=47→c=JI t u) l→buL t l late=tdL t l.reverse late
 |[],_,_=>rfl
 |[x],_,_=>rfl
 |c::u::l,late,h=>by
  have hs:Jcg t u c late=(match JgS t u c with | some b=>b | none=>late):=by
   have h1:=h.1
   unfold Jcg JgS
   by_cases e1:(nd t u).k=4
   ·rw[if_pos e1,if_pos e1]
   rw[if_neg e1,if_neg e1]
   by_cases e2:(nd t u).k=46∨(nd t u).k=47
   ·rw[if_pos e2,if_pos e2,h1 e2]; simp
   rw[if_neg e2,if_neg e2]
   by_cases e3:(nd t u).k=28
   ·rw[if_pos e3,if_pos e3]
    by_cases e4:(nd t c).k=43
    ·rw[if_pos e4,e4]; simp
    ·rw[if_neg e4]; simp[e4]
   ·rw[if_neg e3,if_neg e3]
  rw[buL,bu_td (u::l) _ h.2,hs]
  simp only[List.reverse_cons,List.append_assoc,Gm,Gt]
  rw[tdL_snoc]
section
variable {t:Tr}{o:List Int}(g:GoodT t o)
def upL (t:Tr) (top:Nat):Nat→Nat→List Nat
 |0,n=>[n]
 |f+1,n=>if n=top then [n] else n::upL t top f (J3 t n).toNat
include g
theorem bound_below {a j:Nat}(ha:a < t.nodes.length) (hk:(nd t a).k=48) (hb:blw o j a):j=a:=by
 rcases Jer g ha hb with h | ⟨c,hc,_⟩
 ·exact h
 ·exfalso
  have hl:=Jgf g ha hc
  rw[hk]at hl
  unfold KJ at hl
  simp at hl
theorem bind_below {a j:Nat}(ha:a < t.nodes.length) (hk:(nd t a).k=42) (hb:blw o j a):(nd t j).k=42∨(60≤(nd t j).k∧(nd t j).k≤64):=by
 rcases Jer g ha hb with rfl | ⟨c,hc,hb2⟩
 ·exact .inl hk
 ·refine .inr ?_
  have hl:=Jgf g ha hc
  have hr:=(Kn g ha hc).2
  rw[hk]at hl
  have hk2:JeJ (nd t c).k=116:=by
   unfold KJ at hl
   dsimp only at hl
   rw[if_neg (by omega),if_neg (by omega),if_neg (by omega),if_neg (by omega),if_neg (by omega),if_neg (by omega),if_neg (by omega),if_neg (by omega),if_neg (by omega)]at hl
   split at hl
   ·simpa using hl
   ·simp at hl
  have h3:=JdW hk2
  exact Jdv g c j (by omega) (by omega) (by omega) hb2
theorem Jep {u c j:Nat}(hu:u < t.nodes.length) (hk:(nd t u).k=46∨(nd t u).k=47) (hc:(c:Int)∈(nd t u).kids) (hb:blw o j c) (hje:1≤(nd t j).k∧(nd t j).k≤29):c=JI t u:=by
 obtain ⟨i,hi,hka,hgi⟩:=kid_at hc
 have h3:=(KP g hu hi).2.2
 rw[hka]at h3
 have hr:=(Kn g hu hc).2
 by_cases hl:i+1 < (nd t u).kids.length
 ·exfalso
  have h48:(nd t c).k=48:=by
   rcases hk with e | e
   ·have h:=JdY g hu
    change KA (nd t u).k (nd t u).n (lets t.nodes (nd t u))=true at h
    rw[e]at h
    unfold KA at h
    rw[if_neg (by omega),if_neg (by omega),if_neg (by omega),if_neg (by omega),if_neg (by omega),if_neg (by omega),if_neg (by omega),if_neg (by omega),if_neg (by omega),if_pos rfl]at h
    simp only[Gc,beq_iff_eq,Qq]at h
    have:=YD 79 48 (Qr hu h.1.2 (i:=i) (by omega) (by omega)).2 (by simp)
    rw[h3]; exact this
   ·have h:=JbC g hu e
    change (nd t u).kids.length=3∧_ at h
    have:=h.2.1 i (by omega)
    rw[h3]; exact this
  have:=bound_below g (show c < t.nodes.length by omega) h48 hb
  subst this
  omega
 ·have hil:i=(nd t u).kids.length-1:=by omega
  rw[← hka,hil]; rfl
theorem Jc2 {s j:Nat}(hs:s < t.nodes.length) (hk:(nd t s).k=41) (hje:1≤(nd t j).k∧(nd t j).k≤29):blw o j s↔blw o j (JI t s):=by
 obtain ⟨a,hN,hl,k1,k2⟩:=Jf2 g hs hk
 change (nd t s).kids.length=a+1 at hl
 have hm:=KP g hs (i:=(nd t s).kids.length-1) (by omega)
 constructor
 ·intro h
  rcases Jer g hs h with rfl | ⟨c,hc,hb⟩
  ·omega
  ·obtain ⟨i,hi,hka,hgi⟩:=kid_at hc
   by_cases hil:i < a
   ·exfalso
    have h3:=(KP g hs hi).2.2
    rw[hka]at h3
    have:=k1 i hil
    change Jt t.nodes ((nd t s).kids.getD i 0)=42 at this
    have:=bind_below g (show c < t.nodes.length by have:=(Kn g hs hc).2; omega) (by omega) hb
    omega
   ·have:i=(nd t s).kids.length-1:=by omega
    rw[← hka,this]at hb
    exact hb
 ·intro h
  exact Jat g hs h (Jd0 g hs hm.1)
end
end
section
section
variable {t:Tr}{o:List Int}(g:GoodT t o)
include g
theorem up_pairs {j:Nat}(hje:1≤(nd t j).k∧(nd t j).k≤29):∀ (f c top:Nat),top < t.nodes.length→blw o c top→blw o j c→Jco t (fun u c=>(nd t u).k=46∨(nd t u).k=47→c=JI t u) (upL t top f c)
 |0,_,_,_,_,_=>trivial
 |f+1,c,top,htop,hct,hjc=>by
  unfold upL
  by_cases he:c=top
  ·rw[if_pos he]; trivial
  ·rw[if_neg he]
   obtain ⟨m,hp,hcm,hmt,hmb,hk⟩:=X7 g htop hct he
   rw[hp,Ga]
   have hm:m < t.nodes.length:=by omega
   have hjm:=Jat g hm hjc (Jd0 g hm hk)
   have ih:=up_pairs hje f m top htop hmb hjm
   cases f with
   |zero=>
    refine ⟨fun h=>Jep g hm h hk hjc hje,?_⟩
    trivial
   |succ f=>
    unfold upL at ih ⊢
    by_cases he2:m=top
    ·rw[if_pos he2]at ih ⊢
     exact ⟨fun h=>Jep g hm h hk hjc hje,trivial⟩
    ·rw[if_neg he2]at ih ⊢
     exact ⟨fun h=>Jep g hm h hk hjc hje,ih⟩
theorem late_eq {j s:Nat}(hs:s < t.nodes.length) (hk:(nd t s).k=41) (hje:1≤(nd t j).k∧(nd t j).k≤29) (hb:blw o j s) (f:Nat):buL t (upL t (JI t s) f j) false=tdL t (upL t (JI t s) f j).reverse false:=by
 have h1:=(Jc2 g hs hk hje).1 hb
 obtain ⟨a,hN,hl,_,_⟩:=Jf2 g hs hk
 change (nd t s).kids.length=a+1 at hl
 have hm:=KP g hs (i:=(nd t s).kids.length-1) (by omega)
 have hlt:JI t s < t.nodes.length:=by
  have:=hm.2.1
  change JI t s < s at this
  omega
 have hj:j < t.nodes.length:=by have:=h1.1; omega
 exact bu_td _ _ (up_pairs g hje f j (JI t s) hlt h1 (JgL g hj))
end
def KF (t:Tr) (o:List Int) (of:List Int) (s:Nat):List Int:=
 (Ka t).filter fun x=>(Gh t.nodes.length).any fun i=>(nd t i).k == 3 && (decide (0≤of.getD i (-1)) && ((nd t (of.getD i (-1)).toNat).k == 42 && (Ja0 o i s && (J3 t (of.getD i (-1)).toNat == x && (J3 t x.toNat == J3 t s && !buL t (upL t (JI t s) t.nodes.length i) false)))))
def XQ (t:Tr) (o:List Int) (of:List Int) (s:Nat):List Int:=
 (Ka t).filter fun x=>(Gh t.nodes.length).any fun i=>(nd t i).k == 3 && (decide (0≤of.getD i (-1)) && (Ja0 o i (JI t s) && ((nd t (of.getD i (-1)).toNat).k == 42 && (J3 t (of.getD i (-1)).toNat == x && (J3 t x.toNat == J3 t s && !tdL t (upL t (JI t s) t.nodes.length i).reverse false)))))
theorem need_eq {t:Tr}{o:List Int}(g:GoodT t o) {of:List Int}{s:Nat}(hs:s < t.nodes.length) (hk:(nd t s).k=41):KF t o of s=XQ t o of s:=by
 unfold KF XQ
 refine List.filter_congr fun x _=>?_
 rw[Gi]
 simp only[Gy,Gj,Gc,beq_iff_eq,decide_eq_true_eq,GG,K9]
 constructor
 ·rintro ⟨i,hi,h1,h2,h3,h4,h5,h6,h7⟩
  have he:1≤(nd t i).k∧(nd t i).k≤29:=by omega
  exact ⟨i,hi,h1,h2,(Jc2 g hs hk he).1 h4,h3,h5,h6,by rw[← late_eq g hs hk he h4]; exact h7⟩
 ·rintro ⟨i,hi,h1,h2,h4,h3,h5,h6,h7⟩
  have he:1≤(nd t i).k∧(nd t i).k≤29:=by omega
  have hb:=(Jc2 g hs hk he).2 h4
  exact ⟨i,hi,h1,h2,h3,hb,h5,h6,by rw[late_eq g hs hk he hb]; exact h7⟩
end
end Go.Cm
end
end
