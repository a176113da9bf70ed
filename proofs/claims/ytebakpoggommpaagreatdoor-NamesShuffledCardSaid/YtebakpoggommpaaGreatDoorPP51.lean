/-
  A part of the proof. Conditions: none.
-/
import Derived.Test.YtebakpoggommpaaGreatDoorPP50
set_option linter.unusedSimpArgs false
set_option linter.unusedVariables false
open Nat renaming strongRecOn→Gr,zero_add→Gy,sub_self→Gz,lt_or_ge→GN
open List renaming getD_eq_getElem?_getD→Gb,getElem?_eq_getElem→Gc,getElem?_eq_some_iff→Gi,getElem_of_mem→Gg,getElem?_append_right→Gl,mem_filter→Gh,map_cons→Gf,mem_of_getElem?→Gm,mem_of_find?_eq_some→Gs,getElem?_append_left→Gt,length_map→Gj,length_append→Gn,getElem_mem→Gp,map_congr_left→Gu,mem_range→Gq,append_assoc→Gv,getElem?_cons_zero→GA,length_singleton→GD,find?_some→Gw,contains_iff_mem→GG,length_set→GH,length_nil→GI,mem_map→GJ,getElem?_take→GQ,find?_eq_none→GR,getElem?_set→GU,length_take→GV,getElem_map→GX,any_eq_true→GY,nil_append→GZ,foldl_cons→G5
open Option.some renaming inj→GK,injEq→G6
open Bool renaming and_eq_true→Gd,not_eq_true→Gx,not_eq_true'→GL
open Int renaming toNat_natCast→Ga
open Classical renaming choose_spec→GM
noncomputable section
section
set_option maxRecDepth 100000
set_option maxHeartbeats 4000000
open Go.Proofs
namespace Go.Cm
section
structure TMap (u t:Tr) (ψ:Nat→Nat):Prop where
 rng:∀ j,j < u.nodes.length→ψ j < t.nodes.length
 inj:∀ i j,i < u.nodes.length→j < u.nodes.length→ψ i=ψ j→i=j
 k:∀ j,j < u.nodes.length→(nd t (ψ j)).k=(nd u j).k
 txe:∀ i j,i < u.nodes.length→j < u.nodes.length→(nd u i).text=(nd u j).text→(nd t (ψ i)).text=(nd t (ψ j)).text
 len:∀ j,j < u.nodes.length→(nd t (ψ j)).kids.length=(nd u j).kids.length
 kid:∀ j,j < u.nodes.length→∀ c:Nat,(c:Int)∈(nd u j).kids→(ψ c:Int)∈(nd t (ψ j)).kids
 back:∀ j,j < u.nodes.length→∀ c:Nat,(c:Int)∈(nd t (ψ j)).kids→∃ d:Nat,(d:Int)∈(nd u j).kids∧ψ d=c
 pos:∀ j,j < u.nodes.length→(nd u j).k≠40→(nd u j).k≠28→∀ i,i < (nd u j).kids.length→ψ (JbA u j i)=JbA t (ψ j) i
section
variable {u t:Tr}{p o:List Int}{ψ:Nat→Nat}(gu:GoodT u p) (g:GoodT t o) (h:TMap u t ψ)
include gu g h
theorem tm_par {j m:Nat}(hj:j < u.nodes.length) (hp:KG u j=m):KG t (ψ j)=(ψ m:Nat)∧m < u.nodes.length∧j < m∧(j:Int)∈(nd u m).kids:=by
 rcases Qp gu hj with ⟨h1,_⟩ | ⟨m',h1,h2,h3,h4⟩
 ·omega
 ·obtain rfl:m=m':=by omega
  exact ⟨(JJ g (h.rng m h3) (h.kid m h3 j h4)).1,h3,h2,h4⟩
theorem tm_root {j:Nat}(hj:j < u.nodes.length) (hp:KG u j = -1):(nd u j).k=65∧KG t (ψ j) = -1:=by
 have hk:(nd u j).k=65:=by
  refine Classical.byContradiction fun hk=>?_
  obtain ⟨m,h1,_⟩:=Q8 gu hj hk
  omega
 exact ⟨hk,(JbF g (h.rng j hj) (by rw[h.k j hj]; exact hk)).1⟩
theorem tm_up {j:Nat}(hj:j < u.nodes.length):(KG u j = -1∧KG t (ψ j) = -1)∨∃ m:Nat,KG u j=m∧KG t (ψ j)=(ψ m:Nat)∧m < u.nodes.length∧j < m∧(j:Int)∈(nd u m).kids:=by
 rcases Qp gu hj with ⟨h1,_⟩ | ⟨m,h1,h2,h3,h4⟩
 ·exact .inl ⟨h1,(tm_root gu g h hj h1).2⟩
 ·exact .inr ⟨m,h1,tm_par gu g h hj h1⟩
theorem tm_blw {j a:Nat}(ha:a < u.nodes.length) (hb:blw p j a):blw o (ψ j) (ψ a):=by
 obtain ⟨n,hn⟩:∃ n,a-j=n:=⟨_,rfl⟩
 induction n using Gr generalizing j with
 |ind n ih=>
  by_cases he:j=a
  ·subst he; exact QH g (h.rng j ha)
  ·obtain ⟨m,h1,h2,h3,h4,h5⟩:=XP gu ha hb he
   have h6:=ih (a-m) (by omega) h4 rfl
   exact Kr g (h.rng a ha) (KC g (h.rng m (by omega)) (h.kid m (by omega) j h5)) h6
theorem tm_above {j A:Nat}(hj:j < u.nodes.length) (hA:A < t.nodes.length) (hb:blw o (ψ j) A):∃ a,a < u.nodes.length∧ψ a=A∧blw p j a:=by
 obtain ⟨n,hn⟩:∃ n,u.nodes.length-j=n:=⟨_,rfl⟩
 induction n using Gr generalizing j with
 |ind n ih=>
  by_cases he:ψ j=A
  ·exact ⟨j,hj,he,QH gu hj⟩
  ·obtain ⟨M,h1,h2,h3,h4,h5⟩:=XP g hA hb he
   rcases tm_up gu g h hj with ⟨_,h6⟩ | ⟨m,h6,h7,h8,h9,h10⟩
   ·omega
   ·obtain rfl:M=ψ m:=by omega
    obtain ⟨a,q1,q2,q3⟩:=ih (u.nodes.length-m) (by omega) h8 h4 rfl
    exact ⟨a,q1,q2,Kr gu q1 (KC gu h8 h10) q3⟩
theorem Jaz {j a:Nat}(hj:j < u.nodes.length) (ha:a < u.nodes.length):blw o (ψ j) (ψ a)↔blw p j a:=by
 refine ⟨fun hb=>?_,tm_blw gu g h ha⟩
 obtain ⟨b,h1,h2,h3⟩:=tm_above gu g h hj (h.rng a ha) hb
 rw[h.inj _ _ h1 ha h2]at h3
 exact h3
theorem tm_below {a I:Nat}(ha:a < u.nodes.length) (hb:blw o I (ψ a)):∃ i,i < u.nodes.length∧ψ i=I:=by
 induction a using Gr with
 |ind a ih=>
  rcases Jar g (h.rng a ha) hb with rfl | ⟨C,hC,hb2⟩
  ·exact ⟨a,ha,rfl⟩
  ·obtain ⟨c,h1,rfl⟩:=h.back a ha C hC
   have:=(JJ gu ha h1).2
   exact ih c this (by omega) hb2
theorem tm_declB {v a D:Nat}(hv:v < u.nodes.length) (ha:(a:Int)∈(nd u v).kids) (hd:(D:Int)∈JaV t (ψ v) (ψ a)):∃ d,d < u.nodes.length∧ψ d=D∧(d:Int)∈JaV u v a:=by
 have hav:=(JJ gu hv ha).2
 rw[KV g (h.rng v hv),h.k v hv,h.k a (by omega)]at hd
 have bind:(∃ s:Nat,(s:Int)∈(nd t (ψ v)).kids∧(nd t s).k=41∧(D:Int)∈(nd t s).kids∧(nd t D).k=42)→∃ d,d < u.nodes.length∧ψ d=D∧∃ s:Nat,(s:Int)∈(nd u v).kids∧(nd u s).k=41∧(d:Int)∈(nd u s).kids∧(nd u d).k=42:=by
  rintro ⟨S,h1,h2,h3,h4⟩
  obtain ⟨s,h5,rfl⟩:=h.back v hv S h1
  have hs:=(JJ gu hv h5).2
  obtain ⟨d,h6,rfl⟩:=h.back s (by omega) D h3
  have hds:=(JJ gu (show s < u.nodes.length by omega) h6).2
  rw[h.k s (by omega)]at h2
  rw[h.k d (by omega)]at h4
  exact ⟨d,by omega,rfl,s,h5,h2,h6,h4⟩
 rcases hd with ⟨h1,h2⟩ | ⟨h1,h2,h3⟩ | ⟨h1,h2,h3⟩ | ⟨h1,h2,h3⟩
 ·obtain ⟨d,q1,q2,q3⟩:=bind h2
  exact ⟨d,q1,q2,(KV gu hv).2 (.inl ⟨h1,q3⟩)⟩
 ·obtain ⟨d,h5,rfl⟩:=h.back v hv D h2
  have:=(JJ gu hv h5).2
  rw[h.k d (by omega)]at h3
  exact ⟨d,by omega,rfl,(KV gu hv).2 (.inr (.inl ⟨h1,h5,h3⟩))⟩
 ·have h4:=(Y3 gu hv h1).1
  change (nd u v).kids.length=3 at h4
  have h5:=h.pos v hv (by omega) (by omega) 2 (by omega)
  have h6:=Kq gu hv (i:=2) (by omega)
  have h7:ψ a=JbA t (ψ v) 2:=by unfold JbA; omega
  have h8:=h.inj _ _ (by omega) (by omega) (h7.trans h5.symm)
  have hm:(nd u v).kids.getD 2 0∈(nd u v).kids:=by
   rw[Gb,Gc (show 2 < (nd u v).kids.length by omega)]; exact Gp _
  have h9:=(gu.kid hv hm).1
  unfold JbA at h8
  exact ⟨v,hv,h3.symm,(KV gu hv).2 (.inr (.inr (.inl ⟨h1,by omega,rfl⟩)))⟩
 ·rcases h3 with ⟨h3,h4⟩ | ⟨h3,h4⟩
  ·obtain ⟨d,h5,rfl⟩:=h.back v hv D h3
   have:=(JJ gu hv h5).2
   rw[h.k d (by omega)]at h4
   exact ⟨d,by omega,rfl,(KV gu hv).2 (.inr (.inr (.inr ⟨h1,h2,.inl ⟨h5,h4⟩⟩)))⟩
  ·obtain ⟨d,q1,q2,q3⟩:=bind h4
   exact ⟨d,q1,q2,(KV gu hv).2 (.inr (.inr (.inr ⟨h1,h2,.inr ⟨h3,q3⟩⟩)))⟩
theorem tm_inSB {D j:Nat}(hj:j < u.nodes.length) (hs:inS t o (D:Int) (ψ j)):∃ d,d < u.nodes.length∧ψ d=D∧inS u p (d:Int) j:=by
 obtain ⟨V,A,hV,hA,hb,hd⟩:=hs
 have hAV:=(JJ g hV hA).2
 obtain ⟨a,a1,rfl,a3⟩:=tm_above gu g h hj (by omega) hb
 rcases tm_up gu g h a1 with ⟨_,h6⟩ | ⟨v,h6,h7,h8,h9,h10⟩
 ·have:=(JJ g hV hA).1; omega
 ·have:=(JJ g hV hA).1
  obtain rfl:V=ψ v:=by omega
  obtain ⟨d,q1,q2,q3⟩:=tm_declB gu g h h8 h10 hd
  exact ⟨d,q1,q2,v,a,h8,h10,a3,q3⟩
omit gu h in
theorem mem_sight {d j:Nat}(hj:j < t.nodes.length):(d:Int)∈K7 t j↔d < t.nodes.length∧inS t o (d:Int) j:=by
 unfold K7
 rw[Gh,JY,GG,JdO g _ _ _ hj (by omega)]
 constructor
 ·rintro ⟨h1,h2⟩; exact ⟨by omega,h2⟩
 ·rintro ⟨h1,h2⟩; exact ⟨⟨by omega,by omega⟩,h2⟩
theorem tm_sightB {D:Int}{j:Nat}(hj:j < u.nodes.length) (hD:D∈K7 t (ψ j)):∃ d:Nat,d < u.nodes.length∧(ψ d:Int)=D∧(d:Int)∈K7 u j:=by
 have h0:=JY.1 (Gh.1 hD).1
 obtain ⟨D,rfl⟩:∃ D':Nat,D=D':=⟨D.toNat,by omega⟩
 rw[mem_sight g (h.rng j hj)]at hD
 obtain ⟨d,h3,h4,h5⟩:=tm_inSB gu g h hj hD.2
 exact ⟨d,h3,by omega,(mem_sight gu hj).2 ⟨h3,h5⟩⟩
theorem tm_item {i k:Nat}(hi:i < u.nodes.length) (hk:k < u.nodes.length):Qi t (ψ i)=Qi t (ψ k)↔Qi u i=Qi u k:=by
 obtain ⟨a,A,a1,a2,a3,a4,_⟩:=Jb4 gu hi
 obtain ⟨b,B,b1,b2,b3,b4,_⟩:=Jb4 gu hk
 have hA:=gu.itr (Gm a2)
 have hB:=gu.itr (Gm b2)
 have hbA:blw p i A:=JP.1 (by rw[Jdq gu hi a2,a3]; simp)
 have hbB:blw p k B:=JP.1 (by rw[Jdq gu hk b2,b3]; simp)
 have h1:=XG g (h.rng A (by omega)) (tm_blw gu g h (by omega) hbA)
 have h2:=XG g (h.rng B (by omega)) (tm_blw gu g h (by omega) hbB)
 have kA:(nd u A).k=65:=gu.defs _ (Gm a2)
 have kB:(nd u B).k=65:=gu.defs _ (Gm b2)
 constructor
 ·intro he
  rw[h1,h2]at he
  obtain ⟨x,hx,hxe⟩:=Gg (JbF g (h.rng A (by omega)) (by rw[h.k A (by omega)]; exact kA)).2
  obtain ⟨y,hy,hye⟩:=Gg (JbF g (h.rng B (by omega)) (by rw[h.k B (by omega)]; exact kB)).2
  have hx2:t.items[x]? = some ((ψ A:Nat):Int):=by rw[Gc hx,hxe]
  have hy2:t.items[y]? = some ((ψ B:Nat):Int):=by rw[Gc hy,hye]
  rw[Jb3 g hx2,Jb3 g hy2]at he
  subst he
  rw[hx2]at hy2
  have hAB:=h.inj A B (by omega) (by omega) (by have:=GK hy2; omega)
  subst hAB
  rw[a3,b3]
  have hn:u.items.Nodup:=Xk gu.ord.ok gu.olen _ _ _ gu.its
  exact (List.getElem?_inj a1 hn).1 (a2.trans b2.symm)
 ·intro he
  rw[a3,b3]at he
  subst he
  rw[a2]at b2
  obtain rfl:A=B:=by have:=GK b2; omega
  rw[h1,h2]
end
end
section
def twP (t:Tr) (i k:Nat):Prop:=(nd t k).text=(nd t i).text∧(((nd t i).k=44∧(nd t k).k=44∧KG t k=KG t i)∨((nd t i).k=65∧(nd t k).k=65)∨(((nd t i).k≠65∧QN (nd t i).k=true)∧((nd t k).k≠65∧QN (nd t k).k=true)∧Qi t k=Qi t i))
theorem twP_symm {t:Tr}{i k:Nat}(h:twP t i k):twP t k i:=by
 obtain ⟨h1,h2⟩:=h
 refine ⟨h1.symm,?_⟩
 rcases h2 with ⟨a,b,c⟩ | ⟨a,b⟩ | ⟨a,b,c⟩
 ·exact .inl ⟨b,a,c.symm⟩
 ·exact .inr (.inl ⟨b,a⟩)
 ·exact .inr (.inr ⟨b,a,c.symm⟩)
theorem twN_iff {t:Tr}{i:Nat}:twN t i=true↔∃ k,k < i∧twP t i k:=by
 have e44:QN 44=false:=by decide
 have e65:QN 65=true:=by decide
 unfold twN twP
 by_cases hc:(nd t i).k≠44∧QN (nd t i).k=false
 ·rw[if_pos hc]
  refine ⟨fun h=>(by cases h),?_⟩
  rintro ⟨k,_,_,h⟩
  rcases h with ⟨a,_⟩ | ⟨a,_⟩ | ⟨⟨_,a⟩,_⟩
  ·exact absurd a hc.1
  ·rw[a,e65]at hc; exact absurd hc.2 (by simp)
  ·rw[a]at hc; exact absurd hc.2 (by simp)
 rw[if_neg hc,GY]
 simp only[Gq,Gd,beq_iff_eq]
 constructor
 ·rintro ⟨k,h1,h2,h3⟩
  refine ⟨k,h1,h2,?_⟩
  by_cases h4:(nd t i).k=44
  ·rw[if_pos h4]at h3
   simp only[Gd,beq_iff_eq]at h3
   exact .inl ⟨h4,h3⟩
  rw[if_neg h4]at h3
  by_cases h5:(nd t i).k=65
  ·rw[if_pos h5]at h3
   exact .inr (.inl ⟨h5,by simpa using h3⟩)
  rw[if_neg h5]at h3
  simp only[Gd,beq_iff_eq,GL,beq_eq_false_iff_ne]at h3
  have hd:QN (nd t i).k=true:=by
   cases hd:QN (nd t i).k with
   |true=>rfl
   |false=>exact absurd ⟨h4,hd⟩ hc
  exact .inr (.inr ⟨⟨h5,hd⟩,⟨h3.1,h3.2.1⟩,h3.2.2⟩)
 ·rintro ⟨k,h1,h2,h3⟩
  refine ⟨k,h1,h2,?_⟩
  rcases h3 with ⟨a,b,c⟩ | ⟨a,b⟩ | ⟨⟨a,a2⟩,⟨b,b2⟩,c⟩
  ·rw[if_pos a,b,c]; simp
  ·rw[if_neg (by omega),if_pos a,b]; rfl
  ·have h4:(nd t i).k≠44:=by intro h4; rw[h4,e44]at a2; exact absurd a2 (by simp)
   rw[if_neg h4,if_neg a,b2,c,beq_false_of_ne b]; simp
theorem no_tw {t:Tr}(h:∀ i,i < t.nodes.length→twN t i=false) {i k:Nat}(hi:i < t.nodes.length) (hk:k < t.nodes.length) (hp:twP t i k):i=k:=by
 rcases Nat.lt_trichotomy i k with h1 | h1 | h1
 ·have:=twN_iff.2 ⟨i,h1,twP_symm hp⟩
  rw[h k hk]at this; cases this
 ·exact h1
 ·have:=twN_iff.2 ⟨k,h1,hp⟩
  rw[h i hi]at this; cases this
section
variable {u t:Tr}{p o:List Int}{ψ:Nat→Nat}(gu:GoodT u p) (g:GoodT t o) (h:TMap u t ψ)
include gu g h
theorem tm_twP {i k:Nat}(hi:i < u.nodes.length) (hk:k < u.nodes.length) (hp:twP u i k):twP t (ψ i) (ψ k):=by
 obtain ⟨h1,h2⟩:=hp
 unfold twP
 rw[h.k i hi,h.k k hk]
 refine ⟨h.txe k i hk hi h1,?_⟩
 rcases h2 with ⟨a,b,c⟩ | ⟨a,b⟩ | ⟨a,b,c⟩
 ·refine .inl ⟨a,b,?_⟩
  rcases tm_up gu g h hi with ⟨q1,q2⟩ | ⟨m,q1,q2,_⟩ <;> rcases tm_up gu g h hk with ⟨r1,r2⟩ | ⟨n,r1,r2,_⟩
  ·rw[q2,r2]
  ·omega
  ·omega
  ·obtain rfl:m=n:=by omega
   rw[q2,r2]
 ·exact .inr (.inl ⟨a,b⟩)
 ·exact .inr (.inr ⟨a,b,(tm_item gu g h hk hi).2 c⟩)
theorem tm_tw (hn:∀ i,i < t.nodes.length→twN t i=false) {i:Nat}(hi:i < u.nodes.length):twN u i=false:=by
 rw[Bool.eq_false_iff]
 intro hx
 obtain ⟨k,h1,h2⟩:=twN_iff.1 hx
 have:=h.inj _ _ hi (by omega) (no_tw hn (h.rng i hi) (h.rng k (by omega)) (tm_twP gu g h hi (by omega) h2))
 omega
end
theorem JcM {t:Tr}(hn:∀ i,i < t.nodes.length→twN t i=false) {x y:Nat}(hx:x < t.nodes.length) (hy:y < t.nodes.length) (ht:(nd t x).text=(nd t y).text) (hk:((nd t x).k=65∧(nd t y).k=65)∨(((nd t x).k≠65∧QN (nd t x).k=true)∧((nd t y).k≠65∧QN (nd t y).k=true)∧Qi t y=Qi t x)):x=y:=
 no_tw hn hx hy ⟨ht.symm,.inr hk⟩
theorem JaL {l:List Int}{q:Int→Bool}{d:Int}(hd:d∈l) (hq:q d=true) (ho:∀ x∈l,q x=true→x=d):(match l.find? q with | some x=>x | none=>-1)=d:=by
 cases hf:l.find? q with
 |none=>exact absurd hq (by simpa using GR.1 hf d hd)
 |some x=>exact ho x (Gs hf) (Gw hf)
structure Clear (t:Tr) (o:List Int):Prop where
 tw:∀ i,i < t.nodes.length→twN t i=false
 mean:∀ i,i < t.nodes.length→Kh t i=true→J6 t o i≠-1
theorem JbH {t:Tr}{o:List Int}(hE:(Q0 t o).2=0):Clear t o:=⟨fun _ hi=>(Jfh hE hi).1,fun _ hi=>(Jfh hE hi).2⟩
section
variable {t:Tr}{o:List Int}(g:GoodT t o) (c:Clear t o)
include g c
theorem sight_one {x y j:Nat}(hj:j < t.nodes.length) (hje:1≤(nd t j).k∧(nd t j).k≤29) (hx:(x:Int)∈K7 t j) (hy:(y:Int)∈K7 t j) (ht:(nd t x).text=(nd t y).text):x=y:=by
 have h1:=Jbo g hj hje c.tw hx hy ht
 have h2:=Jbo g hj hje c.tw hy hx ht.symm
 omega
theorem Jdh {j:Nat}(hj:j < t.nodes.length) (hk:(nd t j).k=3) {d:Nat}:J6 t o j=d↔(d:Int)∈K7 t j∧(nd t d).text=(nd t j).text:=by
 have hm:J6 t o j=Ya t (K7 t j) (nd t j).text:=by
  unfold J6; rw[if_pos hk,YH g hj (by omega)]
 rw[hm]
 unfold Ya
 constructor
 ·intro h
  generalize hf:(K7 t j).find? _=r at h
  cases r with
  |none=>simp only at h; omega
  |some x=>
   simp only at h
   subst h
   have h3:=Gw hf
   rw[Ga]at h3
   exact ⟨Gs hf,by simpa using h3⟩
 ·rintro ⟨h1,h2⟩
  refine JaL h1 (by rw[Ga]; simpa using h2) fun x hx hq=>?_
  have h3:=JY.1 (Gh.1 hx).1
  obtain ⟨x,rfl⟩:∃ x':Nat,x=x':=⟨x.toNat,by omega⟩
  rw[Ga]at hq
  rw[sight_one g c hj (by omega) hx h1 ((by simpa using hq:(nd t x).text=_).trans h2.symm)]
omit g in
theorem Jdi {j:Nat}(hj:j < t.nodes.length) (hk:(nd t j).k=26) {d:Nat}:J6 t o j=d↔d < t.nodes.length∧(nd t d).text=(nd t j).text∧(nd t d).k=65:=by
 have hm:J6 t o j=Jco t j:=by unfold J6; rw[if_neg (by omega),if_pos hk]
 rw[hm]
 unfold Jco
 constructor
 ·intro h
  generalize hf:(QC t).find? _=r at h
  cases r with
  |none=>simp only at h; omega
  |some x=>
   simp only at h
   subst h
   have h3:=Gw hf
   simp only[Gd,beq_iff_eq,Ga]at h3
   exact ⟨by have:=JY.1 (Gs hf); omega,h3.1,h3.2.2⟩
 ·rintro ⟨h1,h2,h3⟩
  refine JaL (JY.2 ⟨by omega,by omega⟩) (by rw[Ga,h2,h3]; simp[QN]) fun x hx hq=>?_
  have h4:=JY.1 hx
  obtain ⟨x,rfl⟩:∃ x':Nat,x=x':=⟨x.toNat,by omega⟩
  simp only[Gd,beq_iff_eq,Ga]at hq
  rw[JcM c.tw (x:=x) (y:=d) (by omega) h1 (hq.1.trans h2.symm) (.inl ⟨hq.2.2,h3⟩)]
theorem Jdg {j:Nat}(hj:j < t.nodes.length) (hk:(nd t j).k=44) {d:Nat}:J6 t o j=d↔d < t.nodes.length∧(nd t d).text=(nd t j).text∧(nd t d).k=43∧KG t d=KG t j:=by
 have hm:J6 t o j=Jcn t j:=by unfold J6; rw[if_neg (by omega),if_neg (by omega),if_pos hk]
 rw[hm]
 unfold Jcn
 constructor
 ·intro h
  generalize hf:(QC t).find? _=r at h
  cases r with
  |none=>simp only at h; omega
  |some x=>
   simp only at h
   subst h
   have h3:=Gw hf
   simp only[Gd,beq_iff_eq,Ga]at h3
   exact ⟨by have:=JY.1 (Gs hf); omega,h3.1,h3.2.2.1,h3.2.2.2⟩
 ·rintro ⟨h1,h2,h3,h4⟩
  refine JaL (JY.2 ⟨by omega,by omega⟩) (by rw[Ga,h2,h3,h4]; simp[QN]) fun x hx hq=>?_
  have h5:=JY.1 hx
  obtain ⟨x,rfl⟩:∃ x':Nat,x=x':=⟨x.toNat,by omega⟩
  simp only[Gd,beq_iff_eq,Ga]at hq
  obtain ⟨v,v1,v2,v3,v4⟩:=Q8 g h1 (by omega)
  have hxl:x < t.nodes.length:=by omega
  obtain ⟨w,w1,w2,w3,w4⟩:=Q8 g hxl (by omega)
  obtain rfl:v=w:=by have:=hq.2.2.2; omega
  have i1:=XG g v2 (KC g v2 v4)
  have i2:=XG g v2 (KC g v2 w4)
  rw[JcM c.tw (x:=x) (y:=d) hxl h1 (hq.1.trans h2.symm) (.inr ⟨⟨by omega,hq.2.1⟩,⟨by omega,by rw[h3]; decide⟩,by rw[i1,i2]⟩)]
end
section
variable {u t:Tr}{p o:List Int}{ψ:Nat→Nat}(gu:GoodT u p) (g:GoodT t o) (h:TMap u t ψ)
include gu g h
theorem tm_mean (c:Clear t o) (hc:∀ j,j < u.nodes.length→(nd u j).k=26→∀ L:Nat,J6 t o (ψ j)=L→∃ M,M < u.nodes.length∧ψ M=L) (cu:∀ i,i < u.nodes.length→twN u i=false) (hT:∀ j d,j < u.nodes.length→d < u.nodes.length→Kh u j=true→J6 t o (ψ j)=(ψ d:Nat)→(nd u d).text=(nd u j).text) {j:Nat}(hj:j < u.nodes.length) (hs:Kh u j=true):∃ d:Nat,d < u.nodes.length∧J6 u p j=d∧J6 t o (ψ j)=(ψ d:Nat):=by
 have hst:Kh t (ψ j)=true:=by unfold Kh at hs ⊢; rw[h.k j hj]; exact hs
 have hne:=c.mean (ψ j) (h.rng j hj) hst
 have hr:=Jfx (t:=t) (o:=o) (i:=ψ j)
 obtain ⟨D,hD⟩:∃ D:Nat,J6 t o (ψ j)=D:=⟨(J6 t o (ψ j)).toNat,by omega⟩
 have c0:∀ {x y i:Nat},i < u.nodes.length→(1≤(nd u i).k∧(nd u i).k≤29)→(x:Int)∈K7 u i→(y:Int)∈K7 u i→(nd u x).text=(nd u y).text→x=y:=fun {x y i} hi hie hx hy ht=>by
  have h1:=Jbo gu hi hie cu hx hy ht
  have h2:=Jbo gu hi hie cu hy hx ht.symm
  omega
 have hk:(nd u j).k=3∨(nd u j).k=26∨(nd u j).k=44:=by unfold Kh at hs; simpa [or_assoc]using hs
 rcases hk with hk | hk | hk
 ·obtain ⟨h1,h2⟩:=(Jdh g c (h.rng j hj) (by rw[h.k j hj]; exact hk)).1 hD
  obtain ⟨d,q1,q2,q3⟩:=tm_sightB gu g h hj h1
  obtain rfl:D=ψ d:=by omega
  replace h2:=hT j d hj q1 hs hD
  refine ⟨d,q1,?_,hD⟩
  have hm:J6 u p j=Ya u (K7 u j) (nd u j).text:=by
   unfold J6; rw[if_pos hk,YH gu hj (by omega)]
  rw[hm]
  unfold Ya
  refine JaL q3 (by rw[Ga]; simpa using h2) fun x hx hq=>?_
  have h3:=JY.1 (Gh.1 hx).1
  obtain ⟨x,rfl⟩:∃ x':Nat,x=x':=⟨x.toNat,by omega⟩
  rw[Ga]at hq
  rw[c0 hj (by omega) hx q3 ((by simpa using hq:(nd u x).text=_).trans h2.symm)]
 ·obtain ⟨h1,h2,h3⟩:=(Jdi c (h.rng j hj) (by rw[h.k j hj]; exact hk)).1 hD
  obtain ⟨d,q1,rfl⟩:=hc j hj hk D hD
  replace h2:=hT j d hj q1 hs hD
  rw[h.k d q1]at h3
  refine ⟨d,q1,?_,hD⟩
  have hm:J6 u p j=Jco u j:=by unfold J6; rw[if_neg (by omega),if_pos hk]
  rw[hm]
  unfold Jco
  refine JaL (JY.2 ⟨by omega,by omega⟩) (by rw[Ga,h2,h3]; simp[QN]) fun x hx hq=>?_
  have h4:=JY.1 hx
  obtain ⟨x,rfl⟩:∃ x':Nat,x=x':=⟨x.toNat,by omega⟩
  simp only[Gd,beq_iff_eq,Ga]at hq
  rw[JcM cu (x:=x) (y:=d) (by omega) q1 (hq.1.trans h2.symm) (.inl ⟨hq.2.2,h3⟩)]
 ·obtain ⟨h1,h2,h3,h4⟩:=(Jdg g c (h.rng j hj) (by rw[h.k j hj]; exact hk)).1 hD
  obtain ⟨v,v1,v2,v3,v4⟩:=Q8 gu hj (by omega)
  have hpj:=(tm_par gu g h hj v1).1
  obtain ⟨V,w1,w2,w3,w4⟩:=Q8 g h1 (by omega)
  obtain rfl:V=ψ v:=by omega
  obtain ⟨d,q1,rfl⟩:=h.back v v2 D w4
  have hd:=JJ gu v2 q1
  replace h2:=hT j d hj (by omega) hs hD
  rw[h.k d (by omega)]at h3
  refine ⟨d,by omega,?_,hD⟩
  have hm:J6 u p j=Jcn u j:=by unfold J6; rw[if_neg (by omega),if_neg (by omega),if_pos hk]
  rw[hm]
  unfold Jcn
  refine JaL (JY.2 ⟨by omega,by omega⟩) (by rw[Ga,h2,h3,hd.1,v1]; simp[QN]) fun x hx hq=>?_
  have h5:=JY.1 hx
  obtain ⟨x,rfl⟩:∃ x':Nat,x=x':=⟨x.toNat,by omega⟩
  simp only[Gd,beq_iff_eq,Ga]at hq
  have hxl:x < u.nodes.length:=by omega
  obtain ⟨w,z1,z2,z3,z4⟩:=Q8 gu hxl (by omega)
  obtain rfl:v=w:=by have:=hq.2.2.2; omega
  have i1:=XG gu v2 (KC gu v2 q1)
  have i2:=XG gu v2 (KC gu v2 z4)
  rw[JcM cu (x:=x) (y:=d) hxl (by omega) (hq.1.trans h2.symm) (.inr ⟨⟨by omega,hq.2.1⟩,⟨by omega,by rw[h3]; decide⟩,by rw[i1,i2]⟩)]
theorem tm_clear (c:Clear t o) (hc:∀ j,j < u.nodes.length→(nd u j).k=26→∀ L:Nat,J6 t o (ψ j)=L→∃ M,M < u.nodes.length∧ψ M=L) (hT:∀ j d,j < u.nodes.length→d < u.nodes.length→Kh u j=true→J6 t o (ψ j)=(ψ d:Nat)→(nd u d).text=(nd u j).text):Clear u p:=by
 have cu:∀ i,i < u.nodes.length→twN u i=false:=fun i hi=>tm_tw gu g h c.tw hi
 refine ⟨cu,fun i hi hs=>?_⟩
 obtain ⟨d,_,h2,_⟩:=tm_mean gu g h c hc cu hT hi hs
 omega
def OfMap (u t:Tr) (p o:List Int) (ψ:Nat→Nat):Prop:=∀ j,j < u.nodes.length→(J6 u p j = -1∧J6 t o (ψ j) = -1)∨∃ d:Nat,d < u.nodes.length∧J6 u p j=d∧J6 t o (ψ j)=(ψ d:Nat)
theorem tm_of (c:Clear t o) (hc:∀ j,j < u.nodes.length→(nd u j).k=26→∀ L:Nat,J6 t o (ψ j)=L→∃ M,M < u.nodes.length∧ψ M=L) (hT:∀ j d,j < u.nodes.length→d < u.nodes.length→Kh u j=true→J6 t o (ψ j)=(ψ d:Nat)→(nd u d).text=(nd u j).text):OfMap u t p o ψ:=fun j hj=>by
 have cu:∀ i,i < u.nodes.length→twN u i=false:=fun i hi=>tm_tw gu g h c.tw hi
 cases hs:Kh u j with
 |true=>exact .inr (tm_mean gu g h c hc cu hT hj hs)
 |false=>
  have hs2:Kh t (ψ j)=false:=by unfold Kh at hs ⊢; rw[h.k j hj]; exact hs
  have hno:∀ (s:Tr) (q:List Int) (i:Nat),Kh s i=false→J6 s q i = -1:=fun s q i hi=>by
   unfold Kh at hi
   simp only[Bool.or_eq_false_iff,beq_eq_false_iff_ne]at hi
   unfold J6
   rw[if_neg hi.1.1,if_neg hi.1.2,if_neg hi.2]
  exact .inl ⟨hno _ _ _ hs,hno _ _ _ hs2⟩
theorem tm_upL {top:Nat}(htop:top < u.nodes.length):∀ (f f' j:Nat),blw p j top→u.nodes.length≤j+f→t.nodes.length≤ψ j+f'→(upL u top f j).map ψ=upL t (ψ top) f' (ψ j)
 |0,_,j,hb,hf,_=>by have:=hb.1; omega
 |f+1,0,j,hb,_,hf'=>by have:=h.rng j (by have:=hb.1; omega); omega
 |f+1,f' + 1,j,hb,hf,hf'=>by
  have hj:j < u.nodes.length:=by have:=hb.1; omega
  unfold upL
  by_cases he:j=top
  ·rw[if_pos he,if_pos (by rw[he])]; rfl
  ·obtain ⟨m,h1,h2,h3,h4,h5⟩:=XP gu htop hb he
   obtain ⟨h6,h7,_,_⟩:=tm_par gu g h hj h1
   have h8:=(JJ g (h.rng m h7) (h.kid m h7 j h5)).2
   rw[if_neg he,if_neg (fun hx=>he (h.inj _ _ hj htop hx)),h1,h6,Ga,Ga,Gf,tm_upL htop f f' m h4 (by omega) (by omega)]
omit g in
theorem tm_bu:∀ (l:List Nat) (late:Bool),pairsOk u (fun v c=>(c:Int)∈(nd u v).kids∧v < u.nodes.length) l→buL t (l.map ψ) late=buL u l late
 |[],_,_=>rfl
 |[_],_,_=>rfl
 |c::v::l,late,hp=>by
  obtain ⟨⟨hc,hv⟩,hp2⟩:=hp
  have hcv:=(JJ gu hv hc).2
  have hs:Ja3 t (ψ v) (ψ c) late=Ja3 u v c late:=by
   unfold Ja3
   rw[h.k v hv,h.k c (by omega)]
   by_cases e:(nd u v).k=46∨(nd u v).k=47
   ·obtain ⟨i,hi,_,_⟩:=Jdo hc
    have hl:=h.pos v hv (by omega) (by omega) ((nd u v).kids.length-1) (by omega)
    have h1:J8 t (ψ v)=ψ (J8 u v):=by
     unfold J8
     rw[h.len v hv]
     exact hl.symm
    have h2:=Kq gu hv (i:=(nd u v).kids.length-1) (by omega)
    have h3:J8 u v < u.nodes.length:=by have:=h2.2.1; unfold JbA at this; unfold J8; omega
    have h4:(ψ c == J8 t (ψ v))=(c == J8 u v):=by
     rw[h1,Bool.eq_iff_iff,beq_iff_eq,beq_iff_eq]
     exact ⟨fun hx=>h.inj _ _ (by omega) h3 hx,fun hx=>by rw[hx]⟩
    rw[if_neg (show ¬ (nd u v).k=4 by omega),if_neg (show ¬ (nd u v).k=4 by omega),if_pos e,if_pos e,h4]
   ·rw[if_neg e,if_neg e]
  have ih:=tm_bu (v::l) (Ja3 u v c late) hp2
  rw[Gf]at ih
  rw[Gf,Gf,buL,buL,hs,ih]
theorem tm_late {s j:Nat}(hs:s < u.nodes.length) (hk:(nd u s).k=41) (hb:blw p j (J8 u s)):buL t (upL t (J8 t (ψ s)) t.nodes.length (ψ j)) false=buL u (upL u (J8 u s) u.nodes.length j) false:=by
 obtain ⟨a,_,hl,_,_⟩:=Jfc gu hs hk
 change (nd u s).kids.length=a+1 at hl
 have h2:=Kq gu hs (i:=(nd u s).kids.length-1) (by omega)
 have h3:J8 u s < u.nodes.length:=by have:=h2.2.1; unfold JbA at this; unfold J8; omega
 have h1:J8 t (ψ s)=ψ (J8 u s):=by
  have hp:=h.pos s hs (by omega) (by omega) ((nd u s).kids.length-1) (by omega)
  unfold J8
  rw[h.len s hs]
  exact hp.symm
 rw[h1,← tm_upL gu g h h3 u.nodes.length t.nodes.length j hb (by omega) (by omega),tm_bu gu h _ _ (up_kids gu _ _ _ h3 hb)]
end
def needP (t:Tr) (o:List Int) (s x:Nat):Prop:=x < t.nodes.length∧∃ i m:Nat,i < t.nodes.length∧(nd t i).k=3∧J6 t o i=m∧(nd t m).k=42∧blw o i s∧KG t m=x∧KG t x=KG t s∧buL t (upL t (J8 t s) t.nodes.length i) false=false
theorem Yb {t:Tr}{o:List Int}{s x:Nat}:(x:Int)∈Ke t o (ofL t o) s↔needP t o s x:=by
 unfold Ke needP
 rw[Gh,JY]
 simp only[GY,Gq,Gd,beq_iff_eq,decide_eq_true_eq,GL,JP]
 have hd:∀ i,i < t.nodes.length→(ofL t o).getD i (-1)=J6 t o i:=fun i hi=>by rw[Jev.dft (by rw[Xh]; exact hi),Jab hi]
 constructor
 ·rintro ⟨h0,i,hi,h1,h2,h3,h4,h5,h6,h7⟩
  rw[hd i hi]at h2 h3 h5
  obtain ⟨m,hm⟩:∃ m:Nat,J6 t o i=m:=⟨(J6 t o i).toNat,by omega⟩
  rw[hm,Ga]at h3 h5
  rw[Ga]at h6
  exact ⟨by omega,i,m,hi,h1,hm,h3,h4,h5,h6,h7⟩
 ·rintro ⟨h0,i,m,hi,h1,hm,h3,h4,h5,h6,h7⟩
  refine ⟨⟨by omega,by omega⟩,i,hi,h1,?_⟩
  rw[hd i hi,hm,Ga,Ga]
  exact ⟨by omega,h3,h4,h5,h6,h7⟩
section
variable {u t:Tr}{p o:List Int}{ψ:Nat→Nat}(gu:GoodT u p) (g:GoodT t o) (h:TMap u t ψ) (hof:OfMap u t p o ψ)
include gu g h hof
theorem tm_need {s x:Nat}(hs:s < u.nodes.length) (hk:(nd u s).k=41) (hn:needP u p s x):needP t o (ψ s) (ψ x):=by
 obtain ⟨h0,i,m,hi,h1,h2,h3,h4,h5,h6,h7⟩:=hn
 have hb:=(Jfb gu hs hk (by omega)).1 h4
 have hsx:∀ a,a < u.nodes.length→∀ b,b < u.nodes.length→KG u a=KG u b→KG t (ψ a)=KG t (ψ b):=fun a ha b hb' he=>by
  rcases tm_up gu g h ha with ⟨q1,q2⟩ | ⟨y,q1,q2,_⟩ <;> rcases tm_up gu g h hb' with ⟨r1,r2⟩ | ⟨z,r1,r2,_⟩
  ·rw[q2,r2]
  ·omega
  ·omega
  ·obtain rfl:y=z:=by omega
   rw[q2,r2]
 rcases hof i hi with ⟨q1,_⟩ | ⟨d,q1,q2,q3⟩
 ·omega
 ·obtain rfl:d=m:=by omega
  refine ⟨h.rng x h0,ψ i,ψ d,h.rng i hi,by rw[h.k i hi]; exact h1,q3,by rw[h.k d q1]; exact h3,tm_blw gu g h hs h4,(tm_par gu g h q1 h5).1,hsx x h0 s hs h6,?_⟩
  rw[tm_late gu g h hs hk hb]; exact h7
theorem tm_needB {s X:Nat}(hs:s < u.nodes.length) (hk:(nd u s).k=41) (hn:needP t o (ψ s) X):∃ x,x < u.nodes.length∧ψ x=X∧needP u p s x:=by
 obtain ⟨h0,I,M,hI,h1,h2,h3,h4,h5,h6,h7⟩:=hn
 obtain ⟨i,hi,rfl⟩:=tm_below gu g h hs h4
 rw[h.k i hi]at h1
 rw[Jaz gu g h hi hs]at h4
 have hb:=(Jfb gu hs hk (by omega)).1 h4
 rw[tm_late gu g h hs hk hb]at h7
 rcases hof i hi with ⟨_,q1⟩ | ⟨d,q1,q2,q3⟩
 ·omega
 ·obtain rfl:M=ψ d:=by omega
  rw[h.k d q1]at h3
  obtain ⟨x,r1,r2,r3,r4⟩:=Q8 gu q1 (by omega)
  have r5:=(tm_par gu g h q1 r1).1
  obtain rfl:X=ψ x:=by omega
  refine ⟨x,r2,rfl,r2,i,d,hi,h1,q2,h3,h4,r1,?_,h7⟩
  rcases tm_up gu g h r2 with ⟨a1,a2⟩ | ⟨y,a1,a2,a3,_⟩ <;> rcases tm_up gu g h hs with ⟨b1,b2⟩ | ⟨z,b1,b2,b3,_⟩
  ·rw[a1,b1]
  ·omega
  ·omega
  ·have:=h.inj y z a3 b3 (by omega)
   rw[a1,b1,this]
theorem tm_st {s:Nat}(hs:s < u.nodes.length) (hn:stN t o (ψ s)=false):stN u p s=false:=by
 cases hx:stN u p s with
 |false=>rfl
 |true=>
  unfold stN at hx hn
  rw[Gd,beq_iff_eq,GG]at hx
  obtain ⟨hk,hx⟩:=hx
  rw[h.k s hs,hk]at hn
  simp only[beq_self_eq_true,Bool.true_and,← Gx,GG]at hn
  exfalso
  apply hn
  have hsub:∀ x∈Ke t o (ofL t o) (ψ s),x∈QC t:=fun x hx=>(Gh.1 hx).1
  obtain ⟨_,c2,c3⟩:=YC (N:=fun x=>Ke t o (ofL t o) x.toNat) (l:=QC t) Jft (muB (QC t) (Ke t o (ofL t o) (ψ s)) []+1) (Ke t o (ofL t o) (ψ s)) [] hsub (Nat.lt_succ_self _) (fun x hx=>by cases hx)
  have hl:=JbJ (N:=fun x=>Ke u p (ofL u p) x.toNat) (q:=fun x=>∃ y:Nat,x=y∧y < u.nodes.length∧(nd u y).k=41∧((ψ y:Nat):Int)∈bfs (fun x=>Ke t o (ofL t o) x.toNat) (QC t) (Ke t o (ofL t o) (ψ s)) []) ?_ (muB (QC u) (Ke u p (ofL u p) s) []+1) (Ke u p (ofL u p) s) [] ?_ (fun x hx=>by cases hx) s hx
  ·obtain ⟨y,h1,_,_,h2⟩:=hl
   obtain rfl:s=y:=by omega
   exact h2
  ·rintro x ⟨y,rfl,h1,h2,h3⟩ z hz
   simp only[Ga]at hz
   have hz2:=JaH gu hz
   obtain ⟨z,rfl⟩:∃ z':Nat,z=z':=⟨z.toNat,by omega⟩
   have h4:=tm_need gu g h hof h1 h2 (Yb.1 hz)
   refine ⟨z,rfl,by omega,by simpa using hz2.2.2,c3 _ h3 _ ?_⟩
   simp only[Ga]
   exact Yb.2 h4
  ·intro z hz
   have hz2:=JaH gu hz
   obtain ⟨z,rfl⟩:∃ z':Nat,z=z':=⟨z.toNat,by omega⟩
   exact ⟨z,rfl,by omega,by simpa using hz2.2.2,c2 _ (Yb.2 (tm_need gu g h hof hs hk (Yb.1 hz)))⟩
end
theorem Jel {t:Tr}{o:List Int}(c:Clear t o):∀ l:List Nat,(∀ i∈l,i < t.nodes.length)→Xo t o 6 10 l=none
 |[],_=>rfl
 |i::l,h=>by
  have hi:=h i (by simp)
  have h1:(Kh t i && J6 t o i == -1)=false:=by
   cases hs:Kh t i with
   |false=>rfl
   |true=>simpa using c.mean i hi hs
  rw[Xo,c.tw i hi,h1]
  exact Jel c l fun x hx=>h x (by simp[hx])
theorem res_clear {t:Tr}{o:List Int}(c:Clear t o) (hs:∀ i,i < t.nodes.length→stN t o i=false):(Q0 t o).2=0:=by
 unfold Q0
 rw[Jel c _ fun i hi=>Gq.1 hi]
 simp only
 have:(List.range t.nodes.length).find? (stN t o)=none:=GR.2 fun i hi=>by rw[hs i (Gq.1 hi)]; simp
 rw[this]
theorem tm_res {u t:Tr}{p o:List Int}{ψ:Nat→Nat}(gu:GoodT u p) (g:GoodT t o) (h:TMap u t ψ) (hE:(Q0 t o).2=0) (hc:∀ j,j < u.nodes.length→(nd u j).k=26→∀ L:Nat,J6 t o (ψ j)=L→∃ M,M < u.nodes.length∧ψ M=L) (hT:∀ j d,j < u.nodes.length→d < u.nodes.length→Kh u j=true→J6 t o (ψ j)=(ψ d:Nat)→(nd u d).text=(nd u j).text):(Q0 u p).2=0∧OfMap u t p o ψ:=by
 have c:=JbH hE
 have hof:=tm_of gu g h c hc hT
 exact ⟨res_clear (tm_clear gu g h c hc hT) fun i hi=>tm_st gu g h hof hi (res_st hE (h.rng i hi)),hof⟩
theorem tm_same {u t:Tr}{p o:List Int}{ψ:Nat→Nat}(gu:GoodT u p) (g:GoodT t o) (h:TMap u t ψ) (c:Clear t o) (hx:∀ j,j < u.nodes.length→(nd t (ψ j)).text=(nd u j).text) {j d:Nat}(hj:j < u.nodes.length) (hd:d < u.nodes.length) (hs:Kh u j=true) (hm:J6 t o (ψ j)=(ψ d:Nat)):(nd u d).text=(nd u j).text:=by
 have hk:(nd u j).k=3∨(nd u j).k=26∨(nd u j).k=44:=by unfold Kh at hs; simpa [or_assoc]using hs
 rw[← hx j hj,← hx d hd]
 rcases hk with hk | hk | hk
 ·exact ((Jdh g c (h.rng j hj) (by rw[h.k j hj]; exact hk)).1 hm).2
 ·exact ((Jdi c (h.rng j hj) (by rw[h.k j hj]; exact hk)).1 hm).2.1
 ·exact ((Jdg g c (h.rng j hj) (by rw[h.k j hj]; exact hk)).1 hm).2.1
end
section
def swapL (l:List Int) (i j:Nat):List Int:=(l.set i (l.getD j 0)).set j (l.getD i 0)
def JdW (t:Tr) (v:Nat):List Nat:=(List.range (nd t v).kids.length).filter fun k=>Jn t.nodes ((nd t v).kids.getD k 0) == 41
def Jbq (b:List Nat) (v:Nat) (sets:List Nat) (l:List Int):Nat→List Int
 |0=>l
 |i+1=>swapL (Jbq b v sets l i) (sets.getD (i+1) 0) (sets.getD (b.getD ((v+(i+1)) % b.length) 0 % (i+2)) 0)
def Ka (t:Tr) (b:List Nat) (v:Nat):List Int:=if b=[] then (nd t v).kids else Jbq b v (JdW t v) (nd t v).kids ((JdW t v).length-1)
structure KPerm (t:Tr) (l m:List Int):Prop where
 len:m.length=l.length
 perm:m.Perm l
 kind:∀ i,i < l.length→Jn t.nodes (m.getD i 0)=Jn t.nodes (l.getD i 0)∧(Jn t.nodes (l.getD i 0)≠41→m.getD i 0=l.getD i 0)
theorem KPerm.refl {t:Tr}{l:List Int}:KPerm t l l:=⟨rfl,.refl _,fun _ _=>⟨rfl,fun _=>rfl⟩⟩
theorem swap_get {l:List Int}{i j k:Nat}(hi:i < l.length) (hj:j < l.length):(swapL l i j).getD k 0=if k=j then l.getD i 0 else if k=i then l.getD j 0 else l.getD k 0:=by
 unfold swapL
 simp only[Gb,GU,GH]
 by_cases h1:k=j
 ·subst h1; simp[hj]
 ·rw[if_neg (fun h=>h1 h.symm),if_neg h1]
  by_cases h2:k=i
  ·subst h2; simp[hi]
  ·rw[if_neg (fun h=>h2 h.symm),if_neg h2]
theorem swap_perm {l:List Int}{i j:Nat}(hi:i < l.length) (hj:j < l.length):(swapL l i j).Perm l:=by
 unfold swapL
 have h:=List.set_set_perm hi hj
 rw[Gb,Gb,Gc hi,Gc hj]
 exact h
theorem KPerm.swap {t:Tr}{l m:List Int}{i j:Nat}(h:KPerm t l m) (hi:i < l.length) (hj:j < l.length) (ki:Jn t.nodes (l.getD i 0)=41) (kj:Jn t.nodes (l.getD j 0)=41):KPerm t l (swapL m i j):=by
 have hl:=h.len
 refine ⟨by unfold swapL; rw[GH,GH,hl],(swap_perm (by omega) (by omega)).trans h.perm,fun k hk=>?_⟩
 rw[swap_get (by omega) (by omega)]
 have h1:=h.kind k hk
 have h2:=h.kind i hi
 have h3:=h.kind j hj
 by_cases e1:k=j
 ·subst e1; rw[if_pos rfl,h2.1,ki,kj]; exact ⟨rfl,fun h=>absurd rfl h⟩
 ·rw[if_neg e1]
  by_cases e2:k=i
  ·subst e2; rw[if_pos rfl,h3.1,ki,kj]; exact ⟨rfl,fun h=>absurd rfl h⟩
  ·rw[if_neg e2]; exact h1
theorem JcV {t:Tr}{v i:Nat}(h:i < (JdW t v).length):(JdW t v).getD i 0 < (nd t v).kids.length∧Jn t.nodes ((nd t v).kids.getD ((JdW t v).getD i 0) 0)=41:=by
 have hm:(JdW t v).getD i 0∈JdW t v:=by rw[Gb,Gc h]; exact Gp h
 have:=Gh.1 hm
 exact ⟨Gq.1 this.1,by simpa using this.2⟩
theorem JbU {t:Tr}{b:List Nat}{v:Nat}:∀ i,i+1≤(JdW t v).length∨i=0→KPerm t (nd t v).kids (Jbq b v (JdW t v) (nd t v).kids i)
 |0,_=>.refl
 |i+1,h=>by
  have h1:=JcV (t:=t) (v:=v) (i:=i+1) (by omega)
  have h2:=Nat.mod_lt (b.getD ((v+(i+1)) % b.length) 0) (show 0 < i+2 by omega)
  have h3:=JcV (t:=t) (v:=v) (i:=b.getD ((v+(i+1)) % b.length) 0 % (i+2)) (by omega)
  exact (JbU i (by omega)).swap h1.1 h3.1 h1.2 h3.2
theorem Qe {t:Tr}{b:List Nat}{v:Nat}:KPerm t (nd t v).kids (Ka t b v):=by
 unfold Ka
 split
 ·exact .refl
 ·exact JbU _ (by omega)
structure Sh where
 us:List Nd
 ps:List Int
 tos:List Int
def shF (go:Nat→Sh→Sh):List Int→Sh→List Int→Sh×List Int
 |[],s,now=>(s,now)
 |k::ks,s,now=>shF go ks (go k.toNat s) (now++[((go k.toNat s).us.length:Int)-1])
def shN (t:Tr) (b:List Nat):Nat→Nat→Sh→Sh
 |0,_,s=>s
 |f+1,v,s=>⟨(shF (shN t b f) (Ka t b v) s []).1.us++[{ nd t v with kids:=(shF (shN t b f) (Ka t b v) s []).2 }],(shF (shN t b f) (Ka t b v) s []).1.ps++[(s.us.length:Int)],(shF (shN t b f) (Ka t b v) s []).1.tos.set v ((shF (shN t b f) (Ka t b v) s []).1.us.length:Int)⟩
structure ShI (t:Tr) (b:List Nat) (D:Nat→Prop) (s:Sh):Prop where
 tl:s.tos.length=t.nodes.length
 pl:s.ps.length=s.us.length
 im:∀ x,D x→x < t.nodes.length∧∃ j:Nat,s.tos.getD x 0=j∧s.us[j]? = some { nd t x with kids:=(Ka t b x).map fun k=>s.tos.getD k.toNat 0 }
 cl:∀ x,D x→∀ k:Nat,(k:Int)∈(nd t x).kids→D k
 on:∀ j,j < s.us.length→∃ x,D x∧s.tos.getD x 0=j
 inj:∀ x y,D x→D y→s.tos.getD x 0=s.tos.getD y 0→x=y
 fi:∀ (j:Nat) ks,(Jw s.us)[j]? = some ks→∃ f,s.ps[j]? = some f∧(0≤f∧f≤j)∧Qk s.ps ks.reverse ((j:Int)-1)=some (f-1)
theorem ShI.ok {t:Tr}{b:List Nat}{D:Nat→Prop}{s:Sh}(h:ShI t b D s):Qr s.ps:=fun j v hj=>by
 have hl:=(Gi.1 hj).1
 rw[h.pl]at hl
 obtain ⟨f,h1,h2,_⟩:=h.fi j (s.us[j]).kids (by simp[Jw,Gc hl])
 rw[h1]at hj
 cases hj
 exact h2
theorem ShI.congr {t:Tr}{b:List Nat}{D D':Nat→Prop}{s:Sh}(h:ShI t b D s) (he:∀ x,D x↔D' x):ShI t b D' s:=by
 have:D=D':=funext fun x=>propext (he x)
 subst this
 exact h
theorem getD_app {α:Type}{a b:List α}{i:Nat}{d:α}(h:i < a.length):(a++b).getD i d=a.getD i d:=by
 rw[Gb,Gb,Gt h]
structure ShS (t:Tr) (b:List Nat) (D E:Nat→Prop) (s s':Sh):Prop where
 inv:ShI t b (fun x=>D x∨E x) s'
 us:∃ L,s'.us=s.us++L
 ps:∃ M,s'.ps=s.ps++M
 tos:∀ x,¬ E x→s'.tos.getD x 0=s.tos.getD x 0
section
variable {t:Tr}{o:List Int}(g:GoodT t o) {b:List Nat}
include g
theorem shF_ok {go:Nat→Sh→Sh}:∀ (ks:List Int) (D:Nat→Prop) (s:Sh) (now:List Int),(∀ k∈ks,0≤k∧k < t.nodes.length)→(∀ k l:Nat,(k:Int)∈ks→(l:Int)∈ks→∀ x,blw o x k→blw o x l→k=l)→(∀ (k:Nat) (D:Nat→Prop) (s:Sh),(k:Int)∈ks→ShI t b D s→(∀ x,blw o x k→¬ D x)→ShS t b D (fun x=>blw o x k) s (go k s)∧s.us.length < (go k s).us.length∧(go k s).tos.getD k 0=((go k s).us.length:Int)-1∧(go k s).ps.getD ((go k s).us.length-1) 0=s.us.length)→ks.Nodup→ShI t b D s→(∀ k:Nat,(k:Int)∈ks→∀ x,blw o x k→¬ D x)→
   ShS t b D (fun x=>∃ k:Nat,(k:Int)∈ks∧blw o x k) s (shF go ks s now).1∧(shF go ks s now).2=now++ks.map (fun k=>(shF go ks s now).1.tos.getD k.toNat 0)∧Qk (shF go ks s now).1.ps ((ks.map fun k=>(shF go ks s now).1.tos.getD k.toNat 0).reverse) (((shF go ks s now).1.us.length:Int)-1)=some ((s.us.length:Int)-1)
 |[],D,s,now,_,_,_,_,hI,_=>by
  refine ⟨⟨hI.congr fun x=>?_,⟨[],by simp[shF]⟩,⟨[],by simp[shF]⟩,fun x _=>rfl⟩,by simp[shF],by simp[shF,Qk]⟩
  simp
 |k::ks,D,s,now,hks,hone,hgo,hnd,hI,hD=>by
  have hk0:=hks k (by simp)
  obtain ⟨k,rfl⟩:∃ k':Nat,k=k':=⟨k.toNat,by omega⟩
  obtain ⟨⟨i1,⟨L1,u1⟩,⟨M1,p1⟩,t1⟩,l1,k1,f1⟩:=hgo k D s (by simp) hI (hD k (by simp))
  rw[List.nodup_cons]at hnd
  have hsep:∀ x,blw o x k→∀ y:Nat,(y:Int)∈ks→¬ blw o x y:=fun x hx y hy hxy=>by
   have:=hone k y (by simp) (by simp[hy]) x hx hxy
   subst this
   exact hnd.1 hy
  have ih:=shF_ok (go:=go) ks (fun x=>D x∨blw o x k) (go k s) (now++[((go k s).us.length:Int)-1]) (fun y hy=>hks y (by simp[hy])) (fun a c ha hc=>hone a c (by simp[ha]) (by simp[hc])) (fun a D s ha=>hgo a D s (by simp[ha])) hnd.2 i1 (fun y hy x hx hc=>by
   rcases hc with hc | hc
   ·exact hD y (by simp[hy]) x hx hc
   ·exact hsep x hc y hy hx)
  simp only[shF,Ga]
  generalize go k s=s1 at i1 u1 p1 t1 l1 k1 f1 ih ⊢
  obtain ⟨⟨i2,⟨L2,u2⟩,⟨M2,p2⟩,t2⟩,n2,b2⟩:=ih
  generalize shF go ks s1 (now++[(s1.us.length:Int)-1])=r at i2 u2 p2 t2 n2 b2 ⊢
  have htk:r.1.tos.getD k 0=(s1.us.length:Int)-1:=by
   rw[t2 k fun ⟨y,hy,hb⟩=>hsep k (QH g (by omega)) y hy hb,k1]
  refine ⟨⟨i2.congr fun x=>?_,⟨L1++L2,by rw[u2,u1,Gv]⟩,⟨M1++M2,by rw[p2,p1,Gv]⟩,fun x hx=>?_⟩,?_,?_⟩
  ·constructor
   ·rintro ((h | h) | ⟨y,hy,h⟩)
    ·exact .inl h
    ·exact .inr ⟨k,by simp,h⟩
    ·exact .inr ⟨y,by simp[hy],h⟩
   ·rintro (h | ⟨y,hy,h⟩)
    ·exact .inl (.inl h)
    ·rcases List.mem_cons.1 hy with hy | hy
     ·obtain rfl:y=k:=by omega
      exact .inl (.inr h)
     ·exact .inr ⟨y,hy,h⟩
  ·rw[t2 x fun ⟨y,hy,hb⟩=>hx ⟨y,by simp[hy],hb⟩,t1 x fun hb=>hx ⟨k,by simp,hb⟩]
  ·rw[n2,Gf,Ga,htk]; simp
  ·rw[Gf,List.reverse_cons,Jas,b2,Option.bind_some,Ga,htk,Qk,if_neg (by omega),Qk,p2,getD_app (by rw[i1.pl]; omega),show ((s1.us.length:Int)-1).toNat=s1.us.length-1 by omega,f1]
theorem Jeg:∀ (f v:Nat) (D:Nat→Prop) (s:Sh),v < f→v < t.nodes.length→ShI t b D s→(∀ x,blw o x v→¬ D x)→ShS t b D (fun x=>blw o x v) s (shN t b f v s)∧s.us.length < (shN t b f v s).us.length∧(shN t b f v s).tos.getD v 0=((shN t b f v s).us.length:Int)-1∧(shN t b f v s).ps.getD ((shN t b f v s).us.length-1) 0=s.us.length
 |0,v,D,s,hf,_,_,_=>by omega
 |f+1,v,D,s,hf,hv,hI,hD=>by
  have hkp:=Qe (t:=t) (b:=b) (v:=v)
  have hmem:∀ k,k∈Ka t b v↔k∈(nd t v).kids:=fun k=>hkp.perm.mem_iff
  have hnd:(Ka t b v).Nodup:=hkp.perm.nodup_iff.2 ((JfB g hv).imp fun h=>by omega)
  obtain ⟨⟨i1,⟨L1,u1⟩,⟨M1,p1⟩,t1⟩,n1,b1⟩:=shF_ok g (go:=shN t b f) (Ka t b v) D s [] (fun k hk=>by have:=g.kid hv ((hmem k).1 hk); omega) (fun k l hk hl x h1 h2=>JfC g hv ((hmem k).1 hk) ((hmem l).1 hl) h1 h2) (fun k D' s' hk hI' hD'=>by
   have:=(JJ g hv ((hmem k).1 hk)).2
   exact Jeg f k D' s' (by omega) (by omega) hI' hD') hnd hI (fun k hk x hx=>hD x (Kr g hv hx (KC g hv ((hmem k).1 hk))))
  rw[shN]
  generalize shF (shN t b f) (Ka t b v) s []=r at i1 u1 p1 t1 n1 b1 ⊢
  rw[GZ]at n1
  have hvl:v < r.1.tos.length:=by rw[i1.tl]; exact hv
  have hto:∀ x,(r.1.tos.set v (r.1.us.length:Int)).getD x 0=if x=v then (r.1.us.length:Int) else r.1.tos.getD x 0:=fun x=>by
   simp only[Gb,GU]
   by_cases hx:x=v
   ·subst hx; simp[hvl]
   ·rw[if_neg (fun h=>hx h.symm),if_neg hx]
  have hvD:¬ (D v∨∃ k:Nat,(k:Int)∈Ka t b v∧blw o v k):=by
   rintro (h | ⟨k,hk,hb⟩)
   ·exact hD v (QH g hv) h
   ·have:=(JJ g hv ((hmem k).1 hk)).2
    have:=hb.1
    omega
  have hset:∀ x,(D x∨∃ k:Nat,(k:Int)∈Ka t b v∧blw o x k)∨x=v↔D x∨blw o x v:=fun x=>by
   constructor
   ·rintro ((h | ⟨k,hk,hb⟩) | rfl)
    ·exact .inl h
    ·exact .inr (Kr g hv hb (KC g hv ((hmem k).1 hk)))
    ·exact .inr (QH g hv)
   ·rintro (h | hb)
    ·exact .inl (.inl h)
    ·rcases Jar g hv hb with rfl | ⟨c,hc,hb2⟩
     ·exact .inr rfl
     ·exact .inl (.inr ⟨c,(hmem c).2 hc,hb2⟩)
  have hne:∀ x,(D x∨∃ k:Nat,(k:Int)∈Ka t b v∧blw o x k)→x≠v:=fun x hx he=>hvD (he▸hx)
  have hlt:∀ x,(D x∨∃ k:Nat,(k:Int)∈Ka t b v∧blw o x k)→r.1.tos.getD x 0 < r.1.us.length:=fun x hx=>by
   obtain ⟨_,j,hj,hu⟩:=i1.im x hx
   have:=(Gi.1 hu).1
   omega
  have hok:=i1.ok
  have hkids:∀ x,(D x∨∃ k:Nat,(k:Int)∈Ka t b v∧blw o x k)→(Ka t b x).map (fun k=>(r.1.tos.set v (r.1.us.length:Int)).getD k.toNat 0)=(Ka t b x).map fun k=>r.1.tos.getD k.toNat 0:=fun x hx=>by
   refine Gu fun k hk=>?_
   have hk2:=(Qe (t:=t) (b:=b) (v:=x)).perm.mem_iff.1 hk
   have hx2:=(i1.im x hx).1
   have hk0:=g.kid hx2 hk2
   obtain ⟨k,rfl⟩:∃ k':Nat,k=k':=⟨k.toNat,by omega⟩
   rw[hto,Ga,if_neg (hne k (i1.cl x hx k hk2))]
  refine ⟨⟨ShI.congr (D:=fun x=>(D x∨∃ k:Nat,(k:Int)∈Ka t b v∧blw o x k)∨x=v) ⟨?_,?_,?_,?_,?_,?_,?_⟩ hset,⟨L1++[_],by rw[u1,Gv]⟩,⟨M1++[_],by rw[p1,Gv]⟩,fun x hx=>?_⟩,?_,?_,?_⟩
  ·simp[i1.tl]
  ·simp[i1.pl]
  ·rintro x (hx | rfl)
   ·obtain ⟨h1,j,h2,h3⟩:=i1.im x hx
    refine ⟨h1,j,by rw[hto,if_neg (hne x hx)]; exact h2,?_⟩
    rw[Gt (Gi.1 h3).1,h3,hkids x hx]
   ·refine ⟨hv,r.1.us.length,by rw[hto,if_pos rfl],?_⟩
    rw[Gl (Nat.le_refl _),Gz,n1]
    simp only[GA,G6,Nd.mk.injEq,true_and,and_true]
    refine Gu fun k hk=>?_
    have hk2:=(hmem k).1 hk
    have hk0:=g.kid hv hk2
    obtain ⟨k,rfl⟩:∃ k':Nat,k=k':=⟨k.toNat,by omega⟩
    rw[hto,Ga,if_neg (by omega)]
  ·rintro x (hx | rfl) k hk
   ·exact .inl (i1.cl x hx k hk)
   ·have:=(JJ g hv hk).2
    exact .inl (.inr ⟨k,(hmem k).2 hk,QH g (by omega)⟩)
  ·intro j hj
   rw[Gn,GD]at hj
   rcases GN j r.1.us.length with h1 | h1
   ·obtain ⟨x,h2,h3⟩:=i1.on j h1
    exact ⟨x,.inl h2,by rw[hto,if_neg (hne x h2)]; exact h3⟩
   ·exact ⟨v,.inr rfl,by rw[hto,if_pos rfl]; omega⟩
  ·rintro x y (hx | rfl) (hy | rfl) he
   ·rw[hto,hto,if_neg (hne x hx),if_neg (hne y hy)]at he
    exact i1.inj x y hx hy he
   ·rw[hto,hto,if_neg (hne x hx),if_pos rfl]at he
    have:=hlt x hx; omega
   ·rw[hto,hto,if_neg (hne y hy),if_pos rfl]at he
    have:=hlt y hy; omega
   ·rfl
  ·intro j ks hj
   have hpl:=i1.pl
   simp only[Jw,List.map_append,Gf,List.map_nil]at hj
   rcases GN j r.1.us.length with h1 | h1
   ·rw[Gt (by rw[Gj]; exact h1)]at hj
    obtain ⟨f',h2,h3,h4⟩:=i1.fi j ks hj
    exact ⟨f',by rw[Gt (by omega)]; exact h2,h3,by rw[YD hok _ _ (by omega)]; exact h4⟩
   ·have hjl:=(Gi.1 hj).1
    simp only[Gn,Gj,GD]at hjl
    obtain rfl:j=r.1.us.length:=by omega
    rw[Gl (by rw[Gj]; exact Nat.le_refl _),Gj,Gz]at hj
    simp only[GA,G6]at hj
    subst hj
    have hul:s.us.length≤r.1.us.length:=by rw[u1,Gn]; omega
    refine ⟨(s.us.length:Int),by rw[Gl (by omega),hpl,Gz]; rfl,⟨by omega,by omega⟩,?_⟩
    rw[YD hok _ _ (by omega),n1]
    exact b1
  ·rw[hto,if_neg (fun he:x=v=>hx (by rw[he]; exact QH g hv)),t1 x fun ⟨k,hk,hb⟩=>hx (Kr g hv hb (KC g hv ((hmem k).1 hk)))]
  ·have hul:s.us.length≤r.1.us.length:=by rw[u1,Gn]; omega
   simp only[Gn,GD]; omega
  ·rw[hto,if_pos rfl]; simp
  ·have hpl:=i1.pl
   rw[Gb,Gl (by simp; omega)]
   simp[hpl]
end
end
section
def Jcr (t:Tr):Sh:=⟨[],[],List.replicate t.nodes.length 0⟩
def shT (t:Tr) (b:List Nat):Sh×List Int:=shF (shN t b t.nodes.length) t.items (Jcr t) []
def Kl (t:Tr) (b:List Nat):Tr:=⟨(shT t b).1.us,(shT t b).2⟩
def Kn (t:Tr) (b:List Nat) (x:Nat):Nat:=((shT t b).1.tos.getD x 0).toNat
theorem pigeon:∀ (m n:Nat) (f:Nat→Nat),(∀ i,i < n→f i < m)→(∀ i j,i < n→j < n→f i=f j→i=j)→n≤m
 |0,n,f,h,_=>by
  rcases Nat.eq_zero_or_pos n with h1 | h1
  ·omega
  ·have:=h 0 h1; omega
 |m+1,n,f,h,hi=>by
  by_cases he:∃ i,i < n∧f i=m
  ·obtain ⟨x,hx,hfx⟩:=he
   have:=pigeon m (n-1) (fun i=>f (if i < x then i else i+1)) (fun i h1=>by
    have hl:(if i < x then i else i+1) < n∧(if i < x then i else i+1)≠x:=by split <;> omega
    have h2:=h _ hl.1
    have h3:f (if i < x then i else i+1)≠m:=fun h3=>hl.2 (hi _ _ hl.1 hx (h3.trans hfx.symm))
    omega) (fun i j h1 h2 h3=>by
    have:=hi _ _ (show (if i < x then i else i+1) < n by split <;> omega) (show (if j < x then j else j+1) < n by split <;> omega) h3
    split at this <;> split at this <;> omega)
   omega
  ·have:=pigeon m n f (fun i h1=>by
    have h2:=h i h1
    have h3:f i≠m:=fun h3=>he ⟨i,h1,h3⟩
    omega) hi
   omega
theorem deepF_get {K:List (List Int)}{o:List Int}(h:Ordd K o) {j:Nat}{ks:List Int}(hj:K[j]? = some ks):(KQ K []).getD j 0=JdZ (KQ K []) ks:=by
 have hlt:=(Gi.1 hj).1
 have h1:=Jb6 hj
 have hl:=XV K []
 simp only[GI,Gy]at hl
 rw[Jb5 (by omega),Jb5 (by omega)]at h1
 have h2:(KQ K []).getD j 0=((KQ K []).take (j+1)).getD j 0:=by
  rw[Gb,Gb,GQ,if_pos (by omega)]
 rw[h2,h1,Gb,Gl (by rw[GV]; omega)]
 have h3:j-((KQ K []).take j).length=0:=by rw[GV]; omega
 rw[h3]
 simp only[GA,Option.getD_some]
 have h4:=ownD_shift (D:=KQ K []) (D':=(KQ K []).take j) (e:=0) ks fun k hk=>by
  have hr:=h.kid_rng hj hk
  rw[Int.add_zero,Gb,Gb,GQ,if_pos (by omega)]
 simpa using h4
theorem ownD_perm {D D':List Int}{ks ls:List Int}{f:Int→Int}(hp:ls.Perm ks) (h:∀ k∈ls,D'.getD (f k).toNat 0=D.getD k.toNat 0):JdZ D' (ls.map f)=JdZ D ks:=by
 have h1:JdZ D ks=JdZ D ls:=by
  unfold JdZ
  refine (List.Perm.foldl_eq' hp (fun x _ y _ z=>?_) 1).symm
  simp only[mx]
  repeat' split
  all_goals omega
 rw[h1]
 unfold JdZ
 have key:∀ (l:List Int) (a:Int),(∀ k∈l,D'.getD (f k).toNat 0=D.getD k.toNat 0)→(l.map f).foldl (fun a k=>mx a (D'.getD k.toNat 0+1)) a=l.foldl (fun a k=>mx a (D.getD k.toNat 0+1)) a:=by
  intro l
  induction l with
  |nil=>intro a _; rfl
  |cons k l ih=>
   intro a h
   rw[Gf,G5,G5,h k (by simp)]
   exact ih _ fun x hx=>h x (by simp[hx])
 exact key ls 1 h
section
variable {t:Tr}{o:List Int}(g:GoodT t o) {b:List Nat}
include g
theorem Jdp {k l:Nat}(hk:(k:Int)∈t.items) (hl:(l:Int)∈t.items) {x:Nat}(h1:blw o x k) (h2:blw o x l):k=l:=by
 have hk2:=g.itr hk
 have hl2:=g.itr hl
 obtain ⟨i,hi,e1⟩:=Gg hk
 obtain ⟨j,hj,e2⟩:=Gg hl
 have a1:t.items[i]? = some (k:Int):=by rw[Gc hi,e1]
 have a2:t.items[j]? = some (l:Int):=by rw[Gc hj,e2]
 have b1:=JP.2 h1
 have b2:=JP.2 h2
 have hx:x < t.nodes.length:=by have:=h1.1; omega
 rw[Jdq g hx a1,beq_iff_eq]at b1
 rw[Jdq g hx a2,beq_iff_eq]at b2
 obtain rfl:i=j:=by omega
 rw[a1]at a2
 have:=GK a2
 omega
theorem JcU:ShI t b (fun x=>x < t.nodes.length) (shT t b).1∧(shT t b).2=t.items.map (fun k=>(shT t b).1.tos.getD k.toNat 0)∧Qk (shT t b).1.ps ((t.items.map fun k=>(shT t b).1.tos.getD k.toNat 0).reverse) (((shT t b).1.us.length:Int)-1)=some (-1):=by
 have h0:ShI t b (fun _=>False) (Jcr t):=⟨by simp[Jcr],rfl,fun _ h=>h.elim,fun _ h=>h.elim,fun j h=>by simp[Jcr]at h,fun _ _ h=>h.elim,fun j ks h=>by simp[Jcr,Jw]at h⟩
 have hnd:t.items.Nodup:=Xk g.ord.ok g.olen _ _ _ g.its
 obtain ⟨⟨i1,_,_,_⟩,n1,b1⟩:=shF_ok g (go:=shN t b t.nodes.length) t.items (fun _=>False) (Jcr t) [] (fun k hk=>g.itr hk) (fun k l hk hl x h1 h2=>Jdp g hk hl h1 h2) (fun k D s hk hI hD=>Jeg g t.nodes.length k D s (by have:=g.itr hk; omega) (by have:=g.itr hk; omega) hI hD) hnd h0 (fun _ _ _ _ h=>h)
 refine ⟨i1.congr fun x=>?_,by rw[GZ]at n1; exact n1,b1⟩
 constructor
 ·rintro (h | ⟨k,hk,hb⟩)
  ·exact h.elim
  ·have:=g.itr hk
   have:=hb.1
   omega
 ·intro hx
  obtain ⟨k,L,h1,h2,h3,_⟩:=Jb4 g hx
  refine .inr ⟨L,Gm h2,JP.1 ?_⟩
  rw[Jdq g hx h2,h3]; simp
theorem QT {x:Nat}(hx:x < t.nodes.length):(shT t b).1.tos.getD x 0=(Kn t b x:Int)∧Kn t b x < (Kl t b).nodes.length∧nd (Kl t b) (Kn t b x) = { nd t x with kids:=(Ka t b x).map fun k=>(Kn t b k.toNat:Int) }:=by
 obtain ⟨i1,_,_⟩:=JcU g (b:=b)
 have hto:∀ y,y < t.nodes.length→(shT t b).1.tos.getD y 0=(Kn t b y:Int):=fun y hy=>by
  obtain ⟨_,j,h1,_⟩:=i1.im y hy
  unfold Kn; omega
 obtain ⟨_,j,h1,h2⟩:=i1.im x hx
 have hj:j=Kn t b x:=by have:=hto x hx; omega
 subst hj
 have hl:=(Gi.1 h2).1
 refine ⟨h1,hl,?_⟩
 unfold nd Kl
 simp only
 have he:∀ (l l':List Int) (z:Nd),l=l'→({ z with kids:=l }:Nd) = { z with kids:=l' }:=fun l l' z h=>by rw[h]
 rw[Gb,h2,Option.getD_some]
 refine he _ _ _ (Gu fun k hk=>?_)
 have hk2:=(Qe (t:=t) (b:=b) (v:=x)).perm.mem_iff.1 hk
 have hk0:=g.kid hx hk2
 exact hto _ (by omega)
theorem to_inj {x y:Nat}(hx:x < t.nodes.length) (hy:y < t.nodes.length) (h:Kn t b x=Kn t b y):x=y:=by
 obtain ⟨i1,_,_⟩:=JcU g (b:=b)
 exact i1.inj x y hx hy (by rw[(QT g hx).1,(QT g hy).1,h])
theorem to_on {j:Nat}(hj:j < (Kl t b).nodes.length):∃ x,x < t.nodes.length∧Kn t b x=j:=by
 obtain ⟨i1,_,_⟩:=JcU g (b:=b)
 obtain ⟨x,h1,h2⟩:=i1.on j hj
 exact ⟨x,h1,by unfold Kn; omega⟩
theorem JaC:(Kl t b).nodes.length=t.nodes.length:=by
 have h1:=pigeon (Kl t b).nodes.length t.nodes.length (Kn t b) (fun i hi=>(QT g hi).2.1) (fun i j hi hj h=>to_inj g hi hj h)
 have h2:∀ j,∃ x,j < (Kl t b).nodes.length→x < t.nodes.length∧Kn t b x=j:=fun j=>by
  by_cases hj:j < (Kl t b).nodes.length
  ·obtain ⟨x,hx⟩:=to_on g hj
   exact ⟨x,fun _=>hx⟩
  ·exact ⟨0,fun h=>absurd h hj⟩
 have h3:=pigeon t.nodes.length (Kl t b).nodes.length (fun j=>Classical.choose (h2 j)) (fun j hj=>(GM (h2 j) hj).1) (fun i j hi hj h=>by
  rw[← (GM (h2 i) hi).2,← (GM (h2 j) hj).2]
  exact congrArg _ h)
 omega
theorem shuf_ord:Ordd (Jw (Kl t b).nodes) (shT t b).1.ps:=by
 obtain ⟨i1,_,_⟩:=JcU g (b:=b)
 refine ⟨firstsF_of (by rw[Qg]; exact i1.pl) fun j ks hj=>?_⟩
 obtain ⟨f,h1,_,h3⟩:=i1.fi j ks hj
 exact ⟨f,h1,h3⟩
theorem shuf_lets {x:Nat}(hx:x < t.nodes.length):lets (Kl t b).nodes (nd (Kl t b) (Kn t b x))=lets t.nodes (nd t x):=by
 have hkp:=Qe (t:=t) (b:=b) (v:=x)
 rw[(QT g hx).2.2]
 unfold lets
 simp only[List.map_map]
 have h1:(Ka t b x).map ((fun k=>JcG (Jn (Kl t b).nodes k))∘fun k=>(Kn t b k.toNat:Int))=(Ka t b x).map fun k=>JcG (Jn t.nodes k):=by
  refine Gu fun k hk=>?_
  have hk0:=g.kid hx (hkp.perm.mem_iff.1 hk)
  have h2:=(QT g (b:=b) (x:=k.toNat) (by omega)).2.2
  simp only[Function.comp_apply]
  congr 1
  show (nd (Kl t b) (Kn t b k.toNat)).k=(nd t k.toNat).k
  rw[h2]
 rw[h1]
 refine List.ext_getElem (by simp[hkp.len]) fun i hi hi2=>?_
 simp only[Gj]at hi hi2
 rw[GX,GX]
 have:=(hkp.kind i hi2).1
 rw[Gb,Gb,Gc hi,Gc hi2]at this
 exact congrArg JcG this
theorem shuf_deep {x:Nat}:x < t.nodes.length→(KQ (Jw (Kl t b).nodes) []).getD (Kn t b x) 0=(KQ (Jw t.nodes) []).getD x 0:=by
 induction x using Gr with
 |ind x ih=>
  intro hx
  have hkp:=Qe (t:=t) (b:=b) (v:=x)
  obtain ⟨_,h1,h2⟩:=QT g (b:=b) hx
  rw[deepF_get (shuf_ord g) (JS h1),deepF_get g.ord (JS hx)]
  have h3:((Kl t b).nodes.getD (Kn t b x) default).kids=(Ka t b x).map fun k=>(Kn t b k.toNat:Int):=by
   show (nd (Kl t b) (Kn t b x)).kids=_
   rw[h2]
  rw[h3]
  refine ownD_perm hkp.perm fun k hk=>?_
  have hk0:=g.kid hx (hkp.perm.mem_iff.1 hk)
  rw[Ga]
  exact ih k.toNat (by omega) (by omega)
theorem XO:GoodT (Kl t b) (shT t b).1.ps:=by
 obtain ⟨i1,n1,b1⟩:=JcU g (b:=b)
 have hl:=JaC g (b:=b)
 have hO:=shuf_ord g (b:=b)
 have hpl:(shT t b).1.ps.length=(Kl t b).nodes.length:=i1.pl
 have hit:(Kl t b).items=t.items.map fun k=>(shT t b).1.tos.getD k.toNat 0:=n1
 refine ⟨by rw[hl]; exact g.many,by rw[hit,Gj]; exact g.items,hO,?_,?_,?_,?_⟩
 ·have h1:=Jbf hO.ok _ _ _ (by rw[hpl]; show ((Kl t b).nodes.length:Int)-1 < _; omega) (by omega) b1
  rw[List.reverse_reverse,Int.sub_add_cancel,hpl]at h1
  rw[hit]
  exact h1
 ·rw[hit]
  intro i hi
  obtain ⟨k,hk,rfl⟩:=GJ.1 hi
  have hk0:=g.itr hk
  have h2:=QT g (b:=b) (x:=k.toNat) (by omega)
  rw[h2.1]
  show (nd (Kl t b) (Kn t b k.toNat)).k=65
  rw[h2.2.2]
  exact g.defs k hk
 ·intro x hx
  obtain ⟨j,hj,rfl⟩:=Gg hx
  obtain ⟨y,hy,rfl⟩:=to_on g hj
  have h2:=QT g (b:=b) hy
  have e:(Kl t b).nodes[Kn t b y]=nd (Kl t b) (Kn t b y):=by
   unfold nd; rw[Gb,Gc hj]; rfl
  have hn:=g.nds (nd t y) (by unfold nd; rw[Gb,Gc hy]; exact Gp hy)
  rw[e]
  unfold ndI at hn ⊢
  rw[shuf_lets g hy,h2.2.2]
  exact hn
 ·intro v hv
  obtain ⟨j,hj,rfl⟩:=Gg hv
  have hdl:=XV (Jw (Kl t b).nodes) []
  simp only[GI,Gy,Qg]at hdl
  obtain ⟨y,hy,rfl⟩:=to_on g (show j < (Kl t b).nodes.length by omega)
  have h1:=shuf_deep g (b:=b) hy
  rw[Gb,Gc hj]at h1
  have hdl2:=XV (Jw t.nodes) []
  simp only[GI,Gy,Qg]at hdl2
  have h2:=g.deep ((KQ (Jw t.nodes) []).getD y 0) (by rw[Gb,Gc (by omega)]; exact Gp _)
  simp only[Option.getD_some]at h1
  omega
theorem X4:TMap t (Kl t b) (Kn t b):=by
 have hmem:∀ x k,k∈Ka t b x↔k∈(nd t x).kids:=fun x k=>(Qe (t:=t) (b:=b) (v:=x)).perm.mem_iff
 have hlen:∀ x,(Ka t b x).length=(nd t x).kids.length:=fun x=>(Qe (t:=t) (b:=b) (v:=x)).len
 refine ⟨fun j hj=>(QT g hj).2.1,fun i j hi hj h=>to_inj g hi hj h,fun j hj=>by rw[(QT g hj).2.2],fun i j hi hj h=>by rw[(QT g hi).2.2,(QT g hj).2.2]; exact h,fun j hj=>by rw[(QT g hj).2.2]; simp[hlen],fun j hj c hc=>?_,fun j hj c hc=>?_,fun j hj h40 h28 i hi=>?_⟩
 ·rw[(QT g hj).2.2]
  exact GJ.2 ⟨c,(hmem j c).2 hc,by rw[Ga]⟩
 ·rw[(QT g hj).2.2]at hc
  obtain ⟨k,hk,hkc⟩:=GJ.1 hc
  have hk2:=(hmem j k).1 hk
  have hk0:=g.kid hj hk2
  obtain ⟨k,rfl⟩:∃ k':Nat,k=k':=⟨k.toNat,by omega⟩
  rw[Ga]at hkc
  exact ⟨k,hk2,by omega⟩
 ·have hkp:=Qe (t:=t) (b:=b) (v:=j)
  have hk:=Kq g hj hi
  have h41:Jn t.nodes ((nd t j).kids.getD i 0)≠41:=by
   rw[← hk.2.2]
   intro h
   have:=(JdF (par_k g hj hk.1)).2.2.2.1 (by rw[h]; rfl)
   omega
  have h2:=(hkp.kind i hi).2 h41
  unfold JbA
  rw[(QT g hj).2.2]
  simp only
  rw[← h2,Gb,Gb,List.getElem?_map,Gc (by rw[hlen]; exact hi)]
  simp
end
theorem tm_inv {u t:Tr}{p:List Int}{ψ χ:Nat→Nat}(gu:GoodT u p) (h:TMap u t ψ) (hl:∀ y,y < t.nodes.length→χ y < u.nodes.length∧ψ (χ y)=y) (hx:∀ i j,i < u.nodes.length→j < u.nodes.length→(nd t (ψ i)).text=(nd t (ψ j)).text→(nd u i).text=(nd u j).text):TMap t u χ:=by
 have hk:∀ y,y < t.nodes.length→(nd u (χ y)).k=(nd t y).k:=fun y hy=>by rw[← h.k _ (hl y hy).1,(hl y hy).2]
 have hχ:∀ x,x < u.nodes.length→χ (ψ x)=x:=fun x hx=>h.inj _ _ (hl _ (h.rng x hx)).1 hx (hl _ (h.rng x hx)).2
 refine ⟨fun y hy=>(hl y hy).1,fun y z hy hz he=>?_,hk,fun y z hy hz he=>?_,fun y hy=>?_,fun y hy c hc=>?_,fun y hy c hc=>?_,fun y hy h40 h28 i hi=>?_⟩
 ·rw[← (hl y hy).2,← (hl z hz).2,he]
 ·exact hx _ _ (hl y hy).1 (hl z hz).1 (by rw[(hl y hy).2,(hl z hz).2]; exact he)
 ·rw[← h.len _ (hl y hy).1,(hl y hy).2]
 ·obtain ⟨d,h1,rfl⟩:=h.back (χ y) (hl y hy).1 c (by rw[(hl y hy).2]; exact hc)
  have:=(JJ gu (hl y hy).1 h1).2
  rw[hχ d (by have:=(hl y hy).1; omega)]
  exact h1
 ·have h1:=h.kid _ (hl y hy).1 c hc
  rw[(hl y hy).2]at h1
  have:=(JJ gu (hl y hy).1 hc).2
  exact ⟨ψ c,h1,hχ c (by have:=(hl y hy).1; omega)⟩
 ·have hy2:=(hl y hy).1
  have hlen:=h.len _ hy2
  rw[(hl y hy).2]at hlen
  have h1:=h.pos _ hy2 (by rw[hk y hy]; exact h40) (by rw[hk y hy]; exact h28) i (by omega)
  rw[(hl y hy).2]at h1
  have h2:=(Kq gu hy2 (i:=i) (by omega)).2.1
  rw[← h1,hχ _ (by omega)]
end
section
section
variable {t:Tr}{o:List Int}(g:GoodT t o)
include g
theorem mean_text (c:Clear t o) {j d:Nat}(hj:j < t.nodes.length) (h:J6 t o j=d):(nd t d).text=(nd t j).text∧QN (nd t d).k=true∧Kh t j=true∧d < t.nodes.length:=by
 have hr:=Jfx (t:=t) (o:=o) (i:=j)
 by_cases h3:(nd t j).k=3
 ·have h1:=(Jdh g c hj h3).1 h
  exact ⟨h1.2,(JaB g hj (by omega) h1.1).2.1,by unfold Kh; rw[h3]; rfl,by omega⟩
 by_cases h26:(nd t j).k=26
 ·have h1:=(Jdi c hj h26).1 h
  exact ⟨h1.2.1,by rw[h1.2.2]; decide,by unfold Kh; rw[h26]; rfl,by omega⟩
 by_cases h44:(nd t j).k=44
 ·have h1:=(Jdg g c hj h44).1 h
  exact ⟨h1.2.1,by rw[h1.2.2.1]; decide,by unfold Kh; rw[h44]; rfl,by omega⟩
 unfold J6 at h
 rw[if_neg h3,if_neg h26,if_neg h44]at h
 omega
end
end
section
theorem Ja9 {t:Tr}{o:List Int}{d:Nat}{x:Int}:x∈Jf0 t o (ofL t o) d↔(0≤x∧x < t.nodes.length)∧∃ i,i < t.nodes.length∧(nd t i).k=3∧XZ t o i d=true∧Jbi o x.toNat d=false∧J6 t o i=x:=by
 unfold Jf0
 rw[mem_img]
 unfold outQ
 simp only[Gd,beq_iff_eq,GL]
 constructor
 ·rintro ⟨h1,i,h2,⟨h3,h4,h5⟩,h6⟩
  rw[Jab h2]at h5 h6
  exact ⟨h1,i,h2,h3,h4,by rw[← h6]; exact h5,h6⟩
 ·rintro ⟨h1,i,h2,h3,h4,h5,h6⟩
  refine ⟨h1,i,h2,⟨h3,h4,?_⟩,?_⟩
  ·rw[Jab h2,h6]; exact h5
  ·rw[Jab h2]; exact h6
theorem up_asc {m:Nat}:(upto m).Pairwise (· < ·):=by
 unfold upto
 rw[List.pairwise_map]
 exact List.pairwise_lt_range.imp fun h=>by omega
theorem Jc8 {t:Tr}{o:List Int}(g:GoodT t o) {i d:Nat}(hd:d < t.nodes.length) (hk:(nd t d).k=28) (h:XZ t o i d=true):blw o i d∧∃ m:Nat,(m:Int)∈(nd t d).kids∧blw o i m:=by
 unfold XZ at h
 rw[if_pos hk]at h
 obtain ⟨j,h1,h2,h3,h4⟩:=JdQ.1 h
 have h5:=(Kq g hd h2).1
 exact ⟨Kr g hd h4 (KC g hd h5),_,h5,h4⟩
section
variable {u t:Tr}{p o:List Int}{ψ:Nat→Nat}(gu:GoodT u p) (g:GoodT t o) (h:TMap u t ψ) (hof:OfMap u t p o ψ)
include gu g h
theorem tm_part {i d:Nat}(hi:i < u.nodes.length) (hd:d < u.nodes.length) (hk:(nd u d).k=28):XZ t o (ψ i) (ψ d)=XZ u p i d:=by
 have hk2:(nd t (ψ d)).k=28:=by rw[h.k d hd]; exact hk
 have pl:∀ m:Nat,(m:Int)∈(nd u d).kids→blw p i m→XZ t o (ψ i) (ψ d)=XZ u p i d:=fun m hm hb=>by
  have h1:=Jc9 gu hd hk hm hb
  have hml:=(JJ gu hd hm).2
  have h2:=Jc9 g (h.rng d hd) hk2 (h.kid d hd m hm) (tm_blw gu g h (by omega) hb)
  unfold XZ
  rw[if_pos hk,if_pos hk2,h1,h2,h.k m (by omega)]
 cases e1:XZ u p i d with
 |true=>
  obtain ⟨_,m,hm,hb⟩:=Jc8 gu hd hk e1
  rw[← e1]; exact pl m hm hb
 |false=>
  cases e2:XZ t o (ψ i) (ψ d) with
  |false=>rfl
  |true=>
   obtain ⟨_,M,hM,hb⟩:=Jc8 g (h.rng d hd) hk2 e2
   obtain ⟨m,hm,rfl⟩:=h.back d hd M hM
   have hml:=(JJ gu hd hm).2
   have:=pl m hm ((Jaz gu g h hi (by omega)).1 hb)
   rw[e1,e2]at this
   exact this
include hof
theorem tm_out {d x:Nat}(hd:d < u.nodes.length) (hk:(nd u d).k=28) (hx:(x:Int)∈Jf0 u p (ofL u p) d):((ψ x:Nat):Int)∈Jf0 t o (ofL t o) (ψ d):=by
 obtain ⟨h1,i,h2,h3,h4,h5,h6⟩:=Ja9.1 hx
 rw[Ga]at h5
 have hxl:x < u.nodes.length:=by omega
 have hrx:=h.rng x hxl
 rcases hof i h2 with ⟨q1,_⟩ | ⟨e,q1,q2,q3⟩
 ·omega
 ·obtain rfl:e=x:=by omega
  refine Ja9.2 ⟨⟨by omega,by omega⟩,ψ i,h.rng i h2,by rw[h.k i h2]; exact h3,by rw[tm_part gu g h h2 hd hk]; exact h4,?_,q3⟩
  rw[Ga,← Gx,JP,Jaz gu g h q1 hd,← JP,h5]; simp
theorem tm_outB {d:Nat}{y:Int}(hd:d < u.nodes.length) (hk:(nd u d).k=28) (hy:y∈Jf0 t o (ofL t o) (ψ d)):∃ x:Nat,x < u.nodes.length∧(ψ x:Int)=y∧(x:Int)∈Jf0 u p (ofL u p) d:=by
 obtain ⟨h1,I,h2,h3,h4,h5,h6⟩:=Ja9.1 hy
 have hk2:(nd t (ψ d)).k=28:=by rw[h.k d hd]; exact hk
 obtain ⟨i,hi,rfl⟩:=tm_below gu g h hd (Jc8 g (h.rng d hd) hk2 h4).1
 rw[tm_part gu g h hi hd hk]at h4
 rw[h.k i hi]at h3
 rcases hof i hi with ⟨_,q1⟩ | ⟨e,q1,q2,q3⟩
 ·omega
 ·refine ⟨e,q1,by omega,Ja9.2 ⟨⟨by omega,by omega⟩,i,hi,h3,h4,?_,q2⟩⟩
  rw[← h6,q3,Ga,← Gx,JP,Jaz gu g h q1 hd,← JP]at h5
  rw[Ga,← Gx]; exact h5
end
def allT (l:List Int) (ψ:Nat→Nat) (m:Nat):List Int:=imgL (fun _=>true) (fun i=>(ψ (l.getD i 0).toNat:Int)) l.length m
theorem mem_allT {l:List Int}{ψ:Nat→Nat}{m:Nat}{y:Int}:y∈allT l ψ m↔(0≤y∧y < m)∧∃ x∈l,(ψ x.toNat:Int)=y:=by
 unfold allT
 rw[mem_img]
 constructor
 ·rintro ⟨h1,i,h2,_,h3⟩
  exact ⟨h1,l.getD i 0,by rw[Gb,Gc h2]; exact Gp h2,h3⟩
 ·rintro ⟨h1,x,h2,h3⟩
  obtain ⟨i,hi,rfl⟩:=Gg h2
  exact ⟨h1,i,hi,rfl,by rw[Gb,Gc hi]; exact h3⟩
theorem allT_asc {l:List Int}{ψ:Nat→Nat}{m:Nat}:(allT l ψ m).Pairwise (· < ·):=img_asc
section
variable {t:Tr}{o:List Int}(g:GoodT t o) {b:List Nat}
include g
theorem Jbp {x:Nat}(hx:x < t.nodes.length):(nd (Kl t b) (Kn t b x)).text=(nd t x).text:=by rw[(QT g (b:=b) hx).2.2]
theorem shuf_inv:∃ χ,TMap (Kl t b) t χ∧∀ j,j < (Kl t b).nodes.length→χ j < t.nodes.length∧Kn t b (χ j)=j:=by
 have hon:∀ j,∃ x,j < (Kl t b).nodes.length→x < t.nodes.length∧Kn t b x=j:=fun j=>by
  by_cases hj:j < (Kl t b).nodes.length
  ·obtain ⟨x,h1,h2⟩:=to_on g (b:=b) hj
   exact ⟨x,fun _=>⟨h1,h2⟩⟩
  ·exact ⟨0,fun h=>absurd h hj⟩
 obtain ⟨χ,hχ⟩:=Classical.axiomOfChoice hon
 exact ⟨χ,tm_inv g (X4 g) hχ (fun i j hi hj he=>by rwa [Jbp g hi,Jbp g hj]at he),hχ⟩
theorem shuf_ok (hE:(Q0 t o).2=0):(Q0 (Kl t b) (shT t b).1.ps).2=0:=by
 obtain ⟨χ,hm,hχ⟩:=shuf_inv g (b:=b)
 have gu:=XO g (b:=b)
 refine (tm_res gu g hm hE (fun j hj hk L hL=>?_) fun j d hj hd hs hme=>tm_same gu g hm (JbH hE) (fun j hj=>?_) hj hd hs hme).1
 ·have hLl:=(mean_text g (JbH hE) (hm.rng j hj) hL).2.2.2
  obtain ⟨q1,q2,q3⟩:=QT g (b:=b) hLl
  refine ⟨Kn t b L,q2,?_⟩
  exact to_inj g (hχ _ q2).1 hLl (hχ _ q2).2
 ·have h1:=hχ j hj
  have h2:=Jbp g (b:=b) h1.1
  rw[h1.2]at h2
  exact h2.symm
theorem shuf_okB (hE:(Q0 (Kl t b) (shT t b).1.ps).2=0):(Q0 t o).2=0∧OfMap t (Kl t b) o (shT t b).1.ps (Kn t b):=by
 have gu:=XO g (b:=b)
 refine tm_res g gu (X4 g) hE (fun j hj hk L hL=>?_) fun j d hj hd hs hme=>tm_same g gu (X4 g) (JbH hE) (fun j hj=>Jbp g hj) hj hd hs hme
 have hLl:=(mean_text gu (JbH hE) ((X4 g).rng j hj) hL).2.2.2
 obtain ⟨x,h1,h2⟩:=to_on g (b:=b) hLl
 exact ⟨x,h1,h2⟩
theorem shuf_need (hof:OfMap t (Kl t b) o (shT t b).1.ps (Kn t b)) {s:Nat}(hs:s < t.nodes.length) (hk:(nd t s).k=41):allT (Ke t o (ofL t o) s) (Kn t b) t.nodes.length=Ke (Kl t b) (shT t b).1.ps (ofL (Kl t b) (shT t b).1.ps) (Kn t b s):=by
 have gu:=XO g (b:=b)
 refine JbN allT_asc ?_ fun y=>?_
 ·unfold Ke
  refine List.Pairwise.filter _ ?_
  exact up_asc (m:=(Kl t b).nodes.length)
 ·rw[mem_allT]
  constructor
  ·rintro ⟨_,x,hx,rfl⟩
   have hx2:=JaH g hx
   obtain ⟨x,rfl⟩:∃ x':Nat,x=x':=⟨x.toNat,by omega⟩
   rw[Ga]
   exact Yb.2 (tm_need g gu (X4 g) hof hs hk (Yb.1 hx))
  ·intro hy
   have hy2:=JaH gu hy
   rw[JaC g]at hy2
   obtain ⟨y,rfl⟩:∃ y':Nat,y=y':=⟨y.toNat,by omega⟩
   obtain ⟨x,q1,rfl,q3⟩:=tm_needB g gu (X4 g) hof hs hk (Yb.1 hy)
   exact ⟨⟨hy2.1,hy2.2.1⟩,(x:Int),Yb.2 q3,by rw[Ga]⟩
theorem shuf_out (hof:OfMap t (Kl t b) o (shT t b).1.ps (Kn t b)) {d:Nat}(hd:d < t.nodes.length) (hk:(nd t d).k=28):allT (Jf0 t o (ofL t o) d) (Kn t b) t.nodes.length=Jf0 (Kl t b) (shT t b).1.ps (ofL (Kl t b) (shT t b).1.ps) (Kn t b d):=by
 have gu:=XO g (b:=b)
 refine JbN allT_asc ?_ fun y=>?_
 ·exact up_asc.filter _
 ·rw[mem_allT]
  constructor
  ·rintro ⟨_,x,hx,rfl⟩
   have hx2:=(Ja9.1 hx).1
   obtain ⟨x,rfl⟩:∃ x':Nat,x=x':=⟨x.toNat,by omega⟩
   rw[Ga]
   exact tm_out g gu (X4 g) hof hd hk hx
  ·intro hy
   have hy2:=(Ja9.1 hy).1
   rw[JaC g]at hy2
   obtain ⟨x,q1,rfl,q3⟩:=tm_outB g gu (X4 g) hof hd hk hy
   exact ⟨hy2,(x:Int),q3,by rw[Ga]⟩
end
end
section
section
variable {t:Tr}{o:List Int}(g:GoodT t o) (ht:t.Fit)
include g ht
end
end
end Go.Cm
end
end
