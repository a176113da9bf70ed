/-
  A part of the proof. Conditions: none.
-/
import Derived.Test.YtebakpoggommpaaGreatDoorQP50
set_option linter.unusedSimpArgs false
set_option linter.unusedVariables false
open Nat renaming zero_add→Gv,strongRecOn→GG,lt_trichotomy→GX,le_refl→GH,succ_le_succ→G9,lt_succ_self→Ha,lt_or_ge→Hd
open List renaming getD_eq_getElem?_getD→Ga,getElem?_eq_getElem→Gb,mem_filter→Gf,contains_iff_mem→Gm,map_cons→Gd,mem_of_getElem?→Gn,mem_range→Gh,getElem_mem→Gl,getElem?_append_right→Gw,map_congr_left→Gr,mem_map→Gi,length_nil→Gp,getElem?_map→Gs,getElem_of_mem→Gx,mem_append→Gt,range→Gj,pairwise_iff_getElem→GI,mem_of_find?_eq_some→GJ,getElem?_eq_some_iff→GK,getElem?_append_left→GL,length_cons→Gy,getElem_map→Gz,map_nil→Gq,ext_getElem→GD,getElem_range→GM,length_map→GN,find?_some→GQ,mem_singleton→GY,length_append→GZ,getElem?_take→G5,length_take→G6,drop_zero→G7,find?_eq_none→He,getElem_set→Hf,any_eq_true→Hg,foldl_cons→Hl,take_zero→Hm,map_map→Ho
open Option.some renaming inj→Gu
open Bool renaming and_eq_true→Gg,not_eq_true'→GR,not_eq_true→GU,or_eq_true→GV,eq_iff_iff→G8,or_eq_false_iff→Hq,not_true→Hr
open Int renaming toNat_natCast→Gc
open Option renaming getD_some→GA,map_some→Ht
noncomputable section
section
set_option maxRecDepth 100000
set_option maxHeartbeats 4000000
open Go.Proofs
namespace Go.Cm
section
structure TMap (u t:Tr) (ψ:Nat→Nat):Prop where
 rng:∀ j,j < u.nodes.length→ψ j < t.nodes.length
 inj:∀ i j,i < u.nodes.length→j < u.nodes.length→ψ i=ψ j→i=j
 k:∀ j,j < u.nodes.length→(nd t (ψ j)).k=(nd u j).k
 txe:∀ i j,i < u.nodes.length→j < u.nodes.length→(nd u i).text=(nd u j).text→(nd t (ψ i)).text=(nd t (ψ j)).text
 len:∀ j,j < u.nodes.length→(nd t (ψ j)).kids.length=(nd u j).kids.length
 kid:∀ j,j < u.nodes.length→∀ c:Nat,(c:Int)∈(nd u j).kids→(ψ c:Int)∈(nd t (ψ j)).kids
 back:∀ j,j < u.nodes.length→∀ c:Nat,(c:Int)∈(nd t (ψ j)).kids→∃ d:Nat,(d:Int)∈(nd u j).kids∧ψ d=c
 pos:∀ j,j < u.nodes.length→(nd u j).k≠40→(nd u j).k≠28→∀ i,i < (nd u j).kids.length→ψ (YC u j i)=YC t (ψ j) i
section
variable {u t:Tr}{p o:List Int}{ψ:Nat→Nat}(gu:GoodT u p) (g:GoodT t o) (h:TMap u t ψ)
include gu g h
theorem tm_par {j m:Nat}(hj:j < u.nodes.length) (hp:Kb u j=m):Kb t (ψ j)=(ψ m:Nat)∧m < u.nodes.length∧j < m∧(j:Int)∈(nd u m).kids:=by
 rcases Qv gu hj with ⟨h1,_⟩ | ⟨m',h1,h2,h3,h4⟩
 ·omega
 ·obtain rfl:m=m':=by omega
  exact ⟨(JW g (h.rng m h3) (h.kid m h3 j h4)).1,h3,h2,h4⟩
theorem tm_root {j:Nat}(hj:j < u.nodes.length) (hp:Kb u j = -1):(nd u j).k=65∧Kb t (ψ j) = -1:=by
 have hk:(nd u j).k=65:=by
  refine Classical.byContradiction fun hk=>?_
  obtain ⟨m,h1,_⟩:=Qs gu hj hk
  omega
 exact ⟨hk,(Y0 g (h.rng j hj) (by rw[h.k j hj]; exact hk)).1⟩
theorem tm_up {j:Nat}(hj:j < u.nodes.length):(Kb u j = -1∧Kb t (ψ j) = -1)∨∃ m:Nat,Kb u j=m∧Kb t (ψ j)=(ψ m:Nat)∧m < u.nodes.length∧j < m∧(j:Int)∈(nd u m).kids:=by
 rcases Qv gu hj with ⟨h1,_⟩ | ⟨m,h1,h2,h3,h4⟩
 ·exact .inl ⟨h1,(tm_root gu g h hj h1).2⟩
 ·exact .inr ⟨m,h1,tm_par gu g h hj h1⟩
theorem tm_blw {j a:Nat}(ha:a < u.nodes.length) (hb:blw p j a):blw o (ψ j) (ψ a):=by
 obtain ⟨n,hn⟩:∃ n,a-j=n:=⟨_,rfl⟩
 induction n using GG generalizing j with
 |ind n ih=>
  by_cases he:j=a
  ·subst he; exact Yn g (h.rng j ha)
  ·obtain ⟨m,h1,h2,h3,h4,h5⟩:=Xf gu ha hb he
   have h6:=ih (a-m) (by omega) h4 rfl
   exact QT g (h.rng a ha) (Qm g (h.rng m (by omega)) (h.kid m (by omega) j h5)) h6
theorem tm_above {j A:Nat}(hj:j < u.nodes.length) (hA:A < t.nodes.length) (hb:blw o (ψ j) A):∃ a,a < u.nodes.length∧ψ a=A∧blw p j a:=by
 obtain ⟨n,hn⟩:∃ n,u.nodes.length-j=n:=⟨_,rfl⟩
 induction n using GG generalizing j with
 |ind n ih=>
  by_cases he:ψ j=A
  ·exact ⟨j,hj,he,Yn gu hj⟩
  ·obtain ⟨M,h1,h2,h3,h4,h5⟩:=Xf g hA hb he
   rcases tm_up gu g h hj with ⟨_,h6⟩ | ⟨m,h6,h7,h8,h9,h10⟩
   ·omega
   ·obtain rfl:M=ψ m:=by omega
    obtain ⟨a,q1,q2,q3⟩:=ih (u.nodes.length-m) (by omega) h8 h4 rfl
    exact ⟨a,q1,q2,QT gu q1 (Qm gu h8 h10) q3⟩
theorem tm_declB {v a D:Nat}(hv:v < u.nodes.length) (ha:(a:Int)∈(nd u v).kids) (hd:(D:Int)∈Jbg t (ψ v) (ψ a)):∃ d,d < u.nodes.length∧ψ d=D∧(d:Int)∈Jbg u v a:=by
 have hav:=(JW gu hv ha).2
 rw[KX g (h.rng v hv),h.k v hv,h.k a (by omega)]at hd
 have bind:(∃ s:Nat,(s:Int)∈(nd t (ψ v)).kids∧(nd t s).k=41∧(D:Int)∈(nd t s).kids∧(nd t D).k=42)→∃ d,d < u.nodes.length∧ψ d=D∧∃ s:Nat,(s:Int)∈(nd u v).kids∧(nd u s).k=41∧(d:Int)∈(nd u s).kids∧(nd u d).k=42:=by
  rintro ⟨S,h1,h2,h3,h4⟩
  obtain ⟨s,h5,rfl⟩:=h.back v hv S h1
  have hs:=(JW gu hv h5).2
  obtain ⟨d,h6,rfl⟩:=h.back s (by omega) D h3
  have hds:=(JW gu (show s < u.nodes.length by omega) h6).2
  rw[h.k s (by omega)]at h2
  rw[h.k d (by omega)]at h4
  exact ⟨d,by omega,rfl,s,h5,h2,h6,h4⟩
 rcases hd with ⟨h1,h2⟩ | ⟨h1,h2,h3⟩ | ⟨h1,h2,h3⟩ | ⟨h1,h2,h3⟩
 ·obtain ⟨d,q1,q2,q3⟩:=bind h2
  exact ⟨d,q1,q2,(KX gu hv).2 (.inl ⟨h1,q3⟩)⟩
 ·obtain ⟨d,h5,rfl⟩:=h.back v hv D h2
  have:=(JW gu hv h5).2
  rw[h.k d (by omega)]at h3
  exact ⟨d,by omega,rfl,(KX gu hv).2 (.inr (.inl ⟨h1,h5,h3⟩))⟩
 ·have h4:=(Jam gu hv h1).1
  change (nd u v).kids.length=3 at h4
  have h5:=h.pos v hv (by omega) (by omega) 2 (by omega)
  have h6:=KY gu hv (i:=2) (by omega)
  have h7:ψ a=YC t (ψ v) 2:=by unfold YC; omega
  have h8:=h.inj _ _ (by omega) (by omega) (h7.trans h5.symm)
  have hm:(nd u v).kids.getD 2 0∈(nd u v).kids:=by
   rw[Ga,Gb (show 2 < (nd u v).kids.length by omega)]; exact Gl _
  have h9:=(gu.kid hv hm).1
  unfold YC at h8
  exact ⟨v,hv,h3.symm,(KX gu hv).2 (.inr (.inr (.inl ⟨h1,by omega,rfl⟩)))⟩
 ·rcases h3 with ⟨h3,h4⟩ | ⟨h3,h4⟩
  ·obtain ⟨d,h5,rfl⟩:=h.back v hv D h3
   have:=(JW gu hv h5).2
   rw[h.k d (by omega)]at h4
   exact ⟨d,by omega,rfl,(KX gu hv).2 (.inr (.inr (.inr ⟨h1,h2,.inl ⟨h5,h4⟩⟩)))⟩
  ·obtain ⟨d,q1,q2,q3⟩:=bind h4
   exact ⟨d,q1,q2,(KX gu hv).2 (.inr (.inr (.inr ⟨h1,h2,.inr ⟨h3,q3⟩⟩)))⟩
theorem tm_inSB {D j:Nat}(hj:j < u.nodes.length) (hs:inS t o (D:Int) (ψ j)):∃ d,d < u.nodes.length∧ψ d=D∧inS u p (d:Int) j:=by
 obtain ⟨V,A,hV,hA,hb,hd⟩:=hs
 have hAV:=(JW g hV hA).2
 obtain ⟨a,a1,rfl,a3⟩:=tm_above gu g h hj (by omega) hb
 rcases tm_up gu g h a1 with ⟨_,h6⟩ | ⟨v,h6,h7,h8,h9,h10⟩
 ·have:=(JW g hV hA).1; omega
 ·have:=(JW g hV hA).1
  obtain rfl:V=ψ v:=by omega
  obtain ⟨d,q1,q2,q3⟩:=tm_declB gu g h h8 h10 hd
  exact ⟨d,q1,q2,v,a,h8,h10,a3,q3⟩
omit gu h in
theorem mem_sight {d j:Nat}(hj:j < t.nodes.length):(d:Int)∈Qj t j↔d < t.nodes.length∧inS t o (d:Int) j:=by
 unfold Qj
 rw[Gf,J2,Gm,Jea g _ _ _ hj (by omega)]
 constructor
 ·rintro ⟨h1,h2⟩; exact ⟨by omega,h2⟩
 ·rintro ⟨h1,h2⟩; exact ⟨⟨by omega,by omega⟩,h2⟩
theorem tm_sightB {D:Int}{j:Nat}(hj:j < u.nodes.length) (hD:D∈Qj t (ψ j)):∃ d:Nat,d < u.nodes.length∧(ψ d:Int)=D∧(d:Int)∈Qj u j:=by
 have h0:=J2.1 (Gf.1 hD).1
 obtain ⟨D,rfl⟩:∃ D':Nat,D=D':=⟨D.toNat,by omega⟩
 rw[mem_sight g (h.rng j hj)]at hD
 obtain ⟨d,h3,h4,h5⟩:=tm_inSB gu g h hj hD.2
 exact ⟨d,h3,by omega,(mem_sight gu hj).2 ⟨h3,h5⟩⟩
theorem tm_item {i k:Nat}(hi:i < u.nodes.length) (hk:k < u.nodes.length):J5 t (ψ i)=J5 t (ψ k)↔J5 u i=J5 u k:=by
 obtain ⟨a,A,a1,a2,a3,a4,_⟩:=YV gu hi
 obtain ⟨b,B,b1,b2,b3,b4,_⟩:=YV gu hk
 have hA:=gu.itr (Gn a2)
 have hB:=gu.itr (Gn b2)
 have hbA:blw p i A:=Kr.1 (by rw[item_in gu hi a2,a3]; simp)
 have hbB:blw p k B:=Kr.1 (by rw[item_in gu hk b2,b3]; simp)
 have h1:=XW g (h.rng A (by omega)) (tm_blw gu g h (by omega) hbA)
 have h2:=XW g (h.rng B (by omega)) (tm_blw gu g h (by omega) hbB)
 have kA:(nd u A).k=65:=gu.defs _ (Gn a2)
 have kB:(nd u B).k=65:=gu.defs _ (Gn b2)
 constructor
 ·intro he
  rw[h1,h2]at he
  obtain ⟨x,hx,hxe⟩:=Gx (Y0 g (h.rng A (by omega)) (by rw[h.k A (by omega)]; exact kA)).2
  obtain ⟨y,hy,hye⟩:=Gx (Y0 g (h.rng B (by omega)) (by rw[h.k B (by omega)]; exact kB)).2
  have hx2:t.items[x]? = some ((ψ A:Nat):Int):=by rw[Gb hx,hxe]
  have hy2:t.items[y]? = some ((ψ B:Nat):Int):=by rw[Gb hy,hye]
  rw[Xt g hx2,Xt g hy2]at he
  subst he
  rw[hx2]at hy2
  have hAB:=h.inj A B (by omega) (by omega) (by have:=Gu hy2; omega)
  subst hAB
  rw[a3,b3]
  have hn:u.items.Nodup:=XA gu.ord.ok gu.olen _ _ _ gu.its
  exact (List.getElem?_inj a1 hn).1 (a2.trans b2.symm)
 ·intro he
  rw[a3,b3]at he
  subst he
  rw[a2]at b2
  obtain rfl:A=B:=by have:=Gu b2; omega
  rw[h1,h2]
end
end
section
def twP (t:Tr) (i k:Nat):Prop:=(nd t k).text=(nd t i).text∧(((nd t i).k=44∧(nd t k).k=44∧Kb t k=Kb t i)∨((nd t i).k=65∧(nd t k).k=65)∨(((nd t i).k≠65∧Kh (nd t i).k=true)∧((nd t k).k≠65∧Kh (nd t k).k=true)∧J5 t k=J5 t i))
theorem twP_symm {t:Tr}{i k:Nat}(h:twP t i k):twP t k i:=by
 obtain ⟨h1,h2⟩:=h
 refine ⟨h1.symm,?_⟩
 rcases h2 with ⟨a,b,c⟩ | ⟨a,b⟩ | ⟨a,b,c⟩
 ·exact .inl ⟨b,a,c.symm⟩
 ·exact .inr (.inl ⟨b,a⟩)
 ·exact .inr (.inr ⟨b,a,c.symm⟩)
theorem twN_iff {t:Tr}{i:Nat}:twN t i=true↔∃ k,k < i∧twP t i k:=by
 have e44:Kh 44=false:=by decide
 have e65:Kh 65=true:=by decide
 unfold twN twP
 by_cases hc:(nd t i).k≠44∧Kh (nd t i).k=false
 ·rw[if_pos hc]
  refine ⟨fun h=>(by cases h),?_⟩
  rintro ⟨k,_,_,h⟩
  rcases h with ⟨a,_⟩ | ⟨a,_⟩ | ⟨⟨_,a⟩,_⟩
  ·exact absurd a hc.1
  ·rw[a,e65]at hc; exact absurd hc.2 (by simp)
  ·rw[a]at hc; exact absurd hc.2 (by simp)
 rw[if_neg hc,Hg]
 simp only[Gh,Gg,beq_iff_eq]
 constructor
 ·rintro ⟨k,h1,h2,h3⟩
  refine ⟨k,h1,h2,?_⟩
  by_cases h4:(nd t i).k=44
  ·rw[if_pos h4]at h3
   simp only[Gg,beq_iff_eq]at h3
   exact .inl ⟨h4,h3⟩
  rw[if_neg h4]at h3
  by_cases h5:(nd t i).k=65
  ·rw[if_pos h5]at h3
   exact .inr (.inl ⟨h5,by simpa using h3⟩)
  rw[if_neg h5]at h3
  simp only[Gg,beq_iff_eq,GR,beq_eq_false_iff_ne]at h3
  have hd:Kh (nd t i).k=true:=by
   cases hd:Kh (nd t i).k with
   |true=>rfl
   |false=>exact absurd ⟨h4,hd⟩ hc
  exact .inr (.inr ⟨⟨h5,hd⟩,⟨h3.1,h3.2.1⟩,h3.2.2⟩)
 ·rintro ⟨k,h1,h2,h3⟩
  refine ⟨k,h1,h2,?_⟩
  rcases h3 with ⟨a,b,c⟩ | ⟨a,b⟩ | ⟨⟨a,a2⟩,⟨b,b2⟩,c⟩
  ·rw[if_pos a,b,c]; simp
  ·rw[if_neg (by omega),if_pos a,b]; rfl
  ·have h4:(nd t i).k≠44:=by intro h4; rw[h4,e44]at a2; exact absurd a2 (by simp)
   rw[if_neg h4,if_neg a,b2,c,beq_false_of_ne b]; simp
theorem no_tw {t:Tr}(h:∀ i,i < t.nodes.length→twN t i=false) {i k:Nat}(hi:i < t.nodes.length) (hk:k < t.nodes.length) (hp:twP t i k):i=k:=by
 rcases GX i k with h1 | h1 | h1
 ·have:=twN_iff.2 ⟨i,h1,twP_symm hp⟩
  rw[h k hk]at this; cases this
 ·exact h1
 ·have:=twN_iff.2 ⟨k,h1,hp⟩
  rw[h i hi]at this; cases this
section
variable {u t:Tr}{p o:List Int}{ψ:Nat→Nat}(gu:GoodT u p) (g:GoodT t o) (h:TMap u t ψ)
include gu g h
theorem tm_twP {i k:Nat}(hi:i < u.nodes.length) (hk:k < u.nodes.length) (hp:twP u i k):twP t (ψ i) (ψ k):=by
 obtain ⟨h1,h2⟩:=hp
 unfold twP
 rw[h.k i hi,h.k k hk]
 refine ⟨h.txe k i hk hi h1,?_⟩
 rcases h2 with ⟨a,b,c⟩ | ⟨a,b⟩ | ⟨a,b,c⟩
 ·refine .inl ⟨a,b,?_⟩
  rcases tm_up gu g h hi with ⟨q1,q2⟩ | ⟨m,q1,q2,_⟩ <;> rcases tm_up gu g h hk with ⟨r1,r2⟩ | ⟨n,r1,r2,_⟩
  ·rw[q2,r2]
  ·omega
  ·omega
  ·obtain rfl:m=n:=by omega
   rw[q2,r2]
 ·exact .inr (.inl ⟨a,b⟩)
 ·exact .inr (.inr ⟨a,b,(tm_item gu g h hk hi).2 c⟩)
theorem tm_tw (hn:∀ i,i < t.nodes.length→twN t i=false) {i:Nat}(hi:i < u.nodes.length):twN u i=false:=by
 rw[Bool.eq_false_iff]
 intro hx
 obtain ⟨k,h1,h2⟩:=twN_iff.1 hx
 have:=h.inj _ _ hi (by omega) (no_tw hn (h.rng i hi) (h.rng k (by omega)) (tm_twP gu g h hi (by omega) h2))
 omega
end
theorem Jdb {t:Tr}(hn:∀ i,i < t.nodes.length→twN t i=false) {x y:Nat}(hx:x < t.nodes.length) (hy:y < t.nodes.length) (ht:(nd t x).text=(nd t y).text) (hk:((nd t x).k=65∧(nd t y).k=65)∨(((nd t x).k≠65∧Kh (nd t x).k=true)∧((nd t y).k≠65∧Kh (nd t y).k=true)∧J5 t y=J5 t x)):x=y:=
 no_tw hn hx hy ⟨ht.symm,.inr hk⟩
theorem Ja6 {l:List Int}{q:Int→Bool}{d:Int}(hd:d∈l) (hq:q d=true) (ho:∀ x∈l,q x=true→x=d):(match l.find? q with | some x=>x | none=>-1)=d:=by
 cases hf:l.find? q with
 |none=>exact absurd hq (by simpa using He.1 hf d hd)
 |some x=>exact ho x (GJ hf) (GQ hf)
structure Clear (t:Tr) (o:List Int):Prop where
 tw:∀ i,i < t.nodes.length→twN t i=false
 mean:∀ i,i < t.nodes.length→JJ t i=true→JO t o i≠-1
theorem Jdc {t:Tr}{o:List Int}(hE:(Xa t o).2=0):Clear t o:=⟨fun _ hi=>(JfS hE hi).1,fun _ hi=>(JfS hE hi).2⟩
section
variable {t:Tr}{o:List Int}(g:GoodT t o) (c:Clear t o)
include g c
theorem sight_one {x y j:Nat}(hj:j < t.nodes.length) (hje:1≤(nd t j).k∧(nd t j).k≤29) (hx:(x:Int)∈Qj t j) (hy:(y:Int)∈Qj t j) (ht:(nd t x).text=(nd t y).text):x=y:=by
 have h1:=JbM g hj hje c.tw hx hy ht
 have h2:=JbM g hj hje c.tw hy hx ht.symm
 omega
theorem JdG {j:Nat}(hj:j < t.nodes.length) (hk:(nd t j).k=3) {d:Nat}:JO t o j=d↔(d:Int)∈Qj t j∧(nd t d).text=(nd t j).text:=by
 have hm:JO t o j=Y9 t (Qj t j) (nd t j).text:=by
  unfold JO; rw[if_pos hk,Jbw g hj (by omega)]
 rw[hm]
 unfold Y9
 constructor
 ·intro h
  generalize hf:(Qj t j).find? _=r at h
  cases r with
  |none=>simp only at h; omega
  |some x=>
   simp only at h
   subst h
   have h3:=GQ hf
   rw[Gc]at h3
   exact ⟨GJ hf,by simpa using h3⟩
 ·rintro ⟨h1,h2⟩
  refine Ja6 h1 (by rw[Gc]; simpa using h2) fun x hx hq=>?_
  have h3:=J2.1 (Gf.1 hx).1
  obtain ⟨x,rfl⟩:∃ x':Nat,x=x':=⟨x.toNat,by omega⟩
  rw[Gc]at hq
  rw[sight_one g c hj (by omega) hx h1 ((by simpa using hq:(nd t x).text=_).trans h2.symm)]
omit g in
theorem JdH {j:Nat}(hj:j < t.nodes.length) (hk:(nd t j).k=26) {d:Nat}:JO t o j=d↔d < t.nodes.length∧(nd t d).text=(nd t j).text∧(nd t d).k=65:=by
 have hm:JO t o j=Jaa t j:=by unfold JO; rw[if_neg (by omega),if_pos hk]
 rw[hm]
 unfold Jaa
 constructor
 ·intro h
  generalize hf:(Kq t).find? _=r at h
  cases r with
  |none=>simp only at h; omega
  |some x=>
   simp only at h
   subst h
   have h3:=GQ hf
   simp only[Gg,beq_iff_eq,Gc]at h3
   exact ⟨by have:=J2.1 (GJ hf); omega,h3.1,h3.2.2⟩
 ·rintro ⟨h1,h2,h3⟩
  refine Ja6 (J2.2 ⟨by omega,by omega⟩) (by rw[Gc,h2,h3]; simp[Kh]) fun x hx hq=>?_
  have h4:=J2.1 hx
  obtain ⟨x,rfl⟩:∃ x':Nat,x=x':=⟨x.toNat,by omega⟩
  simp only[Gg,beq_iff_eq,Gc]at hq
  rw[Jdb c.tw (x:=x) (y:=d) (by omega) h1 (hq.1.trans h2.symm) (.inl ⟨hq.2.2,h3⟩)]
theorem JdF {j:Nat}(hj:j < t.nodes.length) (hk:(nd t j).k=44) {d:Nat}:JO t o j=d↔d < t.nodes.length∧(nd t d).text=(nd t j).text∧(nd t d).k=43∧Kb t d=Kb t j:=by
 have hm:JO t o j=Jav t j:=by unfold JO; rw[if_neg (by omega),if_neg (by omega),if_pos hk]
 rw[hm]
 unfold Jav
 constructor
 ·intro h
  generalize hf:(Kq t).find? _=r at h
  cases r with
  |none=>simp only at h; omega
  |some x=>
   simp only at h
   subst h
   have h3:=GQ hf
   simp only[Gg,beq_iff_eq,Gc]at h3
   exact ⟨by have:=J2.1 (GJ hf); omega,h3.1,h3.2.2.1,h3.2.2.2⟩
 ·rintro ⟨h1,h2,h3,h4⟩
  refine Ja6 (J2.2 ⟨by omega,by omega⟩) (by rw[Gc,h2,h3,h4]; simp[Kh]) fun x hx hq=>?_
  have h5:=J2.1 hx
  obtain ⟨x,rfl⟩:∃ x':Nat,x=x':=⟨x.toNat,by omega⟩
  simp only[Gg,beq_iff_eq,Gc]at hq
  obtain ⟨v,v1,v2,v3,v4⟩:=Qs g h1 (by omega)
  have hxl:x < t.nodes.length:=by omega
  obtain ⟨w,w1,w2,w3,w4⟩:=Qs g hxl (by omega)
  obtain rfl:v=w:=by have:=hq.2.2.2; omega
  have i1:=XW g v2 (Qm g v2 v4)
  have i2:=XW g v2 (Qm g v2 w4)
  rw[Jdb c.tw (x:=x) (y:=d) hxl h1 (hq.1.trans h2.symm) (.inr ⟨⟨by omega,hq.2.1⟩,⟨by omega,by rw[h3]; decide⟩,by rw[i1,i2]⟩)]
end
section
variable {u t:Tr}{p o:List Int}{ψ:Nat→Nat}(gu:GoodT u p) (g:GoodT t o) (h:TMap u t ψ)
include gu g h
theorem tm_mean (c:Clear t o) (hc:∀ j,j < u.nodes.length→(nd u j).k=26→∀ L:Nat,JO t o (ψ j)=L→∃ M,M < u.nodes.length∧ψ M=L) (cu:∀ i,i < u.nodes.length→twN u i=false) (hT:∀ j d,j < u.nodes.length→d < u.nodes.length→JJ u j=true→JO t o (ψ j)=(ψ d:Nat)→(nd u d).text=(nd u j).text) {j:Nat}(hj:j < u.nodes.length) (hs:JJ u j=true):∃ d:Nat,d < u.nodes.length∧JO u p j=d∧JO t o (ψ j)=(ψ d:Nat):=by
 have hst:JJ t (ψ j)=true:=by unfold JJ at hs ⊢; rw[h.k j hj]; exact hs
 have hne:=c.mean (ψ j) (h.rng j hj) hst
 have hr:=Jc7 (t:=t) (o:=o) (i:=ψ j)
 obtain ⟨D,hD⟩:∃ D:Nat,JO t o (ψ j)=D:=⟨(JO t o (ψ j)).toNat,by omega⟩
 have c0:∀ {x y i:Nat},i < u.nodes.length→(1≤(nd u i).k∧(nd u i).k≤29)→(x:Int)∈Qj u i→(y:Int)∈Qj u i→(nd u x).text=(nd u y).text→x=y:=fun {x y i} hi hie hx hy ht=>by
  have h1:=JbM gu hi hie cu hx hy ht
  have h2:=JbM gu hi hie cu hy hx ht.symm
  omega
 have hk:(nd u j).k=3∨(nd u j).k=26∨(nd u j).k=44:=by unfold JJ at hs; simpa [or_assoc]using hs
 rcases hk with hk | hk | hk
 ·obtain ⟨h1,h2⟩:=(JdG g c (h.rng j hj) (by rw[h.k j hj]; exact hk)).1 hD
  obtain ⟨d,q1,q2,q3⟩:=tm_sightB gu g h hj h1
  obtain rfl:D=ψ d:=by omega
  replace h2:=hT j d hj q1 hs hD
  refine ⟨d,q1,?_,hD⟩
  have hm:JO u p j=Y9 u (Qj u j) (nd u j).text:=by
   unfold JO; rw[if_pos hk,Jbw gu hj (by omega)]
  rw[hm]
  unfold Y9
  refine Ja6 q3 (by rw[Gc]; simpa using h2) fun x hx hq=>?_
  have h3:=J2.1 (Gf.1 hx).1
  obtain ⟨x,rfl⟩:∃ x':Nat,x=x':=⟨x.toNat,by omega⟩
  rw[Gc]at hq
  rw[c0 hj (by omega) hx q3 ((by simpa using hq:(nd u x).text=_).trans h2.symm)]
 ·obtain ⟨h1,h2,h3⟩:=(JdH c (h.rng j hj) (by rw[h.k j hj]; exact hk)).1 hD
  obtain ⟨d,q1,rfl⟩:=hc j hj hk D hD
  replace h2:=hT j d hj q1 hs hD
  rw[h.k d q1]at h3
  refine ⟨d,q1,?_,hD⟩
  have hm:JO u p j=Jaa u j:=by unfold JO; rw[if_neg (by omega),if_pos hk]
  rw[hm]
  unfold Jaa
  refine Ja6 (J2.2 ⟨by omega,by omega⟩) (by rw[Gc,h2,h3]; simp[Kh]) fun x hx hq=>?_
  have h4:=J2.1 hx
  obtain ⟨x,rfl⟩:∃ x':Nat,x=x':=⟨x.toNat,by omega⟩
  simp only[Gg,beq_iff_eq,Gc]at hq
  rw[Jdb cu (x:=x) (y:=d) (by omega) q1 (hq.1.trans h2.symm) (.inl ⟨hq.2.2,h3⟩)]
 ·obtain ⟨h1,h2,h3,h4⟩:=(JdF g c (h.rng j hj) (by rw[h.k j hj]; exact hk)).1 hD
  obtain ⟨v,v1,v2,v3,v4⟩:=Qs gu hj (by omega)
  have hpj:=(tm_par gu g h hj v1).1
  obtain ⟨V,w1,w2,w3,w4⟩:=Qs g h1 (by omega)
  obtain rfl:V=ψ v:=by omega
  obtain ⟨d,q1,rfl⟩:=h.back v v2 D w4
  have hd:=JW gu v2 q1
  replace h2:=hT j d hj (by omega) hs hD
  rw[h.k d (by omega)]at h3
  refine ⟨d,by omega,?_,hD⟩
  have hm:JO u p j=Jav u j:=by unfold JO; rw[if_neg (by omega),if_neg (by omega),if_pos hk]
  rw[hm]
  unfold Jav
  refine Ja6 (J2.2 ⟨by omega,by omega⟩) (by rw[Gc,h2,h3,hd.1,v1]; simp[Kh]) fun x hx hq=>?_
  have h5:=J2.1 hx
  obtain ⟨x,rfl⟩:∃ x':Nat,x=x':=⟨x.toNat,by omega⟩
  simp only[Gg,beq_iff_eq,Gc]at hq
  have hxl:x < u.nodes.length:=by omega
  obtain ⟨w,z1,z2,z3,z4⟩:=Qs gu hxl (by omega)
  obtain rfl:v=w:=by have:=hq.2.2.2; omega
  have i1:=XW gu v2 (Qm gu v2 q1)
  have i2:=XW gu v2 (Qm gu v2 z4)
  rw[Jdb cu (x:=x) (y:=d) hxl (by omega) (hq.1.trans h2.symm) (.inr ⟨⟨by omega,hq.2.1⟩,⟨by omega,by rw[h3]; decide⟩,by rw[i1,i2]⟩)]
theorem tm_clear (c:Clear t o) (hc:∀ j,j < u.nodes.length→(nd u j).k=26→∀ L:Nat,JO t o (ψ j)=L→∃ M,M < u.nodes.length∧ψ M=L) (hT:∀ j d,j < u.nodes.length→d < u.nodes.length→JJ u j=true→JO t o (ψ j)=(ψ d:Nat)→(nd u d).text=(nd u j).text):Clear u p:=by
 have cu:∀ i,i < u.nodes.length→twN u i=false:=fun i hi=>tm_tw gu g h c.tw hi
 refine ⟨cu,fun i hi hs=>?_⟩
 obtain ⟨d,_,h2,_⟩:=tm_mean gu g h c hc cu hT hi hs
 omega
def OfMap (u t:Tr) (p o:List Int) (ψ:Nat→Nat):Prop:=∀ j,j < u.nodes.length→(JO u p j = -1∧JO t o (ψ j) = -1)∨∃ d:Nat,d < u.nodes.length∧JO u p j=d∧JO t o (ψ j)=(ψ d:Nat)
theorem tm_of (c:Clear t o) (hc:∀ j,j < u.nodes.length→(nd u j).k=26→∀ L:Nat,JO t o (ψ j)=L→∃ M,M < u.nodes.length∧ψ M=L) (hT:∀ j d,j < u.nodes.length→d < u.nodes.length→JJ u j=true→JO t o (ψ j)=(ψ d:Nat)→(nd u d).text=(nd u j).text):OfMap u t p o ψ:=fun j hj=>by
 have cu:∀ i,i < u.nodes.length→twN u i=false:=fun i hi=>tm_tw gu g h c.tw hi
 cases hs:JJ u j with
 |true=>exact .inr (tm_mean gu g h c hc cu hT hj hs)
 |false=>
  have hs2:JJ t (ψ j)=false:=by unfold JJ at hs ⊢; rw[h.k j hj]; exact hs
  have hno:∀ (s:Tr) (q:List Int) (i:Nat),JJ s i=false→JO s q i = -1:=fun s q i hi=>by
   unfold JJ at hi
   simp only[Hq,beq_eq_false_iff_ne]at hi
   unfold JO
   rw[if_neg hi.1.1,if_neg hi.1.2,if_neg hi.2]
  exact .inl ⟨hno _ _ _ hs,hno _ _ _ hs2⟩
theorem tm_upL {top:Nat}(htop:top < u.nodes.length):∀ (f f' j:Nat),blw p j top→u.nodes.length≤j+f→t.nodes.length≤ψ j+f'→(upL u top f j).map ψ=upL t (ψ top) f' (ψ j)
 |0,_,j,hb,hf,_=>by have:=hb.1; omega
 |f+1,0,j,hb,_,hf'=>by have:=h.rng j (by have:=hb.1; omega); omega
 |f+1,f' + 1,j,hb,hf,hf'=>by
  have hj:j < u.nodes.length:=by have:=hb.1; omega
  unfold upL
  by_cases he:j=top
  ·rw[if_pos he,if_pos (by rw[he])]; rfl
  ·obtain ⟨m,h1,h2,h3,h4,h5⟩:=Xf gu htop hb he
   obtain ⟨h6,h7,_,_⟩:=tm_par gu g h hj h1
   have h8:=(JW g (h.rng m h7) (h.kid m h7 j h5)).2
   rw[if_neg he,if_neg (fun hx=>he (h.inj _ _ hj htop hx)),h1,h6,Gc,Gc,Gd,tm_upL htop f f' m h4 (by omega) (by omega)]
omit g in
theorem tm_bu:∀ (l:List Nat) (late:Bool),Jbt u (fun v c=>(c:Int)∈(nd u v).kids∧v < u.nodes.length) l→buL t (l.map ψ) late=buL u l late
 |[],_,_=>rfl
 |[_],_,_=>rfl
 |c::v::l,late,hp=>by
  obtain ⟨⟨hc,hv⟩,hp2⟩:=hp
  have hcv:=(JW gu hv hc).2
  have hs:Jal t (ψ v) (ψ c) late=Jal u v c late:=by
   unfold Jal
   rw[h.k v hv,h.k c (by omega)]
   by_cases e:(nd u v).k=46∨(nd u v).k=47
   ·obtain ⟨i,hi,_,_⟩:=Jfa hc
    have hl:=h.pos v hv (by omega) (by omega) ((nd u v).kids.length-1) (by omega)
    have h1:JH t (ψ v)=ψ (JH u v):=by
     unfold JH
     rw[h.len v hv]
     exact hl.symm
    have h2:=KY gu hv (i:=(nd u v).kids.length-1) (by omega)
    have h3:JH u v < u.nodes.length:=by have:=h2.2.1; unfold YC at this; unfold JH; omega
    have h4:(ψ c == JH t (ψ v))=(c == JH u v):=by
     rw[h1,G8,beq_iff_eq,beq_iff_eq]
     exact ⟨fun hx=>h.inj _ _ (by omega) h3 hx,fun hx=>by rw[hx]⟩
    rw[if_neg (show ¬ (nd u v).k=4 by omega),if_neg (show ¬ (nd u v).k=4 by omega),if_pos e,if_pos e,h4]
   ·rw[if_neg e,if_neg e]
  have ih:=tm_bu (v::l) (Jal u v c late) hp2
  rw[Gd]at ih
  rw[Gd,Gd,buL,buL,hs,ih]
theorem tm_late {s j:Nat}(hs:s < u.nodes.length) (hk:(nd u s).k=41) (hb:blw p j (JH u s)):buL t (upL t (JH t (ψ s)) t.nodes.length (ψ j)) false=buL u (upL u (JH u s) u.nodes.length j) false:=by
 obtain ⟨a,_,hl,_,_⟩:=Jc0 gu hs hk
 change (nd u s).kids.length=a+1 at hl
 have h2:=KY gu hs (i:=(nd u s).kids.length-1) (by omega)
 have h3:JH u s < u.nodes.length:=by have:=h2.2.1; unfold YC at this; unfold JH; omega
 have h1:JH t (ψ s)=ψ (JH u s):=by
  have hp:=h.pos s hs (by omega) (by omega) ((nd u s).kids.length-1) (by omega)
  unfold JH
  rw[h.len s hs]
  exact hp.symm
 rw[h1,← tm_upL gu g h h3 u.nodes.length t.nodes.length j hb (by omega) (by omega),tm_bu gu h _ _ (up_kids gu _ _ _ h3 hb)]
end
def needP (t:Tr) (o:List Int) (s x:Nat):Prop:=x < t.nodes.length∧∃ i m:Nat,i < t.nodes.length∧(nd t i).k=3∧JO t o i=m∧(nd t m).k=42∧blw o i s∧Kb t m=x∧Kb t x=Kb t s∧buL t (upL t (JH t s) t.nodes.length i) false=false
theorem Jc6 {t:Tr}{o:List Int}{s x:Nat}:(x:Int)∈KD t o (ofL t o) s↔needP t o s x:=by
 unfold KD needP
 rw[Gf,J2]
 simp only[Hg,Gh,Gg,beq_iff_eq,decide_eq_true_eq,GR,Kr]
 have hd:∀ i,i < t.nodes.length→(ofL t o).getD i (-1)=JO t o i:=fun i hi=>by rw[Je4.dft (by rw[Ql]; exact hi),Jcu hi]
 constructor
 ·rintro ⟨h0,i,hi,h1,h2,h3,h4,h5,h6,h7⟩
  rw[hd i hi]at h2 h3 h5
  obtain ⟨m,hm⟩:∃ m:Nat,JO t o i=m:=⟨(JO t o i).toNat,by omega⟩
  rw[hm,Gc]at h3 h5
  rw[Gc]at h6
  exact ⟨by omega,i,m,hi,h1,hm,h3,h4,h5,h6,h7⟩
 ·rintro ⟨h0,i,m,hi,h1,hm,h3,h4,h5,h6,h7⟩
  refine ⟨⟨by omega,by omega⟩,i,hi,h1,?_⟩
  rw[hd i hi,hm,Gc,Gc]
  exact ⟨by omega,h3,h4,h5,h6,h7⟩
section
variable {u t:Tr}{p o:List Int}{ψ:Nat→Nat}(gu:GoodT u p) (g:GoodT t o) (h:TMap u t ψ) (hof:OfMap u t p o ψ)
include gu g h hof
theorem tm_need {s x:Nat}(hs:s < u.nodes.length) (hk:(nd u s).k=41) (hn:needP u p s x):needP t o (ψ s) (ψ x):=by
 obtain ⟨h0,i,m,hi,h1,h2,h3,h4,h5,h6,h7⟩:=hn
 have hb:=(JbN gu hs hk (by omega)).1 h4
 have hsx:∀ a,a < u.nodes.length→∀ b,b < u.nodes.length→Kb u a=Kb u b→Kb t (ψ a)=Kb t (ψ b):=fun a ha b hb' he=>by
  rcases tm_up gu g h ha with ⟨q1,q2⟩ | ⟨y,q1,q2,_⟩ <;> rcases tm_up gu g h hb' with ⟨r1,r2⟩ | ⟨z,r1,r2,_⟩
  ·rw[q2,r2]
  ·omega
  ·omega
  ·obtain rfl:y=z:=by omega
   rw[q2,r2]
 rcases hof i hi with ⟨q1,_⟩ | ⟨d,q1,q2,q3⟩
 ·omega
 ·obtain rfl:d=m:=by omega
  refine ⟨h.rng x h0,ψ i,ψ d,h.rng i hi,by rw[h.k i hi]; exact h1,q3,by rw[h.k d q1]; exact h3,tm_blw gu g h hs h4,(tm_par gu g h q1 h5).1,hsx x h0 s hs h6,?_⟩
  rw[tm_late gu g h hs hk hb]; exact h7
theorem tm_st {s:Nat}(hs:s < u.nodes.length) (hn:stN t o (ψ s)=false):stN u p s=false:=by
 cases hx:stN u p s with
 |false=>rfl
 |true=>
  unfold stN at hx hn
  rw[Gg,beq_iff_eq,Gm]at hx
  obtain ⟨hk,hx⟩:=hx
  rw[h.k s hs,hk]at hn
  simp only[beq_self_eq_true,Bool.true_and,← GU,Gm]at hn
  exfalso
  apply hn
  have hsub:∀ x∈KD t o (ofL t o) (ψ s),x∈Kq t:=fun x hx=>(Gf.1 hx).1
  obtain ⟨_,c2,c3⟩:=XZ (N:=fun x=>KD t o (ofL t o) x.toNat) (l:=Kq t) Jf3 (muB (Kq t) (KD t o (ofL t o) (ψ s)) []+1) (KD t o (ofL t o) (ψ s)) [] hsub (Ha _) (fun x hx=>by cases hx)
  have hl:=JaO (N:=fun x=>KD u p (ofL u p) x.toNat) (q:=fun x=>∃ y:Nat,x=y∧y < u.nodes.length∧(nd u y).k=41∧((ψ y:Nat):Int)∈bfs (fun x=>KD t o (ofL t o) x.toNat) (Kq t) (KD t o (ofL t o) (ψ s)) []) ?_ (muB (Kq u) (KD u p (ofL u p) s) []+1) (KD u p (ofL u p) s) [] ?_ (fun x hx=>by cases hx) s hx
  ·obtain ⟨y,h1,_,_,h2⟩:=hl
   obtain rfl:s=y:=by omega
   exact h2
  ·rintro x ⟨y,rfl,h1,h2,h3⟩ z hz
   simp only[Gc]at hz
   have hz2:=YR gu hz
   obtain ⟨z,rfl⟩:∃ z':Nat,z=z':=⟨z.toNat,by omega⟩
   have h4:=tm_need gu g h hof h1 h2 (Jc6.1 hz)
   refine ⟨z,rfl,by omega,by simpa using hz2.2.2,c3 _ h3 _ ?_⟩
   simp only[Gc]
   exact Jc6.2 h4
  ·intro z hz
   have hz2:=YR gu hz
   obtain ⟨z,rfl⟩:∃ z':Nat,z=z':=⟨z.toNat,by omega⟩
   exact ⟨z,rfl,by omega,by simpa using hz2.2.2,c2 _ (Jc6.2 (tm_need gu g h hof hs hk (Jc6.1 hz)))⟩
end
theorem JeS {t:Tr}{o:List Int}(c:Clear t o):∀ l:List Nat,(∀ i∈l,i < t.nodes.length)→Xn t o 6 10 l=none
 |[],_=>rfl
 |i::l,h=>by
  have hi:=h i (by simp)
  have h1:(JJ t i && JO t o i == -1)=false:=by
   cases hs:JJ t i with
   |false=>rfl
   |true=>simpa using c.mean i hi hs
  rw[Xn,c.tw i hi,h1]
  exact JeS c l fun x hx=>h x (by simp[hx])
theorem res_clear {t:Tr}{o:List Int}(c:Clear t o) (hs:∀ i,i < t.nodes.length→stN t o i=false):(Xa t o).2=0:=by
 unfold Xa
 rw[JeS c _ fun i hi=>Gh.1 hi]
 simp only
 have:(Gj t.nodes.length).find? (stN t o)=none:=He.2 fun i hi=>by rw[hs i (Gh.1 hi)]; simp
 rw[this]
theorem tm_res {u t:Tr}{p o:List Int}{ψ:Nat→Nat}(gu:GoodT u p) (g:GoodT t o) (h:TMap u t ψ) (hE:(Xa t o).2=0) (hc:∀ j,j < u.nodes.length→(nd u j).k=26→∀ L:Nat,JO t o (ψ j)=L→∃ M,M < u.nodes.length∧ψ M=L) (hT:∀ j d,j < u.nodes.length→d < u.nodes.length→JJ u j=true→JO t o (ψ j)=(ψ d:Nat)→(nd u d).text=(nd u j).text):(Xa u p).2=0∧OfMap u t p o ψ:=by
 have c:=Jdc hE
 have hof:=tm_of gu g h c hc hT
 exact ⟨res_clear (tm_clear gu g h c hc hT) fun i hi=>tm_st gu g h hof hi (res_st hE (h.rng i hi)),hof⟩
theorem tm_same {u t:Tr}{p o:List Int}{ψ:Nat→Nat}(gu:GoodT u p) (g:GoodT t o) (h:TMap u t ψ) (c:Clear t o) (hx:∀ j,j < u.nodes.length→(nd t (ψ j)).text=(nd u j).text) {j d:Nat}(hj:j < u.nodes.length) (hd:d < u.nodes.length) (hs:JJ u j=true) (hm:JO t o (ψ j)=(ψ d:Nat)):(nd u d).text=(nd u j).text:=by
 have hk:(nd u j).k=3∨(nd u j).k=26∨(nd u j).k=44:=by unfold JJ at hs; simpa [or_assoc]using hs
 rw[← hx j hj,← hx d hd]
 rcases hk with hk | hk | hk
 ·exact ((JdG g c (h.rng j hj) (by rw[h.k j hj]; exact hk)).1 hm).2
 ·exact ((JdH c (h.rng j hj) (by rw[h.k j hj]; exact hk)).1 hm).2.1
 ·exact ((JdF g c (h.rng j hj) (by rw[h.k j hj]; exact hk)).1 hm).2.1
end
def renN (s:List UInt8) (x:Nd):Nd:=⟨x.k,s,x.n,x.kids,x.pl⟩
def XC (t:Tr) (q:Nat→Bool) (s:List UInt8):Tr:=⟨(Gj t.nodes.length).map fun i=>if q i=true then renN s (nd t i) else nd t i,t.items⟩
theorem XU {t:Tr}{q:Nat→Bool}{s:List UInt8}:(XC t q s).nodes.length=t.nodes.length:=by simp[XC]
theorem JbQ {t:Tr}{q:Nat→Bool}{s:List UInt8}{i:Nat}(h:i < t.nodes.length):nd (XC t q s) i=if q i=true then renN s (nd t i) else nd t i:=by
 unfold nd XC
 rw[Ga,Gb (by simpa using h),GA,Gz,GM]
 rfl
theorem renT_ext {t:Tr}{q q':Nat→Bool}{s:List UInt8}(h:∀ i,i < t.nodes.length→q i=q' i):XC t q s=XC t q' s:=by
 unfold XC
 congr 1
 refine Gr fun i hi=>?_
 rw[h i (Gh.1 hi)]
theorem renT_none {t:Tr}{s:List UInt8}:XC t (fun _=>false) s=t:=by
 have:(Gj t.nodes.length).map (fun i=>nd t i)=t.nodes:=by
  apply GD (by simp)
  intro i h1 h2
  rw[Gz,GM]
  unfold nd
  rw[Ga,Gb h2]; rfl
 unfold XC
 simp only[Bool.false_eq_true,if_false,this]
theorem renT_set {t:Tr}{q:Nat→Bool}{s:List UInt8}{j:Nat}(_:j < t.nodes.length):(ndz (XC t q s).nodes).set j (renN s (nd t j)).cv=ndz (XC t (fun i=>q i || i == j) s).nodes:=by
 unfold ndz XC
 apply GD (by simp)
 intro i h1 h2
 rw[Hf]
 simp only[Gz,GM]
 by_cases h:j=i
 ·subst h; simp
 ·have:(i == j)=false:=by simpa using fun h'=>h h'.symm
  rw[if_neg h,this,Bool.or_false]
theorem renT_fit {t:Tr}{q:Nat→Bool}{s:List UInt8}(ht:t.Fit) (hs:s.length≤60):(XC t q s).Fit:=by
 refine ⟨by rw[XU]; exact ht.many,ht.items,fun x hx=>?_,ht.iz⟩
 unfold XC at hx
 obtain ⟨i,hi,rfl⟩:=Gi.1 hx
 have hf:=fitN ht (Gh.1 hi)
 split
 ·exact ⟨hf.k,hs,hf.n,hf.kidn,hf.kids,hf.pl⟩
 ·exact hf
theorem cloneN {l:List Nd}(hl:l.length≤100000) (hne:l≠[]):Jbi Tryz.prog 71 [.rslc 5 (ndz l) none] 5 (ndz l):=by
 refine Ja4 (J7 c71_ok fun N=>?_) rfl (JL l)
 obtain ⟨x,xs,hR⟩:∃ x xs,ndz l=x::xs:=by
  cases l with
  |nil=>exact absurd rfl hne
  |cons a l=>exact ⟨_,_,rfl⟩
 have hlen:xs.length+1=l.length:=by rw[← Jc (l:=l),hR]; rfl
 rw[hR]
 simp -implicitDefEqProofs only[c71,go_sem,Jr]
 refine ⟨by omega,1,by rw[QQ],rfl⟩
theorem cloneF (l:List Int) (hl:l.length≤100000):Fn Tryz.prog 72 [.rslc 1 (iz l) none] (.rslc 1 (iz l) none):=by
 by_cases h:l=[]
 ·subst h; exact cloneE
 ·exact (cloneR hl h).fn rfl (Jd l)
section
def YO (of:List Int) (d i:Nat):Bool:=of.getD i 0 == (d:Int) || i == d
theorem JdS {P:Program}{E:Env}{T:List CV}{H:List CObj}{io:IOper}{x:CV}{c:Cond}(hg:GOk T io.guard) (he:exec io.op T H=some (c,x,H)) (hc:c.holds):HS P E io T H x H (.all,.on []):=by
 refine ⟨fun _ _=>rfl,fun T2 H2 ha hx=>?_⟩
 have hH:H2=H:=JcB fun y=>hx y trivial
 subst hH
 exact ⟨H2,fun y hy=>(by cases hy),fun _ _=>rfl,fun _ _ _ _ _ hok=>ok_op (JdT ha hg) (by rw[← Xw (Jm ha).2]; exact he) hc hok⟩
theorem set_same {t:Tr}{i:Nat}(h:i < t.nodes.length):(ndz t.nodes).set i (nd t i).cv=ndz t.nodes:=by
 rw[← Kt h]
 apply GD (by simp)
 intro j h1 h2
 rw[Hf]
 split
 ·rename_i e
  subst e
  rw[Ga,Gb h2]; rfl
 ·rfl
section
variable {t:Tr}{o:List Int}(g:GoodT t o) (ht:t.Fit)
include g ht
theorem nRenameC (hE:(Xa t o).2=0) {d:Nat}(hd:d < t.nodes.length) (hdc:Kh (nd t d).k=true) (nm:List UInt8) (hnl:nm.length≤60) (hnk:knd nm=some 2)
  (X1 X2:CV) (a e:Int) (of':List Int) (hol':e=0→of'.length≤100000) (hX:(X1=.nilp∧X2=.nils∧e≠0)∨((∃ l,X1=.rptr l)∧X2=.rslc 1 (iz of') none))
  (hRs:Fn Tryz.prog 41 [(XC t (YO (ofL t o) d) nm).cv] (.tup [.agg [X1,X2],.int .i64 a,.int .i64 e])) :
  Fn Tryz.prog 30 [t.cv,.int .i64 (d:Int),S nm] (if e=0∧of'=ofL t o then .tup [(XC t (YO (ofL t o) d) nm).cv,.int .i64 0] else .tup [.agg [.nils,.nils],.int .i64 9]):=by
 have hmany:=g.many
 have hF:=nFind g ht [(d:Int)] (by simp)
 have hin:[(d:Int)].all (inT t)=true:=by simp only[List.all_cons,List.all_nil,Bool.and_true]; exact JdR.2 ⟨by omega,by omega⟩
 rw[if_neg (by simp[hE]),if_pos hin,rE_ok hE]at hF
 have hDc:=nIsDecl t hd
 rw[hdc]at hDc
 have hK:=lexKind nm (by omega)
 rw[hnk]at hK
 have hCn:=cloneN (l:=t.nodes) (by omega) (by rintro h; rw[h]at hd; simp at hd)
 have hCi:=cloneF t.items (by have:=ht.items; omega)
 have hne:t.nodes≠[]:=by rintro h; rw[h]at hd; simp at hd
 have hne':ndz t.nodes≠[]:=by unfold ndz; simpa using hne
 have hCn':∀ E H,CallsC Tryz.prog E 71 [.rslc 5 (ndz t.nodes) none] H fun v H'=>v=.slc H.length 0 t.nodes.length none∧H'=H++[.arr 5 (ndz t.nodes)]:=fun E H=>by
  have h:=hCn E H
  rw[QA hne',Qk hne',Jc]at h
  exact h
 have e22:(((2:Nat):Int) != 2)=false:=rfl
 have hUs:=nUses0 t (ofL t o) (by rw[Ql]; omega) (d:Int)
 refine Q6 ?_ rfl (by split <;> rfl)
 refine J7 c30_ok fun N=>?_
 simp -implicitDefEqProofs only[c30,go_sem,Tr.cv,Tr.row]
 refine Je (id:=2) (z:=1) (els:=iz [(d:Int)]) rfl rfl ?_
 simp only[go_sem,JS,Ki,frz,KP,Kg,QN,Gd,Gq,Gy,Gp,G7,List.take_succ_cons,Hm]
 refine JR hF ?_
 simp -implicitDefEqProofs only[go_sem,rRw]
 refine JR hDc ?_
 simp -implicitDefEqProofs only[go_sem,Hr]
 refine JR hK ?_
 simp -implicitDefEqProofs only[go_sem,kndV,e22]
 refine Je (id:=0) (z:=2) (els:=[t.row]) rfl rfl ?_
 simp only[go_sem,JS,Ki,frz,KP,Gd,Gq,Tr.row]
 refine Je (id:=3) (z:=2) (els:=[rRw t (ofL t o)]) rfl rfl ?_
 simp only[go_sem,JS,Ki,frz,KP,Gd,Gq,rRw,G7]
 have hnc:=Ja (ρ:=[0,1,2,3,5,4]) (JL t.nodes)
 refine vr_dregQ 2 7 [0,1,7,2,3,4,5,6,8] [0,1,3,4,5,6,7,2,8] [false,false,true,false,false,false,false,true,true] [false,false,true,true,false,false,false,false,true] (gp [(1,.int .i64 (d:Int)),(0,S nm),(3,.ptr 1 0 0),(1,.rptr (rRw t (ofL t o))),(3,.ptr 5 0 0)] 98) [.dead,.arr 2 [[.nils,.nils]],.dead,.dead,.arr 5 (ndz t.nodes),.arr 2 [[.slc 4 0 t.nodes.length none,.rslc 1 (iz t.items) none]]] Jz (by decide +kernel) ?_ ?_ ?_
 ·simp -implicitDefEqProofs only[go_sem,Tr.row]
  refine ⟨_,_,Jaz (.inl rfl) (hCn' _ _),?_⟩
  simp -implicitDefEqProofs only[go_sem]
  refine vk_f hCi ?_
  simp -implicitDefEqProofs only[go_sem]
  exact Jk (by simp[forget,rRw])
 ·simp -implicitDefEqProofs only[prl,QI,Gy,Gp,Gd,Gq,List.getD_cons_zero,List.getD_cons_succ,go_sem,Tr.row]
  refine ⟨_,_,Jaz (.inl rfl) (hCn' _ _),?_⟩
  simp -implicitDefEqProofs only[go_sem]
  refine vk_f hCi ?_
  simp -implicitDefEqProofs only[go_sem]
  refine QW [0,1,2,3,5,4] rfl (by simp[forget,JA,ren,Jl,rRw]) ?_
  simp only[Ke,Gd,Gq,go_sem,Ji,Jh,hnc]
  simp[JA,ren,Jl]
 ·simp only[gp,List.replicate]
  simp -implicitDefEqProofs only[go_sem]
  refine JC (I:=fun i:Nat=>i≤t.nodes.length) (inv:=fun i=>gp [(1,.int .i64 (d:Int)),(0,S nm),(3,.ptr 1 0 0),(1,.rptr (rRw t (ofL t o))),(3,.ptr 5 0 0),(45,.int .i64 (t.nodes.length:Int)),(0,.int .i64 (i:Int))] 51) (hp:=fun _=>[.dead,.arr 2 [[.nils,.nils]],.dead,.dead,.arr 5 (ndz t.nodes),.arr 2 [[.slc 4 0 t.nodes.length none,.rslc 1 (iz t.items) none]]]) (μ:=fun i=>t.nodes.length-i) 0 (by omega) ?_ rfl ?_
  ·simp[forget,gp]
  ·intro i hi
   by_cases hlt:i < t.nodes.length
   ·have d1:((i:Int) < (t.nodes.length:Int))=True:=Jo
    have hgi:=Kt hlt
    have hCk:=cloneF (nd t i).kids (by have:=(fitN ht hlt).kidn; omega)
    have hns:(ndz t.nodes).set i (nd t i).cv=ndz t.nodes:=set_same hlt
    unfold Nd.cv at hns
    simp -implicitDefEqProofs only[go_sem,d1]
    refine YL [(.all,.on []),(.all,.on []),(.all,.on []),(.all,.on []),(.all,.on []),(.all,.on []),(.all,.on []),(.all,.on []),(.all,.on []),Foot.no,(.all,.on []),(.all,.on []),Foot.any] Jz (by decide +kernel) ?_
    refine ⟨_,_,JdS (.inl rfl) rfl trivial,_,_,JdS (.inl rfl) rfl ⟨GH 1,G9 (Nat.zero_le 1)⟩,_,_,JdS (.inl rfl) rfl trivial,_,_,JdS (.inl rfl) rfl trivial,_,_,JdS (.inl rfl) rfl ⟨GH 1,G9 (Nat.zero_le 1)⟩,_,_,JdS (.inl rfl) rfl trivial,.ptr 4 i 0,_,JdS (c:=.idx (i:Int) t.nodes.length) (.inl rfl) ?_ ?_,_,_,JdS (.inl rfl) rfl trivial,.rslc 1 (iz (nd t i).kids) none,_,JdS (c:=.and (.le (i+1) t.nodes.length) (.le 4 5)) (.inl rfl) ?_ ?_,_,_,hs_f (.inl rfl) hCk,.ptr 4 i 0,_,JdS (c:=.idx (i:Int) t.nodes.length) (.inl rfl) ?_ ?_,_,_,JdS (.inl rfl) rfl trivial,.un,[.dead,.arr 2 [[.nils,.nils]],.dead,.dead,.arr 5 (ndz t.nodes),.arr 2 [[.slc 4 0 t.nodes.length none,.rslc 1 (iz t.items) none]]],hs_any (c:=.and (.le (i+1) t.nodes.length) (.le 4 5)) (.inl rfl) ?_ ?_,?_⟩
    ·simp -implicitDefEqProofs only[go_sem,Gv,Gc]
    ·exact ⟨by omega,by omega⟩
    ·simp -implicitDefEqProofs only[go_sem,Jc,hgi,Nd.cv,Gy,Gp]
    ·exact ⟨(by omega:i+1≤t.nodes.length),(by omega:4≤5)⟩
    ·simp -implicitDefEqProofs only[go_sem,Gv,Gc]
    ·exact ⟨by omega,by omega⟩
    ·simp -implicitDefEqProofs only[go_sem,Jc,hns,hgi,Nd.cv,Gy,Gp]
    ·exact ⟨(by omega:i+1≤t.nodes.length),(by omega:4≤5)⟩
    ·simp -implicitDefEqProofs only[vdf,go_sem]
     refine ⟨Jj,i+1,by omega,by omega,?_⟩
     simp[forget]
   ·have d1:((i:Int) < (t.nodes.length:Int))=False:=Jn
    simp -implicitDefEqProofs only[go_sem,d1]
    refine ⟨by simp[rRw],?_⟩
    refine Jdf (.inl rfl) hUs ?_
    simp -implicitDefEqProofs only[go_sem]
    have hur:∀ x∈usesL (ofL t o) (d:Int),0≤x∧x < t.nodes.length:=fun x hx=>by
     obtain ⟨j,hj,rfl⟩:=Gi.1 hx
     have:=Gh.1 (Gf.1 hj).1
     rw[Ql]at this
     omega
    have hul:=JeG (of:=ofL t o) (d:=(d:Int)) (i:=(ofL t o).length)
    rw[show Y6 (ofL t o) (d:Int) (ofL t o).length=usesL (ofL t o) (d:Int) from rfl,Ql]at hul
    have hq:XC t (YO (ofL t o) d) nm=XC t (fun i=>(usesL (ofL t o) (d:Int)++[(d:Int)]).contains (i:Int)) nm:=renT_ext fun i hi=>by
     unfold YO
     rw[G8,GV,beq_iff_eq,beq_iff_eq,Gm,Gt,GY]
     constructor
     ·rintro (h | h)
      ·exact .inl (Gi.2 ⟨i,Gf.2 ⟨Gh.2 (by rw[Ql]; exact hi),by simpa using h⟩,rfl⟩)
      ·exact .inr (by omega)
     ·rintro (h | h)
      ·obtain ⟨j,hj,hji⟩:=Gi.1 h
       obtain rfl:j=i:=by omega
       exact .inl (by simpa using (Gf.1 hj).2)
      ·exact .inr (by omega)
    rw[hq]at hRs ⊢
    generalize hU:usesL (ofL t o) (d:Int)=U at hur hul hRs ⊢
    have hLr:∀ x∈U++[(d:Int)],0≤x∧x < t.nodes.length:=fun x hx=>by
     rcases Gt.1 hx with h | h
     ·exact hur x h
     ·simp only[GY]at h; omega
    have hLl:(U++[(d:Int)]).length≤1500:=by simp only[GZ,Gy,Gp]; omega
    simp -implicitDefEqProofs only[go_sem,Jf,Jr]
    refine ⟨⟨by omega,by omega⟩,?_⟩
    have hLe:(U++[(d:Int)]).length=U.length+1:=by simp
    rw[← hLe,← Ka]
    generalize U++[(d:Int)]=L at hLr hLl hRs ⊢
    have hLe2:(iz L).length=L.length:=Jf
    obtain ⟨Z,hZ⟩:∃ Z:Nat→Tr,∀ k,Z k=XC t (fun i=>(L.take k).contains (i:Int)) nm:=⟨_,fun _=>rfl⟩
    have hZ0:(Z 0).nodes=t.nodes:=by rw[hZ]; simp only[Hm,List.contains_nil]; rw[renT_none]
    have hZl:∀ k,(Z k).nodes.length=t.nodes.length:=fun k=>by rw[hZ,XU]
    refine Jy (I:=fun k:Nat=>k≤L.length) (inv:=fun k=>gp [(2,S nm),(3,.ptr 1 0 0),(1,.rptr (rRw t (ofL t o))),(3,.ptr 5 0 0),(67,.slc 6 0 L.length none),(0,.int .i64 (L.length:Int)),(0,.int .i64 (k:Int))] 28) (hp:=fun k=>[.dead,.arr 2 [[.nils,.nils]],.dead,.dead,.arr 5 (ndz (Z k).nodes),.arr 2 [[.slc 4 0 t.nodes.length none,.rslc 1 (iz t.items) none]],.arr 1 (iz L)]) (μ:=fun k=>L.length-k) 0 [0,1,2,3,4,5,8] (by omega) rfl ?_ ?_ ?_
    ·simp[forget,JA,ren,Jl,gp,rRw]
    ·simp only[Ke,Gd,Gq,go_sem,Ji,Jh,Ja (Jd L),Ja (JL t.nodes),hZ0]
     simp[JA,ren,Jl]
    ·intro k hk
     by_cases hlk:k < L.length
     ·have d2:((k:Int) < (L.length:Int))=True:=Jo
      have hgk:=JP hlk
      have hx:=hLr (L.getD k 0) (by rw[Ga,Gb hlk]; exact Gl hlk)
      have htk:L.take (k+1)=L.take k++[L.getD k 0]:=by rw[List.take_succ_eq_append_getElem hlk,Ga,Gb hlk]; rfl
      generalize L.getD k 0=x at hgk hx htk
      obtain ⟨x,rfl⟩:∃ x':Nat,x=x':=⟨x.toNat,by omega⟩
      have hxl:x < t.nodes.length:=by omega
      have hgx:(ndz (Z k).nodes).getD x []=(nd (Z k) x).cv:=Kt (by rw[hZl]; exact hxl)
      have hst:(ndz (Z k).nodes).set x [.int .u8 (nd (Z k) x).k,S nm,.int .i64 (nd (Z k) x).n,.rslc 1 (iz (nd (Z k) x).kids) none,.int .i64 (nd (Z k) x).pl]=ndz (Z (k+1)).nodes:=by
       have h:=renT_set (t:=t) (q:=fun i=>(L.take k).contains (i:Int)) (s:=nm) hxl
       have h2:(renN nm (nd t x)).cv=[.int .u8 (nd (Z k) x).k,S nm,.int .i64 (nd (Z k) x).n,.rslc 1 (iz (nd (Z k) x).kids) none,.int .i64 (nd (Z k) x).pl]:=by
        rw[hZ,JbQ hxl]
        split <;> rfl
       rw[← h2,hZ k,hZ (k+1),h]
       congr 2
       refine renT_ext fun i hi=>?_
       rw[htk,G8,GV,Gm,Gm,Gt,GY,beq_iff_eq]
       constructor
       ·rintro (h | h)
        ·exact .inl h
        ·exact .inr (by omega)
       ·rintro (h | h)
        ·exact .inl h
        ·exact .inr (by omega)
      simp -implicitDefEqProofs only[go_sem,d2,hLe2,hgk,Jc,hZl,hgx,Nd.cv,Gv,Gc,splice,Gy,Gp]
      refine ⟨by omega,by omega,⟨by omega,by omega⟩,by omega,Jj,k+1,[0,1,2,3,4,5,6],by omega,by omega,rfl,?_,?_⟩
      ·rw[hst]
       simp only[Ke,Gd,Gq,go_sem,Ji,Jh,Ja (Jd L),Ja (JL (Z (k+1)).nodes)]
       simp[JA,ren,Jl]
      ·simp[forget,JA,ren,Jl,rRw]
     ·have d2:((k:Int) < (L.length:Int))=False:=Jn
      obtain rfl:k=L.length:=by omega
      have hZL:Z L.length=XC t (fun i=>L.contains (i:Int)) nm:=by rw[hZ,List.take_length]
      simp -implicitDefEqProofs only[go_sem,d2]
      refine Je (id:=4) (z:=5) (els:=ndz (Z L.length).nodes) rfl (JL _) ?_
      have hft:=List.take_of_length_le (l:=ndz (Z L.length).nodes) (i:=t.nodes.length) (by rw[Jc,hZl]; omega)
      simp only[go_sem,JS,Ki,frz,KP,Gd,Gq,G7,Gv,if_true,Jc,hZl,GH,hft,List.set_cons_succ,List.set_cons_zero,KE (Jd L)]
      rw[hZL]
      refine JR hRs ?_
      by_cases he:e=0
      ·rcases hX with ⟨_,_,h⟩ | ⟨⟨l,rfl⟩,rfl⟩
       ·exact absurd he h
       subst he
       have e00:((0:Int) != 0)=false:=rfl
       have hEq:=equalI of' (ofL t o) (hol' rfl)
       simp -implicitDefEqProofs only[go_sem,e00,rRw]
       refine JV (gok rfl) hEq ?_
       by_cases hoo:of'=ofL t o
       ·rw[if_pos hoo,show (of' == ofL t o)=true by simpa using hoo]
        simp -implicitDefEqProofs only[go_sem,Hr]
        exact .done (wk.refl _)
       ·rw[if_neg hoo,show (of' == ofL t o)=false by simpa using hoo]
        simp -implicitDefEqProofs only[go_sem,Bool.not_false]
        exact .done (wk.refl _)
      ·have e1:(e != 0)=true:=by simpa using he
       rw[if_neg fun h=>he h.1]
       rcases hX with ⟨rfl,rfl,_⟩ | ⟨⟨l,rfl⟩,rfl⟩
       all_goals
        simp -implicitDefEqProofs only[go_sem,e1,rRw]
        exact .done (wk.refl _)
end
end
section
structure KPerm (t:Tr) (l m:List Int):Prop where
 len:m.length=l.length
 perm:m.Perm l
 kind:∀ i,i < l.length→Jq t.nodes (m.getD i 0)=Jq t.nodes (l.getD i 0)∧(Jq t.nodes (l.getD i 0)≠41→m.getD i 0=l.getD i 0)
theorem KPerm.refl {t:Tr}{l:List Int}:KPerm t l l:=⟨rfl,.refl _,fun _ _=>⟨rfl,fun _=>rfl⟩⟩
theorem getD_app {α:Type}{a b:List α}{i:Nat}{d:α}(h:i < a.length):(a++b).getD i d=a.getD i d:=by
 rw[Ga,Ga,GL h]
section
variable {t:Tr}{o:List Int}(g:GoodT t o) {b:List Nat}
include g
end
end
section
theorem pigeon:∀ (m n:Nat) (f:Nat→Nat),(∀ i,i < n→f i < m)→(∀ i j,i < n→j < n→f i=f j→i=j)→n≤m
 |0,n,f,h,_=>by
  rcases Nat.eq_zero_or_pos n with h1 | h1
  ·omega
  ·have:=h 0 h1; omega
 |m+1,n,f,h,hi=>by
  by_cases he:∃ i,i < n∧f i=m
  ·obtain ⟨x,hx,hfx⟩:=he
   have:=pigeon m (n-1) (fun i=>f (if i < x then i else i+1)) (fun i h1=>by
    have hl:(if i < x then i else i+1) < n∧(if i < x then i else i+1)≠x:=by split <;> omega
    have h2:=h _ hl.1
    have h3:f (if i < x then i else i+1)≠m:=fun h3=>hl.2 (hi _ _ hl.1 hx (h3.trans hfx.symm))
    omega) (fun i j h1 h2 h3=>by
    have:=hi _ _ (show (if i < x then i else i+1) < n by split <;> omega) (show (if j < x then j else j+1) < n by split <;> omega) h3
    split at this <;> split at this <;> omega)
   omega
  ·have:=pigeon m n f (fun i h1=>by
    have h2:=h i h1
    have h3:f i≠m:=fun h3=>he ⟨i,h1,h3⟩
    omega) hi
   omega
theorem Jb6 {K:List (List Int)}{o:List Int}(h:Ordd K o) {j:Nat}{ks:List Int}(hj:K[j]? = some ks):(Km K []).getD j 0=Jew (Km K []) ks:=by
 have hlt:=(GK.1 hj).1
 have h1:=YG hj
 have hl:=Xi K []
 simp only[Gp,Gv]at hl
 rw[YF (by omega),YF (by omega)]at h1
 have h2:(Km K []).getD j 0=((Km K []).take (j+1)).getD j 0:=by
  rw[Ga,Ga,G5,if_pos (by omega)]
 rw[h2,h1,Ga,Gw (by rw[G6]; omega)]
 have h3:j-((Km K []).take j).length=0:=by rw[G6]; omega
 rw[h3]
 simp only[List.getElem?_cons_zero,GA]
 have h4:=Je1 (D:=Km K []) (D':=(Km K []).take j) (e:=0) ks fun k hk=>by
  have hr:=h.kid_rng hj hk
  rw[Int.add_zero,Ga,Ga,G5,if_pos (by omega)]
 simpa using h4
theorem ownD_perm {D D':List Int}{ks ls:List Int}{f:Int→Int}(hp:ls.Perm ks) (h:∀ k∈ls,D'.getD (f k).toNat 0=D.getD k.toNat 0):Jew D' (ls.map f)=Jew D ks:=by
 have h1:Jew D ks=Jew D ls:=by
  unfold Jew
  refine (List.Perm.foldl_eq' hp (fun x _ y _ z=>?_) 1).symm
  simp only[mx]
  repeat' split
  all_goals omega
 rw[h1]
 unfold Jew
 have key:∀ (l:List Int) (a:Int),(∀ k∈l,D'.getD (f k).toNat 0=D.getD k.toNat 0)→(l.map f).foldl (fun a k=>mx a (D'.getD k.toNat 0+1)) a=l.foldl (fun a k=>mx a (D.getD k.toNat 0+1)) a:=by
  intro l
  induction l with
  |nil=>intro a _; rfl
  |cons k l ih=>
   intro a h
   rw[Gd,Hl,Hl,h k (by simp)]
   exact ih _ fun x hx=>h x (by simp[hx])
 exact key ls 1 h
section
variable {t:Tr}{o:List Int}(g:GoodT t o) {b:List Nat}
include g
end
end
section
section
variable {t:Tr}{o:List Int}(g:GoodT t o)
include g
omit g in
theorem JbP {q:Nat→Bool}{s:List UInt8}{i:Nat}(h:i < t.nodes.length):(nd (XC t q s) i).k=(nd t i).k∧(nd (XC t q s) i).kids=(nd t i).kids∧(nd (XC t q s) i).n=(nd t i).n∧(nd (XC t q s) i).pl=(nd t i).pl:=by
 rw[JbQ h]; split <;> exact ⟨rfl,rfl,rfl,rfl⟩
omit g in
theorem renT_kids {q:Nat→Bool}{s:List UInt8}:Js (XC t q s).nodes=Js t.nodes:=by
 unfold Js
 refine GD (by simp[XU]) fun i h1 h2=>?_
 simp only[GN]at h1 h2
 have h3:=JbP (t:=t) (q:=q) (s:=s) h2
 unfold nd at h3
 rw[Ga,Ga,Gb h1,Gb h2]at h3
 rw[Gz,Gz]
 exact h3.2.1
omit g in
theorem Jds {q:Nat→Bool}{s:List UInt8}{c:Int}(h:c.toNat < t.nodes.length):Jq (XC t q s).nodes c=Jq t.nodes c:=(JbP (t:=t) (q:=q) (s:=s) h).1
theorem ren_good {q:Nat→Bool}{s:List UInt8}(hs:Jac s=true) (hq:∀ i,i < t.nodes.length→q i=true→Kh (nd t i).k=true∨JJ t i=true):GoodT (XC t q s) o:=by
 have hl:=XU (t:=t) (q:=q) (s:=s)
 refine ⟨by rw[hl]; exact g.many,g.items,by rw[renT_kids]; exact g.ord,by rw[hl]; exact g.its,fun i hi=>?_,fun x hx=>?_,by rw[renT_kids]; exact g.deep⟩
 ·have:=g.itr hi
  rw[Jds (by omega)]
  exact g.defs i hi
 ·obtain ⟨i,hi,rfl⟩:=Gx hx
  rw[hl]at hi
  have e:(XC t q s).nodes[i]=nd (XC t q s) i:=by
   unfold nd; rw[Ga,Gb (by rw[hl]; exact hi)]; rfl
  have hn:=g.nds (nd t i) (by unfold nd; rw[Ga,Gb hi]; exact Gl hi)
  have h4:=JbP (t:=t) (q:=q) (s:=s) hi
  have hlet:lets (XC t q s).nodes (nd (XC t q s) i)=lets t.nodes (nd t i):=by
   unfold lets
   rw[h4.2.1]
   refine Gr fun k hk=>?_
   have:=g.kid hi hk
   rw[Jds (by omega)]
  rw[e]
  unfold ndI at hn ⊢
  rw[hlet,h4.1,h4.2.2.1,h4.2.2.2]
  rw[JbQ hi]
  split
  ·rename_i h
   have hk:=hq i hi h
   have hk2:(nd t i).k=3∨(nd t i).k=26∨(nd t i).k=42∨(nd t i).k=43∨(nd t i).k=44∨(nd t i).k=47∨(nd t i).k=64∨(nd t i).k=65:=by
    unfold Kh JJ at hk
    simp only[GV,beq_iff_eq]at hk
    omega
   unfold J3 Qy at hn ⊢
   rw[if_pos hk2]at hn ⊢
   simp only[Gg]at hn ⊢
   exact ⟨⟨hn.1.1,⟨hs,hn.1.2.2⟩⟩,hn.2⟩
  ·exact hn
omit g in
theorem YN {d i:Nat}(hi:i < t.nodes.length):YO (ofL t o) d i=true↔JO t o i=d∨i=d:=by
 unfold YO
 rw[Jcu hi,GV,beq_iff_eq,beq_iff_eq]
omit g in
theorem ren_ok {d:Nat}(hd:d < t.nodes.length) (hdc:Kh (nd t d).k=true) {i:Nat}(hi:i < t.nodes.length) (h:YO (ofL t o) d i=true):Kh (nd t i).k=true∨JJ t i=true:=by
 rcases (YN hi).1 h with h | rfl
 ·refine .inr ?_
  cases hs:JJ t i with
  |true=>rfl
  |false=>
   unfold JJ at hs
   simp only[Hq,beq_eq_false_iff_ne]at hs
   unfold JO at h
   rw[if_neg hs.1.1,if_neg hs.1.2,if_neg hs.2]at h
   omega
 ·exact .inl hdc
theorem Jaw (c:Clear t o) {j d:Nat}(hj:j < t.nodes.length) (h:JO t o j=d):(nd t d).text=(nd t j).text∧Kh (nd t d).k=true∧JJ t j=true∧d < t.nodes.length:=by
 have hr:=Jc7 (t:=t) (o:=o) (i:=j)
 by_cases h3:(nd t j).k=3
 ·have h1:=(JdG g c hj h3).1 h
  exact ⟨h1.2,(Jck g hj (by omega) h1.1).2.1,by unfold JJ; rw[h3]; rfl,by omega⟩
 by_cases h26:(nd t j).k=26
 ·have h1:=(JdH c hj h26).1 h
  exact ⟨h1.2.1,by rw[h1.2.2]; decide,by unfold JJ; rw[h26]; rfl,by omega⟩
 by_cases h44:(nd t j).k=44
 ·have h1:=(JdF g c hj h44).1 h
  exact ⟨h1.2.1,by rw[h1.2.2.1]; decide,by unfold JJ; rw[h44]; rfl,by omega⟩
 unfold JO at h
 rw[if_neg h3,if_neg h26,if_neg h44]at h
 omega
omit g in
theorem Jdk {k:Nat}(h:Kh k=true):¬ (k=3∨k=26∨k=44):=by
 rintro (rfl | rfl | rfl) <;> exact absurd h (by decide)
theorem ren_res (hE:(Xa t o).2=0) {d:Nat}(hd:d < t.nodes.length) (hdc:Kh (nd t d).k=true) {s:List UInt8}(hs:Jac s=true) (hfr:∀ i,i < t.nodes.length→(nd t i).text≠s) :
  GoodT (XC t (YO (ofL t o) d) s) o∧(Xa (XC t (YO (ofL t o) d) s) o).2=0∧ofL (XC t (YO (ofL t o) d) s) o=ofL t o:=by
 have c:=Jdc hE
 have gu:=ren_good g (q:=YO (ofL t o) d) hs fun i hi h=>ren_ok (o:=o) hd hdc hi h
 have hl:=XU (t:=t) (q:=YO (ofL t o) d) (s:=s)
 have htx:∀ i,i < t.nodes.length→(nd (XC t (YO (ofL t o) d) s) i).text=if YO (ofL t o) d i=true then s else (nd t i).text:=fun i hi=>by
  rw[JbQ hi]; split <;> rfl
 have hold:∀ i,i < t.nodes.length→YO (ofL t o) d i=true→(nd t i).text=(nd t d).text:=fun i hi h=>by
  rcases (YN hi).1 h with h | rfl
  ·exact (Jaw g c hi h).1.symm
  ·rfl
 have hm:TMap (XC t (YO (ofL t o) d) s) t (fun i=>i):=by
  refine ⟨fun j hj=>by rw[hl]at hj; exact hj,fun _ _ _ _ h=>h,fun j hj=>?_,fun i j hi hj h=>?_,fun j hj=>?_,fun j hj c hc=>?_,fun j hj c hc=>?_,fun j hj _ _ i hi=>?_⟩
  ·rw[hl]at hj; exact (JbP hj).1.symm
  ·rw[hl]at hi hj
   rw[htx i hi,htx j hj]at h
   by_cases h1:YO (ofL t o) d i=true <;> by_cases h2:YO (ofL t o) d j=true
   ·rw[hold i hi h1,hold j hj h2]
   ·rw[if_pos h1,if_neg h2]at h; exact absurd h.symm (hfr j hj)
   ·rw[if_neg h1,if_pos h2]at h; exact absurd h (hfr i hi)
   ·rw[if_neg h1,if_neg h2]at h; exact h
  ·rw[hl]at hj; rw[(JbP hj).2.1]
  ·rw[hl]at hj; rw[(JbP hj).2.1]at hc; exact hc
  ·rw[hl]at hj; exact ⟨c,by rw[(JbP hj).2.1]; exact hc,rfl⟩
  ·rw[hl]at hj; unfold YC; rw[(JbP hj).2.1]
 obtain ⟨h1,h2⟩:=tm_res gu g hm hE (fun j hj _ L hL=>by
  rw[hl]at hj ⊢
  exact ⟨L,(Jaw g c hj hL).2.2.2,rfl⟩) (fun j e hj he hsj hme=>by
  rw[hl]at hj he
  have hT:=Jaw g c hj hme
  have hke:¬ ((nd t e).k=3∨(nd t e).k=26∨(nd t e).k=44):=Jdk hT.2.1
  have hje:j≠d:=fun h=>by
   subst h
   have:=hT.2.2.1
   unfold JJ at this
   exact Jdk hdc (by simpa [or_assoc]using this)
  have hme2:∀ x:Nat,JO t o e≠x:=fun x hx=>by
   have:=(Jaw g c he hx).2.2.1
   unfold JJ at this
   exact hke (by simpa [or_assoc]using this)
  rw[htx j hj,htx e he]
  by_cases hed:e=d
  ·subst hed
   rw[if_pos ((YN he).2 (.inr rfl)),if_pos ((YN hj).2 (.inl hme))]
  ·rw[if_neg fun h=>by
    rcases (YN he).1 h with h | h
    ·exact hme2 d h
    ·exact hed h,if_neg fun h=>by
    rcases (YN hj).1 h with h | h
    ·rw[hme]at h; exact hed (by omega)
    ·exact hje h]
   exact hT.1)
 refine ⟨gu,h1,?_⟩
 have e:ofL (XC t (YO (ofL t o) d) s) o=(Gj t.nodes.length).map fun i=>JO (XC t (YO (ofL t o) d) s) o i:=by unfold ofL; rw[show (XC t (YO ((Gj t.nodes.length).map fun i=>JO t o i) d) s).nodes.length=t.nodes.length from XU]
 rw[e]
 show _=(Gj t.nodes.length).map fun i=>JO t o i
 refine Gr fun i hi=>?_
 rcases h2 i (by rw[hl]; exact Gh.1 hi) with ⟨a,b⟩ | ⟨e,_,a,b⟩
 ·rw[a,b]
 ·rw[a,b]
theorem ren_back (hE:(Xa t o).2=0) {d:Nat}{s:List UInt8}:XC (XC t (YO (ofL t o) d) s) (YO (ofL t o) d) (nd t d).text=t:=by
 have c:=Jdc hE
 unfold XC
 have:t.nodes=(Gj t.nodes.length).map (nd t):=by
  refine GD (by simp) fun i h1 h2=>?_
  rw[Gz,GM]
  unfold nd
  rw[Ga,Gb h1]; rfl
 have key:(Gj (XC t (YO (ofL t o) d) s).nodes.length).map (fun i=>if YO (ofL t o) d i=true then renN (nd t d).text (nd (XC t (YO (ofL t o) d) s) i) else nd (XC t (YO (ofL t o) d) s) i)=t.nodes:=by
  rw[XU]
  conv=>rhs; rw[this]
  refine Gr fun i hi=>?_
  have hi:=Gh.1 hi
  rw[JbQ hi]
  split
  ·rename_i h
   have ht:(nd t d).text=(nd t i).text:=by
    rcases (YN hi).1 h with h | rfl
    ·exact (Jaw g c hi h).1
    ·rfl
   unfold renN
   rw[ht]
  ·rfl
 have e:=congrArg (fun l=>(⟨l,t.items⟩:Tr)) key
 exact e
end
end
section
section
variable {t:Tr}{o:List Int}(g:GoodT t o) (ht:t.Fit)
include g ht
end
end
section
theorem Jfr {o o':List Int}{m n:Nat}(hl:o.length=m) (hm:m≤n):∀ (l:List Int) (a e:Int),chain o m a l e→chain (o++o') n a l e
 |[],a,e,h=>h
 |i::l,a,e,h=>by
  simp only[chain]at h ⊢
  refine ⟨⟨h.1.1,by omega,?_⟩,Jfr hl hm l _ _ h.2⟩
  rw[getD_app (by omega)]
  exact h.1.2.2
theorem Jeb {o o':List Int}{m n:Nat}(hl:o.length=m) (hl2:o'.length=n):∀ (l:List Int) (a e:Int),chain o' n a l e→chain (o++o'.map (· + (m:Int))) (m+n) (a+m) (l.map (· + (m:Int))) (e+m)
 |[],a,e,h=>by simp only[chain]at h; subst h; simp[chain]
 |i::l,a,e,h=>by
  simp only[chain]at h
  obtain ⟨⟨h1,h2,h3⟩,h4⟩:=h
  have ih:=Jeb hl hl2 l _ _ h4
  rw[Gd]
  simp only[chain]
  refine ⟨⟨by omega,by omega,?_⟩,by rw[show i+(m:Int)+1=i+1+m by omega]; exact ih⟩
  rw[show (i+(m:Int)).toNat=m+i.toNat by omega,Ga,Gw (by omega),show m+i.toNat-o.length=i.toNat by omega,Gs,Gb (show i.toNat < o'.length by omega)]
  rw[Ga,Gb (show i.toNat < o'.length by omega)]at h3
  simp only[Ht,GA]at h3 ⊢
  omega
section
variable {a b:Tr}{oa ob:List Int}(ga:GoodT a oa) (gb:GoodT b ob)
include ga gb
omit ga gb in
theorem X7:(Qa a b).nodes.length=a.nodes.length+b.nodes.length:=by simp[Qa]
omit ga gb in
theorem JbX {j:Nat}(hj:j < a.nodes.length):nd (Qa a b) j=nd a j:=by
 unfold nd Qa
 exact getD_app hj
omit ga gb in
theorem Ja0 {j:Nat}(hj:j < b.nodes.length):nd (Qa a b) (a.nodes.length+j)=mvN a.nodes.length (nd b j):=by
 unfold nd Qa
 simp only
 rw[Ga,Gw (by omega),show a.nodes.length+j-a.nodes.length=j by omega,Gs,Gb hj,Ga,Gb hj]
 rfl
omit ga gb in
theorem join_kidsR {j:Nat}{ks:List Int}(hj:(Js (Qa a b).nodes)[a.nodes.length+j]? = some ks):j < b.nodes.length∧ks=(nd b j).kids.map (· + (a.nodes.length:Int)):=by
 have hl:=(GK.1 hj).1
 rw[Ko,X7]at hl
 have h1:j < b.nodes.length:=by omega
 have h2:=JK (l:=(Qa a b).nodes) (i:=a.nodes.length+j) (by rw[X7]; omega)
 rw[h2]at hj
 refine ⟨h1,?_⟩
 have h3:((Qa a b).nodes.getD (a.nodes.length+j) default)=mvN a.nodes.length (nd b j):=Ja0 h1
 rw[h3]at hj
 exact (Gu hj).symm
theorem join_ord:Ordd (Js (Qa a b).nodes) (oa++ob.map (· + (a.nodes.length:Int))):=by
 have la:=ga.olen
 have lb:=gb.olen
 refine ⟨Jfl (by rw[Ko,X7,GZ,GN]; omega) fun j ks hj=>?_⟩
 rcases Hd j a.nodes.length with h | h
 ·have h2:=JK (l:=(Qa a b).nodes) (i:=j) (by rw[X7]; omega)
  rw[h2]at hj
  have h3:(Qa a b).nodes.getD j default=nd a j:=JbX h
  rw[h3]at hj
  obtain ⟨f,hf,hb⟩:=Q0 ga.ord.h (JK h)
  have e:ks=(nd a j).kids:=(Gu hj).symm
  rw[e]
  refine ⟨f,by rw[GL (by omega)]; exact hf,?_⟩
  rw[Ja8 ga.ord.ok _ _ (by omega)]
  exact hb
 ·obtain ⟨i,rfl⟩:∃ i,j=a.nodes.length+i:=⟨j-a.nodes.length,by omega⟩
  obtain ⟨hi,rfl⟩:=join_kidsR hj
  obtain ⟨f,hf,hb⟩:=Q0 gb.ord.h (JK hi)
  refine ⟨f+a.nodes.length,?_,?_⟩
  ·rw[Gw (by omega),show a.nodes.length+i-oa.length=i by omega,Gs,hf]; rfl
  ·have key:∀ (l:List Int) (c:Int),c < ob.length→Qd (oa++ob.map (· + (a.nodes.length:Int))) (l.map (· + (a.nodes.length:Int))) (c+a.nodes.length)=if (∀ k∈l,0≤k) then (Qd ob l c).map (· + (a.nodes.length:Int)) else Qd (oa++ob.map (· + (a.nodes.length:Int))) (l.map (· + (a.nodes.length:Int))) (c+a.nodes.length):=by
    intro l
    induction l with
    |nil=>intro c _; rw[if_pos (by simp)]; rfl
    |cons k l ih=>
     intro c hc
     by_cases hk:∀ x∈k::l,0≤x
     ·rw[if_pos hk]
      have hk0:=hk k (by simp)
      simp only[Gd,Qd]
      by_cases h5:c < 0∨k≠c
      ·rw[if_pos h5,if_pos (by omega)]; rfl
      ·have hkc:k=c:=by omega
       subst hkc
       have hkl:k.toNat < ob.length:=by omega
       have hv:=gb.ord.ok k.toNat ob[k.toNat] (Gb hkl)
       have e1:(oa++ob.map (· + (a.nodes.length:Int))).getD (k+(a.nodes.length:Int)).toNat 0=ob.getD k.toNat 0+a.nodes.length:=by
        rw[show (k+(a.nodes.length:Int)).toNat=a.nodes.length+k.toNat by omega,Ga,Gw (by omega),show a.nodes.length+k.toNat-oa.length=k.toNat by omega,Gs,Ga,Gb hkl]
        rfl
       have e2:ob.getD k.toNat 0=ob[k.toNat]:=by rw[Ga,Gb hkl]; rfl
       rw[if_neg h5,if_neg (by omega),e1,show ob.getD k.toNat 0+(a.nodes.length:Int)-1=ob.getD k.toNat 0-1+a.nodes.length by omega,ih _ (by rw[e2]; omega),if_pos fun x hx=>hk x (by simp[hx])]
     ·rw[if_neg hk]
   have h6:=key (nd b i).kids.reverse ((i:Int)-1) (by omega)
   have hc:∀ k∈(nd b i).kids.reverse,0≤k:=fun k hk=>(gb.kid hi (List.mem_reverse.1 hk)).1
   rw[if_pos hc]at h6
   change Qd ob (nd b i).kids.reverse ((i:Int)-1)=some (f-1) at hb
   rw[hb,List.map_reverse]at h6
   rw[show (((a.nodes.length+i:Nat)):Int)-1=(i:Int)-1+a.nodes.length by omega,h6]
   simp only[Ht,Option.some.injEq]
   omega
theorem join_good (hn:a.nodes.length+b.nodes.length≤700) (hi:a.items.length+b.items.length≤20):GoodT (Qa a b) (oa++ob.map (· + (a.nodes.length:Int))):=by
 have la:=ga.olen
 have lb:=gb.olen
 have hl:=X7 (a:=a) (b:=b)
 have hO:=join_ord ga gb
 have kL:∀ k:Int,0≤k→k < a.nodes.length→Jq (Qa a b).nodes k=Jq a.nodes k:=fun k h1 h2=>congrArg Nd.k (JbX (j:=k.toNat) (by omega))
 have kR:∀ k:Int,0≤k→k < b.nodes.length→Jq (Qa a b).nodes (k+a.nodes.length)=Jq b.nodes k:=fun k h1 h2=>by
  have:=congrArg Nd.k (Ja0 (a:=a) (b:=b) (j:=k.toNat) (by omega))
  unfold Jq
  rw[show (k+(a.nodes.length:Int)).toNat=a.nodes.length+k.toNat by omega]
  exact this
 refine ⟨by omega,by simp[Qa]; omega,hO,?_,?_,?_,?_⟩
 ·rw[hl]
  unfold Qa
  simp only
  rw[Jec]
  refine ⟨a.nodes.length,Jfr la (by omega) _ _ _ ga.its,?_⟩
  have:=Jeb la lb _ _ _ gb.its
  rw[Int.zero_add,show (b.nodes.length:Int)+a.nodes.length=((a.nodes.length+b.nodes.length:Nat):Int) by omega]at this
  exact this
 ·intro i h
  unfold Qa at h
  simp only[Gt,Gi]at h
  rcases h with h | ⟨k,h,rfl⟩
  ·have:=ga.itr h
   rw[kL i (by omega) (by omega)]; exact ga.defs i h
  ·have:=gb.itr h
   rw[kR k (by omega) (by omega)]; exact gb.defs k h
 ·intro x hx
  unfold Qa at hx
  simp only[Gt,Gi]at hx
  rcases hx with hx | ⟨y,hy,rfl⟩
  ·have hn:=ga.nds x hx
   have:lets (Qa a b).nodes x=lets a.nodes x:=by
    unfold lets
    refine Gr fun k hk=>?_
    have:=ga.kidr hx hk
    rw[kL k (by omega) (by omega)]
   unfold ndI at hn ⊢
   rw[this]; exact hn
  ·have hn:=gb.nds y hy
   have:lets (Qa a b).nodes (mvN a.nodes.length y)=lets b.nodes y:=by
    unfold lets mvN
    simp only[Ho]
    refine Gr fun k hk=>?_
    have:=gb.kidr hy hk
    simp only[Function.comp_apply]
    rw[kR k (by omega) (by omega)]
   unfold ndI at hn ⊢
   rw[this]; exact hn
 ·have dl:=Xi (Js (Qa a b).nodes) []
  have dla:=Xi (Js a.nodes) []
  have dlb:=Xi (Js b.nodes) []
  simp only[Gp,Gv,Ko]at dl dla dlb
  have dL:∀ j:Nat,j < a.nodes.length→(Km (Js (Qa a b).nodes) []).getD j 0=(Km (Js a.nodes) []).getD j 0:=by
   intro j
   induction j using GG with
   |ind j ih=>
    intro hj
    rw[Jb6 hO (JK (by omega)),Jb6 ga.ord (JK hj)]
    have h3:(Qa a b).nodes.getD j default=nd a j:=JbX hj
    rw[h3]
    have:=ownD_perm (D:=Km (Js a.nodes) []) (D':=Km (Js (Qa a b).nodes) []) (f:=fun k=>k) (List.Perm.refl (nd a j).kids) fun k hk=>by
     have h4:=ga.kid hj hk
     exact ih k.toNat (by omega) (by omega)
    rw[List.map_id']at this
    exact this
  have dR:∀ j:Nat,j < b.nodes.length→(Km (Js (Qa a b).nodes) []).getD (a.nodes.length+j) 0=(Km (Js b.nodes) []).getD j 0:=by
   intro j
   induction j using GG with
   |ind j ih=>
    intro hj
    rw[Jb6 hO (JK (by omega)),Jb6 gb.ord (JK hj)]
    have h3:(Qa a b).nodes.getD (a.nodes.length+j) default=mvN a.nodes.length (nd b j):=Ja0 hj
    rw[h3]
    refine ownD_perm (List.Perm.refl (nd b j).kids) fun k hk=>?_
    have h4:=gb.kid hj hk
    rw[show (k+(a.nodes.length:Int)).toNat=a.nodes.length+k.toNat by omega]
    exact ih k.toNat (by omega) (by omega)
  intro v hv
  obtain ⟨j,hj,rfl⟩:=Gx hv
  have h1:(Km (Js (Qa a b).nodes) [])[j]=(Km (Js (Qa a b).nodes) []).getD j 0:=by rw[Ga,Gb hj]; rfl
  rw[h1]
  rcases Hd j a.nodes.length with h | h
  ·rw[dL j h]
   exact ga.deep _ (by rw[Ga,Gb (by omega)]; exact Gl _)
  ·obtain ⟨i,rfl⟩:∃ i,j=a.nodes.length+i:=⟨j-a.nodes.length,by omega⟩
   rw[dR i (by omega)]
   exact gb.deep _ (by rw[Ga,Gb (by omega)]; exact Gl _)
end
end
section
def Qr (t:Tr) (o:List Int) (dead:Nat→Bool):Nat→Tr
 |0=>noT
 |k+1=>if dead k=true then Qr t o dead k else Qa (Qr t o dead k) (JcD o t k)
def JcQ (t:Tr) (dead:Nat→Bool):Nat→List Nat
 |0=>[]
 |k+1=>if dead k=true then JcQ t dead k else JcQ t dead k++(Gj (Xz t (k+1)-Xz t k)).map (· + Xz t k)
theorem noT_good:GoodT noT []:=⟨by simp[noT],by simp[noT],⟨rfl⟩,by simp[noT,chain],fun i hi=>by simp[noT]at hi,fun x hx=>by simp[noT]at hx,fun v hv=>by simp[noT,Js,Km]at hv⟩
section
variable {t:Tr}{o:List Int}(g:GoodT t o) (dead:Nat→Bool)
structure LvI (k:Nat):Prop where
 good:∃ p,GoodT (Qr t o dead k) p
 len:(Qr t o dead k).nodes.length=(JcQ t dead k).length
 its:(Qr t o dead k).items.length≤k
 nds:∀ j x:Nat,(JcQ t dead k)[j]? = some x→nd (Qr t o dead k) j=mvN ((j:Int)-x) (nd t x)
 blk:∀ j x:Nat,(JcQ t dead k)[j]? = some x→∃ i,i < k∧dead i=false∧Xz t i≤x∧x < Xz t (i+1)∧∀ y,Xz t i≤y→y < Xz t (i+1)→x≤j+y∧(JcQ t dead k)[j+y-x]? = some y
 asc:(JcQ t dead k).Pairwise (· < ·)
 lt:∀ x∈JcQ t dead k,x < Xz t k
 on:∀ i,i < k→dead i=false→∀ x,Xz t i≤x→x < Xz t (i+1)→x∈JcQ t dead k
include g
theorem lv_inv:∀ k,k≤t.items.length→LvI (t:=t) (o:=o) dead k
 |0,_=>⟨⟨[],noT_good⟩,rfl,by simp[Qr,noT],fun j x h=>by simp[JcQ]at h,fun j x h=>by simp[JcQ]at h,by simp[JcQ],fun x h=>by simp[JcQ]at h,fun i h=>by omega⟩
 |k+1,hk=>by
  obtain ⟨⟨p,gp⟩,l1,i1,n1,b1,a1,t1,o1⟩:=lv_inv k (by omega)
  obtain ⟨L,hL,hF,hFL,hLn,hE⟩:=JcA g (i:=k) (by omega)
  have hmono:Xz t k≤Xz t (k+1):=by omega
  cases hd:dead k with
  |true=>
   have e1:Qr t o dead (k+1)=Qr t o dead k:=by rw[Qr,if_pos hd]
   have e2:JcQ t dead (k+1)=JcQ t dead k:=by rw[JcQ,if_pos hd]
   refine ⟨by rw[e1]; exact ⟨p,gp⟩,by rw[e1,e2]; exact l1,by rw[e1]; omega,by rw[e1,e2]; exact n1,fun j x h=>?_,by rw[e2]; exact a1,fun x hx=>?_,fun i hi hdi x h2 h3=>?_⟩
   ·rw[e2]at h ⊢
    obtain ⟨i,q1,q2⟩:=b1 j x h
    exact ⟨i,by omega,q2⟩
   ·rw[e2]at hx; have:=t1 x hx; omega
   ·rw[e2]
    by_cases he:i=k
    ·subst he; rw[hd]at hdi; cases hdi
    ·exact o1 i (by omega) hdi x h2 h3
  |false=>
   have e1:Qr t o dead (k+1)=Qa (Qr t o dead k) (JcD o t k):=by rw[Qr,if_neg (by rw[hd]; simp)]
   have e2:JcQ t dead (k+1)=JcQ t dead k++(Gj (Xz t (k+1)-Xz t k)).map (· + Xz t k):=by rw[JcQ,if_neg (by rw[hd]; simp)]
   obtain ⟨q,gq⟩:=Jgv g (i:=k) (by omega)
   have hcl:(JcD o t k).nodes.length=Xz t (k+1)-Xz t k:=by
    unfold JcD
    simp only[hL,hF,GN,G6,List.length_drop,Gc]
    omega
   have hcg:∀ i,i < Xz t (k+1)-Xz t k→nd (JcD o t k) i=mvN (-(Xz t k:Int)) (nd t (Xz t k+i)):=fun i hi=>by
    unfold JcD nd
    simp only[hL,hF,Gc]
    rw[Ga,Gs,G5,if_pos (by omega),List.getElem?_drop,Gb (by omega),Ga,Gb (by omega)]
    rfl
   have hci:(JcD o t k).items.length=1:=rfl
   have hol:(JcQ t dead k).length≤Xz t k:=by
    have h:=pigeon (Xz t k) (JcQ t dead k).length (fun i=>(JcQ t dead k).getD i 0) (fun i hi=>t1 _ (by rw[Ga,Gb hi]; exact Gl hi)) (fun i j hi hj h=>by
     simp only[Ga,Gb hi,Gb hj,GA]at h
     rcases GX i j with h2 | h2 | h2
     ·have:=GI.1 a1 i j hi hj h2; omega
     ·exact h2
     ·have:=GI.1 a1 j i hj hi h2; omega)
    exact h
   have hmany:=g.many
   have hits:=g.items
   have hel:=endI_le g (i:=k+1) (by omega)
   generalize hB:Qr t o dead k=B at *
   generalize JcQ t dead k=O at *
   have hnew:∀ j,(O++(Gj (Xz t (k+1)-Xz t k)).map (· + Xz t k))[j]? = if j < O.length then O[j]? else if j-O.length < Xz t (k+1)-Xz t k then some (j-O.length+Xz t k) else none:=fun j=>by
    by_cases h:j < O.length
    ·rw[if_pos h,GL h]
    ·rw[if_neg h,Gw (by omega),Gs]
     by_cases h2:j-O.length < Xz t (k+1)-Xz t k
     ·rw[if_pos h2,List.getElem?_range h2]; rfl
     ·rw[if_neg h2,List.getElem?_eq_none (by simp; omega)]; rfl
   refine ⟨⟨_,by rw[e1]; exact join_good gp gq (by omega) (by omega)⟩,by rw[e1,e2,X7,GZ,GN,List.length_range]; omega,by rw[e1]; simp[Qa,JcD]; omega,fun j x h=>?_,fun j x h=>?_,?_,fun x hx=>?_,fun i hi hdi x h2 h3=>?_⟩
   ·rw[e2,hnew]at h
    rw[e1]
    split at h
    ·rename_i hj
     rw[JbX (by omega)]
     exact n1 j x h
    ·rename_i hj
     split at h
     ·rename_i hj2
      have hx:=Gu h
      have hj3:j=B.nodes.length+(j-O.length):=by omega
      rw[hj3,Ja0 (by omega),hcg _ hj2]
      have hx2:Xz t k+(j-O.length)=x:=by omega
      rw[hx2]
      unfold mvN
      simp only[Nd.mk.injEq,true_and,and_true,Ho]
      refine Gr fun c _=>?_
      simp only[Function.comp_apply]
      omega
     ·cases h
   ·rw[e2]
    rw[e2,hnew]at h
    split at h
    ·rename_i hj
     obtain ⟨i,q1,q2,q3,q4,q5⟩:=b1 j x h
     refine ⟨i,by omega,q2,q3,q4,fun y h1 h2=>?_⟩
     obtain ⟨r1,r2⟩:=q5 y h1 h2
     refine ⟨r1,?_⟩
     rw[GL (GK.1 r2).1]
     exact r2
    ·rename_i hj
     split at h
     ·rename_i hj2
      have hx:=Gu h
      refine ⟨k,by omega,hd,by omega,by omega,fun y h1 h2=>⟨by omega,?_⟩⟩
      rw[hnew,if_neg (by omega),if_pos (by omega)]
      congr 1
      omega
     ·cases h
   ·rw[e2,List.pairwise_append]
    refine ⟨a1,?_,fun x hx y hy=>?_⟩
    ·rw[List.pairwise_map]
     exact List.pairwise_lt_range.imp fun h=>by omega
    ·obtain ⟨z,hz,rfl⟩:=Gi.1 hy
     have:=t1 x hx
     omega
   ·rw[e2,Gt]at hx
    rcases hx with hx | hx
    ·have:=t1 x hx; omega
    ·obtain ⟨z,hz,rfl⟩:=Gi.1 hx
     have:=Gh.1 hz
     omega
   ·rw[e2,Gt]
    by_cases he:i=k
    ·subst he
     exact .inr (Gi.2 ⟨x-Xz t i,Gh.2 (by omega),by omega⟩)
    ·exact .inl (o1 i (by omega) hdi x h2 h3)
theorem kid_blk {i x:Nat}(hi:i < t.items.length) (h1:Xz t i≤x) (h2:x < Xz t (i+1)) {c:Int}(hc:c∈(nd t x).kids):(Xz t i:Int)≤c∧c < Xz t (i+1):=by
 obtain ⟨L,hL,hF,hFL,hLn,hE⟩:=JcA g hi
 have hx:x < t.nodes.length:=by omega
 have h3:=g.ord.nest L x (by rw[Ko]; exact hLn) (by omega) (by rw[hF]; omega) (by omega)
 rw[hF]at h3
 have h4:=g.kid hx hc
 obtain ⟨c,rfl⟩:∃ c':Nat,c=c':=⟨c.toNat,by omega⟩
 have h5:=(Qm g hx hc).2
 have h6:=(fs_le g (a:=c) (by omega)).2
 have h7:=(Yn g (a:=c) (by omega))
 have h8:fs o x≤fs o c:=by
  have:=g.ord.nest x c (by rw[Ko]; exact hx) (by omega) h5 (by omega)
  exact this
 have:=(fs_le g (a:=c) (by omega)).1
 exact ⟨by omega,by omega⟩
theorem blk_item {i x:Nat}(hi:i < t.items.length) (h1:Xz t i≤x) (h2:x < Xz t (i+1)):J5 t x=i:=by
 obtain ⟨L,hL,hF,hFL,hLn,hE⟩:=JcA g hi
 have hg:t.items[i]? = some (L:Int):=by rw[Gb hi,← hL,Ga,Gb hi]; rfl
 have hb:Jae o x L=true:=Kr.2 ⟨by omega,by rw[hF]; omega⟩
 rw[item_in g (by omega) hg,beq_iff_eq]at hb
 exact hb
theorem YW {x:Nat}(hx:x < t.nodes.length):J5 t x < t.items.length∧Xz t (J5 t x)≤x∧x < Xz t (J5 t x+1):=by
 obtain ⟨k,L,h1,h2,h3,_,h5,h6⟩:=YV g hx
 obtain ⟨L',hL,_,_,_,hE⟩:=JcA g h1
 have:L'=L:=by
  have e:t.items.getD k 0=(L:Int):=by rw[Ga,h2]; rfl
  omega
 rw[h3]
 exact ⟨h1,h5,by omega⟩
theorem lv_map:∃ (p:List Int) (ψ:Nat→Nat),GoodT (Qr t o dead t.items.length) p∧TMap (Qr t o dead t.items.length) t ψ∧(∀ j,j < (Qr t o dead t.items.length).nodes.length→(nd t (ψ j)).text=(nd (Qr t o dead t.items.length) j).text∧dead (J5 t (ψ j))=false)∧∀ x,x < t.nodes.length→dead (J5 t x)=false→∃ j,j < (Qr t o dead t.items.length).nodes.length∧ψ j=x:=by
 obtain ⟨⟨p,gp⟩,l1,i1,n1,b1,a1,t1,o1⟩:=lv_inv g dead t.items.length (GH _)
 have hea:=endI_all g
 have hget:∀ j,j < (Qr t o dead t.items.length).nodes.length→(JcQ t dead t.items.length)[j]? = some ((JcQ t dead t.items.length).getD j 0):=fun j hj=>by
  rw[Ga,Gb (by omega)]; rfl
 generalize Qr t o dead t.items.length=u at *
 generalize JcQ t dead t.items.length=O at *
 have hinj:∀ i j,i < u.nodes.length→j < u.nodes.length→O.getD i 0=O.getD j 0→i=j:=fun i j hi hj h=>by
  simp only[Ga,Gb (show i < O.length by omega),Gb (show j < O.length by omega),GA]at h
  rcases GX i j with h2 | h2 | h2
  ·have:=GI.1 a1 i j (by omega) (by omega) h2; omega
  ·exact h2
  ·have:=GI.1 a1 j i (by omega) (by omega) h2; omega
 have hnd:∀ j,j < u.nodes.length→nd u j=mvN ((j:Int)-(O.getD j 0:Nat)) (nd t (O.getD j 0)):=fun j hj=>n1 j _ (hget j hj)
 have hrng:∀ j,j < u.nodes.length→O.getD j 0 < t.nodes.length:=fun j hj=>by
  have:=t1 (O.getD j 0) (Gn (hget j hj))
  omega
 have hkid:∀ j,j < u.nodes.length→∀ c:Nat,(c:Int)∈(nd t (O.getD j 0)).kids→O.getD j 0≤j+c∧O.getD (j+c-O.getD j 0) 0=c:=fun j hj c hc=>by
  obtain ⟨i,q1,q2,q3,q4,q5⟩:=b1 j _ (hget j hj)
  have h1:=kid_blk g q1 q3 q4 hc
  obtain ⟨r1,r2⟩:=q5 c (by omega) (by omega)
  exact ⟨r1,by rw[Ga,r2]; rfl⟩
 refine ⟨p,fun j=>O.getD j 0,gp,⟨hrng,hinj,fun j hj=>by rw[hnd j hj]; rfl,fun i j hi hj h=>by rw[hnd i hi,hnd j hj]at h; exact h,fun j hj=>by rw[hnd j hj]; simp[mvN],fun j hj c hc=>?_,fun j hj c hc=>?_,fun j hj _ _ i hi=>?_⟩,fun j hj=>⟨by rw[hnd j hj]; rfl,?_⟩,fun x hx hdx=>?_⟩
 ·rw[hnd j hj]at hc
  obtain ⟨k,hk,hkc⟩:=Gi.1 hc
  have hk0:=g.kid (hrng j hj) hk
  obtain ⟨k,rfl⟩:∃ k':Nat,k=k':=⟨k.toNat,by omega⟩
  have h1:=hkid j hj k hk
  have:c=j+k-O.getD j 0:=by omega
  rw[this,h1.2]
  exact hk
 ·have h1:=hkid j hj c hc
  refine ⟨j+c-O.getD j 0,?_,h1.2⟩
  rw[hnd j hj]
  exact Gi.2 ⟨c,hc,by omega⟩
 ·have hndj:=hnd j hj
  have hkj:=hkid j hj
  have hr:=hrng j hj
  show O.getD (YC u j i) 0=YC t (O.getD j 0) i
  rw[hndj]at hi
  generalize O.getD j 0=x at hndj hkj hr hi ⊢
  have hi2:i < (nd t x).kids.length:=by simpa [mvN]using hi
  have hm:(nd t x).kids.getD i 0∈(nd t x).kids:=by rw[Ga,Gb hi2]; exact Gl hi2
  have hk0:=g.kid hr hm
  have e:YC u j i=(((nd t x).kids.getD i 0)+((j:Int)-x)).toNat:=by
   unfold YC
   rw[hndj]
   unfold mvN
   simp only
   rw[Ga,Gs,Ga,Gb hi2]
   rfl
  rw[e]
  unfold YC
  generalize (nd t x).kids.getD i 0=c at hm hk0
  obtain ⟨c,rfl⟩:∃ c':Nat,c=c':=⟨c.toNat,by omega⟩
  have h1:=hkj c hm
  rw[show ((c:Int)+((j:Int)-x)).toNat=j+c-x by omega,h1.2,Gc]
 ·obtain ⟨i,q1,q2,q3,q4,_⟩:=b1 j _ (hget j hj)
  rw[blk_item g q1 q3 q4]; exact q2
 ·obtain ⟨h1,h2,h3⟩:=YW g hx
  obtain ⟨j,hj,hjx⟩:=Gx (o1 (J5 t x) h1 hdx x h2 h3)
  exact ⟨j,by omega,by show O.getD j 0=x; rw[Ga,Gb hj]; exact hjx⟩
end
section
variable {t:Tr}{o:List Int}(g:GoodT t o)
include g
omit g in
theorem JdI:(∀ x∈Jf5 t,x∈JdJ t (ofL t o))∧∀ x∈JdJ t (ofL t o),∀ y∈JaN t (ofL t o) x.toNat,y∈JdJ t (ofL t o):=by
 have:=XZ (N:=fun x=>JaN t (ofL t o) x.toNat) (l:=upto t.items.length) callL_ok (muB (upto t.items.length) (Jf5 t) []+1) (Jf5 t) [] (fun x hx=>(Gf.1 hx).1) (Ha _) (fun x hx=>by cases hx)
 exact ⟨this.2.1,this.2.2⟩
omit g in
theorem Jf4 {it x:Nat}:(x:Int)∈JaN t (ofL t o) it↔x < t.items.length∧∃ i,i < t.nodes.length∧(nd t i).k=26∧J5 t i=it∧J5 t (JO t o i).toNat=x:=by
 unfold JaN
 rw[mem_img]
 unfold callQ callF
 simp only[Gg,beq_iff_eq]
 constructor
 ·rintro ⟨h1,i,h2,h3,h4⟩
  rw[Jcu h2]at h4
  exact ⟨by omega,i,h2,h3.1,h3.2,by omega⟩
 ·rintro ⟨h1,i,h2,h3,h4,h5⟩
  exact ⟨by omega,i,h2,⟨h3,h4⟩,by rw[Jcu h2]; omega⟩
theorem lv_res (hE:(Xa t o).2=0):∃ p,GoodT (Qr t o (fun i=>(XL t (ofL t o)).contains (i:Int)) t.items.length) p∧(Xa (Qr t o (fun i=>(XL t (ofL t o)).contains (i:Int)) t.items.length) p).2=0∧XL (Qr t o (fun i=>(XL t (ofL t o)).contains (i:Int)) t.items.length) (ofL (Qr t o (fun i=>(XL t (ofL t o)).contains (i:Int)) t.items.length) p)=[]:=by
 have c:=Jdc hE
 have hdead:∀ i,i < t.items.length→((XL t (ofL t o)).contains (i:Int)=false↔(i:Int)∈JdJ t (ofL t o)):=fun i hi=>by
  unfold XL
  rw[← GU,Gm,Gf,XE,GR,← GU,Gm]
  constructor
  ·intro h
   refine Classical.byContradiction fun h2=>h ⟨⟨by omega,by omega⟩,h2⟩
  ·rintro h ⟨_,h2⟩; exact h2 h
 obtain ⟨lc1,lc2⟩:=JdI (t:=t) (o:=o)
 obtain ⟨p,ψ,gu,hm,htx,hon⟩:=lv_map g (fun i=>(XL t (ofL t o)).contains (i:Int))
 generalize Qr t o (fun i=>(XL t (ofL t o)).contains (i:Int)) t.items.length=u at *
 have hcall:∀ j,j < u.nodes.length→(nd u j).k=26→∀ L:Nat,JO t o (ψ j)=L→∃ M,M < u.nodes.length∧ψ M=L:=fun j hj hk L hL=>by
  have hj2:=hm.rng j hj
  have hk2:(nd t (ψ j)).k=26:=by rw[hm.k j hj]; exact hk
  obtain ⟨L',h1,h2,h3⟩:=Jef g hE hj2 hk2
  obtain rfl:L'=L:=by omega
  have hl:=(GK.1 h2).1
  have hb:=(YW g hj2).1
  refine hon L' h3 ((hdead _ hl).2 (lc2 _ ((hdead _ hb).1 (htx j hj).2) _ ?_))
  rw[Gc]
  exact Jf4.2 ⟨hl,ψ j,hj2,hk2,rfl,by rw[h1,Gc]⟩
 obtain ⟨hEu,hof⟩:=tm_res gu g hm hE hcall fun j d hj hd hs hme=>tm_same gu g hm c (fun j hj=>(htx j hj).1) hj hd hs hme
 refine ⟨p,gu,hEu,?_⟩
 obtain ⟨uc1,uc2⟩:=JdI (t:=u) (o:=p)
 have hq:=JaO (N:=fun x=>JaN t (ofL t o) x.toNat) (q:=fun x=>x∈JdJ t (ofL t o)∧∃ k:Nat,x=k∧∀ M,M < u.nodes.length→J5 t (ψ M)=k→(J5 u M:Int)∈JdJ u (ofL u p)) ?_ (muB (upto t.items.length) (Jf5 t) []+1) (Jf5 t) [] ?_ (fun x hx=>by cases hx)
 ·rw[XL,List.filter_eq_nil_iff]
  intro x hx
  have hx2:=XE.1 hx
  obtain ⟨x,rfl⟩:∃ x':Nat,x=x':=⟨x.toNat,by omega⟩
  have hxl:x < u.items.length:=by omega
  obtain ⟨M,hM⟩:∃ M:Nat,u.items[x]? = some (M:Int):=by
   have:=gu.itr (Gl hxl)
   exact ⟨(u.items[x]).toNat,by rw[Gb hxl]; congr 1; omega⟩
  have hMl:=gu.itr (Gn hM)
  have hMn:M < u.nodes.length:=by omega
  have hi:=Xt gu hM
  have hlive:=(hdead _ (YW g (hm.rng M hMn)).1).1 (htx M hMn).2
  obtain ⟨_,k,hk,h3⟩:=hq _ hlive
  have h4:=h3 M hMn (by omega)
  rw[hi]at h4
  rw[GR,← GU,Gm]
  simpa using h4
 ·rintro x ⟨hx,k,rfl,hk⟩ y hy
  simp only[Gc]at hy
  have hy2:=XE.1 (Gf.1 hy).1
  obtain ⟨y,rfl⟩:∃ y':Nat,y=y':=⟨y.toNat,by omega⟩
  refine ⟨lc2 _ hx _ (by rw[Gc]; exact hy),y,rfl,fun M hM hMy=>?_⟩
  obtain ⟨hyl,I,hI,h26,hIk,hIm⟩:=Jf4.1 hy
  have hkl:k < t.items.length:=by rw[← hIk]; exact (YW g hI).1
  obtain ⟨i,hi,rfl⟩:=hon I hI (by rw[hIk]; exact (hdead k hkl).2 hx)
  rw[hm.k i hi]at h26
  rcases hof i hi with ⟨_,h1⟩ | ⟨d,h1,h2,h3⟩
  ·obtain ⟨L',h4,_⟩:=Jef g hE (hm.rng i hi) (by rw[hm.k i hi]; exact h26)
   omega
  ·rw[h3,Gc]at hIm
   have hdM:J5 u d=J5 u M:=(tm_item gu g hm h1 hM).1 (hIm.trans hMy.symm)
   have h5:=hk i hi hIk
   have h6:=uc2 _ h5 (J5 u d) (by rw[Gc]; exact Jf4.2 ⟨(YW gu h1).1,i,hi,h26,rfl,by rw[h2,Gc]⟩)
   rw[hdM]at h6
   exact h6
 ·intro x hx
  have hx1:=Gf.1 hx
  have hx2:=XE.1 hx1.1
  obtain ⟨x,rfl⟩:∃ x':Nat,x=x':=⟨x.toNat,by omega⟩
  refine ⟨lc1 _ hx,x,rfl,fun M hM hMx=>uc1 _ (Gf.2 ⟨XE.2 ⟨by omega,by have:=(YW gu hM).1; omega⟩,?_⟩)⟩
  have hxl:x < t.items.length:=by omega
  obtain ⟨L,hL⟩:∃ L:Nat,t.items[x]? = some (L:Int):=by
   have:=g.itr (Gl hxl)
   exact ⟨(t.items[x]).toNat,by rw[Gb hxl]; congr 1; omega⟩
  have hLl:=g.itr (Gn hL)
  have htxt:(nd t L).text=mainT:=by
   have:=hx1.2
   rw[Gc,Ga,hL]at this
   simpa using this
  have hMi:=YW gu hM
  obtain ⟨N,hN⟩:∃ N:Nat,u.items[J5 u M]? = some (N:Int):=by
   have:=gu.itr (Gl hMi.1)
   exact ⟨(u.items[J5 u M]).toNat,by rw[Gb hMi.1]; congr 1; omega⟩
  have hNl:=gu.itr (Gn hN)
  have hNn:N < u.nodes.length:=by omega
  have hNi:=Xt gu hN
  have h65:(nd u N).k=65:=gu.defs _ (Gn hN)
  have hroot:=(Y0 g (hm.rng N hNn) (by rw[hm.k N hNn]; exact h65)).2
  obtain ⟨y,hy,hye⟩:=Gx hroot
  have hy2:t.items[y]? = some ((ψ N:Nat):Int):=by rw[Gb hy,hye]
  have hNx:J5 t (ψ N)=x:=((tm_item gu g hm hNn hM).2 hNi).trans hMx
  rw[Xt g hy2]at hNx
  subst hNx
  rw[hL]at hy2
  have hLN:L=ψ N:=by have:=Gu hy2; omega
  rw[Gc,Ga,hN]
  simp only[GA,Gc]
  rw[← (htx N hNn).1,← hLN,htxt]
  simp
end
end
end Go.Cm
end
end
