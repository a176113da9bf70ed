/-
  A part of the proof. Conditions: none.
-/
import Derived.Test.YtaiboeciecfgoaaGreatDoorRP5
set_option linter.unusedSimpArgs false
set_option linter.unusedVariables false
open Go.Proofs.Tryz renaming prog→Gb
open Bool renaming eq_iff_iff→Gc,and_eq_true→Gg
open Int renaming cast_ofNat_Int→Ga,toNat_natCast→Gh
open List renaming getD_eq_getElem?_getD→Gd,getElem?_eq_getElem→Gf,getElem?_eq_some_iff→Gi,getElem_mem→Gj,map_cons→Gl,getElem?_take→Gm,length_take→Gn,count_cons→Gp
noncomputable section
section
set_option maxRecDepth 100000
set_option maxHeartbeats 20000000
open Go.Proofs
namespace Go.Cm
theorem JaQ (n a b:Int):Fn Gb 91 [.int .i64 n,.int .i64 a,.int .i64 b] (.bool (inI a b n)):=by
 refine Ja c91_ok rfl rfl fun N=>?_
 simp +contextual -implicitDefEqProofs only[c91,go_sem,inI]
def inN (a b k:Nat):Bool:=decide (a≤k) && decide (k≤b)
theorem natle (a k:Nat):decide ((a:Int)≤(k:Int))=decide (a≤k):=decide_eq_decide.2 (by omega)
theorem Jct (a k:Nat):((k:Int) == (a:Int))=(k == a):=by
 rw[Gc]; simp; omega
theorem refIsExpr (k:Nat):Fn Gb 30 [.int .u8 k] (.bool (inN 1 29 k)):=by
 refine Ja c30_ok rfl rfl fun N=>?_
 have h1:=natle 1 k
 have h2:=natle k 29
 simp only[Ga]at h1 h2
 simp +contextual -implicitDefEqProofs only[c30,go_sem,inN]
 refine ⟨fun h=>?_,fun h=>?_⟩
 ·congr 1; rw[Gc]; simp; omega
 ·congr 1; rw[Gc]; simp; omega
theorem refIsType (k:Nat):Fn Gb 176 [.int .u8 k] (.bool (inN 60 63 k)):=by
 refine Ja c176_ok rfl rfl fun N=>?_
 simp +contextual -implicitDefEqProofs only[c176,go_sem,inN]
 refine ⟨fun h=>?_,fun h=>?_⟩
 ·congr 1; rw[Gc]; simp; omega
 ·congr 1; rw[Gc]; simp; omega
theorem refIsPart (k:Nat):Fn Gb 177 [.int .u8 k] (.bool (k == 46 || k == 47)):=by
 refine Ja c177_ok rfl rfl fun N=>?_
 simp +contextual -implicitDefEqProofs only[c177,go_sem]
 refine ⟨fun h=>?_,fun h=>?_⟩
 ·congr 1; rw[Gc]; simp at h ⊢; omega
 ·congr 1; rw[Gc]; simp at h ⊢; omega
def isR (k c:Nat):Bool:=if c=200 then inN 1 29 k else if c=201 then inN 60 63 k else if c=202 then (k == 46 || k == 47) else k == c
theorem refIs (t:Tr) (n:Int) (c:Nat) (h0:0≤n) (h1:n < t.nodes.length):Fn Gb 146 [t.cv,.int .i64 n,.int .u8 c] (.bool (isR (Jt t.nodes n) c)):=by
 have hlt:n.toNat < t.nodes.length:=by omega
 have hk:Jt t.nodes n=(t.nodes.getD n.toNat default).k:=rfl
 refine Ja c146_ok rfl rfl fun N=>?_
 simp +contextual -implicitDefEqProofs only[c146,go_sem,Tr.cv,Tr.row,Jc]
 rw[Kz hlt]
 refine ⟨by omega,?_⟩
 simp +contextual -implicitDefEqProofs only[go_sem,Nd.cv]
 rw[← hk]
 generalize Jt t.nodes n=k
 have q0:=Jct 200 c
 have q1:=Jct 201 c
 have q2:=Jct 202 c
 simp only[Ga]at q0 q1 q2
 unfold isR
 by_cases e0:c=200
 ·subst e0
  simp +contextual -implicitDefEqProofs only[go_sem,Ga]
  refine JV (refIsExpr k) ?_
  simp +contextual -implicitDefEqProofs only[go_sem]
 ·have q0':((c:Int) == 200)=false:=by rw[q0]; simpa using e0
  rw[if_neg e0]
  by_cases e1:c=201
  ·subst e1
   simp +contextual -implicitDefEqProofs only[go_sem,Ga]
   refine JV (refIsType k) ?_
   simp +contextual -implicitDefEqProofs only[go_sem]
  ·have q1':((c:Int) == 201)=false:=by rw[q1]; simpa using e1
   rw[if_neg e1]
   by_cases e2:c=202
   ·subst e2
    simp +contextual -implicitDefEqProofs only[go_sem,Ga]
    refine JV (refIsPart k) ?_
    simp +contextual -implicitDefEqProofs only[go_sem]
   ·have q2':((c:Int) == 202)=false:=by rw[q2]; simpa using e2
    rw[if_neg e2]
    have q3:=Jct c k
    simp +contextual -implicitDefEqProofs only[go_sem,q0',q1',q2',q3]
def kinds (l:List Nd) (x:Nd):List Nat:=x.kids.map (Jt l)
theorem kinds_get {l:List Nd}{x:Nd}{j:Nat}(h:j < x.kids.length):(kinds l x)[j]? = some (Jt l (x.kids.getD j 0)):=by
 simp[kinds,Gd,Gf h]
def kidsR (ks:List Nat) (a b:Int) (c:Nat):Bool:=decide (0≤a) && decide (a≤b) && decide (b≤ks.length) && ((ks.take b.toNat).drop a.toNat).all fun k=>isR k c
theorem refKids (t:Tr) (x:Nd) (hx:x.Fit) (hm:t.nodes.length≤1400) (hk:∀ k∈x.kids,0≤k∧k < t.nodes.length) (a b:Int) (c:Nat) :
  Fn Gb 115 [t.cv,.agg x.cv,.int .i64 a,.int .i64 b,.int .u8 c] (.bool (kidsR (kinds t.nodes x) a b c)):=by
 have hkl:(kinds t.nodes x).length=x.kids.length:=by simp[kinds]
 have hkn:=hx.kidn
 refine Ja c115_ok rfl rfl fun N=>?_
 by_cases hA:a < 0∨b < a∨(x.kids.length:Int) < b
 ·have hr:kidsR (kinds t.nodes x) a b c=false:=by
   unfold kidsR
   rw[hkl]
   rw[Bool.eq_false_iff]
   intro h
   simp only[Gg,decide_eq_true_eq]at h
   omega
  rw[hr]
  by_cases h1:a < 0
  ·have d1:(a < 0)=True:=eq_true h1
   simp +contextual -implicitDefEqProofs only[c115,go_sem,Tr.cv,Tr.row,Nd.cv,d1]
  ·have d1:(a < 0)=False:=eq_false h1
   by_cases h2:b < a
   ·have d2:(b < a)=True:=eq_true h2
    simp +contextual -implicitDefEqProofs only[c115,go_sem,Tr.cv,Tr.row,Nd.cv,d1,d2]
   ·have d2:(b < a)=False:=eq_false h2
    have d3:((x.kids.length:Int) < b)=True:=Jn
    simp +contextual -implicitDefEqProofs only[c115,go_sem,Tr.cv,Tr.row,Nd.cv,d1,d2,Jf,d3]
 ·have d1:(a < 0)=False:=Jj
  have d2:(b < a)=False:=Jj
  have d3:((x.kids.length:Int) < b)=False:=Jj
  have hr:kidsR (kinds t.nodes x) a b c=((kinds t.nodes x).take b.toNat |>.drop a.toNat).all fun k=>isR k c:=by
   unfold kidsR
   rw[hkl,decide_eq_true (show 0≤a by omega),decide_eq_true (show a≤b by omega),decide_eq_true (show b≤(x.kids.length:Int) by omega)]
   rfl
  rw[hr]
  simp +contextual -implicitDefEqProofs only[c115,go_sem,Tr.cv,Tr.row,Nd.cv,Jf,d1,d2,d3]
  refine Jg (id:=0) (z:=2) (els:=[t.row]) rfl rfl ?_
  simp only[go_sem,J2,Ko,frz,KG]
  refine Jg (id:=1) (z:=5) (els:=[x.cv]) rfl rfl ?_
  simp only[go_sem,J2,Ko,frz,KG]
  generalize hL:(kinds t.nodes x).take b.toNat=L
  have hLl:L.length=b.toNat:=by rw[← hL]; simp[hkl]; omega
  refine Jz (I:=fun i:Nat=>a.toNat≤i∧i≤b.toNat∧(L.drop a.toNat).all (fun k=>isR k c)=(L.drop i).all fun k=>isR k c) (inv:=fun i=>gp [(3,.int .i64 b),(0,.int .u8 c),(0,.rptr t.row),(0,.rptr x.cv),(4,.int .i64 i)] 29) (hp:=fun _=>[.dead,.dead]) (μ:=fun i=>b.toNat-i) a.toNat ⟨by omega,by omega,rfl⟩ ?_ rfl ?_
  ·have:((a.toNat:Nat):Int)=a:=by omega
   simp[forget,gp,this]
  ·rintro i ⟨h1,h2,hinv⟩
   by_cases hlt:i < b.toNat
   ·have d4:((i:Int) < b)=True:=Jn
    have hik:i < x.kids.length:=by omega
    have hmem:x.kids.getD i 0∈x.kids:=by
     rw[Gd,Gf hik]; exact Gj hik
    have hb:=hk _ hmem
    have hLi:L[i]? = some (Jt t.nodes (x.kids.getD i 0)):=by
     rw[← hL,Gm,if_pos hlt,kinds_get hik]
    have hLlt:=(Gi.1 hLi).1
    rw[List.drop_eq_getElem_cons hLlt,(Gi.1 hLi).2,List.all_cons]at hinv
    simp +contextual -implicitDefEqProofs only[go_sem,d4]
    refine JS JA (by decide) ?_
    simp only[go_sem,Tr.row,Nd.cv,Jf]
    rw[JR hik]
    refine ⟨by omega,?_⟩
    simp only[go_sem]
    refine JO (.inl rfl) (refIs t _ c hb.1 hb.2) ?_
    simp only[go_sem]
    cases hq:isR (Jt t.nodes (x.kids.getD i 0)) c with
    |false=>
     rw[hq]at hinv
     simp +contextual -implicitDefEqProofs only[go_sem]
     rw[hinv]; rfl
    |true=>
     rw[hq]at hinv
     simp +contextual -implicitDefEqProofs only[go_sem]
     refine ⟨Ji,i+1,⟨by omega,by omega,by simpa using hinv⟩,by omega,?_⟩
     simp[forget]
   ·have d4:((i:Int) < b)=False:=Jj
    simp +contextual -implicitDefEqProofs only[go_sem,d4]
    rw[hinv,List.drop_eq_nil_of_le (by omega)]; rfl
theorem refLimits (t:Tr):Fn Gb 90 [t.cv] (.bool (decide (¬ (700 < t.nodes.length∨20 < t.items.length)))):=by
 refine Ja c90_ok rfl rfl fun N=>?_
 simp +contextual -implicitDefEqProofs only[c90,go_sem,Tr.cv,Tr.row,Jf,Jc]
 refine ⟨fun h=>?_,fun h=>?_⟩
 ·congr 1
  exact decide_eq_decide.2 (by omega)
 ·congr 1
  symm
  rw[decide_eq_false_iff_not]
  omega
theorem refMany (t:Tr) (x:Nd) (hx:x.Fit) (hk:∀ k∈x.kids,0≤k∧k < t.nodes.length) (c:Nat) :
  Fn Gb 116 [t.cv,.agg x.cv,.int .u8 c] (.int .i64 ((kinds t.nodes x).count c:Nat)):=by
 have hkl:(kinds t.nodes x).length=x.kids.length:=by simp[kinds]
 have hkn:=hx.kidn
 refine Ja c116_ok rfl rfl fun N=>?_
 simp +contextual -implicitDefEqProofs only[c116,go_sem,Tr.cv,Tr.row,Nd.cv]
 refine Jg (id:=0) (z:=2) (els:=[t.row]) rfl rfl ?_
 simp only[go_sem,J2,Ko,frz,KG]
 refine Jg (id:=1) (z:=5) (els:=[x.cv]) rfl rfl ?_
 simp only[go_sem,J2,Ko,frz,KG]
 generalize hL:kinds t.nodes x=L at hkl
 refine Jz (I:=fun i:Nat=>i≤L.length) (inv:=fun i=>gp [(2,.int .u8 c),(0,.rptr t.row),(0,.rptr x.cv),(2,.int .i64 ((L.take i).count c:Nat)),(0,.int .i64 i)] 22) (hp:=fun _=>[.dead,.dead]) (μ:=fun i=>L.length-i) 0 (by omega) ?_ rfl ?_
 ·simp[forget,gp]
 ·intro i hi
  have hc:=List.count_le_length (a:=c) (l:=L.take i)
  rw[Gn]at hc
  by_cases hlt:i < x.kids.length
  ·have d4:((i:Int) < (x.kids.length:Int))=True:=Jn
   have hmem:x.kids.getD i 0∈x.kids:=by
    rw[Gd,Gf hlt]; exact Gj hlt
   have hb:=hk _ hmem
   have hLi:L[i]? = some (Jt t.nodes (x.kids.getD i 0)):=by rw[← hL,kinds_get hlt]
   have hLlt:=(Gi.1 hLi).1
   have hcs:(L.take (i+1)).count c=(L.take i).count c+if Jt t.nodes (x.kids.getD i 0) == c then 1 else 0:=by
    rw[List.take_add_one,hLi,List.count_append]
    simp[List.count_singleton]
   simp +contextual -implicitDefEqProofs only[go_sem,Nd.cv,Jf,d4]
   refine JS JA (by decide) ?_
   simp only[go_sem,Tr.row,Nd.cv,Jf,Jc]
   rw[JR hlt]
   refine ⟨by omega,?_⟩
   simp only[go_sem,Jc]
   rw[Kz (by omega)]
   refine ⟨by omega,?_⟩
   simp only[go_sem,Nd.cv]
   rw[show ((t.nodes.getD (x.kids.getD i 0).toNat default).k:Int)=(Jt t.nodes (x.kids.getD i 0):Int) from rfl,Jct]
   cases hq:(Jt t.nodes (x.kids.getD i 0) == c) with
   |false=>
    rw[hq]at hcs
    simp +contextual -implicitDefEqProofs only[go_sem]
    refine ⟨Ji,i+1,by omega,by omega,?_⟩
    rw[hcs]
    simp[forget]
   |true=>
    rw[hq]at hcs
    simp +contextual -implicitDefEqProofs only[go_sem]
    refine ⟨Ji,Ji,i+1,by omega,by omega,?_⟩
    rw[hcs]
    simp[forget]
  ·have d4:((i:Int) < (x.kids.length:Int))=False:=Jj
   have:i=L.length:=by omega
   subst this
   simp +contextual -implicitDefEqProofs only[go_sem,Nd.cv,Jf,d4,List.take_length]
theorem refFirst (t:Tr) {m:Nat}{o:List Int}(ho:JB ((JH t.nodes).take m) []=some o) (hm:m≤t.nodes.length) (n:Nat) (hn:n < m) :
  Fn Gb 70 [t.cv,.int .i64 (n:Int)] (.int .i64 (fs o n)):=by
 refine Ja c70_ok rfl rfl fun N=>?_
 simp +contextual -implicitDefEqProofs only[c70,go_sem,Tr.cv,Tr.row]
 refine Jg (id:=0) (z:=2) (els:=[t.row]) rfl rfl ?_
 simp only[go_sem,J2,Ko,frz,KG]
 refine Jz (I:=fun i:Nat=>i < m∧fs o n=fs o i) (inv:=fun i=>gp [(1,.int .i64 (i:Int)),(0,.rptr t.row)] 19) (hp:=fun _=>[.dead]) (μ:=fun i=>i) n ⟨hn,rfl⟩ ?_ rfl ?_
 ·simp[forget,gp]
 ·rintro i ⟨hi,hinv⟩
  have hlt:i < t.nodes.length:=by omega
  have hK:((JH t.nodes).take m)[i]? = some (t.nodes.getD i default).kids:=by
   rw[Gm,if_pos hi,JW hlt]
  have hg:=Kz hlt
  generalize t.nodes.getD i default=x at hK hg
  simp +contextual -implicitDefEqProofs only[go_sem,Tr.row,Jc,hg,Nd.cv,Jf]
  refine ⟨by omega,?_⟩
  cases hk:x.kids with
  |nil=>
   rw[hk]at hK
   have:=firstsF_leaf ho hK
   simp +contextual -implicitDefEqProofs only[go_sem]
   rw[hinv]
   unfold fs
   rw[Gh,this]
  |cons k ks=>
   rw[hk]at hK
   obtain ⟨h1,h2⟩:=firstsF_kid ho hK
   have h3:=Q5 ho hK k (by simp)
   have d4:((0:Int) < ((ks.length+1:Nat):Int))=True:=Jn
   simp +contextual -implicitDefEqProofs only[go_sem,d4,Jc,hg,Nd.cv,hk,iz,Gl]
   have hkn:((k.toNat:Nat):Int)=k:=by omega
   refine ⟨by omega,k.toNat,⟨by omega,?_⟩,by omega,?_⟩
   ·rw[hinv]
    unfold fs
    rw[Gh,Gh,h1]
   ·rw[hkn]
    simp[forget]
theorem Jfd (t:Tr) {m:Nat}{o:List Int}(ho:JB ((JH t.nodes).take m) []=some o) (hm:m≤t.nodes.length) (hm2:t.nodes.length≤1400) (l:List Int) (hl:l.length≤1000) (e:Nat) (he:e≤m) :
  Fn Gb 92 [t.cv,.rslc 1 (iz l) none,.int .i64 (e:Int)] (.tup [.int .i64 (JeI (fs o) l.reverse e).1,.bool (JeI (fs o) l.reverse e).2]):=by
 have hok:=KY _ _ _ Qu.nil ho
 have hol:=KS _ _ _ ho
 simp only[List.length_nil,Nat.zero_add,Gn,JH,List.length_map]at hol
 refine Ja c92_ok rfl rfl fun N=>?_
 simp +contextual -implicitDefEqProofs only[c92,go_sem,Tr.cv,Tr.row,Jf]
 refine ⟨Ji,?_⟩
 refine Jg (id:=0) (z:=2) (els:=[t.row]) rfl rfl ?_
 simp only[go_sem,J2,Ko,frz,KG]
 refine Jz (σ:=Nat×Nat) (I:=fun s=>s.1≤l.length∧s.2≤m∧JeI (fs o) l.reverse e=JeI (fs o) (l.take s.1).reverse s.2) (inv:=fun s=>gp [(1,.rslc 1 (iz l) none),(0,.int .i64 (s.2:Int)),(0,.rptr t.row),(4,.int .i64 ((s.1:Int)-1))] 29) (hp:=fun _=>[.dead]) (μ:=fun s=>s.1) (l.length,e) ⟨by simp,he,by simp⟩ ?_ rfl ?_
 ·simp[forget,gp]
 ·rintro ⟨j,q⟩ ⟨hj,hq,hinv⟩
  dsimp only at hj hq hinv
  cases j with
  |zero=>
   simp only[List.take_zero,List.reverse_nil,JeI]at hinv
   have d1:((0:Int)≤((0:Nat):Int)-1)=False:=Jj
   simp +contextual -implicitDefEqProofs only[go_sem,d1,hinv]
  |succ j=>
   have hjl:j < l.length:=by omega
   have hlast:(l.take (j+1)).reverse=l.getD j 0::(l.take j).reverse:=by
    rw[List.take_succ_eq_append_getElem hjl,List.reverse_append,Gd,Gf hjl]; rfl
   rw[hlast,JeI]at hinv
   have hti:(((j+1:Nat):Int)-1).toNat=j:=by omega
   have d1:((0:Int)≤((j+1:Nat):Int)-1)=True:=Jn
   have hgi:=JR hjl
   generalize l.getD j 0=k at hinv hgi
   by_cases hc:k≠(q:Int)-1∨k < 0
   ·rw[if_pos hc]at hinv
    by_cases hc1:k=(q:Int)-1
    ·have e1:(k != (q:Int)-1)=false:=by simp[hc1]
     have e2:(k < 0)=True:=Jn
     simp +contextual -implicitDefEqProofs only[go_sem,d1,Jf,hti,hgi,e1,e2,hinv]
     exact ⟨by omega,Ji,by omega⟩
    ·have e1:(k != (q:Int)-1)=true:=by simp[hc1]
     simp +contextual -implicitDefEqProofs only[go_sem,d1,Jf,hti,hgi,e1,hinv]
     exact ⟨by omega,Ji⟩
   ·rw[if_neg hc]at hinv
    have hc1:k=(q:Int)-1:=by omega
    have e1:(k != (q:Int)-1)=false:=by simp[hc1]
    have e2:(k < 0)=False:=Jj
    have hkl:k.toNat < m:=by omega
    have hk0:((k.toNat:Nat):Int)=k:=by omega
    have hf:=Jgv hok (i:=k) (by omega) (by rw[hol]; omega)
    have hfn:((fs o k).toNat:Int)=fs o k:=by omega
    simp +contextual -implicitDefEqProofs only[go_sem,d1,Jf,hti,hgi,e1,e2]
    refine ⟨by omega,Ji,by omega,?_⟩
    refine JS JA (by decide) ?_
    simp only[go_sem,Tr.row,Jf,hti,hgi]
    refine ⟨by omega,?_⟩
    have hF:=refFirst t ho hm k.toNat hkl
    rw[hk0]at hF
    refine JO (.inl rfl) hF ?_
    simp +contextual -implicitDefEqProofs only[go_sem]
    refine ⟨Ji,(j,(fs o k).toNat),⟨by simp only; omega,by simp only; omega,?_⟩,by simp only; omega,?_⟩
    ·rw[hinv]; simp only[hfn]
    ·simp only[hfn]
     simp[forget]
theorem let_all:∀ k:Fin 256,(JeJ k.val=83↔k.val=41)∧(JeJ k.val=78↔k.val=44):=by decide +kernel
theorem Jeo {l:List Nd}{x:Nd}(hn:∀ y∈l,y.k < 256) (hk:∀ k∈x.kids,0≤k∧k < l.length) {c:Nat}{b:UInt8}(h:∀ k:Nat,k < 256→(JeJ k=b↔k=c)):(kinds l x).count c=KE b (lets l x):=by
 unfold kinds lets KE
 have:∀ ks:List Int,(∀ k∈ks,0≤k∧k < l.length)→(ks.map (Jt l)).count c=(ks.map fun k=>JeJ (Jt l k)).count b:=by
  intro ks
  induction ks with
  |nil=>intro _; rfl
  |cons k ks ih=>
   intro hks
   have hr:=hks k (by simp)
   have hlt:k.toNat < l.length:=by omega
   have hkk:Jt l k < 256:=by
    unfold Jt
    rw[Gd,Gf hlt]
    exact hn _ (Gj hlt)
   have he:=h _ hkk
   rw[Gl,Gl,Gp,Gp,ih (fun q hq=>hks q (by simp[hq]))]
   congr 1
   by_cases e:Jt l k=c
   ·rw[if_pos (by simp[e]),if_pos (by simp[he.2 e])]
   ·rw[if_neg (by simp[e]),if_neg (by simp; exact fun h2=>e (he.1 h2))]
 exact this x.kids hk
theorem refSized (t:Tr) (i:Nat) (hi:i < t.nodes.length) (hm:t.nodes.length≤1400) (hx:(t.nodes.getD i default).Fit) (hn:∀ y∈t.nodes,y.k < 256) (hk:∀ k∈(t.nodes.getD i default).kids,0≤k∧k < t.nodes.length) :
  Fn Gb 95 [t.cv,.int .i64 (i:Int)] (.bool (KH (t.nodes.getD i default).k (t.nodes.getD i default).n (lets t.nodes (t.nodes.getD i default)))):=by
 have hg:=Kz hi
 generalize hxe:t.nodes.getD i default=x at hx hk hg ⊢
 have hkn:=hx.kidn
 have hll:=Qq (l:=t.nodes) (x:=x)
 have hc1:=Jeo hn hk (c:=41) (b:=83) (fun k h=>(let_all ⟨k,h⟩).1)
 have hc2:=Jeo hn hk (c:=44) (b:=78) (fun k h=>(let_all ⟨k,h⟩).2)
 have hM1:=refMany t x hx hk 41
 have hM2:=refMany t x hx hk 44
 rw[hc1]at hM1
 rw[hc2]at hM2
 simp only[Ga]at hM1 hM2
 have hnr:=hx.n
 obtain ⟨k,text,n,kids,pl⟩:=x
 generalize lets t.nodes ⟨k,text,n,kids,pl⟩=hv at hll hM1 hM2 ⊢
 simp only[Nd.cv]at hg hM1 hM2 hkn hll hnr ⊢
 rcases (show (k=65∨k=26∨k=40∨k=45∨k=41∨k=28∨k=29∨k=48∨k=47)∨(k≠65∧k≠26∧k≠40∧k≠45∧k≠41∧k≠28∧k≠29∧k≠48∧k≠47) by omega) with (rfl | rfl | rfl | rfl | rfl | rfl | rfl | rfl | rfl) | rest
 ·refine Ja c95_ok rfl rfl fun N=>?_
  simp (maxSteps:=2000000) -implicitDefEqProofs only[c95,go_sem,Tr.cv,Tr.row,Jc,Jf,hg,Ga]
  refine ⟨⟨by omega,by omega⟩,?_⟩
  refine JV (JaQ n 0 5) ?_
  cases hb:inI 0 5 n with
  |false=>simp (maxSteps:=2000000) -implicitDefEqProofs only[go_sem]; simp[KH,hb]
  |true=>
   have hb2:=hb
   simp only[inI,Gg,decide_eq_true_eq]at hb2
   simp (maxSteps:=2000000) -implicitDefEqProofs only[go_sem,Jc,Jf,hg]
   refine ⟨Ji,Ji,?_⟩
   refine JN (gok rfl) (JaQ _ 1 4) ?_
   simp (maxSteps:=2000000) -implicitDefEqProofs only[go_sem]
   simp[KH,hb,hll]
 ·refine Ja c95_ok rfl rfl fun N=>?_
  simp (maxSteps:=2000000) -implicitDefEqProofs only[c95,go_sem,Tr.cv,Tr.row,Jc,Jf,hg,Ga]
  refine ⟨⟨by omega,by omega⟩,?_⟩
  congr 1
  simp only[KH]
  rw[Gc]; simp; omega
 ·refine Ja c95_ok rfl rfl fun N=>?_
  simp (maxSteps:=2000000) -implicitDefEqProofs only[c95,go_sem,Tr.cv,Tr.row,Jc,Jf,hg,Ga]
  refine ⟨⟨by omega,by omega⟩,?_⟩
  refine JV (JaQ n 0 12) ?_
  cases hb:inI 0 12 n with
  |false=>simp (maxSteps:=2000000) -implicitDefEqProofs only[go_sem]; simp[KH,hb]
  |true=>
   have hb2:=hb
   simp only[inI,Gg,decide_eq_true_eq]at hb2
   simp (maxSteps:=2000000) -implicitDefEqProofs only[go_sem,Jc,Jf,hg]
   refine ⟨Ji,?_⟩
   refine JN (gok rfl) (JaQ _ 1 4) ?_
   simp (maxSteps:=2000000) -implicitDefEqProofs only[go_sem]
   simp[KH,hb,hll]
 ·refine Ja c95_ok rfl rfl fun N=>?_
  simp (maxSteps:=2000000) -implicitDefEqProofs only[c95,go_sem,Tr.cv,Tr.row,Jc,Jf,hg,Ga]
  refine ⟨⟨by omega,by omega⟩,?_⟩
  refine JV (JaQ _ 1 4) ?_
  simp (maxSteps:=2000000) -implicitDefEqProofs only[go_sem]
  simp[KH,hll]
 ·refine Ja c95_ok rfl rfl fun N=>?_
  simp (maxSteps:=2000000) -implicitDefEqProofs only[c95,go_sem,Tr.cv,Tr.row,Jc,Jf,hg,Ga]
  refine ⟨⟨by omega,by omega⟩,?_⟩
  refine JV (JaQ n 1 4) ?_
  simp (maxSteps:=2000000) -implicitDefEqProofs only[go_sem]
  simp[KH,hll]
 ·refine Ja c95_ok rfl rfl fun N=>?_
  simp (maxSteps:=2000000) -implicitDefEqProofs only[c95,go_sem,Tr.cv,Tr.row,Jc,Jf,hg,Ga]
  refine ⟨⟨by omega,by omega⟩,?_⟩
  refine JV (JaQ n 1 5) ?_
  cases hb:inI 1 5 n with
  |false=>simp (maxSteps:=2000000) -implicitDefEqProofs only[go_sem]; simp[KH,hb]
  |true=>
   simp (maxSteps:=2000000) -implicitDefEqProofs only[go_sem,Jc,Jf,hg]
   refine JN (gok rfl) hM1 ?_
   by_cases h12:(KE 83 hv:Int)≤12
   ·have d1:((KE 83 hv:Int)≤12)=True:=eq_true h12
    simp (maxSteps:=2000000) -implicitDefEqProofs only[go_sem,d1]
    refine JN (gok rfl) hM2 ?_
    simp (maxSteps:=2000000) -implicitDefEqProofs only[go_sem]
    simp[KH,hb,d1]
   ·have d1:((KE 83 hv:Int)≤12)=False:=eq_false h12
    simp (maxSteps:=2000000) -implicitDefEqProofs only[go_sem,d1]
    simp[KH,hb,d1]
 ·refine Ja c95_ok rfl rfl fun N=>?_
  simp (maxSteps:=2000000) -implicitDefEqProofs only[c95,go_sem,Tr.cv,Tr.row,Jc,Jf,hg,Ga]
  refine ⟨⟨by omega,by omega⟩,?_⟩
  refine JV (JaQ n 0 100) ?_
  cases hb:inI 0 100 n with
  |false=>simp (maxSteps:=2000000) -implicitDefEqProofs only[go_sem]; simp[KH,hb]
  |true=>
   simp (maxSteps:=2000000) -implicitDefEqProofs only[go_sem,Jc,Jf,hg]
   refine ⟨Ji,?_⟩
   refine JN (gok rfl) (JaQ _ 1 8) ?_
   simp (maxSteps:=2000000) -implicitDefEqProofs only[go_sem]
   simp[KH,hb,hll]
 ·refine Ja c95_ok rfl rfl fun N=>?_
  simp (maxSteps:=2000000) -implicitDefEqProofs only[c95,go_sem,Tr.cv,Tr.row,Jc,Jf,hg,Ga]
  refine ⟨⟨by omega,by omega⟩,?_⟩
  refine JV (JaQ n 0 100) ?_
  simp (maxSteps:=2000000) -implicitDefEqProofs only[go_sem]
  simp[KH,hll]
 ·refine Ja c95_ok rfl rfl fun N=>?_
  simp (maxSteps:=2000000) -implicitDefEqProofs only[c95,go_sem,Tr.cv,Tr.row,Jc,Jf,hg,Ga]
  refine ⟨⟨by omega,by omega⟩,?_⟩
  refine JV (JaQ n 1 9) ?_
  simp (maxSteps:=2000000) -implicitDefEqProofs only[go_sem]
  simp[KH,hll]
 ·obtain ⟨r1,r2,r3,r4,r5,r6,r7,r8,r9⟩:=rest
  have hE:KH k n hv=true:=by
   simp only[KH]
   rw[if_neg (by omega),if_neg (by omega),if_neg (by omega),if_neg (by omega),if_neg (by omega),if_neg (by omega),if_neg (by omega),if_neg (by omega),if_neg (by omega)]
  rw[hE]
  have e65:=kb (m:=65) (k:=k) (by omega)
  simp only[Ga]at e65
  have e26:=kb (m:=26) (k:=k) (by omega)
  simp only[Ga]at e26
  have e40:=kb (m:=40) (k:=k) (by omega)
  simp only[Ga]at e40
  have e45:=kb (m:=45) (k:=k) (by omega)
  simp only[Ga]at e45
  have e41:=kb (m:=41) (k:=k) (by omega)
  simp only[Ga]at e41
  have e28:=kb (m:=28) (k:=k) (by omega)
  simp only[Ga]at e28
  have e29:=kb (m:=29) (k:=k) (by omega)
  simp only[Ga]at e29
  have e48:=kb (m:=48) (k:=k) (by omega)
  simp only[Ga]at e48
  have e47:=kb (m:=47) (k:=k) (by omega)
  simp only[Ga]at e47
  refine Ja c95_ok rfl rfl fun N=>?_
  simp (maxSteps:=2000000) -implicitDefEqProofs only[c95,go_sem,Tr.cv,Tr.row,Jc,Jf,hg,Ga,e65,e26,e40,e45,e41,e28,e29,e48,e47]
  exact ⟨by omega,by omega⟩
end Go.Cm
end
end
