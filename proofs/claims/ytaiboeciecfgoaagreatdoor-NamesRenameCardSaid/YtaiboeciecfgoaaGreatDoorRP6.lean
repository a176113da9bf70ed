/-
  A part of the proof. Conditions: none.
-/
import Derived.Test.YtaiboeciecfgoaaGreatDoorRPkJ
import Derived.Test.YtaiboeciecfgoaaGreatDoorRP5
set_option linter.unusedSimpArgs false
set_option linter.unusedVariables false
open Go.Proofs.Tryz renaming prog→Ga
noncomputable section
section
open Go.Proofs
namespace Go.Cm
theorem indexN {f:Nat}{l1 l2:List CV}{F:IFunc}(l:List Nd) (q:Nd→Bool) (cap:Option Nat) (hF:Je Ga f=some F) (hc1:Jm l1=true) (hc2:Jm l2=true)
  (hq:∀ p∈l,Fn Ga f (l1++[.agg p.cv]++l2) (.bool (q p))) (hlen:l.length≤100000):Fn Ga 219 [.rslc 5 (ndz l) cap,.fn f l1 l2] (.int .i64 (QU q l 0)):=by
 refine Ja c219_ok (by simp[Jm,CV.closed,hc1,hc2]) rfl fun N=>?_
 simp +contextual -implicitDefEqProofs only[c219,go_sem,Jc]
 refine Jz (I:=fun i:Nat=>i≤l.length∧QU q l 0=QU q (l.drop i) i) (inv:=fun i=>gp [(0,.rslc 5 (ndz l) cap),(0,.fn f l1 l2),(5,.int .i64 l.length),(0,.int .i64 i)] 10) (hp:=fun _=>[]) (μ:=fun i=>l.length-i) 0 ?_ ?_ rfl ?_
 ·simp
 ·simp[forget,gp]
 ·rintro i ⟨hi,hinv⟩
  simp +contextual -implicitDefEqProofs only[go_sem,Jc]
  refine ⟨fun h=>?_,fun h=>?_⟩
  ·have hlt:i < l.length:=by omega
   obtain ⟨p,hp⟩:∃ p,l[i]? = some p:=⟨_,List.getElem?_eq_getElem hlt⟩
   rw[QF hp]at hinv
   rw[Kz hlt,show l.getD i default=p by rw[List.getD_eq_getElem?_getD,hp]; rfl]
   refine ⟨by omega,by simp[Nd.cv],?_⟩
   refine vr_fv (.inl rfl) rfl hF nm (hq p (List.mem_of_getElem? hp)) ?_
   simp only[go_sem]
   refine ⟨fun h2=>?_,fun h2=>?_⟩
   ·rw[hinv,if_pos h2]
   ·rw[h2]at hinv
    refine ⟨Ji,i+1,⟨by omega,by simpa using hinv⟩,by omega,?_⟩
    simp[forget]
  ·have:i=l.length:=by omega
   subst this
   rw[hinv]; simp[QU]
theorem containsN {f:Nat}{l1 l2:List CV}{F:IFunc}(l:List Nd) (q:Nd→Bool) (cap:Option Nat) (hF:Je Ga f=some F) (hc1:Jm l1=true) (hc2:Jm l2=true)
  (hq:∀ p∈l,Fn Ga f (l1++[.agg p.cv]++l2) (.bool (q p))) (hlen:l.length≤100000):Fn Ga 196 [.rslc 5 (ndz l) cap,.fn f l1 l2] (.bool (l.any q)):=by
 refine Ja c196_ok (by simp[Jm,CV.closed,hc1,hc2]) rfl fun N=>?_
 simp +contextual -implicitDefEqProofs only[c196,go_sem]
 refine JV (indexN l q cap hF hc1 hc2 hq hlen) ?_
 simp +contextual -implicitDefEqProofs only[go_sem,JaI]
def ndI (l:List Nd) (x:Nd):Bool:=JP (Y3 x.text) x.k x.text x.n x.pl (lets l x)
theorem isFormN (t:Tr) (x:Nd) (hx:x.Fit) (hn:∀ y∈t.nodes,y.k < 256) (hk:∀ k∈x.kids,0≤k∧k < t.nodes.length):Fn Ga 189 [.agg x.cv,.rptr t.row] (.bool (!ndI t.nodes x)):=by
 have hl:(lets t.nodes x).length≤1000:=by rw[Qq]; have:=hx.kidn; omega
 refine Ja c189_ok rfl rfl fun N=>?_
 simp +contextual -implicitDefEqProofs only[c189,go_sem,Tr.row,Nd.cv]
 refine JV (sortsL t x hx hn hk) ?_
 simp +contextual -implicitDefEqProofs only[go_sem]
 refine JV (fnSort x.k hx.k) ?_
 simp +contextual -implicitDefEqProofs only[go_sem]
 have hs1:((letter x.k:Int) == 32)=(letter x.k == 32):=by
  rw[Bool.eq_iff_iff]; simp; omega
 rw[hs1]
 cases b1:(letter x.k == 32) with
 |true=>
  simp +contextual -implicitDefEqProofs only[go_sem]
  simp[ndI,JP,b1]
 |false=>
  simp +contextual -implicitDefEqProofs only[go_sem]
  refine JN (gok rfl) (expectedL x _ hl) ?_
  simp +contextual -implicitDefEqProofs only[go_sem]
  cases b2:(lets t.nodes x == KJ x.k (lets t.nodes x)) with
  |false=>
   simp +contextual -implicitDefEqProofs only[go_sem]
   simp[ndI,JP,b2]
  |true=>
   simp +contextual -implicitDefEqProofs only[go_sem]
   refine JN (gok rfl) (within 0 2500 x.pl) ?_
   simp +contextual -implicitDefEqProofs only[go_sem]
   cases b3:inI 0 2500 x.pl with
   |false=>
    simp +contextual -implicitDefEqProofs only[go_sem]
    simp[ndI,JP,b3]
   |true=>
    simp +contextual -implicitDefEqProofs only[go_sem]
    refine JN (gok rfl) (fieldsL x _ (Y3 x.text) (isNameW x.text (by have:=hx.text; omega))) ?_
    simp +contextual -implicitDefEqProofs only[go_sem]
    cases b4:fldI (Y3 x.text) x.k x.text x.n (lets t.nodes x) with
    |false=>
     simp +contextual -implicitDefEqProofs only[go_sem]
     unfold fldI at b4
     simp[ndI,JP,b4]
    |true=>
     simp +contextual -implicitDefEqProofs only[go_sem]
     refine JN (gok rfl) (sizedL x _) ?_
     simp +contextual -implicitDefEqProofs only[go_sem]
     unfold fldI at b4
     simp[ndI,JP,b1,b2,b3,b4]
theorem isFormS (t:Tr) (ht:t.Fit) {o:List Int}(h:JB (JH t.nodes) []=some o):Fn Ga 161 [t.cv] (.bool (XZ o (fun i=>Jt t.nodes i == 65) t.nodes.length t.items 0 && t.nodes.all (ndI t.nodes))):=by
 have hl:=KS _ _ _ h
 simp[JH]at hl
 refine Ja c161_ok rfl rfl fun N=>?_
 simp +contextual only[c161,go_sem,Tr.cv,Tr.row]
 refine Jg (id:=0) (z:=2) (els:=[t.row]) rfl rfl ?_
 simp only[go_sem,J2,Ko,frz,KG]
 simp +contextual only[go_sem,Tr.row]
 refine JV (firstsS t ht h) ?_
 simp +contextual only[go_sem,Tr.row]
 refine JN (gok rfl) (areItems t ht o (KY _ _ _ Qu.nil h) hl) ?_
 simp +contextual only[go_sem]
 cases b1:XZ o (fun i=>Jt t.nodes i == 65) t.nodes.length t.items 0 with
 |false=>simp +contextual only[go_sem]
 |true=>
  simp +contextual only[go_sem,Tr.row]
  refine JV (containsN t.nodes (fun x=>!ndI t.nodes x) none c189_ok rfl rfl (fun x hx=>?_) (by have:=ht.many; omega)) ?_
  ·obtain ⟨j,hj⟩:=List.getElem?_of_mem hx
   have hjl:=(List.getElem?_eq_some_iff.1 hj).1
   have hkj:(JH t.nodes)[j]? = some x.kids:=by simp[JH,hj]
   exact isFormN t x (ht.nodes x hx) (fun y hy=>(ht.nodes y hy).k) (fun k hk=>by have:=Q5 h hkj k hk; omega)
  ·simp +contextual only[go_sem]
   congr 1
   rw[Bool.eq_iff_iff]
   simp
theorem isFormN0 (t:Tr) (ht:t.Fit) (h:JB (JH t.nodes) []=none):Fn Ga 161 [t.cv] (.bool false):=by
 refine Ja c161_ok rfl rfl fun N=>?_
 simp +contextual only[c161,go_sem,Tr.cv,Tr.row]
 refine JV (firstsN t ht h) ?_
 simp +contextual only[go_sem]
def frm (t:Tr):Bool:=match JB (JH t.nodes) []with
 |some o=>XZ o (fun i=>Jt t.nodes i == 65) t.nodes.length t.items 0 && t.nodes.all (ndI t.nodes)
 |none=>false
theorem isForm (t:Tr) (ht:t.Fit):Fn Ga 161 [t.cv] (.bool (frm t)):=by
 unfold frm
 cases h:JB (JH t.nodes) []with
 |none=>exact isFormN0 t ht h
 |some o=>exact isFormS t ht h
def chk (t:Tr):Int:=if 700 < t.nodes.length∨20 < t.items.length then 5 else if frm t=true then (if Jbj t=true then 5 else 0) else 4
theorem frm_some {t:Tr}(h:frm t=true):∃ o,JB (JH t.nodes) []=some o:=by
 unfold frm at h
 cases ho:JB (JH t.nodes) []with
 |none=>rw[ho]at h; cases h
 |some o=>exact ⟨o,rfl⟩
theorem Jff (t:Tr) (ht:t.Fit):Fn Ga 127 [t.cv] (.int .i64 (chk t)):=by
 refine Ja c127_ok rfl rfl fun N=>?_
 simp +contextual -implicitDefEqProofs only[c127,go_sem,Tr.cv,Tr.row]
 refine Jg (id:=0) (z:=2) (els:=[t.row]) rfl rfl ?_
 simp only[go_sem,J2,Ko,frz,KG]
 refine JV (isGreat t) ?_
 by_cases h1:700 < t.nodes.length∨20 < t.items.length
 ·have hc:chk t=5:=by unfold chk; rw[if_pos h1]
  rw[decide_eq_true h1,hc]
  simp +contextual -implicitDefEqProofs only[go_sem]
 ·rw[decide_eq_false h1]
  simp +contextual -implicitDefEqProofs only[go_sem,Tr.row]
  refine JV (isForm t ht) ?_
  cases h2:frm t with
  |false=>
   have hc:chk t=4:=by unfold chk; rw[if_neg h1,if_neg (by rw[h2]; simp)]
   rw[hc]
   simp +contextual -implicitDefEqProofs only[go_sem]
  |true=>
   obtain ⟨o,ho⟩:=frm_some h2
   have hc:chk t=if Jbj t=true then 5 else 0:=by unfold chk; rw[if_neg h1,if_pos h2]
   rw[hc]
   simp +contextual -implicitDefEqProofs only[go_sem,Tr.row]
   refine JV (isDeep t ht ho) ?_
   cases h3:Jbj t with
   |false=>simp +contextual -implicitDefEqProofs only[go_sem]
   |true=>simp +contextual -implicitDefEqProofs only[go_sem]
end Go.Cm
end
section
open Go.Proofs
namespace Go.Cm
section
variable {K:List (List Int)}{o:List Int}(t:Ordd K o) {d m:Nat}(hdm:d≤m) (hm:m≤K.length) (hin:∀ j:Nat,d≤j→j < m→(d:Int)≤fs o j)
include t hin
include hm
end
theorem deepF_pre:∀ (K:List (List Int)) (d:List Int),∃ t,KV K d=d++t
 |[],d=>⟨[],by simp[KV]⟩
 |ks::K,d=>by
  obtain ⟨t,ht⟩:=deepF_pre K (d++[ownD d ks])
  exact ⟨_,by rw[KV,ht,List.append_assoc]⟩
theorem deepF_take {K:List (List Int)}{m:Nat}(hm:m≤K.length):KV (K.take m) []=(KV K []).take m:=by
 have h:=Jem (K.take m) (K.drop m) []
 rw[List.take_append_drop]at h
 obtain ⟨t,ht⟩:=deepF_pre (K.drop m) (KV (K.take m) [])
 have hl:=JbZ (K.take m) []
 simp only[List.length_nil,Nat.zero_add,List.length_take]at hl
 have hl2:(KV (K.take m) []).length=m:=by rw[hl]; exact Nat.min_eq_left hm
 rw[h,ht,List.take_left' hl2]
def mvN (d:Int) (x:Nd):Nd:={ x with kids:=x.kids.map (· + d) }
structure GoodT (t:Tr) (o:List Int):Prop where
 many:t.nodes.length≤700
 items:t.items.length≤20
 ord:Ordd (JH t.nodes) o
 its:chain o t.nodes.length 0 t.items t.nodes.length
 defs:∀ i∈t.items,Jt t.nodes i=65
 nds:∀ x∈t.nodes,ndI t.nodes x=true
 deep:∀ v∈KV (JH t.nodes) [],v≤30
theorem Qs {l:List Nd}:(JH l).length=l.length:=by simp[JH]
theorem Jb3 (t:Tr):chk t=0↔∃ o,GoodT t o:=by
 constructor
 ·intro h
  unfold chk at h
  split at h
  ·simp at h
  ·rename_i h1
   split at h
   ·rename_i h2
    split at h
    ·simp at h
    ·rename_i h3
     obtain ⟨o,ho⟩:=frm_some h2
     unfold frm at h2
     rw[ho]at h2
     simp only[Bool.and_eq_true,List.all_eq_true]at h2
     have hok:=KY _ _ _ Qu.nil ho
     have hol:=KS _ _ _ ho
     simp only[List.length_nil,Nat.zero_add,Qs]at hol
     obtain ⟨c1,c2⟩:=(Xo hok hol t.items 0 (by omega)).1 h2.1
     refine ⟨o,⟨by omega,by omega,⟨ho⟩,c1,fun i hi=>by simpa using c2 i hi,h2.2,fun v hv=>?_⟩⟩
     by_cases hv2:v≤30
     ·exact hv2
     ·refine absurd ?_ h3
      unfold Jbj
      rw[List.any_eq_true]
      exact ⟨v,hv,by simpa using Int.not_le.1 hv2⟩
   ·simp at h
 ·rintro ⟨o,g⟩
  have h1:=g.many
  have h2:=g.items
  unfold chk
  rw[if_neg (by omega),if_pos,if_neg]
  ·unfold Jbj
   rw[List.any_eq_true]
   rintro ⟨v,hv,hd⟩
   have:=g.deep v hv
   simp only[decide_eq_true_eq]at hd
   omega
  ·unfold frm
   rw[g.ord.h]
   have hol:=g.ord.len
   rw[Qs]at hol
   simp only[Bool.and_eq_true,List.all_eq_true]
   refine ⟨(Xo g.ord.ok hol t.items 0 (by omega)).2 ⟨g.its,fun i hi=>by simpa using g.defs i hi⟩,g.nds⟩
namespace GoodT
variable {t:Tr}{o:List Int}(g:GoodT t o)
include g
theorem olen:o.length=t.nodes.length:=by rw[g.ord.len,Qs]
theorem kid {j:Nat}(hj:j < t.nodes.length) {k:Int}(hk:k∈(t.nodes.getD j default).kids):0≤k∧k < j:=by
 have:=g.ord.kid_rng (JW hj) hk
 omega
end GoodT
end Go.Cm
end
end
