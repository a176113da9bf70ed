/-
  A part of the proof. Conditions: none.
-/
import Derived.Test.YthbifneaknlfgaaGreatDoorJP3
import Derived.Test.YthbifneaknlfgaaGreatDoorJPkJ
import Derived.Test.YthbifneaknlfgaaGreatDoorJP5
import Derived.Test.YthbifneaknlfgaaGreatDoorJP1
set_option linter.unusedSimpArgs false
set_option linter.unusedVariables false
open List renaming getD_eq_getElem?_getD→Ga,getElem?_eq_getElem→Gb,getElem?_drop→Gc,getElem?_take→Gd,getElem?_map→Gf,getElem?_eq_some_iff→Gg,length_take→Gh,length_nil→Gi,take_append_drop→Gm,getElem?_of_mem→Gn,take_length→Gp,any_eq_true→Gq,all_eq_true→Gr,foldl_cons→Gs,map_cons→Gt,map_map→Gu
open Nat renaming le_add_right→Gj,zero_add→Gl
noncomputable section
section
open Go.Proofs
namespace Go.Cm
theorem indexN {f:Nat}{l1 l2:List CV}{F:IFunc}(l:List Nd) (q:Nd→Bool) (cap:Option Nat) (hF:Jd Tryz.prog f=some F) (hc1:Js l1=true) (hc2:Js l2=true)
  (hq:∀ p∈l,Fn Tryz.prog f (l1++[.agg p.cv]++l2) (.bool (q p))) (hlen:l.length≤100000):Fn Tryz.prog 62 [.rslc 5 (ndz l) cap,.fn f l1 l2] (.int .i64 (YW q l 0)):=by
 refine Jc c62_ok (by simp[Js,CV.closed,hc1,hc2]) rfl fun N=>?_
 simp +contextual -implicitDefEqProofs only[c62,go_sem,Ja]
 refine JQ (I:=fun i:Nat=>i≤l.length∧YW q l 0=YW q (l.drop i) i) (inv:=fun i=>gp [(0,.rslc 5 (ndz l) cap),(0,.fn f l1 l2),(5,.int .i64 l.length),(0,.int .i64 i)] 10) (hp:=fun _=>[]) (μ:=fun i=>l.length-i) 0 ?_ ?_ rfl ?_
 ·simp
 ·simp[forget,gp]
 ·rintro i ⟨hi,hinv⟩
  simp +contextual -implicitDefEqProofs only[go_sem,Ja]
  refine ⟨fun h=>?_,fun h=>?_⟩
  ·have hlt:i < l.length:=by omega
   obtain ⟨p,hp⟩:∃ p,l[i]? = some p:=⟨_,Gb hlt⟩
   rw[YV hp]at hinv
   rw[Ka hlt,show l.getD i default=p by rw[Ga,hp]; rfl]
   refine ⟨by omega,by simp[Nd.cv],?_⟩
   refine JaE (.inl rfl) rfl hF nm (hq p (List.mem_of_getElem? hp)) ?_
   simp only[go_sem]
   refine ⟨fun h2=>?_,fun h2=>?_⟩
   ·rw[hinv,if_pos h2]
   ·rw[h2]at hinv
    refine ⟨Jm (by omega) (by omega),i+1,⟨by omega,by simpa using hinv⟩,by omega,?_⟩
    simp[forget]
  ·have:i=l.length:=by omega
   subst this
   rw[hinv]; simp[YW]
theorem containsN {f:Nat}{l1 l2:List CV}{F:IFunc}(l:List Nd) (q:Nd→Bool) (cap:Option Nat) (hF:Jd Tryz.prog f=some F) (hc1:Js l1=true) (hc2:Js l2=true)
  (hq:∀ p∈l,Fn Tryz.prog f (l1++[.agg p.cv]++l2) (.bool (q p))) (hlen:l.length≤100000):Fn Tryz.prog 97 [.rslc 5 (ndz l) cap,.fn f l1 l2] (.bool (l.any q)):=by
 refine Jc c97_ok (by simp[Js,CV.closed,hc1,hc2]) rfl fun N=>?_
 simp +contextual -implicitDefEqProofs only[c97,go_sem]
 refine JZ (indexN l q cap hF hc1 hc2 hq hlen) ?_
 simp +contextual -implicitDefEqProofs only[go_sem,Jfb]
def ndI (l:List Nd) (x:Nd):Bool:=JP (Jci x.text) x.k x.text x.n x.pl (lets l x)
theorem isFormN (t:Tr) (x:Nd) (hx:x.Fit) (hn:∀ y∈t.nodes,y.k < 256) (hk:∀ k∈x.kids,0≤k∧k < t.nodes.length):Fn Tryz.prog 91 [.agg x.cv,.rptr t.row] (.bool (!ndI t.nodes x)):=by
 have hl:(lets t.nodes x).length≤1000:=by rw[Jal]; have:=hx.kidn; omega
 refine Jc c91_ok rfl rfl fun N=>?_
 simp +contextual -implicitDefEqProofs only[c91,go_sem,Tr.row,Nd.cv]
 refine JZ (sortsL t x hx hn hk) ?_
 simp +contextual -implicitDefEqProofs only[go_sem]
 refine JZ (fnSort x.k hx.k) ?_
 simp +contextual -implicitDefEqProofs only[go_sem]
 have hs1:((letter x.k:Int) == 32)=(letter x.k == 32):=by
  rw[Bool.eq_iff_iff]; simp; omega
 rw[hs1]
 cases b1:(letter x.k == 32) with
 |true=>
  simp +contextual -implicitDefEqProofs only[go_sem]
  simp[ndI,JP,b1]
 |false=>
  simp +contextual -implicitDefEqProofs only[go_sem]
  refine JO (gok rfl) (expectedL x _ hl) ?_
  simp +contextual -implicitDefEqProofs only[go_sem]
  cases b2:(lets t.nodes x == KU x.k (lets t.nodes x)) with
  |false=>
   simp +contextual -implicitDefEqProofs only[go_sem]
   simp[ndI,JP,b2]
  |true=>
   simp +contextual -implicitDefEqProofs only[go_sem]
   refine JO (gok rfl) (within 0 2500 x.pl) ?_
   simp +contextual -implicitDefEqProofs only[go_sem]
   cases b3:inI 0 2500 x.pl with
   |false=>
    simp +contextual -implicitDefEqProofs only[go_sem]
    simp[ndI,JP,b3]
   |true=>
    simp +contextual -implicitDefEqProofs only[go_sem]
    refine JO (gok rfl) (fieldsL x _ (Jci x.text) (isNameW x.text (by have:=hx.text; omega))) ?_
    simp +contextual -implicitDefEqProofs only[go_sem]
    cases b4:fldI (Jci x.text) x.k x.text x.n (lets t.nodes x) with
    |false=>
     simp +contextual -implicitDefEqProofs only[go_sem]
     unfold fldI at b4
     simp[ndI,JP,b4]
    |true=>
     simp +contextual -implicitDefEqProofs only[go_sem]
     refine JO (gok rfl) (sizedL x _) ?_
     simp +contextual -implicitDefEqProofs only[go_sem]
     unfold fldI at b4
     simp[ndI,JP,b1,b2,b3,b4]
theorem isFormS (t:Tr) (ht:t.Fit) {o:List Int}(h:Ju (JE t.nodes) []=some o):Fn Tryz.prog 49 [t.cv] (.bool (XK o (fun i=>Jj t.nodes i == 65) t.nodes.length t.items 0 && t.nodes.all (ndI t.nodes))):=by
 have hl:=KS _ _ _ h
 simp[JE]at hl
 refine Jc c49_ok rfl rfl fun N=>?_
 simp +contextual only[c49,go_sem,Tr.cv,Tr.row]
 refine Jk (id:=0) (z:=2) (els:=[t.row]) rfl rfl ?_
 simp only[go_sem,Kt,KR,frz,Qo]
 simp +contextual only[go_sem,Tr.row]
 refine JZ (firstsS t ht h) ?_
 simp +contextual only[go_sem,Tr.row]
 refine JO (gok rfl) (areItems t ht o (KI _ _ _ Ql.nil h) hl) ?_
 simp +contextual only[go_sem]
 cases b1:XK o (fun i=>Jj t.nodes i == 65) t.nodes.length t.items 0 with
 |false=>simp +contextual only[go_sem]
 |true=>
  simp +contextual only[go_sem,Tr.row]
  refine JZ (containsN t.nodes (fun x=>!ndI t.nodes x) none c91_ok rfl rfl (fun x hx=>?_) (by have:=ht.many; omega)) ?_
  ·obtain ⟨j,hj⟩:=Gn hx
   have hjl:=(Gg.1 hj).1
   have hkj:(JE t.nodes)[j]? = some x.kids:=by simp[JE,hj]
   exact isFormN t x (ht.nodes x hx) (fun y hy=>(ht.nodes y hy).k) (fun k hk=>by have:=Qj h hkj k hk; omega)
  ·simp +contextual only[go_sem]
   congr 1
   rw[Bool.eq_iff_iff]
   simp
theorem isFormN0 (t:Tr) (ht:t.Fit) (h:Ju (JE t.nodes) []=none):Fn Tryz.prog 49 [t.cv] (.bool false):=by
 refine Jc c49_ok rfl rfl fun N=>?_
 simp +contextual only[c49,go_sem,Tr.cv,Tr.row]
 refine JZ (firstsN t ht h) ?_
 simp +contextual only[go_sem]
def frm (t:Tr):Bool:=match Ju (JE t.nodes) []with
 |some o=>XK o (fun i=>Jj t.nodes i == 65) t.nodes.length t.items 0 && t.nodes.all (ndI t.nodes)
 |none=>false
theorem isForm (t:Tr) (ht:t.Fit):Fn Tryz.prog 49 [t.cv] (.bool (frm t)):=by
 unfold frm
 cases h:Ju (JE t.nodes) []with
 |none=>exact isFormN0 t ht h
 |some o=>exact isFormS t ht h
def chk (t:Tr):Int:=if 700 < t.nodes.length∨20 < t.items.length then 5 else if frm t=true then (if JaU t=true then 5 else 0) else 4
theorem frm_some {t:Tr}(h:frm t=true):∃ o,Ju (JE t.nodes) []=some o:=by
 unfold frm at h
 cases ho:Ju (JE t.nodes) []with
 |none=>rw[ho]at h; cases h
 |some o=>exact ⟨o,rfl⟩
theorem Qg (t:Tr) (ht:t.Fit):Fn Tryz.prog 14 [t.cv] (.int .i64 (chk t)):=by
 refine Jc c14_ok rfl rfl fun N=>?_
 simp +contextual -implicitDefEqProofs only[c14,go_sem,Tr.cv,Tr.row]
 refine Jk (id:=0) (z:=2) (els:=[t.row]) rfl rfl ?_
 simp only[go_sem,Kt,KR,frz,Qo]
 refine JZ (isGreat t) ?_
 by_cases h1:700 < t.nodes.length∨20 < t.items.length
 ·have hc:chk t=5:=by unfold chk; rw[if_pos h1]
  rw[decide_eq_true h1,hc]
  simp +contextual -implicitDefEqProofs only[go_sem]
 ·rw[decide_eq_false h1]
  simp +contextual -implicitDefEqProofs only[go_sem,Tr.row]
  refine JZ (isForm t ht) ?_
  cases h2:frm t with
  |false=>
   have hc:chk t=4:=by unfold chk; rw[if_neg h1,if_neg (by rw[h2]; simp)]
   rw[hc]
   simp +contextual -implicitDefEqProofs only[go_sem]
  |true=>
   obtain ⟨o,ho⟩:=frm_some h2
   have hc:chk t=if JaU t=true then 5 else 0:=by unfold chk; rw[if_neg h1,if_pos h2]
   rw[hc]
   simp +contextual -implicitDefEqProofs only[go_sem,Tr.row]
   refine JZ (isDeep t ht ho) ?_
   cases h3:JaU t with
   |false=>simp +contextual -implicitDefEqProofs only[go_sem]
   |true=>simp +contextual -implicitDefEqProofs only[go_sem]
end Go.Cm
end
section
open Go.Proofs
namespace Go.Cm
theorem firstsF_of {K:List (List Int)}{o:List Int}(hl:o.length=K.length) (h:∀ (j:Nat) ks,K[j]? = some ks→∃ f,o[j]? = some f∧K5 o ks.reverse ((j:Int)-1)=some (f-1)):Ju K []=some o:=by
 have key:∀ i,i≤K.length→Ju (K.take i) []=some (o.take i):=by
  intro i
  induction i with
  |zero=>intro _; simp[Ju]
  |succ i ih=>
   intro hi
   have h1:=ih (by omega)
   obtain ⟨ks,hk⟩:∃ ks,K[i]? = some ks:=⟨_,Gb (by omega)⟩
   obtain ⟨f,hf,hb⟩:=h i ks hk
   have hs:=(YY h1 hk).1
   have ho:=KI _ _ _ Ql.nil h1
   have hil:(o.take i).length=i:=by rw[Gh]; omega
   have hb2:K5 (o.take i) ks.reverse ((i:Int)-1)=some (f-1):=by
    rw[← JbX (t:=o.drop i) ho ks.reverse _ (by rw[hil]; omega),Gm]; exact hb
   have hst:JbC (o.take i) ks=some f:=by
    unfold JbC; rw[hil,hb2]; simp
   rw[hs,hst,List.take_add_one,hf]; rfl
 have:=key K.length (Nat.le_refl _)
 rw[Gp,← hl,Gp]at this
 exact this
theorem Jdy {out out':List Int}{d:Int}(hd:0≤d):∀ (ks:List Int) (a:Int),(∀ k∈ks,d≤k∧out'.getD (k + -d).toNat 0=out.getD k.toNat 0 + -d)→K5 out' (ks.map (· + -d)) (a + -d)=(K5 out ks a).map (· + -d)
 |[],a,_=>rfl
 |k::ks,a,h=>by
  obtain ⟨h1,h2⟩:=h k (by simp)
  simp only[Gt,K5]
  by_cases hc:a < 0∨k≠a
  ·rw[if_pos hc,if_pos (by omega)]; rfl
  ·rw[if_neg hc,if_neg (by omega),h2,show out.getD k.toNat 0 + -d-1=(out.getD k.toNat 0-1) + -d by omega]
   exact Jdy hd ks _ fun x hx=>h x (by simp[hx])
theorem Je4 {l:List Int}{d m:Nat}{e:Int}{k:Int}(h1:d≤k) (h2:k < m) (h3:m≤l.length):(((l.take m).drop d).map (· + e)).getD (k + -(d:Int)).toNat 0=l.getD k.toNat 0+e:=by
 have h4:(k + -(d:Int)).toNat=k.toNat-d:=by omega
 have h5:k.toNat < l.length:=by omega
 rw[h4,Ga,Gf,Gc,Gd,if_pos (by omega),show d+(k.toNat-d)=k.toNat by omega,Ga,Gb h5]
 rfl
section
variable {K:List (List Int)}{o:List Int}(t:Ordd K o) {d m:Nat}(hdm:d≤m) (hm:m≤K.length) (hin:∀ j:Nat,d≤j→j < m→(d:Int)≤fs o j)
include t hin
theorem JeI {j:Nat}(h1:d≤j) (h2:j < m) {ks:List Int}(hj:K[j]? = some ks) {k:Int}(hk:k∈ks):(d:Int)≤k∧k < j:=by
 have:=t.kid_rng hj hk
 have hlt:=(Gg.1 hj).1
 have h3:=t.rng (j:=k) (by omega) (by omega)
 have:=hin j h1 h2
 omega
include hm
theorem seg_firsts:Ju (((K.take m).drop d).map fun ks=>ks.map (· + -(d:Int))) []=some (((o.take m).drop d).map (· + -(d:Int))):=by
 have hol:=t.len
 refine firstsF_of (by simp[hol]) fun j ks hj=>?_
 rw[Gf,Gc,Gd]at hj
 by_cases hlt:d+j < m
 ·rw[if_pos hlt]at hj
  obtain ⟨ks0,hk0,rfl⟩:∃ ks0,K[d+j]? = some ks0∧ks0.map (· + -(d:Int))=ks:=by
   cases h:K[d+j]? with
   |none=>rw[h]at hj; simp at hj
   |some x=>rw[h]at hj; exact ⟨x,rfl,by simpa using hj⟩
  obtain ⟨f,hf,hb⟩:=Xw t.h hk0
  refine ⟨f + -(d:Int),?_,?_⟩
  ·rw[Gf,Gc,Gd,if_pos hlt,hf]; rfl
  ·have:=Jdy (out:=o) (out':=((o.take m).drop d).map (· + -(d:Int))) (d:=d) (by omega) ks0.reverse (((d+j:Nat):Int)-1) (fun k hk=>by
    have hr:=JeI t hin (Gj d j) hlt hk0 (List.mem_reverse.1 hk)
    exact ⟨hr.1,Je4 hr.1 (by omega) (by omega)⟩)
   rw[hb,List.map_reverse,show ((d+j:Nat):Int)-1 + -(d:Int)=(j:Int)-1 by omega]at this
   rw[this]
   simp only[Option.map_some]
   congr 1; omega
 ·rw[if_neg hlt]at hj; simp at hj
end
theorem deepF_pre:∀ (K:List (List Int)) (d:List Int),∃ t,KC K d=d++t
 |[],d=>⟨[],by simp[KC]⟩
 |ks::K,d=>by
  obtain ⟨t,ht⟩:=deepF_pre K (d++[ownD d ks])
  exact ⟨_,by rw[KC,ht,List.append_assoc]⟩
theorem JbV {K:List (List Int)}{m:Nat}(hm:m≤K.length):KC (K.take m) []=(KC K []).take m:=by
 have h:=Jdv (K.take m) (K.drop m) []
 rw[Gm]at h
 obtain ⟨t,ht⟩:=deepF_pre (K.drop m) (KC (K.take m) [])
 have hl:=Y2 (K.take m) []
 simp only[Gi,Gl,Gh]at hl
 have hl2:(KC (K.take m) []).length=m:=by rw[hl]; exact Nat.min_eq_left hm
 rw[h,ht,List.take_left' hl2]
theorem ownD_shift {D D':List Int}{e:Int}(ks:List Int) (h:∀ k∈ks,D'.getD (k+e).toNat 0=D.getD k.toNat 0):ownD D' (ks.map (· + e))=ownD D ks:=by
 unfold ownD
 have key:∀ (l:List Int) (a:Int),(∀ k∈l,D'.getD (k+e).toNat 0=D.getD k.toNat 0)→(l.map (· + e)).foldl (fun a k=>mx a (D'.getD k.toNat 0+1)) a=l.foldl (fun a k=>mx a (D.getD k.toNat 0+1)) a:=by
  intro l
  induction l with
  |nil=>intro a _; rfl
  |cons k l ih=>
   intro a h
   rw[Gt,Gs,Gs,h k (by simp)]
   exact ih _ fun x hx=>h x (by simp[hx])
 exact key ks 1 h
theorem seg_deep {K:List (List Int)}{o:List Int}(t:Ordd K o) {d m:Nat}(hdm:d≤m) (hm:m≤K.length) (hin:∀ j:Nat,d≤j→j < m→(d:Int)≤fs o j):KC (((K.take m).drop d).map fun ks=>ks.map (· + -(d:Int))) []=((KC K []).take m).drop d:=by
 have hDl:=Y2 K []
 simp only[Gi,Gl]at hDl
 generalize hK':(((K.take m).drop d).map fun ks=>ks.map (· + -(d:Int)))=K'
 have hl':K'.length=m-d:=by rw[← hK']; simp; omega
 have key:∀ i,i≤m-d→KC (K'.take i) []=((KC K []).take (d+i)).drop d:=by
  intro i
  induction i with
  |zero=>intro _; simp[KC]
  |succ i ih=>
   intro hi
   obtain ⟨ks0,hk0⟩:∃ ks0,K[d+i]? = some ks0:=⟨_,Gb (by omega)⟩
   have hk:K'[i]? = some (ks0.map (· + -(d:Int))):=by
    rw[← hK',Gf,Gc,Gd,if_pos (by omega),hk0]; rfl
   rw[Jao hk,ih (by omega),← Nat.add_assoc]
   have h2:=Jao hk0
   rw[JbV (by omega),JbV (by omega)]at h2
   rw[h2,List.drop_append_of_le_length (by rw[Gh]; omega)]
   congr 2
   refine ownD_shift ks0 fun k hk=>?_
   have hr:=JeI t hin (Gj d i) (by omega) hk0 hk
   have h4:(k + -(d:Int)).toNat=k.toNat-d:=by omega
   rw[h4,Ga,Ga,Gc,show d+(k.toNat-d)=k.toNat by omega]
 have:=key (m-d) (Nat.le_refl _)
 rw[List.take_of_length_le (by omega),show d+(m-d)=m by omega]at this
 exact this
def mvN (d:Int) (x:Nd):Nd:={ x with kids:=x.kids.map (· + d) }
def segN (l:List Nd) (d m:Nat):List Nd:=((l.take m).drop d).map (mvN (-(d:Int)))
theorem segN_len {l:List Nd}{d m:Nat}(hm:m≤l.length):(segN l d m).length=m-d:=by simp[segN]; omega
theorem segN_get {l:List Nd}{d m j:Nat}(h:d+j < m) (hm:m≤l.length):(segN l d m)[j]? = some (mvN (-(d:Int)) (l.getD (d+j) default)):=by
 rw[segN,Gf,Gc,Gd,if_pos h,Ga,Gb (by omega)]; rfl
theorem segN_kids {l:List Nd}{d m:Nat}:JE (segN l d m)=(((JE l).take m).drop d).map fun ks=>ks.map (· + -(d:Int)):=by
 simp only[JE,segN,Gu,List.map_take,List.map_drop]
 rfl
theorem JcQ {l:List Nd}{d m:Nat}{k:Int}(h1:d≤k) (h2:k < m) (hm:m≤l.length):Jj (segN l d m) (k + -(d:Int))=Jj l k:=by
 have h4:(k + -(d:Int)).toNat=k.toNat-d:=by omega
 unfold Jj
 rw[h4,Ga,segN_get (by omega) hm,show d+(k.toNat-d)=k.toNat by omega]; rfl
structure GoodT (t:Tr) (o:List Int):Prop where
 many:t.nodes.length≤700
 items:t.items.length≤20
 ord:Ordd (JE t.nodes) o
 its:chain o t.nodes.length 0 t.items t.nodes.length
 defs:∀ i∈t.items,Jj t.nodes i=65
 nds:∀ x∈t.nodes,ndI t.nodes x=true
 deep:∀ v∈KC (JE t.nodes) [],v≤30
theorem KA {l:List Nd}:(JE l).length=l.length:=by simp[JE]
theorem Kq (t:Tr):chk t=0↔∃ o,GoodT t o:=by
 constructor
 ·intro h
  unfold chk at h
  split at h
  ·simp at h
  ·rename_i h1
   split at h
   ·rename_i h2
    split at h
    ·simp at h
    ·rename_i h3
     obtain ⟨o,ho⟩:=frm_some h2
     unfold frm at h2
     rw[ho]at h2
     simp only[Bool.and_eq_true,Gr]at h2
     have hok:=KI _ _ _ Ql.nil ho
     have hol:=KS _ _ _ ho
     simp only[Gi,Gl,KA]at hol
     obtain ⟨c1,c2⟩:=(Q8 hok hol t.items 0 (by omega)).1 h2.1
     refine ⟨o,⟨by omega,by omega,⟨ho⟩,c1,fun i hi=>by simpa using c2 i hi,h2.2,fun v hv=>?_⟩⟩
     by_cases hv2:v≤30
     ·exact hv2
     ·refine absurd ?_ h3
      unfold JaU
      rw[Gq]
      exact ⟨v,hv,by simpa using Int.not_le.1 hv2⟩
   ·simp at h
 ·rintro ⟨o,g⟩
  have h1:=g.many
  have h2:=g.items
  unfold chk
  rw[if_neg (by omega),if_pos,if_neg]
  ·unfold JaU
   rw[Gq]
   rintro ⟨v,hv,hd⟩
   have:=g.deep v hv
   simp only[decide_eq_true_eq]at hd
   omega
  ·unfold frm
   rw[g.ord.h]
   have hol:=g.ord.len
   rw[KA]at hol
   simp only[Bool.and_eq_true,Gr]
   refine ⟨(Q8 g.ord.ok hol t.items 0 (by omega)).2 ⟨g.its,fun i hi=>by simpa using g.defs i hi⟩,g.nds⟩
namespace GoodT
variable {t:Tr}{o:List Int}(g:GoodT t o)
include g
theorem olen:o.length=t.nodes.length:=by rw[g.ord.len,KA]
theorem kid {j:Nat}(hj:j < t.nodes.length) {k:Int}(hk:k∈(t.nodes.getD j default).kids):0≤k∧k < j:=by
 have:=g.ord.kid_rng (J5 hj) hk
 omega
theorem seg {d m:Nat}(hdm:d≤m) (hm:m≤t.nodes.length) (hin:∀ j:Nat,d≤j→j < m→(d:Int)≤fs o j) (its:List Int) (h1:its.length≤20)
  (h2:chain (((o.take m).drop d).map (· + -(d:Int))) (m-d) 0 its (m-d:Nat)) (h3:∀ i∈its,Jj (segN t.nodes d m) i=65):GoodT ⟨segN t.nodes d m,its⟩ (((o.take m).drop d).map (· + -(d:Int))):=by
 have hmK:m≤(JE t.nodes).length:=by rw[KA]; exact hm
 have hl:=segN_len (d:=d) hm
 have hmany:=g.many
 refine ⟨by simp only[hl]; omega,h1,⟨?_⟩,by simp only[hl]; exact h2,h3,?_,?_⟩
 ·simp only[segN_kids]
  exact seg_firsts g.ord hmK hin
 ·intro x hx
  obtain ⟨j,hj⟩:=Gn hx
  simp only at hj hx
  have hjl:j < m-d:=by
   have:=(Gg.1 hj).1
   omega
  rw[segN_get (by omega) hm,Option.some.injEq]at hj
  subst hj
  have hlt:d+j < t.nodes.length:=by omega
  have hn:=g.nds (t.nodes.getD (d+j) default) (by rw[Ga,Gb hlt]; exact List.getElem_mem hlt)
  have hlets:lets (segN t.nodes d m) (mvN (-(d:Int)) (t.nodes.getD (d+j) default))=lets t.nodes (t.nodes.getD (d+j) default):=by
   unfold lets mvN
   simp only[Gu]
   refine List.map_congr_left fun k hk=>?_
   have hr:=JeI g.ord hin (Gj d j) (by omega) (J5 hlt) hk
   simp only[Function.comp_apply]
   rw[JcQ hr.1 (by omega) hm]
  unfold ndI at hn ⊢
  simp only at hn ⊢
  rw[hlets]
  exact hn
 ·intro v hv
  simp only[segN_kids]at hv
  rw[seg_deep g.ord hdm hmK hin]at hv
  exact g.deep v (List.mem_of_mem_take (List.mem_of_mem_drop hv))
end GoodT
end Go.Cm
end
end
