/-
  A part of the proof. Conditions: none.
-/
import Derived.Test.YtaiboeciecfgoaaGreatDoorRP46
set_option linter.unusedSimpArgs false
set_option linter.unusedVariables false
open Go.Proofs.Tryz renaming prog→Gd
open List renaming drop_zero→Ga,append_nil→Gc,length_cons→Gh,map_cons→Gf,range→Gb,getD_eq_getElem?_getD→Gn,map_nil→Gg,getElem?_eq_getElem→Gp,drop_eq_nil_of_le→Gr,length_append→Gs,length_filter_le→Gv,cons_append→Gw,nil_append→Gx,length_nil→Gy,mem_of_mem_drop→Gz,length_range→GA,mem_filter→GD,any_cons→GG,any_nil→GH
open Int renaming toNat_natCast→Gm
open Bool renaming true_and→Gi,not_true→Gj,not_false→Gl,true_or→Gq,false_and→Gt,false_or→Gu
noncomputable section
section
set_option maxRecDepth 100000
set_option maxHeartbeats 4000000
open Go.Proofs
namespace Go.Cm
section
theorem Jec {q:Int→Bool}:∀ (l:List Int) (i:Nat),(QU q l i = -1∧l.find? q=none)∨∃ j,j < l.length∧QU q l i=((i+j:Nat):Int)∧l.find? q=some (l.getD j 0)
 |[],i=>.inl ⟨rfl,rfl⟩
 |x::l,i=>by
  rw[QU,List.find?_cons]
  cases hq:q x with
  |true=>exact .inr ⟨0,by simp,by simp,by simp⟩
  |false=>
   rcases Jec l (i+1) with ⟨h1,h2⟩ | ⟨j,h1,h2,h3⟩
   ·exact .inl ⟨by simpa using h1,h2⟩
   ·exact .inr ⟨j+1,by simpa using h1,by simp[h2]; omega,by simpa using h3⟩
theorem indexFI {f:Nat}{l1 l2:List CV}{F:IFunc}(l:List Int) (q:Int→Bool) (cap:Option Nat) (hF:Je Gd f=some F) (hc1:Jm l1=true) (hc2:Jm l2=true)
  (hq:∀ p∈l,Fn Gd f (l1++[.int .i64 p]++l2) (.bool (q p))) (hlen:l.length≤1000000):Fn Gd 59 [.rslc 1 (iz l) cap,.fn f l1 l2] (.int .i64 (QU q l 0)):=by
 have hil:(iz l).length=l.length:=Jf
 refine Ja c59_ok (by simp[Jm,CV.closed,hc1,hc2]) rfl fun N=>?_
 simp -implicitDefEqProofs only[c59,go_sem,hil]
 refine Jz (I:=fun i:Nat=>i≤l.length∧QU q l 0=QU q (l.drop i) i) (inv:=fun i=>gp [(0,.rslc 1 (iz l) cap),(0,.fn f l1 l2),(5,.int .i64 l.length),(0,.int .i64 i)] 10) (hp:=fun _=>[]) (μ:=fun i=>l.length-i) 0 ⟨by omega,rfl⟩ ?_ rfl ?_
 ·simp[forget,gp]
 ·rintro i ⟨hi,hinv⟩
  by_cases hlt:i < l.length
  ·have d1:((i:Int) < (l.length:Int))=True:=Jn
   have hgi:=JR hlt
   have hge:l[i]? = some (l.getD i 0):=by rw[Gn,Gp hlt]; rfl
   have hm:l.getD i 0∈l:=List.mem_of_getElem? hge
   rw[QF hge]at hinv
   simp -implicitDefEqProofs only[go_sem,hil,d1,hgi]
   refine ⟨by omega,?_⟩
   refine vr_fv (.inl rfl) rfl hF (JaE JC _) (hq _ hm) ?_
   cases hb:q (l.getD i 0) with
   |true=>
    rw[hb,if_pos rfl]at hinv
    simp -implicitDefEqProofs only[go_sem,hinv]
   |false=>
    rw[hb]at hinv
    simp -implicitDefEqProofs only[go_sem]
    refine ⟨Ji,i+1,⟨by omega,by simpa using hinv⟩,by omega,?_⟩
    simp[forget]
  ·have d1:((i:Int) < (l.length:Int))=False:=Jj
   rw[Gr (by omega)]at hinv
   simp -implicitDefEqProofs only[go_sem,hil,d1,hinv,QU]
theorem nNamed1 (t:Tr) (s:List UInt8) {i:Nat}(hi:i < t.nodes.length):Fn Gd 164 [.int .i64 (i:Int),.rptr [.rptr (tRw t)],.rptr [S s]] (.bool ((nd t i).text == s)):=by
 have hg:=J6 hi
 refine Ja c164_ok rfl rfl fun N=>?_
 simp -implicitDefEqProofs only[c164,go_sem]
 refine JS JA (by decide) ?_
 simp -implicitDefEqProofs only[go_sem,tRw,Jc,hg,Nd.cv]
 omega
theorem nNamed (t:Tr) (s:List UInt8) (l:List Int) (hl:∀ d∈l,0≤d∧d < t.nodes.length) (hlen:l.length≤1000000):Fn Gd 129 [.rptr (tRw t),.rslc 1 (iz l) none,S s] (.int .i64 (JcK t l s)):=by
 have hil:(iz l).length=l.length:=Jf
 unfold JcK
 generalize hq:(fun d:Int=>(nd t d.toNat).text == s)=q
 refine Ja c129_ok rfl rfl fun N=>?_
 simp -implicitDefEqProofs only[c129,go_sem]
 refine Jg (id:=0) (z:=1) (els:=[[.rptr (tRw t)]]) rfl rfl ?_
 simp only[go_sem,J2,Ko,frz,KG,Ga]
 refine Jg (id:=1) (z:=1) (els:=[[S s]]) rfl rfl ?_
 simp only[go_sem,J2,Ko,frz,KG,Ga]
 refine JV (indexFI l q none c164_ok rfl rfl (fun p hp=>?_) hlen) ?_
 ·have hb:=hl p hp
  obtain ⟨p,rfl⟩:∃ p':Nat,p=p':=⟨p.toNat,by omega⟩
  have h:=nNamed1 t s (i:=p) (by omega)
  rw[← hq]
  simpa only[Gx,Gw,Gm]using h
 ·rcases Jec (q:=q) l 0 with ⟨h1,h2⟩ | ⟨j,h1,h2,h3⟩
  ·have e1:((-1:Int) < 0)=True:=Jn
   simp -implicitDefEqProofs only[go_sem,h1,h2,e1]
  ·rw[Nat.zero_add]at h2
   have e1:((j:Int) < 0)=False:=Jj
   have hgj:=JR h1
   simp -implicitDefEqProofs only[go_sem,h2,h3,e1,hil,hgj]
   omega
section
variable {t:Tr}{o:List Int}(g:GoodT t o) (ht:t.Fit)
include g ht
theorem nMeaning {i:Nat}(hi:i < t.nodes.length):Fn Gd 107 [.rptr (tRw t),.int .i64 (i:Int)] (.tup [.int .i64 (Q8 t o i),.bool (Qx t i)]):=by
 have hg:=J6 hi
 have hmany:=g.many
 have hitm:=ht.items
 refine Ja c107_ok rfl rfl fun N=>?_
 unfold Q8 Qx
 by_cases h3:(nd t i).k=3
 ·have hm:=named_means g hi (by omega)
  have hs:∀ d∈JbD t i,0≤d∧d < t.nodes.length:=fun d hd=>Qp.1 (GD.1 hd).1
  have hsl:(JbD t i).length≤1000000:=by
   have:=Gv (fun d=>(Xr t t.nodes.length i).contains d) (Ka t)
   unfold JbD
   have h2:(Ka t).length=t.nodes.length:=by simp[Ka]
   omega
  have hN:=nNamed t (nd t i).text (JbD t i) hs hsl
  rw[hm]at hN
  simp -implicitDefEqProofs only[c107,go_sem,tRw,Jc,hg,Nd.cv,kbE,h3]
  refine ⟨by omega,?_⟩
  refine Jg (id:=0) (z:=5) (els:=[(nd t i).cv]) (by simp only[Nd.cv,h3]; rfl) rfl ?_
  simp only[go_sem,J2,Ko,frz,KG,Ga]
  refine JS JA (by decide) ?_
  simp -implicitDefEqProofs only[go_sem,Nd.cv]
  refine JO (.inl rfl) (nSight g ht hi) ?_
  simp -implicitDefEqProofs only[go_sem,Nd.cv]
  refine JO (.inl rfl) hN ?_
  simp -implicitDefEqProofs only[go_sem,if_true,BEq.rfl,Gq]
 have b3:((nd t i).k == 3)=false:=beq_eq_false_iff_ne.2 h3
 rw[if_neg h3,b3,Gu]
 by_cases h26:(nd t i).k=26
 ·have hN:=nNamed t (nd t i).text t.items (fun d hd=>by have:=g.itr hd; omega) (by omega)
  rw[call_means g]at hN
  simp -implicitDefEqProofs only[c107,go_sem,tRw,Jc,hg,Nd.cv,kbE,h26]
  refine ⟨by omega,?_⟩
  refine Jg (id:=0) (z:=5) (els:=[(nd t i).cv]) (by simp only[Nd.cv,h26]; rfl) rfl ?_
  simp only[go_sem,J2,Ko,frz,KG,Ga]
  refine JS JA (by decide) ?_
  simp -implicitDefEqProofs only[go_sem,Nd.cv]
  refine JO (.inl rfl) hN ?_
  simp -implicitDefEqProofs only[go_sem,if_true,BEq.rfl,Gq]
 have b26:((nd t i).k == 26)=false:=beq_eq_false_iff_ne.2 h26
 rw[if_neg h26,b26,Gu]
 by_cases h44:(nd t i).k=44
 ·obtain ⟨u,hu1,hu2,hu3,hu4⟩:=Xv g hi (by omega)
  have hK:=XY ht (x:=(u:Int)) (k:=43)
  rw[Gm]at hK
  have hN:=nNamed t (nd t i).text (Qh t u 43) (fun d hd=>JdZ g hu2 hd) (by omega)
  rw[next_means g hu2 hu1]at hN
  simp -implicitDefEqProofs only[c107,go_sem,tRw,Jc,hg,Nd.cv,kbE,h44]
  refine ⟨by omega,?_⟩
  refine Jg (id:=0) (z:=5) (els:=[(nd t i).cv]) (by simp only[Nd.cv,h44]; rfl) rfl ?_
  simp only[go_sem,J2,Ko,frz,KG,Ga]
  refine JS JA (by decide) ?_
  simp -implicitDefEqProofs only[go_sem,Nd.cv,KL,upz hi,hu1]
  refine ⟨by omega,?_⟩
  refine JO (.inl rfl) (nKidsF g ht hu2 43) ?_
  simp -implicitDefEqProofs only[go_sem,Nd.cv]
  refine JO (.inl rfl) hN ?_
  simp -implicitDefEqProofs only[go_sem,if_true,BEq.rfl,Gq]
 have b44:((nd t i).k == 44)=false:=beq_eq_false_iff_ne.2 h44
 rw[if_neg h44,b44]
 simp -implicitDefEqProofs only[c107,go_sem,tRw,Jc,hg,Nd.cv,kbE,b3,b26,b44]
 omega
def twQ (t:Tr) (i k:Nat):Bool:=(nd t k).text == (nd t i).text && (if (nd t i).k=44 then (nd t k).k == 44 && J3 t k == J3 t i else if (nd t i).k=65 then (nd t k).k == 65 else !((nd t k).k == 65) && (Kk (nd t k).k && Xf t k == Xf t i))
omit g ht in
theorem nTwice1 {i k:Nat}(hi:i < t.nodes.length) (hk:k < t.nodes.length):Fn Gd 130 [.int .i64 (k:Int),.rptr [.rptr (tRw t)],.rptr (nd t i).cv,.rptr [.int .i64 (i:Int)]] (.bool (twQ t i k)):=by
 have hg:=J6 hk
 refine Ja c130_ok rfl rfl fun N=>?_
 unfold twQ
 cases ht:(nd t k).text == (nd t i).text with
 |false=>
  simp -implicitDefEqProofs only[c130,go_sem,tRw,Jc,hg,Nd.cv,ht,Gl,Gt]
  omega
 |true=>
  rw[Gi]
  by_cases h44:(nd t i).k=44
  ·rw[if_pos h44]
   simp -implicitDefEqProofs only[c130,go_sem,tRw,Jc,hg,Nd.cv,ht,kbE,h44,Gj]
   refine ⟨by omega,?_⟩
   refine Jg (id:=0) (z:=5) (els:=[(nd t k).cv]) rfl rfl ?_
   simp only[go_sem,J2,Ko,frz,KG,Ga,Nd.cv]
   refine JS JA (by decide) ?_
   cases hkk:(nd t k).k == 44 with
   |false=>
    simp -implicitDefEqProofs only[go_sem,kbE,hkk,Gt]
   |true=>
    simp -implicitDefEqProofs only[go_sem,kbE,hkk,KL,upz hi,upz hk,Gi]
    omega
  have b44:((nd t i).k == 44)=false:=beq_eq_false_iff_ne.2 h44
  rw[if_neg h44]
  by_cases h65:(nd t i).k=65
  ·rw[if_pos h65]
   simp -implicitDefEqProofs only[c130,go_sem,tRw,Jc,hg,Nd.cv,ht,kbE,h65,Gj]
   omega
  have b65:((nd t i).k == 65)=false:=beq_eq_false_iff_ne.2 h65
  rw[if_neg h65]
  simp -implicitDefEqProofs only[c130,go_sem,tRw,Jc,hg,Nd.cv,ht,kbE,b44,b65,Gj]
  refine ⟨by omega,?_⟩
  refine Jg (id:=0) (z:=5) (els:=[(nd t k).cv]) rfl rfl ?_
  simp only[go_sem,J2,Ko,frz,KG,Ga,Nd.cv]
  refine JS JA (by decide) ?_
  cases hkk:(nd t k).k == 65 with
  |true=>
   simp -implicitDefEqProofs only[go_sem,kbN,hkk,Gj,Gt]
  |false=>
   simp -implicitDefEqProofs only[go_sem,kbN,hkk,Gl,Gi]
   refine JO (gok rfl) (Jgl t hk) ?_
   cases hd:Kk (nd t k).k with
   |false=>
    simp -implicitDefEqProofs only[go_sem,Gt]
   |true=>
    have en:=Jct (Xf t i) (Xf t k)
    simp -implicitDefEqProofs only[go_sem,tRw,itz_len,itz hi,itz hk,en,Gi]
    omega
end
end
theorem twN_eq {t:Tr}{i:Nat}:twN t i=if (nd t i).k≠44∧Kk (nd t i).k=false then false else (Gb i).any (twQ t i):=rfl
theorem nTwice {t:Tr}{i:Nat}(hmany:t.nodes.length≤100000) (hi:i < t.nodes.length):Fn Gd 108 [.rptr (tRw t),.int .i64 (i:Int)] (.bool (twN t i)):=by
 have hg:=J6 hi
 refine Ja c108_ok rfl rfl fun N=>?_
 rw[twN_eq]
 simp -implicitDefEqProofs only[c108,go_sem]
 refine Jg (id:=0) (z:=1) (els:=[[.rptr (tRw t)]]) rfl rfl ?_
 simp only[go_sem,J2,Ko,frz,KG,Ga]
 refine Jg (id:=1) (z:=1) (els:=[[.int .i64 (i:Int)]]) rfl rfl ?_
 simp only[go_sem,J2,Ko,frz,KG,Ga]
 refine XA [false,false,false,false,false,false,false,false,true,true] JA (by decide +kernel) ?_
 simp -implicitDefEqProofs only[go_sem]
 refine vh_all (.rptr (tRw t)) (fun _=>rfl) trivial ?_
 by_cases h44:(nd t i).k=44
 ·rw[if_neg (fun h=>h.1 h44)]
  simp -implicitDefEqProofs only[go_sem,tRw,Jc,hg,Nd.cv,kbN,h44]
  refine ⟨by omega,?_⟩
  refine Jg (id:=2) (z:=5) (els:=[(nd t i).cv]) (by simp only[Nd.cv,h44]; rfl) rfl ?_
  simp only[go_sem,J2,Ko,frz,KG,Ga]
  refine Jz (I:=fun k:Nat=>k≤i∧(Gb i).any (twQ t i)=((Gb i).drop k).any (twQ t i)) (inv:=fun k=>gp [(6,.fn 130 [] [.rptr [.rptr (tRw t)],.rptr (nd t i).cv,.rptr [.int .i64 (i:Int)]]),(19,.int .i64 (i:Int)),(0,.int .i64 (k:Int))] 6) (hp:=fun _=>[.dead,.dead,.dead]) (μ:=fun k=>i-k) 0 ⟨by omega,rfl⟩ ?_ rfl ?_
  ·simp[forget,gp,tRw]
  ·rintro k ⟨hk,hinv⟩
   by_cases hlt:k < i
   ·have d1:((k:Int) < (i:Int))=True:=Jn
    rw[KN hlt,GG]at hinv
    simp -implicitDefEqProofs only[go_sem,d1]
    refine vr_fv (.inl rfl) rfl c130_ok (JaE JC _) (nTwice1 hi (by omega)) ?_
    cases hb:twQ t i k with
    |true=>
     rw[hb,Gq]at hinv
     simp -implicitDefEqProofs only[go_sem,hinv]
    |false=>
     rw[hb,Gu]at hinv
     simp -implicitDefEqProofs only[go_sem]
     refine ⟨Ji,k+1,⟨by omega,hinv⟩,by omega,?_⟩
     simp[forget]
   ·have d1:((k:Int) < (i:Int))=False:=Jj
    rw[show (Gb i).drop k=[] from Gr (by simp; omega),GH]at hinv
    simp -implicitDefEqProofs only[go_sem,d1,hinv]
 ·have b44:((nd t i).k == 44)=false:=beq_eq_false_iff_ne.2 h44
  simp -implicitDefEqProofs only[go_sem,tRw,Jc,hg,Nd.cv,kbN,b44,Gl]
  refine ⟨by omega,?_⟩
  refine Jg (id:=2) (z:=5) (els:=[(nd t i).cv]) rfl rfl ?_
  simp only[go_sem,J2,Ko,frz,KG,Ga]
  refine JN (gok rfl) (Jgl t hi) ?_
  cases hd:Kk (nd t i).k with
  |false=>
   simp -implicitDefEqProofs only[go_sem]
   rw[if_pos h44]
  |true=>
   rw[if_neg (show ¬ ((nd t i).k≠44∧true=false) from fun h=>by cases h.2)]
   simp -implicitDefEqProofs only[go_sem]
   refine Jz (I:=fun k:Nat=>k≤i∧(Gb i).any (twQ t i)=((Gb i).drop k).any (twQ t i)) (inv:=fun k=>gp [(6,.fn 130 [] [.rptr [.rptr (tRw t)],.rptr (nd t i).cv,.rptr [.int .i64 (i:Int)]]),(19,.int .i64 (i:Int)),(0,.int .i64 (k:Int))] 6) (hp:=fun _=>[.dead,.dead,.dead]) (μ:=fun k=>i-k) 0 ⟨by omega,rfl⟩ ?_ rfl ?_
   ·simp[forget,gp,tRw]
   ·rintro k ⟨hk,hinv⟩
    by_cases hlt:k < i
    ·have d1:((k:Int) < (i:Int))=True:=Jn
     rw[KN hlt,GG]at hinv
     simp -implicitDefEqProofs only[go_sem,d1]
     refine vr_fv (.inl rfl) rfl c130_ok (JaE JC _) (nTwice1 hi (by omega)) ?_
     cases hb:twQ t i k with
     |true=>
      rw[hb,Gq]at hinv
      simp -implicitDefEqProofs only[go_sem,hinv]
     |false=>
      rw[hb,Gu]at hinv
      simp -implicitDefEqProofs only[go_sem]
      refine ⟨Ji,k+1,⟨by omega,hinv⟩,by omega,?_⟩
      simp[forget]
    ·have d1:((k:Int) < (i:Int))=False:=Jj
     rw[show (Gb i).drop k=[] from Gr (by simp; omega),GH]at hinv
     simp -implicitDefEqProofs only[go_sem,d1,hinv]
section
section
variable {P:Program}{E:Env}{H:List CObj}
def RowC (z:Nat) (els:List (List CV)) (v:CV) (H':List CObj):Prop:=RowR z els v H'∨∃ id es,v=.slc id 0 els.length none∧H'[id]? = some (.arr z es)∧es.take els.length=els∧els≠[]
theorem fnRow_cut {f:Nat}{args:List CV}{z:Nat}{els:List (List CV)}(h:CallsC P Env.none f args [] (RowC z els)) (ha:Jm args=true) (hc:Jq els=true):Jbp P f args z els:=
 Jd6 (h.trunc (id:=0) (z:=0) (j:=0) (els:=[]) (v:=.un) fun v H' hv=>by
  rcases hv with hv | ⟨id,es,rfl,h2,h3,h4⟩
  ·exact .inl hv
  ·exact .inr ⟨id,z,es,els.length,h2,.row (id:=id) (Qz h4).symm (by rw[Qd h4,h3,List.getElem?_set_self (List.getElem?_eq_some_iff.1 h2).1])⟩) ha hc
end
structure OfOk (t:Tr) (of:List Int):Prop where
 len:of.length=t.nodes.length
 rng:∀ i,i < of.length→-1≤of.getD i 0∧of.getD i 0 < t.nodes.length
theorem OfOk.dft {t:Tr}{of:List Int}(h:OfOk t of) {i:Nat}(hi:i < of.length):of.getD i (-1)=of.getD i 0:=by
 simp[Gn,Gp hi]
def rRw (t:Tr) (of:List Int):List CV:=[.rptr (tRw t),.rslc 1 (iz of) none]
section
variable {t:Tr}{o:List Int}(g:GoodT t o) (ht:t.Fit)
include g ht
theorem nNeeds {of:List Int}(ho:OfOk t of) {s:Nat}(hs:s < t.nodes.length) (hk:(nd t s).k=41):Jbp Gd 53 [.agg (rRw t of),.int .i64 (s:Int)] 1 (iz (KF t o of s)):=by
 have hmany:=g.many
 have hol:(iz of).length=t.nodes.length:=by rw[Jf,ho.len]
 rw[← need_done g]
 refine fnRow_cut (KI c53_ok fun N=>?_) rfl (Jd _)
 simp -implicitDefEqProofs only[c53,go_sem,rRw,hol]
 refine Jg (id:=0) (z:=2) (els:=[rRw t of]) rfl rfl ?_
 simp only[go_sem,J2,Ko,frz,KG,Ga]
 refine XU ?_
 simp only[go_sem,Gw,Gx]
 refine JG (I:=fun i:Nat=>i≤t.nodes.length) (inv:=fun i=>gp [(1,.int .i64 (s:Int)),(0,.rptr (rRw t of)),(1,QC 1 (iz (QZ t o of s (Gb i)))),(4,.rslc 1 (iz of) none),(0,.int .i64 (t.nodes.length:Int)),(0,.int .i64 (i:Int))] 70) (hp:=fun i=>[.dead,Xu 1 (iz (QZ t o of s (Gb i)))]) (μ:=fun i=>t.nodes.length-i) 0 [0,1] (by omega) rfl ?_ rfl ?_
 ·simp[forget,JF,ren,Jo,gp,rRw,QC,iz,QZ]
 ·intro i hi
  by_cases hlt:i < t.nodes.length
  ·have d1:((i:Int) < (t.nodes.length:Int))=True:=Jn
   have hgi:=JR (l:=of) (i:=i) (by rw[ho.len]; exact hlt)
   have hrg:=ho.rng i (by rw[ho.len]; exact hlt)
   have hst:QZ t o of s (Gb (i+1))=QZ t o of s (Gb i)++QZ t o of s [i]:=by rw[List.range_succ,needC_app]
   have hcl:=JdR (t:=t) (o:=o) (of:=of) (s:=s) (Gb i)
   rw[GA]at hcl
   have hdf:=ho.dft (i:=i) (by rw[ho.len]; exact hlt)
   have h1:QZ t o of s [i]=if (decide (0≤of.getD i 0) && ((nd t (of.getD i 0).toNat).k == 42 && ((nd t i).k == 3 && (Ja0 o i s && (J3 t (J3 t (of.getD i 0).toNat).toNat == J3 t s && !buL t (upL t (JI t s) t.nodes.length i) false)))))=true then [J3 t (of.getD i 0).toNat] else []:=by
    rw[QZ,hdf]; rfl
   generalize QZ t o of s (Gb i)=acc at hst hcl ⊢
   generalize of.getD i 0=m at hgi hrg h1
   rcases Int.lt_or_le m 0 with hm0 | hm0
   ·obtain rfl:m = -1:=by omega
    have e1:((-1:Int) == -1)=true:=by decide
    have hnil:QZ t o of s [i]=[]:=by rw[h1,if_neg (by simp)]
    simp -implicitDefEqProofs only[go_sem,d1,hol,hgi,e1]
    refine ⟨by omega,?_⟩
    refine ⟨Ji,i+1,[0,1],by omega,by omega,rfl,?_,?_⟩
    ·rw[hst,hnil,Gc]; simp only[Kw,Gf,Gg,go_sem,KU (Jb (Jd acc)),Jr]
    ·rw[hst,hnil,Gc]; simp[forget,JF,ren,Jo,Qo,rRw]
   obtain ⟨m,rfl⟩:∃ m':Nat,m=m':=⟨m.toNat,by omega⟩
   have hmn:m < t.nodes.length:=by omega
   have e1:((m:Int) == -1)=false:=beq_eq_false_iff_ne.2 (by omega)
   rw[decide_eq_true hm0,Gi,Gm]at h1
   simp -implicitDefEqProofs only[go_sem,d1,hol,hgi,e1,rRw]
   refine ⟨by omega,?_⟩
   refine JN (gok rfl) (JcV t hmn) ?_
   cases hk42:(nd t m).k == 42 with
   |false=>
    have hnil:QZ t o of s [i]=[]:=by rw[h1,hk42,if_neg (by simp)]
    simp -implicitDefEqProofs only[go_sem,kbN,hk42,Gl]
    refine ⟨Ji,i+1,[0,1],by omega,by omega,rfl,?_,?_⟩
    ·rw[hst,hnil,Gc]; simp only[Kw,Gf,Gg,go_sem,KU (Jb (Jd acc)),Jr]
    ·rw[hst,hnil,Gc]; simp[forget,JF,ren,Jo,Qo,rRw]
   |true=>
    rw[hk42,Gi]at h1
    simp -implicitDefEqProofs only[go_sem,kbN,hk42,Gj,rRw]
    refine JN (gok rfl) (JcV t hlt) ?_
    cases hk3:(nd t i).k == 3 with
    |false=>
     have hnil:QZ t o of s [i]=[]:=by rw[h1,hk3,if_neg (by simp)]
     simp -implicitDefEqProofs only[go_sem,kbN,hk3,Gl]
     refine ⟨Ji,i+1,[0,1],by omega,by omega,rfl,?_,?_⟩
     ·rw[hst,hnil,Gc]; simp only[Kw,Gf,Gg,go_sem,KU (Jb (Jd acc)),Jr]
     ·rw[hst,hnil,Gc]; simp[forget,JF,ren,Jo,Qo,rRw]
    |true=>
     rw[hk3,Gi]at h1
     simp -implicitDefEqProofs only[go_sem,kbN,hk3,Gj,rRw]
     refine JN (gok rfl) (nBelow g hlt hs) ?_
     cases hb:Ja0 o i s with
     |false=>
      have hnil:QZ t o of s [i]=[]:=by rw[h1,hb,if_neg (by simp)]
      simp -implicitDefEqProofs only[go_sem,Gl]
      refine ⟨Ji,i+1,[0,1],by omega,by omega,rfl,?_,?_⟩
      ·rw[hst,hnil,Gc]; simp only[Kw,Gf,Gg,go_sem,KU (Jb (Jd acc)),Jr]
      ·rw[hst,hnil,Gc]; simp[forget,JF,ren,Jo,Qo,rRw]
     |true=>
      rw[hb,Gi]at h1
      have h42:(nd t m).k=42:=beq_iff_eq.1 hk42
      have h3:(nd t i).k=3:=beq_iff_eq.1 hk3
      obtain ⟨v,hv1,hv2,_,_⟩:=Xv g hmn (by omega)
      have hL:=nLate g ht hs hk ((Jc2 g hs hk (by omega)).1 (K9.1 hb))
      rw[hv1,Gm]at h1
      simp -implicitDefEqProofs only[go_sem,Gj,rRw,tRw,KL,upz hmn,hv1]
      refine ⟨by omega,?_⟩
      refine JS JA (by decide) ?_
      cases hpp:(J3 t v == J3 t s) with
      |false=>
       have hnil:QZ t o of s [i]=[]:=by rw[h1,hpp,if_neg (by simp)]
       simp -implicitDefEqProofs only[go_sem,KL,upz hv2,upz hs,hpp]
       refine ⟨by omega,by omega,?_⟩
       refine ⟨Ji,i+1,[0,1],by omega,by omega,rfl,?_,?_⟩
       ·rw[hst,hnil,Gc]; simp only[Kw,Gf,Gg,go_sem,KU (Jb (Jd acc)),Jr]
       ·rw[hst,hnil,Gc]; simp[forget,JF,ren,Jo,Qo,rRw]
      |true=>
       rw[hpp,Gi]at h1
       simp -implicitDefEqProofs only[go_sem,KL,upz hv2,upz hs,hpp]
       refine ⟨by omega,by omega,?_⟩
       refine JO (gok rfl) hL ?_
       cases hl:buL t (upL t (JI t s) t.nodes.length i) false with
       |true=>
        have hnil:QZ t o of s [i]=[]:=by rw[h1,hl,if_neg (by simp)]
        simp -implicitDefEqProofs only[go_sem,Gj]
        refine ⟨Ji,i+1,[0,1],by omega,by omega,rfl,?_,?_⟩
        ·rw[hst,hnil,Gc]; simp only[Kw,Gf,Gg,go_sem,KU (Jb (Jd acc)),Jr]
        ·rw[hst,hnil,Gc]; simp[forget,JF,ren,Jo,Qo,rRw]
       |false=>
        have hone:QZ t o of s [i]=[(v:Int)]:=by rw[h1,hl,if_pos (by simp)]
        simp -implicitDefEqProofs only[go_sem,Gl,Jf,JJ]
        refine ⟨⟨by omega,by omega⟩,Ji,i+1,[0,3],by omega,by omega,rfl,?_,?_⟩
        ·rw[hst,hone,J8,Km]
         simp only[Kw,Gf,Gg,go_sem,Jp,Jr]
         simp[Jb (Jd acc),JF,ren]
        ·rw[hst,hone,J8,Kl]
         simp[forget,JF,ren,Jo,rRw,tRw,Jf]
  ·have d1:((i:Int) < (t.nodes.length:Int))=False:=Jj
   obtain rfl:i=t.nodes.length:=by omega
   have hcl:=JdR (t:=t) (o:=o) (of:=of) (s:=s) (Gb t.nodes.length)
   rw[GA]at hcl
   generalize QZ t o of s (Gb t.nodes.length)=acc at hcl ⊢
   cases acc with
   |nil=>
    simp -implicitDefEqProofs only[go_sem,d1,Qw,Qn]
    refine JV sortNil ?_
    simp -implicitDefEqProofs only[go_sem]
    refine JV compactNil ?_
    simp -implicitDefEqProofs only[go_sem]
    rw[show Lib.compact (([]:List Int).mergeSort fun x y=>decide (x≤y))=[] by rw[List.mergeSort_nil]; rfl]
    exact .inl .nil
   |cons x xs=>
    simp -implicitDefEqProofs only[go_sem,d1,JY,Xl,JbF,Jf]
    refine Xc (.inl rfl) (sortRow (l:=x::xs) (by simp) (by omega) rfl) fun v H' ⟨h1,h2⟩=>?_
    subst h1 h2
    simp -implicitDefEqProofs only[go_sem]
    have hsl:((x::xs).mergeSort fun x y=>decide (x≤y)).length=xs.length+1:=by rw[List.length_mergeSort]; rfl
    generalize ((x::xs).mergeSort fun x y=>decide (x≤y))=S at hsl ⊢
    have hSn:S≠[]:=by rintro rfl; simp at hsl
    rw[← hsl]
    refine Xc (.inl rfl) (compactRow (l:=S) hSn (by simp only[Gh]at hcl; omega) rfl) fun v H' ⟨h1,h2⟩=>?_
    subst h1 h2
    simp -implicitDefEqProofs only[go_sem]
    have hcn:Lib.compact S≠[]:=by
     obtain ⟨y,hy⟩:=List.exists_mem_of_ne_nil _ hSn
     exact List.ne_nil_of_mem (Jen.2 hy)
    refine .inr ⟨1,_,by rw[Jf],rfl,?_,by simpa [iz]using hcn⟩
    rw[Y1,List.take_left' rfl]
end
end
section
theorem indexO {E:Env}{H:List CObj}{id:Nat}{l:List Int}{x:Int}(hl:l.length≤1000000) (hH:H[id]? = some (.arr 1 (iz l))):CallsC Gd E 100 [.slc id 0 l.length none,.int .i64 x] H fun v H'=>v=.int .i64 (QU (fun y=>x == y) l 0)∧H'=H:=by
 have hil:(iz l).length=l.length:=Jf
 refine KI c100_ok fun N=>?_
 simp -implicitDefEqProofs only[c100,go_sem]
 refine Jz (I:=fun i:Nat=>i≤l.length∧QU (fun y=>x == y) l 0=QU (fun y=>x == y) (l.drop i) i) (inv:=fun i=>gp [(0,.slc id 0 l.length none),(0,.int .i64 x),(5,.int .i64 (l.length:Int)),(0,.int .i64 (i:Int))] 10) (hp:=fun _=>H) (μ:=fun i=>l.length-i) 0 ⟨by omega,rfl⟩ ?_ rfl ?_
 ·simp[forget,gp]
 ·rintro i ⟨hi,hinv⟩
  by_cases hlt:i < l.length
  ·have d1:((i:Int) < (l.length:Int))=True:=Jn
   have hgi:=JR hlt
   have hge:l[i]? = some (l.getD i 0):=by rw[Gn,Gp hlt]; rfl
   rw[QF hge]at hinv
   simp -implicitDefEqProofs only[go_sem,d1,hH,hil,hgi]
   generalize l.getD i 0=y at hinv hgi ⊢
   refine ⟨by omega,by omega,?_⟩
   cases he:(x == y) with
   |true=>
    rw[he,if_pos rfl]at hinv
    simp -implicitDefEqProofs only[go_sem,hinv]
   |false=>
    rw[he]at hinv
    simp -implicitDefEqProofs only[go_sem]
    refine ⟨Ji,i+1,⟨by omega,by simpa using hinv⟩,by omega,?_⟩
    simp[forget]
  ·have d1:((i:Int) < (l.length:Int))=False:=Jj
   rw[Gr (by omega)]at hinv
   simp -implicitDefEqProofs only[go_sem,d1,hinv,QU]
theorem containsO {E:Env}{H:List CObj}{id:Nat}{l:List Int}{x:Int}(hl:l.length≤100000) (hH:H[id]? = some (Xu 1 (iz l))):CallsC Gd E 56 [QC id (iz l),.int .i64 x] H fun v H'=>v=.bool (l.contains x)∧H'=H:=by
 cases l with
 |nil=>exact (containsI [] x (by simp)).args (args':=[.nils,.int .i64 x]) ⟨wk.nils,wk.refl _,trivial⟩ E H
 |cons y l=>
  rw[JY,JbF,← JY]at hH
  have hc:=indexO (E:=E) (x:=x) (l:=y::l) (by omega) hH
  rw[show QC id (iz (y::l))=.slc id 0 (y::l).length none by rw[JY,Xl,Jf]; rfl]
  generalize y::l=L at *
  refine KI c56_ok fun N=>?_
  simp -implicitDefEqProofs only[c56,go_sem]
  refine Xc (.inl rfl) hc fun v H' ⟨h1,h2⟩=>?_
  subst h1 h2
  have e:decide (0≤QU (fun y=>x == y) L 0)=L.contains x:=by rw[JaI,List.contains_eq_any_beq]
  simp -implicitDefEqProofs only[go_sem,e]
theorem Jgp {l:List Int}{n:Nat}:(iz l).drop n=iz (l.drop n):=by simp[iz]
def todoV (els:List Int) (off:Nat):CV:=match els with
 |[]=>.nils
 |_::_=>.slc 2 off (els.length-off) none
theorem JeZ {els:List Int}:todoV els 0=QC 2 (iz els):=by cases els <;> simp[todoV,iz,QC]
theorem Jf0 {els:List Int}{off:Nat}(h:els≠[]):todoV els off=.slc 2 off (els.length-off) none:=by cases els <;> simp_all [todoV]
theorem JbS:∀ {l out:List Int},Xn l out≤l.length
 |[],_=>Nat.le_refl _
 |y::l,out=>by
  have:=JbS (l:=l) (out:=out)
  simp only[Xn,Gh]
  split <;> omega
theorem needN_ok {t:Tr}{o of:List Int}:∀ x∈Ka t,(∀ y∈KF t o of x.toNat,y∈Ka t)∧(KF t o of x.toNat).length≤(Ka t).length:=
 fun x _=>⟨fun y hy=>(GD.1 hy).1,Gv _ _⟩
section
variable {t:Tr}{o:List Int}(g:GoodT t o) (ht:t.Fit)
include g ht
theorem nAll {of:List Int}(ho:OfOk t of) {s:Nat}(hs:s < t.nodes.length) (hk:(nd t s).k=41):Jbp Gd 109 [.agg (rRw t of),.int .i64 (s:Int)] 1 (iz (bfs (fun x=>KF t o of x.toNat) (Ka t) (KF t o of s) [])):=by
 have hmany:=g.many
 have hal:(Ka t).length=t.nodes.length:=by simp[Ka]
 refine Jd6 (KI c109_ok fun N=>?_) rfl (Jd _)
 simp -implicitDefEqProofs only[c109,go_sem,rRw]
 refine Jg (id:=0) (z:=2) (els:=[rRw t of]) rfl rfl ?_
 simp only[go_sem,J2,Ko,frz,KG,Ga]
 refine XU ?_
 simp only[go_sem,Gw,Gx]
 refine Jdr (.inl rfl) (nNeeds g ht ho hs hk) ?_
 simp -implicitDefEqProofs only[go_sem]
 have hset:∀ s':Nat,∀ x∈KF t o of s',0≤x∧x < t.nodes.length∧(nd t x.toNat).k=41:=fun s' x hx=>JbO g hx
 generalize hN:(fun x:Int=>KF t o of x.toNat)=Nf
 have hNok:∀ x∈Ka t,(∀ y∈Nf x,y∈Ka t)∧(Nf x).length≤(Ka t).length:=by rw[← hN]; exact needN_ok
 have hset':∀ x,∀ y∈Nf x,0≤y∧y < t.nodes.length∧(nd t y.toNat).k=41:=fun x y hy=>by rw[← hN]at hy; exact hset _ y hy
 have h0:=hset s
 have hlen0:(KF t o of s).length≤t.nodes.length:=by rw[← hal]; exact Gv _ _
 generalize KF t o of s=T0 at h0 hlen0 ⊢
 generalize hR:bfs Nf (Ka t) T0 []=R
 have hst:Xn (Ka t) []*((Ka t).length+1)≤700*701:=Nat.mul_le_mul (Nat.le_trans JbS (by omega)) (by omega)
 refine JG (σ:=List Int×Nat×List Int) (I:=fun s'=>s'.2.1≤s'.1.length∧(∀ x∈s'.1,0≤x∧x < t.nodes.length∧(nd t x.toNat).k=41)∧bfs Nf (Ka t) (s'.1.drop s'.2.1) s'.2.2=R∧muB (Ka t) (s'.1.drop s'.2.1) s'.2.2≤1000000∧s'.2.2.length+Xn (Ka t) s'.2.2≤700)
  (inv:=fun s'=>gp [(2,.rptr (rRw t of)),(1,QC 1 (iz s'.2.2)),(0,todoV s'.1 s'.2.1)] 26) (hp:=fun s'=>[.dead,Xu 1 (iz s'.2.2),Xu 1 (iz s'.1)]) (μ:=fun s'=>muB (Ka t) (s'.1.drop s'.2.1) s'.2.2) (T0,0,[]) [0,1,2] ⟨by simp,h0,by simpa using hR,by simp only[Ga,muB]; omega,by have:=JbS (l:=Ka t) (out:=[]); simp only[Gy]; omega⟩ rfl ?_ ?_ ?_
 ·simp[forget,JF,ren,Jo,gp,rRw,JeZ,Qo,Qn,Qw]
 ·simp only[Kw,Gf,Gg,go_sem,KU (Jb (Jd T0)),Jr,Qw,QX]
 ·rintro ⟨els,off,out⟩ ⟨hoff,hP,hB,hmu,hout⟩
  dsimp only at hoff hP hB hmu hout
  by_cases hne:els=[]
  ·subst hne
   rw[List.drop_nil,bfs_nil]at hB
   have d1:((0:Int) > 0)=False:=Jj
   have d2:((0:Int) < 0)=False:=Jj
   simp -implicitDefEqProofs only[go_sem,todoV,d1,d2]
   rw[← hB]
   exact .row (id:=1) rfl rfl
  ·have hrO:Xu 1 (iz els)=.arr 1 (iz els):=Qd (by simpa [iz]using hne)
   have hel:(iz els).length=els.length:=Jf
   rw[hrO,Jf0 hne]
   by_cases hlt:off < els.length
   ·have d1:((0:Int) < ((els.length-off:Nat):Int))=True:=Jn
    have d2:(((els.length-off:Nat):Int) > 0)=True:=Jn
    have hgi:=JR hlt
    have hdr:els.drop off=els.getD off 0::els.drop (off+1):=by
     rw[List.drop_eq_getElem_cons hlt,Gn,Gp hlt]; rfl
    have hmem:els.getD off 0∈els:=by rw[Gn,Gp hlt]; exact List.getElem_mem hlt
    have hPx:=hP _ hmem
    have hall:∀ y∈els.drop off,y∈Ka t:=fun y hy=>by
     have:=hP y (Gz hy)
     exact Qp.2 ⟨this.1,this.2.1⟩
    rw[hdr]at hB hall hmu ⊢
    have hmu':=hmu
    simp only[muB,Gh]at hmu'
    generalize hx:els.getD off 0=x at hgi hPx hB hall hmu ⊢
    have hlen1:(((els.length-off:Nat):Int)).toNat-(1:Int).toNat=els.length-(off+1):=by omega
    simp -implicitDefEqProofs only[go_sem,d1,d2,hel,hgi,Nat.add_zero]
    refine ⟨by omega,⟨by omega,Int.le_refl _⟩,?_⟩
    have hxm:x∈Ka t:=hall x (by simp)
    have hol:out.length≤700:=by omega
    refine Xc (.inl rfl) (containsO (id:=1) (l:=out) (x:=x) (by omega) rfl) fun v H' ⟨h1,h2⟩=>?_
    subst h1 h2
    cases hc:out.contains x with
    |true=>
     rw[bfs_old hNok hall hc]at hB
     simp -implicitDefEqProofs only[go_sem,Gj]
     refine ⟨(els,off+1,out),[0,1,2],⟨by simp only; omega,hP,hB,by simp only[muB]; omega,hout⟩,by simp only[muB,Gh]; omega,rfl,?_,?_⟩
     ·simp only[Kw,Gf,Gg,go_sem,KU (Jb (Jd out)),Jp,Jb (Jd els),Jr,hrO]
     ·simp[forget,JF,ren,Jo,Qo,rRw,Jf0 hne]; omega
    |false=>
     rw[bfs_new hNok hall hc]at hB
     have hll:=XF hxm hc
     have hlr:=Nat.mul_le_mul_right ((Ka t).length+1) (show Xn (Ka t) (out++[x])+1≤Xn (Ka t) out from hll)
     rw[Nat.add_mul,Nat.one_mul]at hlr
     have hnx:=(hNok x hxm).2
     obtain ⟨xn,rfl⟩:∃ x':Nat,x=x':=⟨x.toNat,by omega⟩
     have hPx3:=hPx.2.2
     rw[Gm]at hPx3
     have hNx:KF t o of xn=Nf (xn:Int):=by rw[← hN]; simp only[Gm]
     have hsx:=hset' (xn:Int)
     have hNf:=(nNeeds g ht ho (show xn < t.nodes.length by omega) hPx3).fn rfl (Jd _)
     rw[hNx]at hNf
     simp -implicitDefEqProofs only[go_sem,Gl,Jf,JJ,rRw]
     refine ⟨⟨by omega,by omega⟩,?_⟩
     refine JV hNf ?_
     generalize Nf (xn:Int)=M at hnx hsx hB ⊢
     have hel2:off+1+(els.length-off-1)=els.length:=by omega
     have hel3:(off+1+(els.length-off-1)=els.length)=True:=eq_true hel2
     have hd:=List.length_drop (i:=off+1) (l:=els)
     cases M with
     |nil=>
      simp -implicitDefEqProofs only[go_sem,Qw]
      rw[Gc]at hB
      refine ⟨(els,off+1,out++[(xn:Int)]),[0,4,2],⟨by simp only; omega,hP,hB,by simp only[muB]; omega,by simp only[Gs,Gh,Gy]; omega⟩,by simp only[muB,Gh]; omega,rfl,?_,?_⟩
      ·rw[hrO,J8,Km]
       simp only[Kw,Gf,Gg,go_sem,Jp,Jb (Jd els),Jr]
       simp[Jb (Jd out),JF,ren]
      ·rw[Jf0 hne,J8,Kl]
       simp[forget,JF,ren,Jo,Jf]; omega
     |cons y ys=>
      simp -implicitDefEqProofs only[go_sem,JY,hel,hel3,Jf,JJ]
      simp only[Gh]at hnx
      refine ⟨⟨by omega,by omega⟩,(els.drop (off+1)++y::ys,0,out++[(xn:Int)]),[0,4,5],⟨by simp,fun z hz=>?_,by simpa using hB,by simp only[Ga,muB,Gs,Gh]; omega,by simp only[Gs,Gh,Gy]; omega⟩,by simp only[Ga,muB,Gs,Gh]; omega,rfl,?_,?_⟩
      ·rcases List.mem_append.1 hz with h | h
       ·exact hP z (Gz h)
       ·exact hsx z h
      ·rw[J8,Km,Y1,JY,Km,← Jgp]
       simp only[Kw,Gf,Gg,go_sem,Jp,Jr]
       rw[Jgp]
       simp[Jb (Jd out),Jb (Jd (els.drop (off+1))),Jb (Jd ys),JF,ren]
      ·rw[JeZ,J8,Kl,Y1,JY,Kl]
       simp[forget,JF,ren,Jo,Jf]; omega
   ·obtain rfl:off=els.length:=by omega
    rw[List.drop_length,bfs_nil]at hB
    have d1:((0:Int) < ((els.length-els.length:Nat):Int))=False:=Jj
    have d2:(((els.length-els.length:Nat):Int) > 0)=False:=Jj
    simp -implicitDefEqProofs only[go_sem,d1,d2]
    rw[← hB]
    exact .row (id:=1) rfl rfl
end
end
end Go.Cm
end
end
