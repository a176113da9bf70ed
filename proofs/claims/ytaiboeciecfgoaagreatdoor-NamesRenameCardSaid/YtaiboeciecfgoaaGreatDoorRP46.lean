/-
  A part of the proof. Conditions: none.
-/
import Derived.Test.YtaiboeciecfgoaaGreatDoorRP43
set_option linter.unusedSimpArgs false
set_option linter.unusedVariables false
open List renaming drop_zero→Gh,range→Ga,drop_eq_nil_of_le→Gl,any_cons→Gm,getD_eq_getElem?_getD→Gs,drop_eq_getElem_cons→Gt,getElem?_eq_getElem→Gu,find?_cons→Gq,any_nil→Gp,find?_nil→Gr,length_cons→Gv,getElem_mem→Gw,length_nil→Gx
open Bool renaming true_and→Gb,not_false→Gf,false_and→Gg,not_true→Gc,false_or→Gd,true_or→Gj,or_false→Gy,or_true→Gz
open Go.Proofs.Tryz renaming prog→Gi
open Int renaming toNat_natCast→Gn
noncomputable section
section
set_option maxRecDepth 100000
set_option maxHeartbeats 4000000
open Go.Proofs
namespace Go.Cm
section
theorem KN {n i:Nat}(h:i < n):(Ga n).drop i=i::(Ga n).drop (i+1):=by
 rw[Gt (by simpa using h),List.getElem_range]
theorem any_skip {q:Nat→Bool}{n:Nat}:∀ (m:Nat),m≤n→(∀ i,i < m→q i=false)→(Ga n).any q=((Ga n).drop m).any q
 |0,_,_=>by rw[Gh]
 |m+1,h,hq=>by rw[any_skip m (by omega) fun i hi=>hq i (by omega),KN (by omega),Gm,hq m (by omega),Gd]
theorem XD (k:Nat):Fn Gi 44 [.int .u8 (k:Int)] (.bool (Kk k)):=by
 refine Ja c44_ok rfl rfl fun N=>?_
 cases h1:(k == 65) <;> cases h2:(k == 64) <;> cases h3:(k == 42) <;> cases h4:(k == 43) <;> cases h5:(k == 47) <;>
  simp -implicitDefEqProofs only[c44,go_sem,kbE,h1,h2,h3,h4,h5,Kk,Gy,Gz,Gj,Gd]
theorem Jgb (k:Nat):Fn Gi 61 [.int .u8 (k:Int)] (.bool (k == 3 || k == 26 || k == 44)):=by
 refine Ja c61_ok rfl rfl fun N=>?_
 cases h1:(k == 3) <;> cases h2:(k == 26) <;> cases h3:(k == 44) <;>
  simp -implicitDefEqProofs only[c61,go_sem,kbE,h1,h2,h3,Gy,Gz,Gj,Gd]
theorem any_cg {q r:Nat→Bool}:∀ {l:List Nat},(∀ x∈l,q x=r x)→l.any q=l.any r
 |[],_=>rfl
 |x::l,h=>by rw[Gm,Gm,h x (by simp),any_cg fun y hy=>h y (by simp[hy])]
section
variable {t:Tr}{o:List Int}(g:GoodT t o) (ht:t.Fit)
include g ht
theorem Yl {j i:Nat}(hi:i < t.nodes.length):Fn Gi 22 [t.cv,.int .i64 (j:Int),.int .i64 (i:Int)] (.bool (Ja0 o j i)):=by
 have h:=refIsBelow t ht g (j:Int) i hi
 rwa [show (decide ((j:Int)≤(i:Int)) && decide (fs o i≤(j:Int)))=Ja0 o j i by unfold Ja0; rw[decide_eq_decide.2 (Int.ofNat_le (m:=j) (n:=i))]]at h
theorem JaW {n:Nat}(hn:n < t.nodes.length):Fn Gi 67 [t.cv,.int .i64 (n:Int)] (.int .i64 (J3 t n)):=refParent t ht g n hn
theorem Jcn {u:Nat}(hu:u < t.nodes.length) (hlen:0 < (nd t u).kids.length):Fn Gi 68 [t.cv,.int .i64 (u:Int)] (.int .i64 (JI t u:Int)):=by
 have hg:=J6 hu
 have hkl:(iz (nd t u).kids).length=(nd t u).kids.length:=Jf
 have hgl:=lastz g hu hlen
 have hkn:=(fitN ht hu).kidn
 refine Ja c68_ok rfl rfl fun N=>?_
 simp -implicitDefEqProofs only[c68,go_sem,Tr.cv,Tr.row]
 refine Jg (id:=0) (z:=2) (els:=[t.row]) rfl rfl ?_
 simp only[go_sem,J2,Ko,frz,KG]
 refine JS JA (by decide) ?_
 simp -implicitDefEqProofs only[go_sem,Tr.row,Jc,hg,Nd.cv,hkl,hgl]
 exact ⟨by omega,by omega,Ji,by omega,by omega⟩
theorem refItemOf {i:Nat}(hi:i < t.nodes.length):Fn Gi 102 [t.cv,.int .i64 (i:Int)] (.int .i64 (X0 t o i)):=by
 have hil:(iz t.items).length=t.items.length:=Jf
 have hit:=ht.items
 unfold X0
 generalize hq:(fun L:Int=>Ja0 o i L.toNat)=q
 refine Ja c102_ok rfl rfl fun N=>?_
 simp -implicitDefEqProofs only[c102,go_sem,Tr.cv,Tr.row]
 refine Jg (id:=0) (z:=2) (els:=[t.row]) rfl rfl ?_
 simp only[go_sem,J2,Ko,frz,KG]
 refine Jz (I:=fun k:Nat=>k≤t.items.length∧t.items.find? q=(t.items.drop k).find? q) (inv:=fun k=>gp [(1,.int .i64 (i:Int)),(0,.rptr t.row),(2,.int .i64 (k:Int))] 20) (hp:=fun _=>[.dead]) (μ:=fun k=>t.items.length-k) 0 ⟨by omega,rfl⟩ ?_ rfl ?_
 ·simp[forget,gp]
 ·rintro k ⟨hk,hinv⟩
  by_cases hlt:k < t.items.length
  ·have d1:((k:Int) < (t.items.length:Int))=True:=Jn
   have hgk:=JR hlt
   have hmem:t.items.getD k 0∈t.items:=by rw[Gs,Gu hlt]; exact Gw hlt
   have hr:=g.itr hmem
   rw[Gt hlt,Gq,show t.items[k]=t.items.getD k 0 by rw[Gs,Gu hlt]; rfl]at hinv
   generalize t.items.getD k 0=L at hgk hr hinv
   obtain ⟨L,rfl⟩:∃ L':Nat,L=L':=⟨L.toNat,by omega⟩
   have hqL:q (L:Int)=Ja0 o i L:=by rw[← hq]; simp only[Gn]
   simp -implicitDefEqProofs only[go_sem,Tr.row,hil,d1]
   refine JS JA (by decide) ?_
   simp -implicitDefEqProofs only[go_sem,Tr.row,hil,hgk]
   refine ⟨by omega,?_⟩
   refine JO (.inl rfl) (Yl g ht (by omega)) ?_
   cases hb:Ja0 o i L with
   |true=>
    rw[hqL,hb]at hinv
    simp -implicitDefEqProofs only[go_sem,Tr.row,hil,hgk,hinv]
    omega
   |false=>
    rw[hqL,hb]at hinv
    simp -implicitDefEqProofs only[go_sem]
    refine ⟨Ji,k+1,⟨by omega,hinv⟩,by omega,?_⟩
    simp[forget]
  ·have d1:((k:Int) < (t.items.length:Int))=False:=Jj
   rw[Gl (by omega),Gr]at hinv
   simp -implicitDefEqProofs only[go_sem,Tr.row,hil,d1,hinv]
def bkQ (t:Tr) (o:List Int) (j u:Nat) (last:Bool) (i:Nat):Bool:=(last || decide (i+1 < (nd t u).kids.length)) && Ja0 o j (Jb9 t u i)
omit g ht in
theorem bk_drop {j u m:Nat}{last:Bool}:bkB t o j u m last=((Ga (nd t u).kids.length).drop m).any (bkQ t o j u last):=by
 unfold bkB
 by_cases hml:m≤(nd t u).kids.length
 ·rw[any_skip m hml fun i hi=>by rw[decide_eq_false (by omega)]; rfl]
  refine any_cg fun i hi=>?_
  rw[List.range_eq_range',List.drop_range',List.mem_range'_1]at hi
  rw[decide_eq_true (by omega),Gb]; rfl
 ·rw[Gl (by simp; omega),Gp,List.any_eq_false]
  intro i hi
  rw[decide_eq_false (by have:=List.mem_range.1 hi; omega)]; simp
theorem JcI {j u m:Nat}(hu:u < t.nodes.length) (hm:m≤100) (last:Bool):Fn Gi 113 [t.cv,.int .i64 (j:Int),.int .i64 (u:Int),.int .i64 (m:Int),.bool last] (.bool (bkB t o j u m last)):=by
 have hg:=J6 hu
 have hkl:(iz (nd t u).kids).length=(nd t u).kids.length:=Jf
 have hkn:=(fitN ht hu).kidn
 rw[bk_drop]
 generalize hq:bkQ t o j u last=q
 refine Ja c113_ok rfl rfl fun N=>?_
 simp -implicitDefEqProofs only[c113,go_sem,Tr.cv,Tr.row,Jc,hg,Nd.cv]
 refine ⟨by omega,?_⟩
 refine Jg (id:=0) (z:=2) (els:=[t.row]) rfl rfl ?_
 simp -implicitDefEqProofs only[go_sem,J2,Ko,frz,KG,Tr.row]
 refine Jz (I:=fun i:Nat=>((Ga (nd t u).kids.length).drop m).any q=((Ga (nd t u).kids.length).drop i).any q) (inv:=fun i=>gp [(1,.int .i64 (j:Int)),(2,.bool last),(0,.rptr t.row),(5,.rslc 1 (iz (nd t u).kids) none),(0,.int .i64 (i:Int))] 30) (hp:=fun _=>[.dead]) (μ:=fun i=>(nd t u).kids.length-i) m rfl ?_ rfl ?_
 ·simp[forget,gp,Tr.row]
 ·intro i hinv
  by_cases hlt:i < (nd t u).kids.length
  ·have d1:((i:Int) < ((nd t u).kids.length:Int))=True:=Jn
   have hgi:=JR hlt
   obtain ⟨k1,k2,_⟩:=KP g hu hlt
   have hke:(nd t u).kids.getD i 0=(Jb9 t u i:Int):=by
    have hm:(nd t u).kids.getD i 0∈(nd t u).kids:=by rw[Gs,Gu hlt]; exact Gw hlt
    have:=(g.kid hu hm).1
    unfold Jb9; omega
   rw[hke]at hgi
   have hB:=Yl g ht (j:=j) (i:=Jb9 t u i) (by omega)
   have hqi:q i=((last || decide (i+1 < (nd t u).kids.length)) && Ja0 o j (Jb9 t u i)):=by rw[← hq]; rfl
   rw[KN hlt,Gm,hqi]at hinv
   simp -implicitDefEqProofs only[go_sem,hkl,d1]
   refine JS JA (by decide) ?_
   cases last with
   |true=>
    rw[Gj,Gb]at hinv
    simp -implicitDefEqProofs only[go_sem,Tr.row,Gv,Gx,hkl,hgi]
    refine ⟨by omega,?_⟩
    refine JO (gok rfl) hB ?_
    cases hb:Ja0 o j (Jb9 t u i) with
    |true=>
     rw[hb,Gj]at hinv
     simp -implicitDefEqProofs only[go_sem,hinv]
    |false=>
     rw[hb,Gd]at hinv
     simp -implicitDefEqProofs only[go_sem]
     refine ⟨Ji,i+1,hinv,by omega,?_⟩
     simp[forget,Tr.row]
   |false=>
    rw[Gd]at hinv
    by_cases hl:i+1 < (nd t u).kids.length
    ·have e1:decide ((i:Int) < ((nd t u).kids.length:Int)-1)=true:=decide_eq_true (by omega)
     rw[decide_eq_true hl,Gb]at hinv
     simp -implicitDefEqProofs only[go_sem,Tr.row,Gv,Gx,hkl,hgi,e1]
     refine ⟨Ji,by omega,?_⟩
     refine JO (gok rfl) hB ?_
     cases hb:Ja0 o j (Jb9 t u i) with
     |true=>
      rw[hb,Gj]at hinv
      simp -implicitDefEqProofs only[go_sem,hinv]
     |false=>
      rw[hb,Gd]at hinv
      simp -implicitDefEqProofs only[go_sem]
      refine ⟨Ji,i+1,hinv,by omega,?_⟩
      simp[forget,Tr.row]
    ·have e1:decide ((i:Int) < ((nd t u).kids.length:Int)-1)=false:=decide_eq_false (by omega)
     rw[decide_eq_false hl,Gg,Gd]at hinv
     simp -implicitDefEqProofs only[go_sem,hkl,e1]
     refine ⟨Ji,Ji,i+1,hinv,by omega,?_⟩
     simp[forget,Tr.row]
  ·have d1:((i:Int) < ((nd t u).kids.length:Int))=False:=Jj
   rw[show (Ga (nd t u).kids.length).drop i=[] from Gl (by simp; omega),Gp]at hinv
   simp -implicitDefEqProofs only[go_sem,hkl,d1,hinv]
theorem refInSight {d j:Nat}(hd:d < t.nodes.length) (hj:j < t.nodes.length):Fn Gi 101 [t.cv,.int .i64 (d:Int),.int .i64 (j:Int)] (.bool (inB t o d j)):=by
 have hg:=J6 hd
 have hP:=JaW g ht hd
 unfold inB
 refine Ja c101_ok rfl rfl fun N=>?_
 simp -implicitDefEqProofs only[c101,go_sem,Tr.cv,Tr.row]
 refine Jg (id:=0) (z:=2) (els:=[t.row]) rfl rfl ?_
 simp -implicitDefEqProofs only[go_sem,J2,Ko,frz,KG,Tr.row]
 refine JV hP ?_
 simp -implicitDefEqProofs only[go_sem,Jc,hg,Nd.cv,kbE]
 refine ⟨by omega,?_⟩
 by_cases h65:(nd t d).k=65
 ·simp -implicitDefEqProofs only[h65,go_sem,if_true]
 have b65:((nd t d).k == 65)=false:=beq_eq_false_iff_ne.2 h65
 rw[if_neg h65]
 by_cases h64:(nd t d).k=64
 ·obtain ⟨u,hu1,hu2,hu3,hu4⟩:=Xv g hd h65
  have hlen:=List.length_pos_of_mem hu4
  have hlk:=KP g hu2 (i:=(nd t u).kids.length-1) (by omega)
  simp -implicitDefEqProofs only[h64,go_sem,hu1,if_true,Gn]
  refine JS JA (by decide) ?_
  simp -implicitDefEqProofs only[go_sem]
  refine JO (.inl rfl) (Jcn g ht hu2 hlen) ?_
  simp -implicitDefEqProofs only[go_sem]
  refine JO (.inl rfl) (Yl g ht (show JI t u < t.nodes.length by have:=hlk.2.1; unfold Jb9 at this; unfold JI; omega)) ?_
  simp -implicitDefEqProofs only[go_sem]
 have b64:((nd t d).k == 64)=false:=beq_eq_false_iff_ne.2 h64
 rw[if_neg h64]
 by_cases h43:(nd t d).k=43
 ·obtain ⟨u,hu1,hu2,hu3,hu4⟩:=Xv g hd h65
  have hku:(nd t u).k=28:=(Jbi (Jgf g hu2 hu4)).2.1 (by rw[h43]; rfl)
  obtain ⟨a,b,ha,hab,hbl,_⟩:=Jaf g hu2 hku
  have ha':(nd t u).n=(a:Int):=ha
  have hkn:=(fitN ht hu2).kidn
  have hbl':b < (nd t u).kids.length:=hbl
  have hgu:=J6 hu2
  simp -implicitDefEqProofs only[h43,go_sem,hu1,if_true,Gn,ha']
  refine JS JA (by decide) ?_
  simp -implicitDefEqProofs only[go_sem,Jc,hgu,Nd.cv,ha']
  refine ⟨by omega,?_⟩
  refine JO (.inl rfl) (JcI g ht hu2 (by omega) true) ?_
  simp -implicitDefEqProofs only[go_sem]
 have b43:((nd t d).k == 43)=false:=beq_eq_false_iff_ne.2 h43
 rw[if_neg h43]
 by_cases h47:(nd t d).k=47
 ·have hlen:(nd t d).kids.length=3:=(JbC g hd h47).1
  have hlk:=KP g hd (i:=(nd t d).kids.length-1) (by omega)
  simp -implicitDefEqProofs only[h47,go_sem,if_true]
  refine JS JA (by decide) ?_
  simp -implicitDefEqProofs only[go_sem]
  refine JO (.inl rfl) (Jcn g ht hd (by omega)) ?_
  simp -implicitDefEqProofs only[go_sem]
  refine JO (.inl rfl) (Yl g ht (show JI t d < t.nodes.length by have:=hlk.2.1; unfold Jb9 at this; unfold JI; omega)) ?_
  simp -implicitDefEqProofs only[go_sem]
 have b47:((nd t d).k == 47)=false:=beq_eq_false_iff_ne.2 h47
 rw[if_neg h47]
 by_cases h42:(nd t d).k=42
 ·obtain ⟨u,hu1,hu2,hu3,hu4⟩:=Xv g hd h65
  have hku:(nd t u).k=41:=(Jbi (Jgf g hu2 hu4)).2.2.1 (by rw[h42]; rfl)
  obtain ⟨v,hv1,hv2,hv3,hv4⟩:=Xv g hu2 (by omega)
  have hkv:(nd t v).k=40∨(nd t v).k=28:=(Jbi (Jgf g hv2 hv4)).2.2.2.1 (by rw[hku]; rfl)
  have hgv:=J6 hv2
  have hPu:=JaW g ht hu2
  rw[hv1]at hPu
  simp -implicitDefEqProofs only[h42,go_sem,hu1,hv1,if_true,Gn]
  refine JV hPu ?_
  simp -implicitDefEqProofs only[go_sem,Jc,hgv,Nd.cv,kbE]
  refine ⟨by omega,?_⟩
  by_cases h40:(nd t v).k=40
  ·simp -implicitDefEqProofs only[h40,go_sem,if_true]
   refine JV (Yl g ht hv2) ?_
   simp -implicitDefEqProofs only[go_sem]
  ·have b40:((nd t v).k == 40)=false:=beq_eq_false_iff_ne.2 h40
   obtain ⟨a,b,ha,hab,hbl,_⟩:=Jaf g hv2 (hkv.resolve_left h40)
   have ha':(nd t v).n=(a:Int):=ha
   have hkn:=(fitN ht hv2).kidn
   have hbl':b < (nd t v).kids.length:=hbl
   simp -implicitDefEqProofs only[b40,go_sem,if_neg h40]
   refine JS JA (by decide) ?_
   simp -implicitDefEqProofs only[go_sem,Jc,hgv,Nd.cv,ha']
   refine ⟨by omega,Ji,?_⟩
   have hBK:=JcI g ht (j:=j) hv2 (show a+1≤100 by omega) false
   rw[Int.natCast_add,show ((1:Nat):Int)=1 from rfl]at hBK
   refine JO (.inl rfl) hBK ?_
   simp -implicitDefEqProofs only[go_sem]
 have b42:((nd t d).k == 42)=false:=beq_eq_false_iff_ne.2 h42
 rw[if_neg h42]
 simp -implicitDefEqProofs only[b65,b64,b43,b47,b42,go_sem]
end
end
section
theorem Jex {t:Tr}{j:Nat}(h:j < t.nodes.length):(Ka t).drop j=(j:Int)::(Ka t).drop (j+1):=by
 have hl:(Ka t).length=t.nodes.length:=by simp[Ka]
 rw[Gt (by omega)]
 simp[Ka]
theorem JgN {t:Tr}{j:Nat}(h:t.nodes.length≤j):(Ka t).drop j=[]:=Gl (by simp[Ka]; omega)
section
variable {t:Tr}{o:List Int}(g:GoodT t o) (ht:t.Fit)
include g ht
theorem refMeans3 {i:Nat}(hi:i < t.nodes.length) (hk:(nd t i).k=3):Fn Gi 62 [t.cv,.int .i64 (i:Int)] (.int .i64 (Jfn t o i)):=by
 have hmany:=g.many
 have hg:=J6 hi
 unfold Jfn
 refine Ja c62_ok rfl rfl fun N=>?_
 simp -implicitDefEqProofs only[c62,go_sem,Tr.cv,Tr.row,Jc,hg,Nd.cv]
 refine ⟨by omega,?_⟩
 refine Jg (id:=0) (z:=2) (els:=[t.row]) rfl rfl ?_
 simp only[go_sem,J2,Ko,frz,KG]
 refine Jg (id:=1) (z:=5) (els:=[(nd t i).cv]) rfl rfl ?_
 simp only[go_sem,J2,Ko,frz,KG,Gh]
 generalize hq:(fun d:Int=>(nd t d.toNat).text == (nd t i).text && (Kk (nd t d.toNat).k && (!((nd t d.toNat).k == 65) && inB t o d.toNat i)))=q
 refine JG (I:=fun j:Nat=>j≤t.nodes.length∧(Ka t).find? q=((Ka t).drop j).find? q) (inv:=fun j=>gp [(1,.int .i64 (i:Int)),(0,.rptr t.row),(2,.rptr (nd t i).cv),(0,.int .i64 (j:Int))] 64) (hp:=fun _=>[.dead,.dead]) (μ:=fun j=>t.nodes.length-j) 0 [0,1] ⟨by omega,by rw[Gh]⟩ rfl ?_ rfl ?_
 ·simp[forget,JF,ren,Jo,gp,Tr.row]
 ·rintro j ⟨hj,hinv⟩
  by_cases hlt:j < t.nodes.length
  ·have d1:((j:Int) < (t.nodes.length:Int))=True:=Jn
   have hgj:=J6 hlt
   have hqj:q (j:Int)=((nd t j).text == (nd t i).text && (Kk (nd t j).k && (!((nd t j).k == 65) && inB t o j i))):=by rw[← hq]; simp only[Gn]
   rw[Jex hlt,Gq]at hinv
   cases htx:((nd t j).text == (nd t i).text) with
   |false=>
    rw[hqj,htx,Gg]at hinv
    simp -implicitDefEqProofs only[go_sem,Tr.row,Jc,d1,hgj,Nd.cv,htx,Gf]
    refine ⟨by omega,Ji,j+1,[0,1],⟨by omega,by rw[hinv]⟩,by omega,rfl,rfl,?_⟩
    simp[forget,JF,ren,Jo,Tr.row]
   |true=>
    rw[hqj,htx,Gb]at hinv
    simp -implicitDefEqProofs only[go_sem,Tr.row,Jc,d1,hgj,Nd.cv,htx,Gc]
    refine ⟨by omega,?_⟩
    refine JN (gok rfl) (XD _) ?_
    cases hd:Kk (nd t j).k with
    |false=>
     rw[hd,Gg]at hinv
     simp -implicitDefEqProofs only[go_sem,Gf]
     refine ⟨Ji,j+1,[0,1],⟨by omega,by rw[hinv]⟩,by omega,rfl,rfl,?_⟩
     simp[forget,JF,ren,Jo,Tr.row]
    |true=>
     rw[hd,Gb]at hinv
     cases h65:((nd t j).k == 65) with
     |true=>
      rw[h65,Gc,Gg]at hinv
      simp -implicitDefEqProofs only[go_sem,kbE,kbN,hk,h65,Gc]
      refine ⟨Ji,j+1,[0,1],⟨by omega,by rw[hinv]⟩,by omega,rfl,rfl,?_⟩
      simp[forget,JF,ren,Jo,Tr.row]
     |false=>
      rw[h65,Gf,Gb]at hinv
      simp -implicitDefEqProofs only[go_sem,kbE,kbN,hk,h65,Gf,Gc,Tr.row]
      refine JN (gok rfl) (refInSight g ht hlt hi) ?_
      cases hin:inB t o j i with
      |true=>
       rw[hin]at hinv
       simp -implicitDefEqProofs only[go_sem,hinv]
      |false=>
       rw[hin]at hinv
       simp -implicitDefEqProofs only[go_sem]
       refine ⟨Ji,j+1,[0,1],⟨by omega,by rw[hinv]⟩,by omega,rfl,rfl,?_⟩
       simp[forget,JF,ren,Jo,Tr.row]
  ·have d1:((j:Int) < (t.nodes.length:Int))=False:=Jj
   rw[JgN (by omega),Gr]at hinv
   simp -implicitDefEqProofs only[go_sem,Tr.row,Jc,d1,hinv]
omit ht in
theorem refMeans26 {i:Nat}(hi:i < t.nodes.length) (hk:(nd t i).k=26):Fn Gi 62 [t.cv,.int .i64 (i:Int)] (.int .i64 (Jfo t i)):=by
 have hmany:=g.many
 have hg:=J6 hi
 unfold Jfo
 refine Ja c62_ok rfl rfl fun N=>?_
 simp -implicitDefEqProofs only[c62,go_sem,Tr.cv,Tr.row,Jc,hg,Nd.cv]
 refine ⟨by omega,?_⟩
 refine Jg (id:=0) (z:=2) (els:=[t.row]) rfl rfl ?_
 simp only[go_sem,J2,Ko,frz,KG]
 refine Jg (id:=1) (z:=5) (els:=[(nd t i).cv]) rfl rfl ?_
 simp only[go_sem,J2,Ko,frz,KG,Gh]
 generalize hq:(fun d:Int=>(nd t d.toNat).text == (nd t i).text && (Kk (nd t d.toNat).k && (nd t d.toNat).k == 65))=q
 refine JG (I:=fun j:Nat=>j≤t.nodes.length∧(Ka t).find? q=((Ka t).drop j).find? q) (inv:=fun j=>gp [(1,.int .i64 (i:Int)),(0,.rptr t.row),(2,.rptr (nd t i).cv),(0,.int .i64 (j:Int))] 64) (hp:=fun _=>[.dead,.dead]) (μ:=fun j=>t.nodes.length-j) 0 [0,1] ⟨by omega,by rw[Gh]⟩ rfl ?_ rfl ?_
 ·simp[forget,JF,ren,Jo,gp,Tr.row]
 ·rintro j ⟨hj,hinv⟩
  by_cases hlt:j < t.nodes.length
  ·have d1:((j:Int) < (t.nodes.length:Int))=True:=Jn
   have hgj:=J6 hlt
   have hqj:q (j:Int)=((nd t j).text == (nd t i).text && (Kk (nd t j).k && (nd t j).k == 65)):=by rw[← hq]; simp only[Gn]
   rw[Jex hlt,Gq]at hinv
   cases htx:((nd t j).text == (nd t i).text) with
   |false=>
    rw[hqj,htx,Gg]at hinv
    simp -implicitDefEqProofs only[go_sem,Tr.row,Jc,d1,hgj,Nd.cv,htx,Gf]
    refine ⟨by omega,Ji,j+1,[0,1],⟨by omega,by rw[hinv]⟩,by omega,rfl,rfl,?_⟩
    simp[forget,JF,ren,Jo,Tr.row]
   |true=>
    rw[hqj,htx,Gb]at hinv
    simp -implicitDefEqProofs only[go_sem,Tr.row,Jc,d1,hgj,Nd.cv,htx,Gc]
    refine ⟨by omega,?_⟩
    refine JN (gok rfl) (XD _) ?_
    cases hd:Kk (nd t j).k with
    |false=>
     rw[hd,Gg]at hinv
     simp -implicitDefEqProofs only[go_sem,Gf]
     refine ⟨Ji,j+1,[0,1],⟨by omega,by rw[hinv]⟩,by omega,rfl,rfl,?_⟩
     simp[forget,JF,ren,Jo,Tr.row]
    |true=>
     rw[hd,Gb]at hinv
     cases h65:((nd t j).k == 65) with
     |true=>
      rw[h65]at hinv
      simp -implicitDefEqProofs only[go_sem,kbE,hk,h65,Gc,hinv]
     |false=>
      rw[h65]at hinv
      simp -implicitDefEqProofs only[go_sem,kbE,hk,h65,Gc]
      refine ⟨Ji,j+1,[0,1],⟨by omega,by rw[hinv]⟩,by omega,rfl,rfl,?_⟩
      simp[forget,JF,ren,Jo,Tr.row]
  ·have d1:((j:Int) < (t.nodes.length:Int))=False:=Jj
   rw[JgN (by omega),Gr]at hinv
   simp -implicitDefEqProofs only[go_sem,Tr.row,Jc,d1,hinv]
theorem refMeans44 {i:Nat}(hi:i < t.nodes.length) (hk:(nd t i).k=44):Fn Gi 62 [t.cv,.int .i64 (i:Int)] (.int .i64 (JdU t i)):=by
 have hmany:=g.many
 have hg:=J6 hi
 unfold JdU
 refine Ja c62_ok rfl rfl fun N=>?_
 simp -implicitDefEqProofs only[c62,go_sem,Tr.cv,Tr.row,Jc,hg,Nd.cv]
 refine ⟨by omega,?_⟩
 refine Jg (id:=0) (z:=2) (els:=[t.row]) rfl rfl ?_
 simp only[go_sem,J2,Ko,frz,KG]
 refine Jg (id:=1) (z:=5) (els:=[(nd t i).cv]) rfl rfl ?_
 simp only[go_sem,J2,Ko,frz,KG,Gh]
 generalize hq:(fun d:Int=>(nd t d.toNat).text == (nd t i).text && (Kk (nd t d.toNat).k && ((nd t d.toNat).k == 43 && J3 t d.toNat == J3 t i)))=q
 refine JG (I:=fun j:Nat=>j≤t.nodes.length∧(Ka t).find? q=((Ka t).drop j).find? q) (inv:=fun j=>gp [(1,.int .i64 (i:Int)),(0,.rptr t.row),(2,.rptr (nd t i).cv),(0,.int .i64 (j:Int))] 64) (hp:=fun _=>[.dead,.dead]) (μ:=fun j=>t.nodes.length-j) 0 [0,1] ⟨by omega,by rw[Gh]⟩ rfl ?_ rfl ?_
 ·simp[forget,JF,ren,Jo,gp,Tr.row]
 ·rintro j ⟨hj,hinv⟩
  by_cases hlt:j < t.nodes.length
  ·have d1:((j:Int) < (t.nodes.length:Int))=True:=Jn
   have hgj:=J6 hlt
   have hqj:q (j:Int)=((nd t j).text == (nd t i).text && (Kk (nd t j).k && ((nd t j).k == 43 && J3 t j == J3 t i))):=by rw[← hq]; simp only[Gn]
   rw[Jex hlt,Gq]at hinv
   cases htx:((nd t j).text == (nd t i).text) with
   |false=>
    rw[hqj,htx,Gg]at hinv
    simp -implicitDefEqProofs only[go_sem,Tr.row,Jc,d1,hgj,Nd.cv,htx,Gf]
    refine ⟨by omega,Ji,j+1,[0,1],⟨by omega,by rw[hinv]⟩,by omega,rfl,rfl,?_⟩
    simp[forget,JF,ren,Jo,Tr.row]
   |true=>
    rw[hqj,htx,Gb]at hinv
    simp -implicitDefEqProofs only[go_sem,Tr.row,Jc,d1,hgj,Nd.cv,htx,Gc]
    refine ⟨by omega,?_⟩
    refine JN (gok rfl) (XD _) ?_
    cases hd:Kk (nd t j).k with
    |false=>
     rw[hd,Gg]at hinv
     simp -implicitDefEqProofs only[go_sem,Gf]
     refine ⟨Ji,j+1,[0,1],⟨by omega,by rw[hinv]⟩,by omega,rfl,rfl,?_⟩
     simp[forget,JF,ren,Jo,Tr.row]
    |true=>
     rw[hd,Gb]at hinv
     simp -implicitDefEqProofs only[go_sem,kbE,hk,Gc]
     refine Jg (id:=2) (z:=5) (els:=[(nd t j).cv]) rfl rfl ?_
     simp only[go_sem,J2,Ko,frz,KG,Gh,Nd.cv]
     refine JS JA (by decide) ?_
     cases h43:((nd t j).k == 43) with
     |false=>
      rw[h43,Gg]at hinv
      simp -implicitDefEqProofs only[go_sem,kbE,h43,Nd.cv]
      refine ⟨Ji,j+1,[0,1],⟨by omega,by rw[hinv]⟩,by omega,rfl,rfl,?_⟩
      simp[forget,JF,ren,Jo,Tr.row]
     |true=>
      rw[h43,Gb]at hinv
      simp -implicitDefEqProofs only[go_sem,kbE,h43,Nd.cv,Tr.row]
      refine JO (gok rfl) (JaW g ht hlt) ?_
      simp -implicitDefEqProofs only[go_sem,Tr.row]
      refine JO (gok rfl) (JaW g ht hi) ?_
      cases hpp:(J3 t j == J3 t i) with
      |true=>
       rw[hpp]at hinv
       simp -implicitDefEqProofs only[go_sem,hpp,hinv]
      |false=>
       rw[hpp]at hinv
       simp -implicitDefEqProofs only[go_sem,hpp]
       refine ⟨Ji,j+1,[0,1],⟨by omega,by rw[hinv]⟩,by omega,rfl,rfl,?_⟩
       simp[forget,JF,ren,Jo,Tr.row]
  ·have d1:((j:Int) < (t.nodes.length:Int))=False:=Jj
   rw[JgN (by omega),Gr]at hinv
   simp -implicitDefEqProofs only[go_sem,Tr.row,Jc,d1,hinv]
theorem refMeans {i:Nat}(hi:i < t.nodes.length) (hs:Qx t i=true):Fn Gi 62 [t.cv,.int .i64 (i:Int)] (.int .i64 (Q8 t o i)):=by
 unfold Q8
 unfold Qx at hs
 simp only[Bool.or_eq_true,beq_iff_eq]at hs
 by_cases h3:(nd t i).k=3
 ·rw[if_pos h3]; exact refMeans3 g ht hi h3
 ·rw[if_neg h3]
  by_cases h26:(nd t i).k=26
  ·rw[if_pos h26]; exact refMeans26 g hi h26
  ·rw[if_neg h26,if_pos (by omega)]; exact refMeans44 g ht hi (by omega)
def twRq (t:Tr) (o:List Int) (i k:Nat):Bool:=(nd t k).text == (nd t i).text && (if (nd t i).k=65 then (nd t k).k == 65 else if (nd t i).k=44 then (nd t k).k == 44 && J3 t k == J3 t i else Kk (nd t k).k && (!((nd t k).k == 65) && X0 t o k == X0 t o i))
omit g ht in
theorem twR_eq {i:Nat}:twR t o i=if (nd t i).k≠44∧Kk (nd t i).k=false then false else (Ga i).any (twRq t o i):=rfl
theorem refTwice {i:Nat}(hi:i < t.nodes.length):Fn Gi 63 [t.cv,.int .i64 (i:Int)] (.bool (twR t o i)):=by
 have hmany:=g.many
 have hg:=J6 hi
 rw[twR_eq]
 refine Ja c63_ok rfl rfl fun N=>?_
 simp -implicitDefEqProofs only[c63,go_sem,Tr.cv,Tr.row,Jc,hg,Nd.cv]
 refine ⟨by omega,?_⟩
 refine Jg (id:=0) (z:=2) (els:=[t.row]) rfl rfl ?_
 simp only[go_sem,J2,Ko,frz,KG]
 refine Jg (id:=1) (z:=5) (els:=[(nd t i).cv]) rfl rfl ?_
 simp only[go_sem,J2,Ko,frz,KG,Gh,Nd.cv]
 refine JV (XD _) ?_
 by_cases h44:(nd t i).k=44
 ·have hd:Kk (nd t i).k=false:=by rw[h44]; rfl
  have b44:((nd t i).k == 44)=true:=beq_iff_eq.2 h44
  have b65:((nd t i).k == 65)=false:=beq_eq_false_iff_ne.2 (by omega)
  rw[if_neg (show ¬ ((nd t i).k≠44∧Kk (nd t i).k=false) from fun h=>h.1 h44),hd]
  simp -implicitDefEqProofs only[go_sem,kbN,b44,Gf,Gc,Nd.cv]
  generalize hq:twRq t o i=q
  refine JG (I:=fun j:Nat=>j≤i∧(Ga i).any q=((Ga i).drop j).any q) (inv:=fun j=>gp [(1,.int .i64 (i:Int)),(0,.rptr t.row),(2,.rptr (nd t i).cv),(0,.int .i64 (j:Int))] 71) (hp:=fun _=>[.dead,.dead]) (μ:=fun j=>i-j) 0 [0,1] ⟨by omega,by rw[Gh]⟩ rfl ?_ rfl ?_
  ·simp[forget,JF,ren,Jo,gp,Tr.row,Nd.cv]
  ·rintro j ⟨hj,hinv⟩
   by_cases hlt:j < i
   ·have hjn:j < t.nodes.length:=by omega
    have d1:((j:Int) < (i:Int))=True:=Jn
    have hgj:=J6 hjn
    have hqj:q j=twRq t o i j:=by rw[hq]
    unfold twRq at hqj
    rw[KN hlt,Gm]at hinv
    cases htx:((nd t j).text == (nd t i).text) with
    |false=>
     rw[hqj,htx,Gg,Gd]at hinv
     simp -implicitDefEqProofs only[go_sem,Tr.row,Jc,d1,hgj,Nd.cv,htx,Gf]
     refine ⟨by omega,Ji,j+1,[0,1],⟨by omega,hinv⟩,by omega,rfl,rfl,?_⟩
     simp[forget,JF,ren,Jo,Tr.row]
    |true=>
     rw[htx,Gb]at hqj
     simp -implicitDefEqProofs only[go_sem,Tr.row,Jc,d1,hgj,Nd.cv,htx,Gc,kbE,b65,b44]
     refine ⟨by omega,?_⟩
     rw[if_neg (by omega),if_pos h44]at hqj
     refine Jg (id:=2) (z:=5) (els:=[(nd t j).cv]) rfl rfl ?_
     simp only[go_sem,J2,Ko,frz,KG,Gh,Nd.cv]
     refine JS JA (by decide) ?_
     cases h:((nd t j).k == 44) with
     |false=>
      rw[hqj,h,Gg,Gd]at hinv
      simp -implicitDefEqProofs only[go_sem,kbE,h,Nd.cv]
      refine ⟨Ji,j+1,[0,1],⟨by omega,hinv⟩,by omega,rfl,rfl,?_⟩
      simp[forget,JF,ren,Jo,Tr.row]
     |true=>
      rw[h,Gb]at hqj
      simp -implicitDefEqProofs only[go_sem,kbE,h,Nd.cv,Tr.row]
      refine JO (gok rfl) (JaW g ht hjn) ?_
      simp -implicitDefEqProofs only[go_sem,Tr.row]
      refine JO (gok rfl) (JaW g ht hi) ?_
      cases hpp:(J3 t j == J3 t i) with
      |true=>
       rw[hqj,hpp,Gj]at hinv
       simp -implicitDefEqProofs only[go_sem,hpp,hinv]
      |false=>
       rw[hqj,hpp,Gd]at hinv
       simp -implicitDefEqProofs only[go_sem,hpp]
       refine ⟨Ji,j+1,[0,1],⟨by omega,hinv⟩,by omega,rfl,rfl,?_⟩
       simp[forget,JF,ren,Jo,Tr.row]
   ·have d1:((j:Int) < (i:Int))=False:=Jj
    rw[show (Ga i).drop j=[] from Gl (by simp; omega),Gp]at hinv
    simp -implicitDefEqProofs only[go_sem,d1,hinv]
 ·have b44:((nd t i).k == 44)=false:=beq_eq_false_iff_ne.2 h44
  cases hd:Kk (nd t i).k with
  |false=>
   rw[if_pos ⟨h44,rfl⟩]
   simp -implicitDefEqProofs only[go_sem,kbN,b44,Gf,Nd.cv]
  |true=>
   rw[if_neg (show ¬ ((nd t i).k≠44∧true=false) from fun h=>by cases h.2)]
   simp -implicitDefEqProofs only[go_sem,Gc]
   by_cases h65:(nd t i).k=65
   ·have b65:((nd t i).k == 65)=true:=beq_iff_eq.2 h65
    generalize hq:twRq t o i=q
    refine JG (I:=fun j:Nat=>j≤i∧(Ga i).any q=((Ga i).drop j).any q) (inv:=fun j=>gp [(1,.int .i64 (i:Int)),(0,.rptr t.row),(2,.rptr (nd t i).cv),(0,.int .i64 (j:Int))] 71) (hp:=fun _=>[.dead,.dead]) (μ:=fun j=>i-j) 0 [0,1] ⟨by omega,by rw[Gh]⟩ rfl ?_ rfl ?_
    ·simp[forget,JF,ren,Jo,gp,Tr.row,Nd.cv]
    ·rintro j ⟨hj,hinv⟩
     by_cases hlt:j < i
     ·have hjn:j < t.nodes.length:=by omega
      have d1:((j:Int) < (i:Int))=True:=Jn
      have hgj:=J6 hjn
      have hqj:q j=twRq t o i j:=by rw[hq]
      unfold twRq at hqj
      rw[KN hlt,Gm]at hinv
      cases htx:((nd t j).text == (nd t i).text) with
      |false=>
       rw[hqj,htx,Gg,Gd]at hinv
       simp -implicitDefEqProofs only[go_sem,Tr.row,Jc,d1,hgj,Nd.cv,htx,Gf]
       refine ⟨by omega,Ji,j+1,[0,1],⟨by omega,hinv⟩,by omega,rfl,rfl,?_⟩
       simp[forget,JF,ren,Jo,Tr.row]
      |true=>
       rw[htx,Gb]at hqj
       simp -implicitDefEqProofs only[go_sem,Tr.row,Jc,d1,hgj,Nd.cv,htx,Gc,kbE,b65]
       refine ⟨by omega,?_⟩
       rw[if_pos h65]at hqj
       cases h:((nd t j).k == 65) with
       |true=>
        rw[hqj,h,Gj]at hinv
        simp -implicitDefEqProofs only[go_sem,h,hinv]
       |false=>
        rw[hqj,h,Gd]at hinv
        simp -implicitDefEqProofs only[go_sem,h]
        refine ⟨Ji,j+1,[0,1],⟨by omega,hinv⟩,by omega,rfl,rfl,?_⟩
        simp[forget,JF,ren,Jo,Tr.row]
     ·have d1:((j:Int) < (i:Int))=False:=Jj
      rw[show (Ga i).drop j=[] from Gl (by simp; omega),Gp]at hinv
      simp -implicitDefEqProofs only[go_sem,d1,hinv]
   ·have b65:((nd t i).k == 65)=false:=beq_eq_false_iff_ne.2 h65
    generalize hq:twRq t o i=q
    refine JG (I:=fun j:Nat=>j≤i∧(Ga i).any q=((Ga i).drop j).any q) (inv:=fun j=>gp [(1,.int .i64 (i:Int)),(0,.rptr t.row),(2,.rptr (nd t i).cv),(0,.int .i64 (j:Int))] 71) (hp:=fun _=>[.dead,.dead]) (μ:=fun j=>i-j) 0 [0,1] ⟨by omega,by rw[Gh]⟩ rfl ?_ rfl ?_
    ·simp[forget,JF,ren,Jo,gp,Tr.row,Nd.cv]
    ·rintro j ⟨hj,hinv⟩
     by_cases hlt:j < i
     ·have hjn:j < t.nodes.length:=by omega
      have d1:((j:Int) < (i:Int))=True:=Jn
      have hgj:=J6 hjn
      have hqj:q j=twRq t o i j:=by rw[hq]
      unfold twRq at hqj
      rw[KN hlt,Gm]at hinv
      cases htx:((nd t j).text == (nd t i).text) with
      |false=>
       rw[hqj,htx,Gg,Gd]at hinv
       simp -implicitDefEqProofs only[go_sem,Tr.row,Jc,d1,hgj,Nd.cv,htx,Gf]
       refine ⟨by omega,Ji,j+1,[0,1],⟨by omega,hinv⟩,by omega,rfl,rfl,?_⟩
       simp[forget,JF,ren,Jo,Tr.row]
      |true=>
       rw[htx,Gb]at hqj
       simp -implicitDefEqProofs only[go_sem,Tr.row,Jc,d1,hgj,Nd.cv,htx,Gc,kbE,b65,b44]
       refine ⟨by omega,?_⟩
       rw[if_neg h65,if_neg h44]at hqj
       refine Jg (id:=2) (z:=5) (els:=[(nd t j).cv]) rfl rfl ?_
       simp only[go_sem,J2,Ko,frz,KG,Gh,Nd.cv]
       refine JS JA (by decide) ?_
       simp -implicitDefEqProofs only[go_sem,Nd.cv]
       refine JO (.inl rfl) (XD _) ?_
       cases hd2:Kk (nd t j).k with
       |false=>
        rw[hqj,hd2,Gg,Gd]at hinv
        simp -implicitDefEqProofs only[go_sem]
        refine ⟨Ji,j+1,[0,1],⟨by omega,hinv⟩,by omega,rfl,rfl,?_⟩
        simp[forget,JF,ren,Jo,Tr.row]
       |true=>
        rw[hd2,Gb]at hqj
        cases h:((nd t j).k == 65) with
        |true=>
         rw[hqj,h,Gc,Gg,Gd]at hinv
         simp -implicitDefEqProofs only[go_sem,kbN,h,Nd.cv,Gc]
         refine ⟨Ji,j+1,[0,1],⟨by omega,hinv⟩,by omega,rfl,rfl,?_⟩
         simp[forget,JF,ren,Jo,Tr.row]
        |false=>
         rw[h,Gf,Gb]at hqj
         simp -implicitDefEqProofs only[go_sem,kbN,h,Nd.cv,Gf,Tr.row]
         refine JO (gok rfl) (refItemOf g ht hjn) ?_
         simp -implicitDefEqProofs only[go_sem,Tr.row]
         refine JO (gok rfl) (refItemOf g ht hi) ?_
         cases hpp:(X0 t o j == X0 t o i) with
         |true=>
          rw[hqj,hpp,Gj]at hinv
          simp -implicitDefEqProofs only[go_sem,hpp,hinv]
         |false=>
          rw[hqj,hpp,Gd]at hinv
          simp -implicitDefEqProofs only[go_sem,hpp]
          refine ⟨Ji,j+1,[0,1],⟨by omega,hinv⟩,by omega,rfl,rfl,?_⟩
          simp[forget,JF,ren,Jo,Tr.row]
     ·have d1:((j:Int) < (i:Int))=False:=Jj
      rw[show (Ga i).drop j=[] from Gl (by simp; omega),Gp]at hinv
      simp -implicitDefEqProofs only[go_sem,d1,hinv]
end
end
end Go.Cm
end
end
