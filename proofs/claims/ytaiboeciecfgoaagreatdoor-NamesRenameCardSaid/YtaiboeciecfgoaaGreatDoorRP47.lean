/-
  A part of the proof. Conditions: none.
-/
import Derived.Test.YtaiboeciecfgoaaGreatDoorRP45
set_option linter.unusedSimpArgs false
set_option linter.unusedVariables false
open List renaming map_cons→Ga,map_nil→Gb,range→Gc,drop_zero→Gd,length_cons→Gf,getD_eq_getElem?_getD→Gl,getElem?_eq_getElem→Gm,take_of_length_le→Gn,length_filter_le→Gr,drop_eq_nil_of_le→Gv,set_cons_zero→Gw,set_cons_succ→Gx,length_append→Gy,replicate→Gz,drop_eq_getElem_cons→GH,mem_of_mem_drop→GI,length_reverse→GJ,drop_succ_cons→GK,getElem_mem→GL,take→GA,range_succ→GM,length_nil→GN,length_map→GQ,append_nil→GR,any_append→GU
open Go.Proofs.Tryz renaming prog→Gg
open Nat renaming zero_add→Gs,le_refl→Gt,le_trans→GD,add_zero→GV
open Bool renaming and_false→Gh,not_true→Gi,not_false→Gp,false_and→Gq,or_false→GG,true_and→GX
open Int renaming toNat_natCast→Gj,le_refl→Gu
noncomputable section
section
set_option maxRecDepth 100000
set_option maxHeartbeats 4000000
open Go.Proofs
namespace Go.Cm
section
def nz (l:List Nat):List Int:=l.map fun x:Nat=>(x:Int)
theorem nz_len {l:List Nat}:(nz l).length=l.length:=by simp[nz]
theorem nz_cons {x:Nat}{l:List Nat}:nz (x::l)=(x:Int)::nz l:=rfl
theorem nz_get {l:List Nat}{i:Nat}(h:i < l.length):(nz l).getD i 0=(l.getD i 0:Nat):=by
 simp[nz,Gl,Gm h]
theorem nzz_get {l:List Nat}{i:Nat}(h:i < l.length):(iz (nz l)).getD i []=[.int .i64 (l.getD i 0:Nat)]:=by rw[JR (by rw[nz_len]; exact h),nz_get h]
theorem QK {l:List Nat}:(iz (nz l)).length=l.length:=by rw[Jf,nz_len]
section
variable {t:Tr}{o:List Int}(g:GoodT t o) (ht:t.Fit)
include g ht
theorem refWay {top a0:Nat}(htop:top < t.nodes.length) (hb0:blw o a0 top):Fn Gg 71 [t.cv,.int .i64 (top:Int),.int .i64 (a0:Int)] (.rslc 1 (iz (nz (upL t top t.nodes.length a0).reverse)) none):=by
 have hmany:=g.many
 have hup:=up_len g (f:=t.nodes.length) htop hb0 (by omega)
 have hst:=way_start (t:=t) (top:=top) (f:=t.nodes.length) (a:=a0)
 generalize hR:(upL t top t.nodes.length a0).reverse=R at hst ⊢
 have hRl:R.length≤t.nodes.length:=by rw[← hR,GJ]; omega
 refine QP ?_ rfl rfl
 refine KI c71_ok fun N=>?_
 simp -implicitDefEqProofs only[c71,go_sem,Tr.cv,Tr.row]
 refine Jg (id:=0) (z:=2) (els:=[t.row]) rfl rfl ?_
 simp only[go_sem,J2,Ko,frz,KG,Ga,Gb]
 refine JG (σ:=Nat×Nat×List Nat×Option Nat) (I:=fun s=>blw o s.2.1 top∧t.nodes.length≤s.2.1+s.1∧R=(upL t top s.1 s.2.1).tail.reverse++s.2.2.1∧s.2.2.1≠[]) (inv:=fun s=>gp [(1,.int .i64 (top:Int)),(0,.int .i64 (s.2.1:Int)),(0,.rptr t.row),(3,.slc 1 0 s.2.2.1.length s.2.2.2)] 13) (hp:=fun s=>[.dead,.arr 1 (iz (nz s.2.2.1))]) (μ:=fun s=>t.nodes.length-s.2.1) (t.nodes.length,a0,[a0],some 1) [0,1] ⟨hb0,by simp only; omega,hst,by simp⟩ rfl ?_ ?_ ?_
 ·simp[forget,JF,ren,Jo,gp,Tr.row]
 ·simp[Kw,JF,ren,Jo,JgQ,iz,nz]
 ·rintro ⟨f,a,w,cap⟩ ⟨hb,hf,hw,hne⟩
  dsimp only at hb hf hw hne
  have ha:a < t.nodes.length:=by have:=hb.1; omega
  by_cases he:a=top
  ·subst he
   rw[way_end,List.reverse_nil,List.nil_append]at hw
   have e1:((a:Int) != (a:Int))=false:=by simp
   simp -implicitDefEqProofs only[go_sem,e1]
   refine .step 1 1 (iz (nz w)) rfl (Jd _) (.done ?_)
   have hx:GA w.length (iz (nz w))=iz (nz w):=Gn (by rw[QK]; omega)
   simp only[frz,if_true,Gs,QK,Gt,Gd,hx]
   rw[hw]; exact wk.refl _
  ·have e1:((a:Int) != (top:Int))=true:=bne_iff_ne.2 (by omega)
   obtain ⟨m,f',h1,h2,h3,h4,h5,h6⟩:=way_step g htop hb hf he
   rw[h6]at hw
   have hwl:w.length+1≤R.length:=by rw[hw,Gy,Gf]; omega
   have hP:=JaW g ht ha
   rw[h1]at hP
   obtain ⟨y,ys,rfl⟩:=List.exists_cons_of_ne_nil hne
   simp only[Gf]at hwl
   have htk:GA (ys.length+1) (([CV.int .i64 (y:Int)])::iz (nz ys))=[CV.int .i64 (y:Int)]::iz (nz ys):=Gn (by simp[QK])
   simp -implicitDefEqProofs only[go_sem,e1,Tr.row]
   refine JV hP ?_
   simp -implicitDefEqProofs only[go_sem,nz_cons,JY,Gf,htk,QK,JJ,Gd]
   refine ⟨⟨by omega,by omega,by omega⟩,(f',m,m::y::ys,none),[0,3],⟨h4,h5,hw,by simp⟩,by simp only; omega,rfl,?_,?_⟩
   ·have hcl:=Jb (ρ:=[0,3]) (Jd (nz ys))
    simp[Kw,JF,ren,Jo,JgQ,nz_cons,JY,hcl]
   ·simp[forget,JF,ren,Jo,Tr.row]; omega
theorem refLate {a0 s:Nat}(hs:s < t.nodes.length) (hk:(nd t s).k=41) (hb0:blw o a0 (JI t s)):Fn Gg 23 [t.cv,.int .i64 (a0:Int),.int .i64 (s:Int)] (.bool (tdL t (upL t (JI t s) t.nodes.length a0).reverse false)):=by
 have hmany:=g.many
 have hsk:=set_kid g hs hk
 have htl:JI t s < t.nodes.length:=by have:=(Kn g hs hsk.1).2; omega
 have hup:=up_len g (f:=t.nodes.length) htl hb0 (by omega)
 have hW:=refWay g ht htl hb0
 have hrng:=up_rng g t.nodes.length a0 (JI t s) htl hb0
 have hkids:=up_kids g t.nodes.length a0 (JI t s) htl hb0
 have hpr:∀ i,i+1 < (upL t (JI t s) t.nodes.length a0).reverse.length→((((upL t (JI t s) t.nodes.length a0).reverse.getD (i+1) 0:Nat):Int)∈(nd t ((upL t (JI t s) t.nodes.length a0).reverse.getD i 0)).kids∧(upL t (JI t s) t.nodes.length a0).reverse.getD i 0 < t.nodes.length):=fun i hi=>pairs_rev hkids hi
 have hrng':∀ x∈(upL t (JI t s) t.nodes.length a0).reverse,x < t.nodes.length:=fun x hx=>hrng x (List.mem_reverse.1 hx)
 have hRl:(upL t (JI t s) t.nodes.length a0).reverse.length≤t.nodes.length:=by rw[GJ]; omega
 generalize (upL t (JI t s) t.nodes.length a0).reverse=R at hW hpr hrng' hRl ⊢
 refine Ja c23_ok rfl rfl fun N=>?_
 simp -implicitDefEqProofs only[c23,go_sem,Tr.cv,Tr.row]
 refine Jg (id:=0) (z:=2) (els:=[t.row]) rfl rfl ?_
 simp only[go_sem,J2,Ko,frz,KG,Ga,Gb]
 refine JS JA (by decide) ?_
 simp -implicitDefEqProofs only[go_sem,Tr.row]
 refine JO (.inl rfl) (Jcn g ht hs hsk.2) ?_
 simp -implicitDefEqProofs only[go_sem,Tr.row]
 refine JO (.inl rfl) hW ?_
 simp -implicitDefEqProofs only[go_sem]
 generalize hD:tdL t R false=D
 refine JG (I:=fun i:Nat=>i≤R.length∧D=tdL t (R.drop i) false) (inv:=fun i=>gp [(3,.rptr t.row),(3,.rslc 1 (iz (nz R)) none),(0,.int .i64 (i:Int))] 54) (hp:=fun _=>[.dead]) (μ:=fun i=>R.length-i) 0 [0] ⟨by omega,by rw[Gd,hD]⟩ rfl ?_ rfl ?_
 ·simp[forget,JF,ren,Jo,gp,Tr.row]
 ·rintro i ⟨hi,hinv⟩
  by_cases hlt:i+1 < R.length
  ·have d1:((i:Int)+1 < (R.length:Int))=True:=Jn
   rw[tdL_drop hlt]at hinv
   obtain ⟨hc,hu⟩:=hpr i hlt
   have hg1:=nzz_get (l:=R) (i:=i) (by omega)
   have hg2:=nzz_get hlt
   have hcn:R.getD (i+1) 0 < t.nodes.length:=hrng' _ (by rw[Gl,Gm hlt]; exact GL hlt)
   generalize R.getD i 0=u at hinv hc hu hg1
   generalize R.getD (i+1) 0=c at hinv hc hg2 hcn
   have hgu:=J6 hu
   have hgc:=J6 hcn
   have hklen:=List.length_pos_of_mem hc
   have hi1:((i:Int)+1).toNat=i+1:=by omega
   simp -implicitDefEqProofs only[go_sem,QK,d1]
   refine ⟨Ji,?_⟩
   refine XA [false,false,false,false,false,false,false,false,true,true] JA (by decide +kernel) ?_
   by_cases h4:(nd t u).k=4
   ·have hdd:JgS t u c=some true:=by unfold JgS; rw[if_pos h4]
    rw[hdd]at hinv
    simp -implicitDefEqProofs only[go_sem,Tr.row,Jc,QK,hg1,hgu,Nd.cv,kbE,h4]
    exact ⟨by omega,by omega,by rw[hinv]⟩
   have b4:((nd t u).k == 4)=false:=beq_eq_false_iff_ne.2 h4
   by_cases h46:(nd t u).k=46
   ·have hdd:JgS t u c=some (c == JI t u):=by unfold JgS; rw[if_neg h4,if_pos (.inl h46)]
    have b46:((nd t u).k == 46)=true:=beq_iff_eq.2 h46
    rw[hdd]at hinv
    simp -implicitDefEqProofs only[go_sem,Tr.row,Jc,QK,hg1,hgu,Nd.cv,kbE,b4,b46]
    refine ⟨by omega,by omega,?_⟩
    refine JS JA (by decide) ?_
    simp -implicitDefEqProofs only[go_sem,QK,hi1,hg1,hg2,Tr.row]
    refine ⟨Ji,by omega,by omega,?_⟩
    refine JO (.inl rfl) (Jcn g ht hu hklen) ?_
    have en:=Jct (JI t u) c
    simp -implicitDefEqProofs only[go_sem,en,hinv]
   have b46:((nd t u).k == 46)=false:=beq_eq_false_iff_ne.2 h46
   by_cases h47:(nd t u).k=47
   ·have hdd:JgS t u c=some (c == JI t u):=by unfold JgS; rw[if_neg h4,if_pos (.inr h47)]
    have b47:((nd t u).k == 47)=true:=beq_iff_eq.2 h47
    rw[hdd]at hinv
    simp -implicitDefEqProofs only[go_sem,Tr.row,Jc,QK,hg1,hgu,Nd.cv,kbE,b4,b46,b47]
    refine ⟨by omega,by omega,?_⟩
    refine JS JA (by decide) ?_
    simp -implicitDefEqProofs only[go_sem,QK,hi1,hg1,hg2,Tr.row]
    refine ⟨Ji,by omega,by omega,?_⟩
    refine JO (.inl rfl) (Jcn g ht hu hklen) ?_
    have en:=Jct (JI t u) c
    simp -implicitDefEqProofs only[go_sem,en,hinv]
   have b47:((nd t u).k == 47)=false:=beq_eq_false_iff_ne.2 h47
   by_cases h28:(nd t u).k=28
   ·have b28:((nd t u).k == 28)=true:=beq_iff_eq.2 h28
    simp -implicitDefEqProofs only[go_sem,Tr.row,Jc,QK,hg1,hgu,Nd.cv,kbE,b4,b46,b47,b28]
    refine ⟨by omega,by omega,?_⟩
    refine JS JA (by decide) ?_
    by_cases h43:(nd t c).k=43
    ·have hdd:JgS t u c=none:=by unfold JgS; rw[if_neg h4,if_neg (by omega),if_pos h28,if_pos h43]
     have b43:((nd t c).k == 43)=true:=beq_iff_eq.2 h43
     rw[hdd]at hinv
     simp -implicitDefEqProofs only[go_sem,QK,hi1,hg2,Tr.row,Jc,hgc,Nd.cv,kbN,b43,Gi]
     refine ⟨Ji,by omega,by omega,Ji,i+1,[0],⟨by omega,hinv⟩,by omega,rfl,rfl,?_⟩
     simp[forget,JF,ren,Jo,Tr.row]
    ·have hdd:JgS t u c=some false:=by unfold JgS; rw[if_neg h4,if_neg (by omega),if_pos h28,if_neg h43]
     have b43:((nd t c).k == 43)=false:=beq_eq_false_iff_ne.2 h43
     rw[hdd]at hinv
     simp -implicitDefEqProofs only[go_sem,QK,hi1,hg2,Tr.row,Jc,hgc,Nd.cv,kbN,b43,Gp]
     exact ⟨Ji,by omega,by omega,by rw[hinv]⟩
   have b28:((nd t u).k == 28)=false:=beq_eq_false_iff_ne.2 h28
   have hdd:JgS t u c=none:=by unfold JgS; rw[if_neg h4,if_neg (by omega),if_neg h28]
   rw[hdd]at hinv
   simp -implicitDefEqProofs only[go_sem,Tr.row,Jc,QK,hg1,hgu,Nd.cv,kbE,b4,b46,b47,b28]
   refine ⟨by omega,by omega,Ji,i+1,[0],⟨by omega,hinv⟩,by omega,rfl,rfl,?_⟩
   simp[forget,JF,ren,Jo,Tr.row]
  ·have d1:((i:Int)+1 < (R.length:Int))=False:=Jj
   rw[tdL_end (by omega)]at hinv
   simp -implicitDefEqProofs only[go_sem,QK,d1,hinv]
   exact Ji
end
end
section
def bb (l:List Bool):List (List CV):=l.map fun b=>[.bool b]
theorem bb_len {l:List Bool}:(bb l).length=l.length:=by simp[bb]
theorem bb_get {l:List Bool}{i:Nat}(h:i < l.length):(bb l).getD i []=[.bool (l.getD i false)]:=by
 simp[bb,Gl,Gm h]
theorem QG:∀ (l:List Bool),Jq (bb l)=true
 |[]=>rfl
 |x::l=>by simp[bb,Jq,Jm,CV.closed]; exact QG l
theorem bb_set {l:List Bool}{i:Nat}{b:Bool}:(bb l).set i [.bool b]=bb (l.set i b):=by simp[bb,List.map_set]
theorem bb_rep {n:Nat}:Gz n [CV.bool false]=bb (Gz n false):=by simp[bb]
def JcR (l:List Bool) (i:Nat):List Int:=((Gc i).filter fun j=>l.getD j false).map fun j:Nat=>(j:Int)
theorem setTo_succ {l:List Bool}{i:Nat}:JcR l (i+1)=JcR l i++if l.getD i false=true then [(i:Int)] else []:=by
 unfold JcR
 rw[GM,List.filter_append,List.map_append,List.filter_cons,List.filter_nil]
 split <;> rfl
theorem setTo_len {l:List Bool}{i:Nat}:(JcR l i).length≤i:=by
 unfold JcR
 rw[GQ]
 exact GD (Gr _ _) (by simp)
theorem refSet (l:List Bool) (hl:l.length≤100000):JeA Gg 69 [.rslc 1 (bb l) none] 1 (iz (setL l)):=by
 have hbl:(bb l).length=l.length:=bb_len
 refine Jd7 (KI c69_ok fun N=>?_) rfl (Jd _)
 simp -implicitDefEqProofs only[c69,go_sem]
 refine JG (I:=fun i:Nat=>i≤l.length) (inv:=fun i=>gp [(0,.rslc 1 (bb l) none),(2,.slc 0 0 (iz (JcR l i)).length (Jcb (iz (JcR l i)))),(0,.int .i64 (i:Int))] 16) (hp:=fun i=>[.arr 1 (iz (JcR l i))]) (μ:=fun i=>l.length-i) 0 [0] (by omega) rfl ?_ ?_ ?_
 ·simp[forget,JF,ren,Jo,gp,JcR,iz,Jcb]
 ·simp[Kw,JgQ,JcR,iz]
 ·intro i hi
  by_cases hlt:i < l.length
  ·have d1:((i:Int) < (l.length:Int))=True:=Jn
   have hgi:=bb_get hlt
   have hst:=setTo_succ (l:=l) (i:=i)
   have hsl:=setTo_len (l:=l) (i:=i)
   have hcl:=Jb (ρ:=[0]) (Jd (JcR l i))
   have hcl2:=Jb (ρ:=[2]) (Jd (JcR l i))
   cases hb:l.getD i false with
   |false=>
    rw[hb,if_neg (by simp),GR]at hst
    rw[hb]at hgi
    simp -implicitDefEqProofs only[go_sem,hbl,d1,hgi]
    refine ⟨by omega,Ji,i+1,[0],by omega,by omega,rfl,?_,?_⟩
    ·rw[hst]; simp only[Kw,Ga,Gb,go_sem,Jp,hcl]
    ·rw[hst]; simp[forget,JF,ren,Jo]
   |true=>
    rw[hb,if_pos rfl]at hst
    rw[hb]at hgi
    simp -implicitDefEqProofs only[go_sem,hbl,d1,hgi,JJ,Jf]
    refine ⟨by omega,⟨by omega,by omega⟩,Ji,i+1,[2],by omega,by omega,rfl,?_,?_⟩
    ·rw[hst,J8]
     simp only[Kw,Ga,Gb,go_sem,Jp]
     simp[hcl2,JF,ren]
    ·rw[hst,J8,JaL]
     simp[forget,JF,ren,Jo,Jf]
  ·have d1:((i:Int) < (l.length:Int))=False:=Jj
   obtain rfl:i=l.length:=by omega
   simp -implicitDefEqProofs only[go_sem,hbl,d1]
   exact ⟨0,rfl,rfl⟩
theorem refHas3 (l:List Int) (x:Int) (hl:l.length≤100000):Fn Gg 39 [.rslc 1 (iz l) none,.int .i64 x] (.bool (l.contains x)):=by
 have hil:(iz l).length=l.length:=Jf
 refine Ja c39_ok rfl rfl fun N=>?_
 simp -implicitDefEqProofs only[c39,go_sem]
 refine Jz (I:=fun i:Nat=>i≤l.length∧l.contains x=(l.drop i).contains x) (inv:=fun i=>gp [(0,.rslc 1 (iz l) none),(0,.int .i64 x),(3,.int .i64 (i:Int))] 12) (hp:=fun _=>[]) (μ:=fun i=>l.length-i) 0 ⟨by omega,rfl⟩ ?_ rfl ?_
 ·simp[forget,gp]
 ·rintro i ⟨hi,hinv⟩
  by_cases hlt:i < l.length
  ·have d1:((i:Int) < (l.length:Int))=True:=Jn
   have hgi:=JR hlt
   rw[GH hlt,List.contains_cons,show l[i]=l.getD i 0 by rw[Gl,Gm hlt]; rfl]at hinv
   generalize l.getD i 0=y at hinv hgi
   have hc:(x == y)=(y == x):=by rw[Bool.eq_iff_iff,beq_iff_eq,beq_iff_eq]; exact ⟨Eq.symm,Eq.symm⟩
   rw[hc]at hinv
   cases he:(y == x) with
   |true=>
    rw[he,Bool.true_or]at hinv
    simp -implicitDefEqProofs only[go_sem,hil,d1,hgi,he,hinv]
    omega
   |false=>
    rw[he,Bool.false_or]at hinv
    simp -implicitDefEqProofs only[go_sem,hil,d1,hgi,he]
    refine ⟨by omega,Ji,i+1,⟨by omega,hinv⟩,by omega,?_⟩
    simp[forget]
  ·have d1:((i:Int) < (l.length:Int))=False:=Jj
   rw[show l.drop i=[] from Gv (by omega),List.contains_nil]at hinv
   simp -implicitDefEqProofs only[go_sem,hil,d1,hinv]
section
variable {t:Tr}{o:List Int}(g:GoodT t o) (ht:t.Fit)
include g ht
theorem refNeeds {of:List Int}(ho:OfOk t of) {s:Nat}(hs:s < t.nodes.length) (hk:(nd t s).k=41):JeA Gg 20 [t.cv,.rslc 1 (iz of) none,.int .i64 (s:Int)] 1 (iz (XQ t o of s)):=by
 have hmany:=g.many
 have hol:(iz of).length=t.nodes.length:=by rw[Jf,ho.len]
 have hsk:=set_kid g hs hk
 have htl:JI t s < t.nodes.length:=by have:=(Kn g hs hsk.1).2; omega
 rw[needR_eq]
 refine Jd7 (KI c20_ok fun N=>?_) rfl (Jd _)
 simp -implicitDefEqProofs only[c20,go_sem,Tr.cv,Tr.row]
 refine Jg (id:=0) (z:=2) (els:=[t.row]) rfl rfl ?_
 simp only[go_sem,J2,Ko,frz,KG,Ga,Gb]
 refine XA [false,false,false,true,false,false,false,false,false] JA (by decide +kernel) ?_
 simp -implicitDefEqProofs only[go_sem,Tr.row,Jc]
 refine ⟨⟨by omega,Gu _,by omega,by omega⟩,?_⟩
 refine vh_f (JaW g ht hs) ?_
 simp -implicitDefEqProofs only[go_sem,Tr.row,Jc]
 rw[bb_rep,← JcP]
 have hany:∀ (i:Nat) (p:Nat→Bool),(Gc (i+1)).any p=((Gc i).any p || p i):=fun i p=>by
  rw[GM,GU,List.any_cons,List.any_nil,GG]
 refine JG (I:=fun i:Nat=>i≤t.nodes.length) (inv:=fun i=>gp [(1,.rslc 1 (iz of) none),(0,.int .i64 (s:Int)),(0,.rptr t.row),(3,.slc 1 0 t.nodes.length (some t.nodes.length)),(0,.int .i64 (J3 t s)),(0,.int .i64 (i:Int))] 73) (hp:=fun i=>[.dead,.arr 1 (bb (J9 t.nodes.length fun x=>(Gc i).any (JaS t o of s x)))]) (μ:=fun i=>t.nodes.length-i) 0 [0,1] (by omega) rfl ?_ ?_ ?_
 ·simp[forget,JF,ren,Jo,gp,Tr.row]
 ·simp only[Kw,Ga,Gb,go_sem,Jp,Jr,Jb (QG _)]
  rfl
 ·intro i hi
  have hcl:=Jb (ρ:=[0,1]) (QG (J9 t.nodes.length fun x=>(Gc i).any (JaS t o of s x)))
  by_cases hlt:i < t.nodes.length
  ·have d1:((i:Int) < (t.nodes.length:Int))=True:=Jn
   have hgi:=JR (l:=of) (i:=i) (by rw[ho.len]; exact hlt)
   have hgn:=J6 hlt
   have hrg:=ho.rng i (by rw[ho.len]; exact hlt)
   have hdf:=ho.dft (i:=i) (by rw[ho.len]; exact hlt)
   have hQ:∀ x,JaS t o of s x i=((nd t i).k == 3 && (decide (0≤of.getD i 0) && (Ja0 o i (JI t s) && ((nd t (of.getD i 0).toNat).k == 42 && (J3 t (of.getD i 0).toNat == x && (J3 t x.toNat == J3 t s && !tdL t (upL t (JI t s) t.nodes.length i).reverse false)))))):=fun x=>by unfold JaS; rw[hdf]
   have hno:(∀ x,JaS t o of s x i=false)→(J9 t.nodes.length fun x=>(Gc (i+1)).any (JaS t o of s x))=J9 t.nodes.length fun x=>(Gc i).any (JaS t o of s x):=fun h=>boolsN_congr fun j hj=>by rw[hany,h,GG]
   generalize of.getD i 0=m at hgi hrg hQ
   simp -implicitDefEqProofs only[go_sem,d1,Tr.row,Jc]
   refine JS JA (by decide) ?_
   cases h3:((nd t i).k == 3) with
   |false=>
    have hnil:=hno fun x=>by rw[hQ,h3,Gq]
    simp -implicitDefEqProofs only[go_sem,Jc,hgn,Nd.cv,kbN,h3,Gp]
    refine ⟨by omega,Ji,i+1,[0,1],by omega,by omega,rfl,?_,?_⟩
    ·rw[hnil]; simp only[Kw,Ga,Gb,go_sem,Jp,hcl,Jr]
    ·simp[forget,JF,ren,Jo,Tr.row]
   |true=>
    rcases Int.lt_or_le m 0 with hm0 | hm0
    ·have e1:decide (m < 0)=true:=decide_eq_true hm0
     have hnil:=hno fun x=>by rw[hQ,decide_eq_false (by omega),Gq,Gh]
     simp -implicitDefEqProofs only[go_sem,Jc,hgn,Nd.cv,kbN,h3,Gi,hol,hgi,e1]
     refine ⟨by omega,by omega,Ji,i+1,[0,1],by omega,by omega,rfl,?_,?_⟩
     ·rw[hnil]; simp only[Kw,Ga,Gb,go_sem,Jp,hcl,Jr]
     ·simp[forget,JF,ren,Jo,Tr.row]
    ·have e1:decide (m < 0)=false:=decide_eq_false (by omega)
     obtain ⟨m,rfl⟩:∃ m':Nat,m=m':=⟨m.toNat,by omega⟩
     have hmn:m < t.nodes.length:=by omega
     have hgm:=J6 hmn
     simp -implicitDefEqProofs only[go_sem,Jc,hgn,Nd.cv,kbN,h3,Gi,hol,hgi,e1]
     refine ⟨by omega,by omega,?_⟩
     refine JO (gok rfl) (Jcn g ht hs hsk.2) ?_
     simp -implicitDefEqProofs only[go_sem]
     refine JO (gok rfl) (Yl g ht htl) ?_
     cases hb:Ja0 o i (JI t s) with
     |false=>
      have hnil:=hno fun x=>by rw[hQ,hb,Gq,Gh,Gh]
      simp -implicitDefEqProofs only[go_sem,Gp]
      refine ⟨Ji,i+1,[0,1],by omega,by omega,rfl,?_,?_⟩
      ·rw[hnil]; simp only[Kw,Ga,Gb,go_sem,Jp,hcl,Jr]
      ·simp[forget,JF,ren,Jo,Tr.row]
     |true=>
      cases h42:((nd t m).k == 42) with
      |false=>
       have hnil:=hno fun x=>by rw[hQ,Gj,h42,Gq,Gh,Gh,Gh]
       simp -implicitDefEqProofs only[go_sem,Gi,Jc,hol,hgi,hgm,Nd.cv,kbN,h42,Gp]
       refine ⟨by omega,by omega,Ji,i+1,[0,1],by omega,by omega,rfl,?_,?_⟩
       ·rw[hnil]; simp only[Kw,Ga,Gb,go_sem,Jp,hcl,Jr]
       ·simp[forget,JF,ren,Jo,Tr.row]
      |true=>
       have k42:(nd t m).k=42:=beq_iff_eq.1 h42
       obtain ⟨v,hv1,hv2,_,_⟩:=Xv g hmn (by omega)
       have hPm:=JaW g ht hmn
       rw[hv1]at hPm
       have hQ2:∀ x,JaS t o of s x i=(((v:Int) == x) && (J3 t x.toNat == J3 t s && !tdL t (upL t (JI t s) t.nodes.length i).reverse false)):=fun x=>by
        rw[hQ,h3,hb,Gj,h42,hv1,decide_eq_true (by omega)]; rfl
       simp -implicitDefEqProofs only[go_sem,Gi,Jc,hol,hgi,hgm,Nd.cv,kbN,h42]
       refine ⟨by omega,by omega,?_⟩
       refine JS JA (by decide) ?_
       simp -implicitDefEqProofs only[go_sem,hol,hgi,Tr.row]
       refine ⟨by omega,?_⟩
       refine JO (.inl rfl) hPm ?_
       simp -implicitDefEqProofs only[go_sem,Tr.row]
       refine JV (JaW g ht hv2) ?_
       cases hpp:(J3 t v == J3 t s) with
       |false=>
        have hnil:=hno fun x=>by
         rw[hQ2]
         cases hx:((v:Int) == x) with
         |false=>rfl
         |true=>
          have:=beq_iff_eq.1 hx
          rw[← this,Gj,hpp]; rfl
        simp -implicitDefEqProofs only[go_sem,hpp]
        refine ⟨Ji,i+1,[0,1],by omega,by omega,rfl,?_,?_⟩
        ·rw[hnil]; simp only[Kw,Ga,Gb,go_sem,Jp,hcl,Jr]
        ·simp[forget,JF,ren,Jo,Tr.row]
       |true=>
        simp -implicitDefEqProofs only[go_sem,hpp,Tr.row]
        refine JN (gok rfl) (refLate g ht hs hk (K9.1 hb)) ?_
        cases hl:tdL t (upL t (JI t s) t.nodes.length i).reverse false with
        |true=>
         have hnil:=hno fun x=>by rw[hQ2,hl]; simp
         simp -implicitDefEqProofs only[go_sem,Gi]
         refine ⟨Ji,i+1,[0,1],by omega,by omega,rfl,?_,?_⟩
         ·rw[hnil]; simp only[Kw,Ga,Gb,go_sem,Jp,hcl,Jr]
         ·simp[forget,JF,ren,Jo,Tr.row]
        |false=>
         have hset:(J9 t.nodes.length fun x=>(Gc i).any (JaS t o of s x)).set v true=J9 t.nodes.length fun x=>(Gc (i+1)).any (JaS t o of s x):=by
          refine JfF hv2 (fun j hj hne=>?_) ?_
          ·rw[hany,hQ2,beq_eq_false_iff_ne.2 (show (v:Int)≠(j:Int) by omega),Gq,GG]
          ·rw[hany,hQ2,Gj,hpp,hl]; simp
         have hbl:(bb (J9 t.nodes.length fun x=>(Gc i).any (JaS t o of s x))).length=t.nodes.length:=by rw[bb_len,KZ]
         have hbg:=bb_get (l:=J9 t.nodes.length fun x=>(Gc i).any (JaS t o of s x)) (i:=v) (by rw[KZ]; exact hv2)
         simp -implicitDefEqProofs only[go_sem,Gp,hbl,hbg,Gf,GN,GK,Gd,bb_set,hset]
         refine ⟨by omega,by omega,Ji,i+1,[0,1],by omega,by omega,rfl,?_,?_⟩
         ·simp only[Kw,Ga,Gb,go_sem,Jp,Jb (QG _),Jr]
         ·simp[forget,JF,ren,Jo,Tr.row]
  ·have d1:((i:Int) < (t.nodes.length:Int))=False:=Jj
   obtain rfl:i=t.nodes.length:=by omega
   have hbl:(bb (J9 t.nodes.length fun x=>(Gc t.nodes.length).any (JaS t o of s x))).length=t.nodes.length:=by rw[bb_len,KZ]
   simp -implicitDefEqProofs only[go_sem,d1,Tr.row,Jc]
   refine Jg (id:=1) (z:=1) (els:=bb (J9 t.nodes.length fun x=>(Gc t.nodes.length).any (JaS t o of s x))) rfl (QG _) ?_
   have hft:=Gn (l:=bb (J9 t.nodes.length fun x=>(Gc t.nodes.length).any (JaS t o of s x))) (i:=t.nodes.length) (by rw[hbl]; omega)
   simp only[go_sem,J2,Ko,frz,KG,Ga,Gb,Gd,Gs,if_true,hbl,Gt,hft,Gx,Gw]
   refine vr_rowW (.inl rfl) (refSet _ (by rw[KZ]; omega)) ?_
   simp -implicitDefEqProofs only[go_sem]
   exact ⟨2,rfl,rfl⟩
end
end
section
theorem needR_ok {t:Tr}{o of:List Int}:∀ x∈Ka t,(∀ y∈XQ t o of x.toNat,y∈Ka t)∧(XQ t o of x.toNat).length≤(Ka t).length:=
 fun x _=>⟨fun y hy=>(List.mem_filter.1 hy).1,Gr _ _⟩
def todoW (els:List Int) (off:Nat):CV:=.slc 2 off (els.length-off) (Jcb (iz els))
theorem Jeq {els:List Int}(h:els≠[]):Jcb (iz els)=none:=by cases els with
 |nil=>exact absurd rfl h
 |cons x l=>rfl
section
variable {t:Tr}{o:List Int}(g:GoodT t o) (ht:t.Fit)
include g ht
theorem refReached {of:List Int}(ho:OfOk t of) {s:Nat}(hs:s < t.nodes.length) (hk:(nd t s).k=41):JeA Gg 64 [t.cv,.rslc 1 (iz of) none,.int .i64 (s:Int)] 1 (iz ((Ka t).filter fun x=>(bfs (fun x=>XQ t o of x.toNat) (Ka t) (XQ t o of s) []).contains x)):=by
 have hmany:=g.many
 have hal:(Ka t).length=t.nodes.length:=by simp[Ka]
 refine Jd7 (KI c64_ok fun N=>?_) rfl (Jd _)
 simp -implicitDefEqProofs only[c64,go_sem,Tr.cv,Tr.row,Jc]
 refine ⟨⟨by omega,Gu _,by omega,by omega⟩,?_⟩
 refine Jg (id:=0) (z:=2) (els:=[t.row]) rfl rfl ?_
 simp only[go_sem,J2,Ko,frz,KG,Ga,Gb,List.map_replicate,Tr.row]
 refine vr_rowW (.inl rfl) (refNeeds g ht ho hs hk) ?_
 simp -implicitDefEqProofs only[go_sem]
 have hset:∀ s':Nat,s' < t.nodes.length→(nd t s').k=41→∀ x∈XQ t o of s',0≤x∧x < t.nodes.length∧(nd t x.toNat).k=41:=fun s' h1 h2 x hx=>by
  rw[← need_eq g h1 h2]at hx; exact JbO g hx
 generalize hN:(fun x:Int=>XQ t o of x.toNat)=Nf
 have hNok:∀ x∈Ka t,(∀ y∈Nf x,y∈Ka t)∧(Nf x).length≤(Ka t).length:=by rw[← hN]; exact needR_ok
 have hset':∀ x:Nat,x < t.nodes.length→(nd t x).k=41→∀ y∈Nf x,0≤y∧y < t.nodes.length∧(nd t y.toNat).k=41:=fun x h1 h2 y hy=>by
  rw[← hN]at hy; simp only[Gj]at hy; exact hset x h1 h2 y hy
 have h0:=hset s hs hk
 have hlen0:(XQ t o of s).length≤t.nodes.length:=by rw[← hal]; exact Gr _ _
 generalize XQ t o of s=T0 at h0 hlen0 ⊢
 generalize hR:bfs Nf (Ka t) T0 []=R
 have hst:Xn (Ka t) []*((Ka t).length+1)≤700*701:=Nat.mul_le_mul (GD JbS (by omega)) (by omega)
 have hbf:(J9 t.nodes.length fun x=>([]:List Int).contains x)=Gz t.nodes.length false:=by rw[← JcP]; rfl
 rw[bb_rep,← hbf]
 refine JG (σ:=List Int×Nat×List Int) (I:=fun s'=>s'.2.1≤s'.1.length∧(∀ x∈s'.1,0≤x∧x < t.nodes.length∧(nd t x.toNat).k=41)∧bfs Nf (Ka t) (s'.1.drop s'.2.1) s'.2.2=R∧muB (Ka t) (s'.1.drop s'.2.1) s'.2.2≤1000000)
  (inv:=fun s'=>gp [(1,.rslc 1 (iz of) none),(1,.rptr t.row),(3,.slc 1 0 t.nodes.length (some t.nodes.length)),(0,todoW s'.1 s'.2.1)] 33) (hp:=fun s'=>[.dead,.arr 1 (bb (J9 t.nodes.length fun x=>s'.2.2.contains x)),.arr 1 (iz s'.1)]) (μ:=fun s'=>muB (Ka t) (s'.1.drop s'.2.1) s'.2.2) (T0,0,[]) [0,1,2] ⟨by simp,h0,by simpa using hR,by simp only[Gd,muB]; omega⟩ rfl ?_ ?_ ?_
 ·simp[forget,JF,ren,Jo,gp,todoW,rowW,Tr.row,Jf]
 ·simp only[Kw,Ga,Gb,go_sem,Jp,Jb (Jd T0),Jb (QG _),Jr]
 ·rintro ⟨els,off,out⟩ ⟨hoff,hP,hB,hmu⟩
  dsimp only at hoff hP hB hmu
  have hel:(iz els).length=els.length:=Jf
  by_cases hlt:off < els.length
  ·have hne:els≠[]:=by rintro rfl; simp at hlt
   have d1:((0:Int) < ((els.length-off:Nat):Int))=True:=Jn
   have d2:(((els.length-off:Nat):Int) > 0)=True:=Jn
   have hgi:=JR hlt
   have hdr:els.drop off=els.getD off 0::els.drop (off+1):=by
    rw[GH hlt,Gl,Gm hlt]; rfl
   have hmem:els.getD off 0∈els:=by rw[Gl,Gm hlt]; exact GL hlt
   have hPx:=hP _ hmem
   have hall:∀ y∈els.drop off,y∈Ka t:=fun y hy=>by
    have:=hP y (GI hy)
    exact Qp.2 ⟨this.1,this.2.1⟩
   rw[hdr]at hB hall hmu ⊢
   have hmu':=hmu
   simp only[muB,Gf]at hmu'
   generalize hx:els.getD off 0=x at hgi hPx hB hall hmu ⊢
   obtain ⟨xn,rfl⟩:∃ x':Nat,x=x':=⟨x.toNat,by omega⟩
   have hxm:(xn:Int)∈Ka t:=hall xn (by simp)
   have hPx3:=hPx.2.2
   rw[Gj]at hPx3
   have hxn:xn < t.nodes.length:=by omega
   have hbl:(bb (J9 t.nodes.length fun x=>out.contains x)).length=t.nodes.length:=by rw[bb_len,KZ]
   have hbg:=bb_get (l:=J9 t.nodes.length fun x=>out.contains x) (i:=xn) (by rw[KZ]; exact hxn)
   rw[JfG hxn]at hbg
   cases hc:out.contains (xn:Int) with
   |true=>
    rw[hc]at hbg
    rw[bfs_old hNok hall hc]at hB
    simp -implicitDefEqProofs only[go_sem,todoW,Jeq hne,d1,d2,hel,hgi,GV,hbl,hbg,Gi]
    refine ⟨by omega,⟨by omega,Gu _⟩,by omega,by omega,(els,off+1,out),[0,1,2],⟨by simp only; omega,hP,hB,by simp only[muB]; omega⟩,by simp only[muB,Gf]; omega,rfl,?_,?_⟩
    ·simp only[Kw,Ga,Gb,go_sem,Jp,Jb (Jd els),Jb (QG _),Jr]
    ·simp[forget,JF,ren,Jo,Jeq hne]; omega
   |false=>
    rw[hc]at hbg
    rw[bfs_new hNok hall hc]at hB
    have hll:=XF hxm hc
    have hlr:=Nat.mul_le_mul_right ((Ka t).length+1) (show Xn (Ka t) (out++[(xn:Int)])+1≤Xn (Ka t) out from hll)
    rw[Nat.add_mul,Nat.one_mul]at hlr
    have hnx:=(hNok xn hxm).2
    have hNx:XQ t o of xn=Nf (xn:Int):=by rw[← hN]; simp only[Gj]
    have hsx:=hset' xn hxn hPx3
    have hNf:=(refNeeds g ht ho hxn hPx3).fn rfl (Jd _)
    rw[hNx]at hNf
    have hset2:(J9 t.nodes.length fun x=>out.contains x).set xn true=J9 t.nodes.length fun x=>(out++[(xn:Int)]).contains x:=by
     refine JfF hxn (fun j hj hne=>?_) (by simp)
     have:((j:Int) == (xn:Int))=false:=beq_eq_false_iff_ne.2 (by omega)
     simp[List.contains_eq_any_beq,GU,this]
     omega
    simp -implicitDefEqProofs only[go_sem,todoW,Jeq hne,d1,d2,hel,hgi,GV,hbl,hbg,Gp,Gf,GN,GK,Gd,bb_set,hset2,Tr.row]
    refine ⟨by omega,⟨by omega,Gu _⟩,by omega,by omega,by omega,by omega,?_⟩
    refine JV hNf ?_
    generalize Nf (xn:Int)=M at hnx hsx hB ⊢
    have hel2:off+1+(els.length-off-1)=els.length:=by omega
    have hel3:(off+1+(els.length-off-1)=els.length)=True:=eq_true hel2
    have hd:=List.length_drop (i:=off+1) (l:=els)
    cases M with
    |nil=>
     simp -implicitDefEqProofs only[go_sem,Qw]
     rw[GR]at hB
     refine ⟨(els,off+1,out++[(xn:Int)]),[0,1,2],⟨by simp only; omega,hP,hB,by simp only[muB]; omega⟩,by simp only[muB,Gf]; omega,rfl,?_,?_⟩
     ·simp only[Kw,Ga,Gb,go_sem,Jp,Jb (Jd els),Jb (QG _),Jr]
     ·simp[forget,JF,ren,Jo,Jeq hne]; omega
    |cons y ys=>
     simp -implicitDefEqProofs only[go_sem,JY,hel,hel3,Jf,JJ]
     simp only[Gf]at hnx
     refine ⟨⟨by omega,by omega⟩,(els.drop (off+1)++y::ys,0,out++[(xn:Int)]),[0,1,3],⟨by simp,fun z hz=>?_,by simpa using hB,by simp only[Gd,muB,Gy,Gf]; omega⟩,by simp only[Gd,muB,Gy,Gf]; omega,rfl,?_,?_⟩
     ·rcases List.mem_append.1 hz with h | h
      ·exact hP z (GI h)
      ·exact hsx z h
     ·rw[Y1,JY,← Jgp]
      simp only[Kw,Ga,Gb,go_sem,Jp,Jr,Jb (QG _)]
      rw[Jgp]
      simp[Jb (Jd (els.drop (off+1))),Jb (Jd ys),JF,ren]
     ·rw[Jeq (show els.drop (off+1)++y::ys≠[] by simp)]
      simp[forget,JF,ren,Jo,Jf]; omega
  ·obtain rfl:off=els.length:=by omega
   rw[List.drop_length,bfs_nil]at hB
   have hbl:(bb (J9 t.nodes.length fun x=>out.contains x)).length=t.nodes.length:=by rw[bb_len,KZ]
   have d1:((0:Int) < ((els.length-els.length:Nat):Int))=False:=Jj
   have d2:(((els.length-els.length:Nat):Int) > 0)=False:=Jj
   simp -implicitDefEqProofs only[go_sem,todoW,d1,d2]
   refine Jg (id:=1) (z:=1) (els:=bb (J9 t.nodes.length fun x=>out.contains x)) rfl (QG _) ?_
   have hft:=Gn (l:=bb (J9 t.nodes.length fun x=>out.contains x)) (i:=t.nodes.length) (by rw[hbl]; omega)
   simp only[go_sem,J2,Ko,frz,KG,Ga,Gb,Gd,Gs,if_true,hbl,Gt,hft,Gx,Gw,KD (Jd _)]
   refine vr_rowW (.inl rfl) (refSet _ (by rw[KZ]; omega)) ?_
   rw[← hB,← Je4 (t:=t) (f:=fun x=>out.contains x)]
   simp -implicitDefEqProofs only[go_sem]
   exact ⟨3,rfl,rfl⟩
theorem Jfc:Fn Gg 16 [t.cv] (if (resR t o).2=0 then .tup [.rslc 1 (iz (ofL t o)) none,.int .i64 0,.int .i64 0] else .tup [.rslc 1 [] none,.int .i64 ((resR t o).1:Int),.int .i64 (resR t o).2]):=by
 have hmany:=g.many
 have hchk:chk t=0:=(Jb3 t).2 ⟨o,g⟩
 have e0:(chk t != 0)=false:=by simp[hchk]
 refine QP ?_ rfl (by split <;> rfl)
 refine KI c16_ok fun N=>?_
 simp -implicitDefEqProofs only[c16,go_sem,Tr.cv,Tr.row]
 refine Jg (id:=0) (z:=2) (els:=[t.row]) rfl rfl ?_
 simp only[go_sem,J2,Ko,frz,KG,Ga,Gb,Tr.row]
 refine JV (refCheck t ht) ?_
 simp -implicitDefEqProofs only[go_sem,e0]
 have hrow:∀ {k:Nat} {y:List CV} {H:List CObj},H[k]? = some (.arr 1 [])→Jm y=true→Frzs (.tup (.rslc 1 [] none::y)) (.tup (.slc k 0 0 (some 0)::y)) H:=fun h hy=>.step _ 1 [] h rfl (.done (by
  simp only[frz,J2,if_true,KQ _ hy]
  exact wk.refl _))
 have hres:∀ (i:Nat) (a:Int),a≠0→resR t o=(i,a)→(if (resR t o).2=0 then CV.tup [.rslc 1 (iz (ofL t o)) none,.int .i64 0,.int .i64 0] else .tup [.rslc 1 [] none,.int .i64 ((resR t o).1:Int),.int .i64 (resR t o).2])=.tup [.rslc 1 [] none,.int .i64 (i:Int),.int .i64 a]:=fun i a ha h=>by rw[h,if_neg ha]
 refine JG (I:=fun i:Nat=>i≤t.nodes.length∧Jf4 t o 6 10 (Gc t.nodes.length)=Jf4 t o 6 10 ((Gc t.nodes.length).drop i)) (inv:=fun i=>gp [(1,.rptr t.row),(4,.slc 1 0 (iz ((ofL t o).take i)).length (Jcb (iz ((ofL t o).take i)))),(0,.int .i64 (i:Int))] 64) (hp:=fun i=>[.dead,.arr 1 (iz ((ofL t o).take i))]) (μ:=fun i=>t.nodes.length-i) 0 [0,1] ⟨by omega,by rw[Gd]⟩ rfl ?_ ?_ ?_
 ·simp[forget,JF,ren,Jo,gp,Tr.row,iz,Jcb]
 ·simp[Kw,JgQ,iz]
 ·rintro i ⟨hi,hinv⟩
  have hacc:((ofL t o).take i).length=i:=by rw[List.length_take,K5]; omega
  by_cases hlt:i < t.nodes.length
  ·have d1:((i:Int) < (t.nodes.length:Int))=True:=Jn
   have hgi:=J6 hlt
   have hot:=ofL_take (o:=o) hlt
   rw[KN hlt,Jf4]at hinv
   have hrs:∀ a:Int,Jf4 t o 6 10 (Gc t.nodes.length)=some (i,a)→resR t o=(i,a):=fun a h=>by unfold resR; rw[h]
   have hcl:=Jb (ρ:=[0,3]) (Jd ((ofL t o).take i))
   generalize (ofL t o).take i=acc at hacc hot hcl ⊢
   simp -implicitDefEqProofs only[go_sem,d1,Tr.row,Jc,hgi,Nd.cv]
   refine ⟨by omega,?_⟩
   refine JV (Jgb _) ?_
   have hsh:((nd t i).k == 3 || (nd t i).k == 26 || (nd t i).k == 44)=Qx t i:=rfl
   rw[hsh]
   cases hs:Qx t i with
   |true=>
    simp -implicitDefEqProofs only[go_sem,Tr.row]
    refine JV (refMeans g ht hlt hs) ?_
    by_cases hm:Q8 t o i < 0
    ·have e1:(Q8 t o i < 0)=True:=eq_true hm
     rw[hs,decide_eq_true hm,GX,if_pos rfl]at hinv
     rw[hres i 10 (by decide) (hrs 10 hinv)]
     simp -implicitDefEqProofs only[go_sem,e1]
     exact hrow (k:=2) rfl rfl
    ·have e1:(Q8 t o i < 0)=False:=eq_false hm
     rw[hs,decide_eq_false hm,Gh,if_neg (by simp)]at hinv
     simp -implicitDefEqProofs only[go_sem,e1,Tr.row]
     refine JV (refTwice g ht hlt) ?_
     cases htw:twR t o i with
     |true=>
      rw[htw,if_pos rfl]at hinv
      rw[hres i 6 (by decide) (hrs 6 hinv)]
      simp -implicitDefEqProofs only[go_sem]
      exact hrow (k:=2) rfl rfl
     |false=>
      rw[htw,if_neg (by simp)]at hinv
      simp -implicitDefEqProofs only[go_sem,JJ,Jf]
      refine ⟨⟨by omega,by omega⟩,Ji,i+1,[0,3],⟨by omega,hinv⟩,by omega,rfl,?_,?_⟩
      ·rw[hot,J8]
       simp only[Kw,Ga,Gb,go_sem,Jp,Jr]
       simp[hcl,JF,ren]
      ·rw[hot,J8,JaL]
       simp[forget,JF,ren,Jo,Jf,Tr.row]
   |false=>
    have hm1:Q8 t o i = -1:=by
     unfold Qx at hs
     simp only[Bool.or_eq_false_iff,beq_eq_false_iff_ne]at hs
     unfold Q8
     rw[if_neg hs.1.1,if_neg hs.1.2,if_neg hs.2]
    rw[hs,Gq,if_neg (by simp)]at hinv
    rw[hm1]at hot
    simp -implicitDefEqProofs only[go_sem,Tr.row]
    refine JV (refTwice g ht hlt) ?_
    cases htw:twR t o i with
    |true=>
     rw[htw,if_pos rfl]at hinv
     rw[hres i 6 (by decide) (hrs 6 hinv)]
     simp -implicitDefEqProofs only[go_sem]
     exact hrow (k:=2) rfl rfl
    |false=>
     rw[htw,if_neg (by simp)]at hinv
     simp -implicitDefEqProofs only[go_sem,JJ,Jf]
     refine ⟨⟨by omega,by omega⟩,Ji,i+1,[0,3],⟨by omega,hinv⟩,by omega,rfl,?_,?_⟩
     ·rw[hot,J8]
      simp only[Kw,Ga,Gb,go_sem,Jp,Jr]
      simp[hcl,JF,ren]
     ·rw[hot,J8,JaL]
      simp[forget,JF,ren,Jo,Jf,Tr.row]
  ·have d1:((i:Int) < (t.nodes.length:Int))=False:=Jj
   obtain rfl:i=t.nodes.length:=by omega
   rw[show (Gc t.nodes.length).drop t.nodes.length=[] from Gv (by simp),Jf4]at hinv
   have hrs:resR t o=match (Gc t.nodes.length).find? (stR t o) with | some i=>(i,9) | none=>(0,0):=by unfold resR; simp only[hinv]; cases (Gc t.nodes.length).find? (stR t o) <;> rfl
   rw[Gn (by rw[K5]; omega)]
   simp -implicitDefEqProofs only[go_sem,d1,Tr.row,Jc]
   refine Jg (id:=1) (z:=1) (els:=iz (ofL t o)) rfl (Jd _) ?_
   have hofl:=K5 (t:=t) (o:=o)
   have hft:GA t.nodes.length (iz (ofL t o))=iz (ofL t o):=Gn (by rw[Jf,hofl]; omega)
   simp only[go_sem,J2,Ko,frz,KG,Ga,Gb,Gd,Gs,if_true,Jf,hofl,Gt,hft,Gx,Gw]
   refine JG (I:=fun i:Nat=>i≤t.nodes.length∧(Gc t.nodes.length).find? (stR t o)=((Gc t.nodes.length).drop i).find? (stR t o)) (inv:=fun i=>gp [(1,.rptr t.row),(4,.rslc 1 (iz (ofL t o)) none),(2,.int .i64 (i:Int))] 62) (hp:=fun _=>[.dead,.dead]) (μ:=fun i=>t.nodes.length-i) 0 [0,1] ⟨by omega,by rw[Gd]⟩ rfl ?_ rfl ?_
   ·simp[forget,JF,ren,Jo,gp,Tr.row]
   ·rintro i ⟨hi,hinv⟩
    by_cases hlt:i < t.nodes.length
    ·have d1:((i:Int) < (t.nodes.length:Int))=True:=Jn
     have hgi:=J6 hlt
     rw[KN hlt,List.find?_cons]at hinv
     cases hk:((nd t i).k == 41) with
     |false=>
      have hst:stR t o i=false:=by unfold stR; rw[hk]; rfl
      rw[hst]at hinv
      simp -implicitDefEqProofs only[go_sem,d1,Tr.row,Jc,hgi,Nd.cv,kbE,hk]
      refine ⟨by omega,Ji,i+1,[0,1],⟨by omega,hinv⟩,by omega,rfl,rfl,?_⟩
      simp[forget,JF,ren,Jo,Tr.row]
     |true=>
      have hst:stR t o i=((Ka t).filter fun x=>(bfs (fun x=>XQ t o (ofL t o) x.toNat) (Ka t) (XQ t o (ofL t o) i) []).contains x).contains (i:Int):=by unfold stR; rw[hk,GX]
      have hA:=(refReached g ht (ofL_ok (o:=o)) hlt (beq_iff_eq.1 hk)).fn rfl (Jd _)
      have hbl:((Ka t).filter fun x=>(bfs (fun x=>XQ t o (ofL t o) x.toNat) (Ka t) (XQ t o (ofL t o) i) []).contains x).length≤100000:=by
       refine GD (Gr _ _) ?_
       simp only[Ka,GQ,List.length_range]; omega
      generalize (Ka t).filter (fun x=>(bfs (fun x=>XQ t o (ofL t o) x.toNat) (Ka t) (XQ t o (ofL t o) i) []).contains x)=B at hst hA hbl
      simp -implicitDefEqProofs only[go_sem,d1,Tr.row,Jc,hgi,Nd.cv,kbE,hk]
      refine ⟨by omega,?_⟩
      refine JN (gok rfl) hA ?_
      simp -implicitDefEqProofs only[go_sem]
      refine JN (gok rfl) (refHas3 B (i:Int) hbl) ?_
      cases hc:B.contains (i:Int) with
      |false=>
       rw[hst,hc]at hinv
       simp -implicitDefEqProofs only[go_sem]
       refine ⟨Ji,i+1,[0,1],⟨by omega,hinv⟩,by omega,rfl,rfl,?_⟩
       simp[forget,JF,ren,Jo,Tr.row]
      |true=>
       rw[hst,hc]at hinv
       rw[hinv]at hrs
       rw[hres i 9 (by decide) hrs]
       simp -implicitDefEqProofs only[go_sem]
       exact hrow (k:=2) rfl rfl
    ·have d1:((i:Int) < (t.nodes.length:Int))=False:=Jj
     rw[show (Gc t.nodes.length).drop i=[] from Gv (by simp; omega),List.find?_nil]at hinv
     rw[hinv]at hrs
     rw[hrs,if_pos rfl]
     simp -implicitDefEqProofs only[go_sem,d1,Tr.row,Jc]
     exact .done (wk.refl _)
end
theorem JdK (t:Tr) (ht:t.Fit) (h:chk t≠0):Fn Gg 16 [t.cv] (.tup [.rslc 1 [] none,.int .i64 0,.int .i64 (chk t)]):=by
 have e:(chk t != 0)=true:=by simpa using h
 refine QP ?_ rfl rfl
 refine KI c16_ok fun N=>?_
 simp -implicitDefEqProofs only[c16,go_sem,Tr.cv,Tr.row]
 refine JV (refCheck t ht) ?_
 simp -implicitDefEqProofs only[go_sem,e]
 refine .step 1 1 [] rfl rfl (.done ?_)
 simp only[frz,J2,if_true]
 exact wk.refl _
end
end Go.Cm
end
end
