/-
  A part of the proof. Conditions: none.
-/
import Derived.Test.YtaiboeciecfgoaaGreatDoorMP41
import Derived.Test.YtaiboeciecfgoaaGreatDoorMP12
import Derived.Test.YtaiboeciecfgoaaGreatDoorMP30
import Derived.Test.YtaiboeciecfgoaaGreatDoorMP42
set_option linter.unusedSimpArgs false
set_option linter.unusedVariables false
open List renaming getD_eq_getElem?_getD→Gb,getElem?_eq_getElem→Gc,length_cons→Ga,map_cons→Gd,append_nil→Gh,map_nil→Gg,getElem_mem→Gi,length_append→Gj,take_succ_eq_append_getElem→Gm,nil_append→Gl,take_of_length_le→Gn,length_mergeSort→Gp,length_filter_le→Gq,length_take→Gr,length_nil→Gs
open Int renaming toNat_natCast→Gf
noncomputable section
section
set_option maxRecDepth 100000
set_option maxHeartbeats 4000000
open Go.Proofs
namespace Go.Cm
section
theorem kbE {k m:Nat}:((k:Int) == no_index (@OfNat.ofNat Int m _))=(k == m):=by
 rw[Bool.eq_iff_iff,beq_iff_eq,beq_iff_eq]; exact Int.ofNat_inj
theorem kbN {k m:Nat}:((k:Int) != no_index (@OfNat.ofNat Int m _)) = !(k == m):=by rw[bne,kbE]
def tRw (t:Tr):List CV:=[.rslc 5 (ndz t.nodes) none,.rslc 1 (iz t.items) none,.rslc 1 (iz (upT t)) none,.rslc 1 (iz (JcT t)) none]
theorem fitN {t:Tr}(ht:t.Fit) {i:Nat}(hi:i < t.nodes.length):(nd t i).Fit:=ht.nodes _ (by unfold nd; rw[Gb,Gc hi]; exact Gi hi)
theorem Ki {t:Tr}{i:Nat}(h:i < t.nodes.length):(ndz t.nodes).getD i []=(nd t i).cv:=KM h
theorem upz {t:Tr}{i:Nat}(h:i < t.nodes.length):(iz (upT t)).getD i []=[.int .i64 (J3 t i)]:=by rw[JS (by rw[Jds]; exact h),upT_get h]
theorem itz {t:Tr}{i:Nat}(h:i < t.nodes.length):(iz (JcT t)).getD i []=[.int .i64 (Xb t i)]:=by rw[JS (by rw[JbP]; exact h),itemT_get h]
theorem KI {t:Tr}:(iz (upT t)).length=t.nodes.length:=by rw[Jf,Jds]
theorem itz_len {t:Tr}:(iz (JcT t)).length=t.nodes.length:=by rw[Jf,JbP]
theorem Jah (t:Tr) {i:Nat}(hi:i < t.nodes.length):Fn Tryz.prog 50 [.rptr (tRw t),.int .i64 (i:Int)] (.int .u8 ((nd t i).k:Int)):=by
 have hg:=Ki hi
 refine Ja c50_ok rfl rfl fun N=>?_
 simp -implicitDefEqProofs only[c50,go_sem,tRw,Jc,hg,Nd.cv]
 omega
theorem nInside (t:Tr) {i:Nat}(hi:i < t.nodes.length):Fn Tryz.prog 99 [.rptr (tRw t),.int .i64 (i:Int)] (.bool (!((nd t i).k == 43))):=by
 refine Ja c99_ok rfl rfl fun N=>?_
 simp -implicitDefEqProofs only[c99,go_sem]
 refine JU (Jah t hi) ?_
 simp -implicitDefEqProofs only[go_sem,kbN]
def bz (l:List Nat):List (List CV):=l.map fun i:Nat=>[.int .u8 (i:Int)]
theorem bz_len {l:List Nat}:(bz l).length=l.length:=by simp[bz]
theorem bz_get {l:List Nat}{i:Nat}(h:i < l.length):(bz l).getD i []=[.int .u8 (l.getD i 0:Nat)]:=by
 simp[bz,Gb,Gc h]
theorem bz_closed:∀ (l:List Nat),Jp (bz l)=true
 |[]=>rfl
 |x::l=>by simp[bz,Jp,Jl,CV.closed]; exact bz_closed l
theorem indexB (l:List Nat) (x:Nat) (hl:l.length≤100000):Fn Tryz.prog 118 [.rslc 1 (bz l) none,.int .u8 (x:Int)] (.int .i64 (K9 (fun y=>x == y) l 0)):=by
 have hil:(bz l).length=l.length:=bz_len
 have hbc:=bz_closed l
 refine Ja c118_ok rfl rfl fun N=>?_
 simp -implicitDefEqProofs only[c118,go_sem,hil]
 refine Jz (I:=fun i:Nat=>i≤l.length∧K9 (fun y=>x == y) l 0=K9 (fun y=>x == y) (l.drop i) i) (inv:=fun i=>gp [(0,.rslc 1 (bz l) none),(0,.int .u8 x),(5,.int .i64 (l.length:Int)),(0,.int .i64 (i:Int))] 10) (hp:=fun _=>[]) (μ:=fun i=>l.length-i) 0 ⟨by omega,rfl⟩ ?_ rfl ?_
 ·simp[forget,gp]
 ·rintro i ⟨hi,hinv⟩
  by_cases hlt:i < l.length
  ·have d1:((i:Int) < (l.length:Int))=True:=Jn
   have hgi:=bz_get hlt
   have hge:l[i]? = some (l.getD i 0):=by rw[Gb,Gc hlt]; rfl
   rw[Qg hge]at hinv
   have en:=Jcp (l.getD i 0) x
   simp -implicitDefEqProofs only[go_sem,hil,d1,hgi,en]
   generalize l.getD i 0=y at hinv ⊢
   refine ⟨by omega,?_⟩
   cases he:(x == y) with
   |true=>
    rw[he,if_pos rfl]at hinv
    simp -implicitDefEqProofs only[go_sem,hinv]
   |false=>
    rw[he]at hinv
    simp -implicitDefEqProofs only[go_sem]
    refine ⟨Ji,i+1,⟨by omega,by simpa using hinv⟩,by omega,?_⟩
    simp[forget]
  ·have d1:((i:Int) < (l.length:Int))=False:=Jk
   rw[List.drop_eq_nil_of_le (by omega)]at hinv
   simp -implicitDefEqProofs only[go_sem,d1,hinv,K9]
theorem containsB (l:List Nat) (x:Nat) (hl:l.length≤100000):Fn Tryz.prog 103 [.rslc 1 (bz l) none,.int .u8 (x:Int)] (.bool (l.contains x)):=by
 refine Ja c103_ok rfl rfl fun N=>?_
 simp -implicitDefEqProofs only[c103,go_sem]
 refine JU (indexB l x hl) ?_
 have e:decide (0≤K9 (fun y=>x == y) l 0)=l.contains x:=by rw[JaM,List.contains_eq_any_beq]
 simp -implicitDefEqProofs only[go_sem,e]
theorem nIsDecl (t:Tr) {i:Nat}(hi:i < t.nodes.length):Fn Tryz.prog 72 [.rptr (tRw t),.int .i64 (i:Int)] (.bool (KO (nd t i).k)):=by
 have e:[65,64,42,43,47].contains (nd t i).k=KO (nd t i).k:=by
  simp only[List.contains_cons,List.contains_nil,Bool.or_false,KO,Bool.or_assoc]
 refine Ja c72_ok rfl rfl fun N=>?_
 simp -implicitDefEqProofs only[c72,go_sem]
 refine Jg (id:=0) (z:=1) (els:=bz [65,64,42,43,47]) rfl rfl ?_
 simp only[go_sem,J2,Kk,frz,KA,bz,Gd,Gg,Ga,Gs,List.drop_zero,List.take_succ_cons,List.take_zero]
 refine JU (Jah t hi) ?_
 simp -implicitDefEqProofs only[go_sem]
 refine JU (containsB [65,64,42,43,47] _ (by simp)) ?_
 simp -implicitDefEqProofs only[go_sem,e]
section
variable {t:Tr}{o:List Int}(g:GoodT t o)
include g
theorem nBelow {j0 a:Nat}(hj0:j0 < t.nodes.length) (ha:a < t.nodes.length):Fn Tryz.prog 51 [.rptr (tRw t),.int .i64 (j0:Int),.int .i64 (a:Int)] (.bool (YS o j0 a)):=by
 refine Ja c51_ok rfl rfl fun N=>?_
 simp -implicitDefEqProofs only[c51,go_sem]
 refine Jz (σ:=Int) (I:=fun v=>(v = -1∧YS o j0 a=false)∨∃ j:Nat,v=j∧j < t.nodes.length∧YS o j0 a=YS o j a) (inv:=fun v=>gp [(0,.rptr (tRw t)),(0,.int .i64 v),(0,.int .i64 (a:Int))] 21) (hp:=fun _=>[]) (μ:=fun v=>if v < 0 then 0 else t.nodes.length-v.toNat+1) (j0:Int) (.inr ⟨j0,rfl,hj0,rfl⟩) ?_ rfl ?_
 ·simp[forget,gp]
 ·rintro v (⟨rfl,hb⟩ | ⟨j,rfl,hj,hb⟩)
  ·have e1:(((-1:Int)) != -1)=false:=by decide
   have e2:((-1:Int) == (a:Int))=false:=beq_eq_false_iff_ne.2 (by omega)
   simp -implicitDefEqProofs only[go_sem,e1,e2,hb]
  ·have e1:((j:Int) != -1)=true:=bne_iff_ne.2 (by omega)
   by_cases he:j=a
   ·subst he
    have e2:((j:Int) != (j:Int))=false:=by simp
    have e3:((j:Int) == (j:Int))=true:=by simp
    have e4:=Kz.2 (JgI g hj)
    simp -implicitDefEqProofs only[go_sem,e1,e2,e3,hb,e4]
   ·have e2:((j:Int) != (a:Int))=true:=bne_iff_ne.2 (by omega)
    have hp:=par_rng g hj
    have hu:=blw_up g hj ha he
    simp -implicitDefEqProofs only[go_sem,e1,e2,tRw,KI,upz hj]
    refine ⟨by omega,J3 t j,?_,?_,?_⟩
    ·rcases QE g hj with ⟨h,_⟩ | ⟨m,h,h1,h2,_⟩
     ·rw[h,if_pos (by decide)]at hu
      exact .inl ⟨h,by rw[hb,hu]⟩
     ·rw[h,if_neg (by omega),Gf]at hu
      exact .inr ⟨m,h,h2,by rw[hb,hu]⟩
    ·rcases QE g hj with ⟨h,_⟩ | ⟨m,h,h1,h2,_⟩
     ·show (if J3 t j < 0 then 0 else _) < (if (j:Int) < 0 then 0 else _)
      rw[h,if_pos (by decide),if_neg (by omega)]; omega
     ·rw[h,if_neg (by omega),if_neg (by omega)]; omega
    ·simp[forget,tRw]
theorem lastz {m:Nat}(hm:m < t.nodes.length) (hlen:0 < (nd t m).kids.length):(iz (nd t m).kids).getD ((nd t m).kids.length-1) []=[.int .i64 (JG t m:Int)]:=by
 rw[JS (by omega)]
 have h4:(nd t m).kids.getD ((nd t m).kids.length-1) 0∈(nd t m).kids:=by
  rw[Gb,Gc (by omega)]; exact Gi _
 have h5:=(g.kid hm h4).1
 have:((JG t m:Nat):Int)=(nd t m).kids.getD ((nd t m).kids.length-1) 0:=by unfold JG; omega
 rw[this]
theorem nLate (ht:t.Fit) {a0 s:Nat}(hs:s < t.nodes.length) (hk:(nd t s).k=41) (hb0:blw o a0 (JG t s)):Fn Tryz.prog 52 [.rptr (tRw t),.int .i64 (a0:Int),.int .i64 (s:Int)] (.bool (buL t (upL t (JG t s) t.nodes.length a0) false)):=by
 have htop:=(set_kid g hs hk).1
 have htl:JG t s < t.nodes.length:=by have:=(Kl g hs htop).2; omega
 generalize hR:buL t (upL t (JG t s) t.nodes.length a0) false=R
 refine Ja c52_ok rfl rfl fun N=>?_
 simp -implicitDefEqProofs only[c52,go_sem]
 refine Jz (σ:=Nat×Bool) (I:=fun s'=>blw o s'.1 (JG t s)∧∃ f,t.nodes.length≤s'.1+f∧R=buL t (upL t (JG t s) f s'.1) s'.2) (inv:=fun s'=>gp [(0,.rptr (tRw t)),(1,.int .i64 (s:Int)),(4,.bool s'.2),(0,.int .i64 (s'.1:Int))] 64) (hp:=fun _=>[]) (μ:=fun s'=>t.nodes.length-s'.1) (a0,false) ⟨hb0,t.nodes.length,by omega,hR.symm⟩ ?_ rfl ?_
 ·simp[forget,gp]
 ·rintro ⟨a,late⟩ ⟨hb,f,hf,hinv⟩
  dsimp only at hb hf hinv
  have ha:a < t.nodes.length:=by have:=hb.1; omega
  rcases late_step g (late:=late) hs htop hb hf with ⟨he,hp⟩ | ⟨hne,m,f',hp,hms,ham,hm,hbm,hkid,hf',hstep⟩
  ·have e1:((s:Int) != (s:Int))=false:=by simp
   subst he
   rw[late_end]at hinv
   simp -implicitDefEqProofs only[go_sem,tRw,KI,upz ha,hp,e1,hinv]
   omega
  ·have e1:((m:Int) != (s:Int))=true:=bne_iff_ne.2 (by omega)
   have hg:=Ki hm
   rw[hstep]at hinv
   have hlen:0 < (nd t m).kids.length:=List.length_pos_of_mem hkid
   have hkl:(iz (nd t m).kids).length=(nd t m).kids.length:=Jf
   have hgl:=lastz g hm hlen
   have hkn:(nd t m).kids.length < 9223372036854775807:=by have:=(fitN ht hm).kidn; omega
   simp -implicitDefEqProofs only[go_sem,tRw,KI,upz ha,hp,e1,Jc,hg,Nd.cv]
   refine ⟨by omega,by omega,by omega,?_⟩
   refine JU (Jah t hm) ?_
   have fin:∀ late',late'=Jcc t m a late→(blw o m (JG t s)∧∃ f,t.nodes.length≤m+f∧R=buL t (upL t (JG t s) f m) late'):=fun late' h=>⟨hbm,f',hf',by rw[h]; exact hinv⟩
   have en:=Jcp (JG t m) a
   by_cases h4:(nd t m).k=4
   ·have hst:Jcc t m a late=true:=by unfold Jcc; rw[if_pos h4]
    simp -implicitDefEqProofs only[go_sem,kbE,h4,tRw,KI,upz ha,hp]
    refine ⟨by omega,(m,true),fin true hst.symm,by simp only; omega,?_⟩
    simp[forget,tRw]
   ·have b4:((nd t m).k == 4)=false:=beq_eq_false_iff_ne.2 h4
    by_cases h5:(nd t m).k=46∨(nd t m).k=47
    ·have hst:Jcc t m a late=(late || a == JG t m):=by unfold Jcc; rw[if_neg h4,if_pos h5]
     have b5:((nd t m).k == 46)=true∨((nd t m).k == 46)=false∧((nd t m).k == 47)=true:=by
      rcases h5 with h | h <;> simp[h]
     rcases b5 with b5 | ⟨b5,b6⟩
     ·cases late with
      |true=>
       simp -implicitDefEqProofs only[go_sem,kbE,b4,b5,tRw,KI,upz ha,hp]
       refine ⟨by omega,(m,true),fin true (by rw[hst]; rfl),by simp only; omega,?_⟩
       simp[forget,tRw]
      |false=>
       simp -implicitDefEqProofs only[go_sem,kbE,b4,b5,tRw,KI,upz ha,hp,hkl,hgl,en]
       refine ⟨Ji,by omega,by omega,(m,a == JG t m),fin _ (by rw[hst]; rfl),by simp only; omega,?_⟩
       simp[forget,tRw]
     ·cases late with
      |true=>
       simp -implicitDefEqProofs only[go_sem,kbE,b4,b5,b6,tRw,KI,upz ha,hp]
       refine ⟨by omega,(m,true),fin true (by rw[hst]; rfl),by simp only; omega,?_⟩
       simp[forget,tRw]
      |false=>
       simp -implicitDefEqProofs only[go_sem,kbE,b4,b5,b6,tRw,KI,upz ha,hp,hkl,hgl,en]
       refine ⟨Ji,by omega,by omega,(m,a == JG t m),fin _ (by rw[hst]; rfl),by simp only; omega,?_⟩
       simp[forget,tRw]
    ·have b5:((nd t m).k == 46)=false:=beq_eq_false_iff_ne.2 fun h=>h5 (.inl h)
     have b6:((nd t m).k == 47)=false:=beq_eq_false_iff_ne.2 fun h=>h5 (.inr h)
     by_cases h7:(nd t m).k=28
     ·have b7:((nd t m).k == 28)=true:=by simp[h7]
      have hst:Jcc t m a late=(late && (nd t a).k == 43):=by unfold Jcc; rw[if_neg h4,if_neg h5,if_pos h7]
      cases late with
      |true=>
       simp -implicitDefEqProofs only[go_sem,kbE,b4,b5,b6,b7]
       refine JE (gok rfl) (nInside t ha) ?_
       simp -implicitDefEqProofs only[go_sem,tRw,KI,upz ha,hp,Bool.not_not]
       refine ⟨by omega,(m,(nd t a).k == 43),fin _ (by rw[hst]; rfl),by simp only; omega,?_⟩
       simp[forget,tRw]
      |false=>
       simp -implicitDefEqProofs only[go_sem,kbE,b4,b5,b6,b7,tRw,KI,upz ha,hp]
       refine ⟨by omega,(m,false),fin _ (by rw[hst]; rfl),by simp only; omega,?_⟩
       simp[forget,tRw]
     ·have b7:((nd t m).k == 28)=false:=beq_eq_false_iff_ne.2 h7
      have hst:Jcc t m a late=late:=by unfold Jcc; rw[if_neg h4,if_neg h5,if_neg h7]
      simp -implicitDefEqProofs only[go_sem,kbE,b4,b5,b6,b7,tRw,KI,upz ha,hp]
      refine ⟨by omega,(m,late),fin _ hst.symm,by simp only; omega,?_⟩
      simp[forget,tRw]
end
end
theorem Jfh {t:Tr}{u k i:Nat}(h:i < (nd t u).kids.length):((nd t u).kids.take (i+1)).filter (fun c=>Jr t.nodes c == k)=((nd t u).kids.take i).filter (fun c=>Jr t.nodes c == k)++if Jr t.nodes ((nd t u).kids.getD i 0) == k then [(nd t u).kids.getD i 0] else []:=by
 rw[Gm h,List.filter_append,Gb,Gc h,Option.getD_some,List.filter_cons,List.filter_nil]
theorem JdZ {t:Tr}{u k i:Nat}:(((nd t u).kids.take i).filter (fun c=>Jr t.nodes c == k)).length≤(nd t u).kids.length:=
 Nat.le_trans (Gq _ _) (by rw[Gr]; omega)
theorem nKids (t:Tr) (ht:t.Fit) {u:Nat}(hu:u < t.nodes.length) (hK:∀ k∈(nd t u).kids,0≤k∧k < t.nodes.length) (k:Nat):JcX Tryz.prog 54 [.rptr (tRw t),.int .i64 (u:Int),.int .u8 (k:Int)] 1 (iz (Kt t u k)):=by
 have hg:=Ki hu
 have hkn:=(fitN ht hu).kidn
 have hkl:(iz (nd t u).kids).length=(nd t u).kids.length:=Jf
 refine Jgt (K5 c54_ok fun N=>?_) rfl (Jd _)
 simp -implicitDefEqProofs only[c54,go_sem,tRw,Jc,hg,Nd.cv,hkl]
 refine ⟨by omega,?_⟩
 refine Y5 ?_
 simp only[go_sem,Gl]
 generalize hF:(fun c=>Jr t.nodes c == k)=F
 refine JJ (I:=fun i:Nat=>i≤(nd t u).kids.length) (inv:=fun i=>gp [(0,.rptr (tRw t)),(1,.int .u8 (k:Int)),(3,QQ 0 (iz (((nd t u).kids.take i).filter F))),(10,.rslc 1 (iz (nd t u).kids) none),(0,.int .i64 ((nd t u).kids.length:Int)),(0,.int .i64 (i:Int))] 14) (hp:=fun i=>[XN 1 (iz (((nd t u).kids.take i).filter F))]) (μ:=fun i=>(nd t u).kids.length-i) 0 [0] (by omega) rfl ?_ rfl ?_
 ·simp[forget,JI,ren,Jo,gp,tRw,iz,QQ]
 ·intro i hi
  by_cases hlt:i < (nd t u).kids.length
  ·have d1:((i:Int) < ((nd t u).kids.length:Int))=True:=Jn
   have hgi:=JS hlt
   have htk:=Jfh (k:=k) hlt
   have hle:=JdZ (t:=t) (u:=u) (k:=k) (i:=i)
   have hmem:(nd t u).kids.getD i 0∈(nd t u).kids:=by rw[Gb,Gc hlt]; exact Gi hlt
   have hb:=hK _ hmem
   rw[hF]at htk hle
   generalize (nd t u).kids.getD i 0=c at htk hgi hb
   obtain ⟨c,rfl⟩:∃ c':Nat,c=c':=⟨c.toNat,by omega⟩
   generalize ((nd t u).kids.take i).filter F=acc at htk hle
   simp -implicitDefEqProofs only[go_sem,d1,hkl,hgi]
   refine ⟨by omega,?_⟩
   refine JU (Jah t (by omega)) ?_
   have en:=Jcp k (nd t c).k
   have ek:Jr t.nodes (c:Int)=(nd t c).k:=by unfold Jr nd; rw[Gf]
   rw[ek]at htk
   cases hq:(nd t c).k == k with
   |false=>
    rw[hq]at htk en
    simp only[Bool.false_eq_true,if_false,Gh]at htk
    simp -implicitDefEqProofs only[go_sem,en]
    refine ⟨Ji,i+1,[0],by omega,by omega,rfl,?_,?_⟩
    ·rw[htk]; simp only[KE,Gd,Gg,go_sem,Qd (Jb (Jd acc))]
    ·rw[htk]; simp[forget,JI,ren,Jo,tRw,QC]
   |true=>
    rw[hq]at htk en
    simp only[if_true]at htk
    simp -implicitDefEqProofs only[go_sem,en,Jf,JK]
    refine ⟨⟨by omega,by omega⟩,Ji,i+1,[2],by omega,by omega,rfl,?_,?_⟩
    ·rw[htk,JX,KH]
     simp only[KE,Gd,Gg,go_sem,Jt]
     simp[Jb (Jd acc),JI,ren]
    ·rw[htk,JX,KG]
     simp[forget,JI,ren,Jo,tRw,Jf]
  ·have d1:((i:Int) < ((nd t u).kids.length:Int))=False:=Jk
   rw[Gn (by omega)]
   rw[show (nd t u).kids.filter F=Kt t u k by rw[← hF]; rfl]
   simp -implicitDefEqProofs only[go_sem,d1]
   exact ⟨0,rfl,rfl⟩
section
theorem Jec {z bytes id:Nat}{H:List CObj}{els:List (List CV)}:J4 z bytes H (QQ id els) []=some (.tt,QQ id els,H):=by cases els <;> rfl
attribute [go_sem] Jec
theorem KN:iz []=[]:=rfl
theorem JQ {x:Int}{l:List Int}:iz (x::l)=[.int .i64 x]::iz l:=rfl
theorem Yp {a b:List Int}:iz (a++b)=iz a++iz b:=by simp[iz]
theorem Jd6 {f:Int→List Int}{b:Nat}(h:∀ x,(f x).length≤b):∀ l:List Int,((l.map f).flatten).length≤l.length*b
 |[]=>by simp
 |x::l=>by
  have h1:=h x
  have h2:=Jd6 h l
  simp only[Gd,List.flatten_cons,Gj,Ga,Nat.add_mul,Nat.one_mul]
  omega
theorem kidsK_len {t:Tr}{u k:Nat}:(Kt t u k).length≤(nd t u).kids.length:=Gq _ _
theorem flat_take {f:Int→List Int}{l:List Int}{i:Nat}(h:i < l.length):((l.take (i+1)).map f).flatten=((l.take i).map f).flatten++f (l.getD i 0):=by
 rw[Gm h,List.map_append,List.flatten_append,Gb,Gc h]
 simp
theorem Jaj {t:Tr}{o:List Int}(g:GoodT t o) {u k:Nat}(hu:u < t.nodes.length) {c:Int}(hc:c∈Kt t u k):0≤c∧c < t.nodes.length:=by
 have:=g.kid hu (Kb.1 hc).1; omega
theorem QX {t:Tr}(ht:t.Fit) {x:Int}{k:Nat}:(Kt t x.toNat k).length≤30:=by
 rcases Nat.lt_or_ge x.toNat t.nodes.length with h | h
 ·exact Nat.le_trans kidsK_len (fitN ht h).kidn
 ·have:nd t x.toNat=default:=by unfold nd; rw[Gb,List.getElem?_eq_none h]; rfl
  refine Nat.le_trans kidsK_len ?_
  rw[this]; exact Nat.zero_le _
theorem binds_le {t:Tr}(ht:t.Fit) {u:Nat}:(Yu t u).length≤900:=by
 have h1:=Jd6 (f:=fun s:Int=>Kt t s.toNat 42) (b:=30) (fun x=>QX ht) (Kt t u 41)
 have h2:=QX ht (x:=(u:Int)) (k:=41)
 rw[Gf]at h2
 unfold Yu
 omega
section
variable {t:Tr}{o:List Int}(g:GoodT t o) (ht:t.Fit)
include g ht
theorem Jfe {u:Nat}(hu:u < t.nodes.length) (k:Nat):JcX Tryz.prog 54 [.rptr (tRw t),.int .i64 (u:Int),.int .u8 (k:Int)] 1 (iz (Kt t u k)):=
 nKids t ht hu (fun c hc=>by have:=g.kid hu hc; omega) k
theorem nKidsF {u:Nat}(hu:u < t.nodes.length) (k:Nat):Fn Tryz.prog 54 [.rptr (tRw t),.int .i64 (u:Int),.int .u8 (k:Int)] (.rslc 1 (iz (Kt t u k)) none):=
 (Jfe g ht hu k).fn rfl (Jd _)
theorem nBinds {u:Nat}(hu:u < t.nodes.length):JcX Tryz.prog 145 [.rptr (tRw t),.int .i64 (u:Int)] 1 (iz (Yu t u)):=by
 have hL:=QX ht (x:=(u:Int)) (k:=41)
 rw[Gf]at hL
 refine Jgt (K5 c145_ok fun N=>?_) rfl (Jd _)
 simp -implicitDefEqProofs only[c145,go_sem]
 refine JU (nKidsF g ht hu 41) ?_
 have hbl:Yu t u=((Kt t u 41).map fun s=>Kt t s.toNat 42).flatten:=rfl
 rw[hbl]
 have hr:∀ c∈Kt t u 41,0≤c∧c < t.nodes.length:=fun c hc=>Jaj g hu hc
 generalize Kt t u 41=L at hL hr ⊢
 have hil:(iz L).length=L.length:=Jf
 simp -implicitDefEqProofs only[go_sem,hil]
 refine Y5 ?_
 simp only[go_sem,Gl]
 generalize hf:(fun s:Int=>Kt t s.toNat 42)=f
 have hfl:∀ x,(f x).length≤30:=fun x=>by rw[← hf]; exact QX ht
 refine JJ (I:=fun i:Nat=>i≤L.length) (inv:=fun i=>gp [(0,.rptr (tRw t)),(3,QQ 0 (iz ((L.take i).map f).flatten)),(4,.rslc 1 (iz L) none),(0,.int .i64 (L.length:Int)),(0,.int .i64 (i:Int))] 10) (hp:=fun i=>[XN 1 (iz ((L.take i).map f).flatten)]) (μ:=fun i=>L.length-i) 0 [0] (by omega) rfl ?_ rfl ?_
 ·simp[forget,JI,ren,Jo,gp,QQ,iz]
 ·intro i hi
  by_cases hlt:i < L.length
  ·have d1:((i:Int) < (L.length:Int))=True:=Jn
   have hgi:=JS hlt
   have hmem:L.getD i 0∈L:=by rw[Gb,Gc hlt]; exact Gi hlt
   have hb:=hr _ hmem
   have hft:=flat_take (f:=f) hlt
   have hfx:f (L.getD i 0)=Kt t (L.getD i 0).toNat 42:=by rw[← hf]
   have hflx:=hfl (L.getD i 0)
   have hacc:=Jd6 hfl (L.take i)
   rw[Gr]at hacc
   generalize ((L.take i).map f).flatten=acc at hacc hft ⊢
   generalize f (L.getD i 0)=xs at hfx hflx hft
   generalize L.getD i 0=c at hgi hb hfx
   obtain ⟨c,rfl⟩:∃ c':Nat,c=c':=⟨c.toNat,by omega⟩
   rw[Gf]at hfx
   simp -implicitDefEqProofs only[go_sem,d1,hil,hgi]
   refine ⟨by omega,?_⟩
   refine JU (nKidsF g ht (by omega) 42) ?_
   rw[← hfx]
   cases xs with
   |nil=>
    rw[Gh]at hft
    simp -implicitDefEqProofs only[go_sem,KN]
    refine ⟨Ji,i+1,[0],by omega,by omega,rfl,?_,?_⟩
    ·rw[hft]; simp only[KE,Gd,Gg,go_sem,Qd (Jb (Jd acc))]
    ·rw[hft]; simp[forget,JI,ren,Jo,QC]
   |cons x xs=>
    simp only[Ga]at hflx
    simp -implicitDefEqProofs only[go_sem,JQ,Jf,JK]
    refine ⟨⟨by omega,by omega⟩,Ji,i+1,[1],by omega,by omega,rfl,?_,?_⟩
    ·rw[hft,Yp,JQ,KH]
     simp only[KE,Gd,Gg,go_sem,Jt]
     simp[Jb (Jd acc),Jb (Jd xs),JI,ren]
    ·rw[hft,Yp,JQ,KG]
     simp[forget,JI,ren,Jo,Jf]
  ·have d1:((i:Int) < (L.length:Int))=False:=Jk
   rw[Gn (by omega)]
   simp -implicitDefEqProofs only[go_sem,d1]
   exact ⟨0,rfl,rfl⟩
end
end
section
section
variable {P:Program}{E:Env}{H:List CObj}
theorem CallsC.pad {f:Nat}{args:List CV}{R R':CV→List CObj→Prop}(h:CallsC P E f args H R) (hR:∀ v H',R v H'→R' v H'∨R' v (H'++[.dead])):CallsC P E f args H R':=by
 intro m w vs hs hv
 refine (h m w vs hs hv).mono ?_
 rintro e w' ⟨r,m',v,H',h1,h2,h3,h4,h5⟩
 rcases hR _ _ h5 with g | g
 ·exact ⟨r,m',v,H',h1,h2,h3,h4,g⟩
 ·obtain ⟨t1,t2,t3⟩:=h3.pad (n0:=H.length)
  exact ⟨r,_,v,_,h1,h2.trans t3,t1,QD t2 (J5.refl _) _ _ h4,g⟩
def RowR (z:Nat) (els:List (List CV)) (v:CV) (H':List CObj):Prop:=(∃ id,v=QQ id els∧H'[id]? = some (XN z els))∨(v=.nils∧els=[])∨∃ id c,v=.slc id 0 els.length (some c)∧H'[id]? = some (.arr z els)∧els≠[]
theorem RowR.row {z id:Nat}{els:List (List CV)}{v:CV}{H':List CObj}(h1:v=QQ id els) (h2:H'[id]? = some (XN z els)):RowR z els v H':=.inl ⟨id,h1,h2⟩
theorem RowR.nil {z:Nat}{H':List CObj}:RowR z [] .nils H':=.inr (.inl ⟨rfl,rfl⟩)
theorem RowR.lit {z id c:Nat}{e:List CV}{els:List (List CV)}{H':List CObj}(h2:H'[id]? = some (.arr z (e::els))):RowR z (e::els) (.slc id 0 (els.length+1) (some c)) H':=.inr (.inr ⟨id,c,rfl,h2,by simp⟩)
theorem Jd4 {f:Nat}{args:List CV}{z:Nat}{els:List (List CV)}(h:CallsC P Env.none f args [] (RowR z els)) (ha:Jl args=true) (hc:Jp els=true):JcX P f args z els:=
 Jgt ((h.wk (R':=fun v H'=>(∃ id,v=QQ id els∧H'[id]? = some (XN z els))∨(v=.nils∧els=[])) fun v H' hv=>by
  rcases hv with hv | hv | ⟨id,c,rfl,h2,h3⟩
  ·exact ⟨v,wk.refl _,.inl hv⟩
  ·exact ⟨v,wk.refl _,.inr hv⟩
  ·exact ⟨_,wk_cap,.inl ⟨id,(Xr h3).symm,by rw[Q8 h3]; exact h2⟩⟩).pad fun v H' hv=>by
  rcases hv with hv | ⟨rfl,rfl⟩
  ·exact .inl hv
  ·exact .inr ⟨H'.length,rfl,by simp; rfl⟩) ha hc
end
section
variable {t:Tr}{o:List Int}(g:GoodT t o) (ht:t.Fit)
include g ht
theorem nDeclares {u a:Nat}(hu:u < t.nodes.length) (ha:a < t.nodes.length):JcX Tryz.prog 114 [.rptr (tRw t),.int .i64 (u:Int),.int .i64 (a:Int)] 1 (iz (JbW t u a)):=by
 have hg:=Ki hu
 have hkl:(iz (nd t u).kids).length=(nd t u).kids.length:=Jf
 have bu:((u:Int) < (t.nodes.length:Int))=True:=Jn
 refine Jd4 (K5 c114_ok fun N=>?_) rfl (Jd _)
 unfold JbW
 by_cases h40:(nd t u).k=40
 ·rw[if_pos h40]
  simp -implicitDefEqProofs only[c114,go_sem,tRw,Jc,hg,Nd.cv,kbE,h40]
  refine ⟨by omega,?_⟩
  refine JeP (.inl rfl) (nBinds g ht hu) ?_
  simp -implicitDefEqProofs only[go_sem]
  exact .row (id:=1) rfl rfl
 have b40:((nd t u).k == 40)=false:=beq_eq_false_iff_ne.2 h40
 rw[if_neg h40]
 by_cases h65:(nd t u).k=65
 ·rw[if_pos h65]
  simp -implicitDefEqProofs only[c114,go_sem,tRw,Jc,hg,Nd.cv,kbE,h65]
  refine ⟨by omega,?_⟩
  refine JeP (.inl rfl) (Jfe g ht hu 64) ?_
  simp -implicitDefEqProofs only[go_sem]
  exact .row (id:=1) rfl rfl
 have b65:((nd t u).k == 65)=false:=beq_eq_false_iff_ne.2 h65
 rw[if_neg h65]
 by_cases h47:(nd t u).k=47
 ·rw[if_pos h47]
  have hlen:(nd t u).kids.length=3:=(JbA g hu h47).1
  have hg2:=JS (l:=(nd t u).kids) (i:=2) (by omega)
  by_cases he:(a:Int)=(nd t u).kids.getD 2 0
  ·have e1:((a:Int) == (nd t u).kids.getD 2 0)=true:=beq_iff_eq.2 he
   rw[if_pos he]
   simp -implicitDefEqProofs only[c114,go_sem,tRw,Jc,hg,Nd.cv,kbE,h47,hkl,hlen,hg2,e1]
   exact ⟨by omega,by omega,.lit rfl⟩
  ·have e1:((a:Int) == (nd t u).kids.getD 2 0)=false:=beq_eq_false_iff_ne.2 he
   rw[if_neg he]
   simp -implicitDefEqProofs only[c114,go_sem,tRw,Jc,hg,Nd.cv,kbE,h47,hkl,hlen,hg2,e1]
   exact ⟨by omega,by omega,.nil⟩
 have b47:((nd t u).k == 47)=false:=beq_eq_false_iff_ne.2 h47
 rw[if_neg h47]
 by_cases h28:(nd t u).k=28
 ·rw[if_pos h28]
  simp -implicitDefEqProofs only[c114,go_sem,tRw,Jc,hg,Nd.cv,kbE,h28]
  refine ⟨by omega,?_⟩
  refine JU (Jah t ha) ?_
  by_cases h43:(nd t a).k=43
  ·rw[if_pos h43]
   simp -implicitDefEqProofs only[go_sem,kbE,h43]
   exact .nil
  have b43:((nd t a).k == 43)=false:=beq_eq_false_iff_ne.2 h43
  rw[if_neg h43]
  by_cases h41:(nd t a).k=41∨(nd t a).k=44
  ·rw[if_pos h41]
   have hK:=QX ht (x:=(u:Int)) (k:=43)
   rw[Gf]at hK
   have hB:=binds_le ht (u:=u)
   have b41:((nd t a).k == 41)=true∨((nd t a).k == 41)=false∧((nd t a).k == 44)=true:=by
    rcases h41 with h | h <;> simp[h]
   rcases b41 with b41 | ⟨b41,b44⟩
   ·simp -implicitDefEqProofs only[go_sem,kbE,b43,b41]
    refine JeP (.inl rfl) (Jfe g ht hu 43) ?_
    simp -implicitDefEqProofs only[go_sem]
    refine JU ((nBinds g ht hu).fn rfl (Jd _)) ?_
    generalize Kt t u 43=L at hK ⊢
    generalize Yu t u=M at hB ⊢
    cases M with
    |nil=>
     simp -implicitDefEqProofs only[go_sem,KN,Gh]
     exact .row (id:=1) rfl rfl
    |cons x xs=>
     simp only[Ga]at hB
     simp -implicitDefEqProofs only[go_sem,JQ,Jf,JK]
     refine ⟨⟨by omega,by omega⟩,.row (id:=2) (by rw[Yp,JQ,KG,Jf,Jf]) (by rw[Yp,JQ,KH]; rfl)⟩
   ·simp -implicitDefEqProofs only[go_sem,kbE,b43,b41,b44]
    refine JeP (.inl rfl) (Jfe g ht hu 43) ?_
    simp -implicitDefEqProofs only[go_sem]
    refine JU ((nBinds g ht hu).fn rfl (Jd _)) ?_
    generalize Kt t u 43=L at hK ⊢
    generalize Yu t u=M at hB ⊢
    cases M with
    |nil=>
     simp -implicitDefEqProofs only[go_sem,KN,Gh]
     exact .row (id:=1) rfl rfl
    |cons x xs=>
     simp only[Ga]at hB
     simp -implicitDefEqProofs only[go_sem,JQ,Jf,JK]
     refine ⟨⟨by omega,by omega⟩,.row (id:=2) (by rw[Yp,JQ,KG,Jf,Jf]) (by rw[Yp,JQ,KH]; rfl)⟩
  ·have b41:((nd t a).k == 41)=false:=beq_eq_false_iff_ne.2 fun h=>h41 (.inl h)
   have b44:((nd t a).k == 44)=false:=beq_eq_false_iff_ne.2 fun h=>h41 (.inr h)
   rw[if_neg h41]
   simp -implicitDefEqProofs only[go_sem,kbE,b43,b41,b44]
   refine JeP (.inl rfl) (Jfe g ht hu 43) ?_
   simp -implicitDefEqProofs only[go_sem]
   exact .row (id:=1) rfl rfl
 have b28:((nd t u).k == 28)=false:=beq_eq_false_iff_ne.2 h28
 rw[if_neg h28]
 simp -implicitDefEqProofs only[c114,go_sem,tRw,Jc,hg,Nd.cv,kbE,b40,b65,b47,b28]
 exact ⟨by omega,.nil⟩
omit g in
theorem decl_le {u a:Nat}:(JbW t u a).length≤1000:=by
 have hB:=binds_le ht (u:=u)
 have hK:∀ k,(Kt t u k).length≤30:=fun k=>by
  have:=QX ht (x:=(u:Int)) (k:=k)
  rwa [Gf]at this
 have h1:=hK 64
 have h2:=hK 43
 unfold JbW
 repeat' split
 all_goals first | omega | simp only[Gj,Ga,Gs]; omega
omit ht in
theorem sight_sort {j:Nat}(hj:j < t.nodes.length):(Xo t t.nodes.length j).mergeSort (fun x y=>decide (x≤y))=JbB t j:=by
 refine JfC (sort_strict (climb_nodup g _ _ hj)) (JaS.filter _) fun x=>?_
 unfold JbB
 rw[sort_mem,List.mem_filter,List.contains_iff_mem]
 constructor
 ·intro h
  have:=climb_who g _ _ _ hj h
  exact ⟨Qm.2 ⟨this.1,this.2.1⟩,h⟩
 ·exact fun h=>h.2
theorem nSight {j:Nat}(hj:j < t.nodes.length):Fn Tryz.prog 89 [.rptr (tRw t),.int .i64 (j:Int)] (.rslc 1 (iz (JbB t j)) none):=by
 have hmany:=g.many
 rw[← sight_sort g hj]
 refine Jfp (K5 c89_ok fun N=>?_) rfl (Jd _)
 simp -implicitDefEqProofs only[c89,go_sem]
 refine Y5 ?_
 simp only[go_sem,Gl]
 generalize hC:Xo t t.nodes.length j=C
 refine JJ (σ:=Nat×Nat×List Int) (I:=fun s=>s.2.1 < t.nodes.length∧t.nodes.length≤s.2.1+s.1∧s.2.2++Xo t s.1 s.2.1=C∧s.2.2.length+1000*s.1≤1000*t.nodes.length) (inv:=fun s=>gp [(0,.rptr (tRw t)),(3,QQ 0 (iz s.2.2)),(0,.int .i64 (s.2.1:Int))] 31) (hp:=fun s=>[XN 1 (iz s.2.2)]) (μ:=fun s=>t.nodes.length-s.2.1) (t.nodes.length,j,[]) [0] ⟨hj,by simp only; omega,by simp[hC],by simp⟩ rfl ?_ rfl ?_
 ·simp[forget,JI,ren,Jo,gp,QQ,iz]
 ·rintro ⟨f,a,acc⟩ ⟨ha,hf,hacc,hlen⟩
  dsimp only at ha hf hacc hlen
  obtain ⟨f,rfl⟩:∃ f',f=f' + 1:=⟨f-1,by omega⟩
  rw[Xo]at hacc
  rcases QE g ha with ⟨hp,_⟩ | ⟨m,hp,ham,hm,_⟩
  ·have e1:((-1:Int) != -1)=false:=by decide
   rw[hp,if_pos (by decide),Gh]at hacc
   simp -implicitDefEqProofs only[go_sem,tRw,KI,upz ha,hp,e1]
   refine ⟨by omega,?_⟩
   cases acc with
   |nil=>
    rw[← hacc]
    simp -implicitDefEqProofs only[go_sem,KN,Xf]
    refine JU sortNil ?_
    simp -implicitDefEqProofs only[go_sem,List.mergeSort_nil,KN,Xf,XV]
    exact ⟨0,rfl⟩
   |cons x xs=>
    rw[← hacc]
    simp only[Ga]at hlen
    have hne:(x::xs).mergeSort (fun x y=>decide (x≤y))≠[]:=by
     intro e
     have:=congrArg List.length e
     rw[Gp]at this
     simp at this
    have hl2:(iz ((x::xs).mergeSort fun x y=>decide (x≤y)))≠[]:=by simpa [iz]using hne
    simp -implicitDefEqProofs only[go_sem,JQ,Yi,JbD,Jf]
    refine Xq (.inl rfl) (sortRow (l:=x::xs) (by simp) (by simp only[Ga]; omega) rfl) fun v H' ⟨h1,h2⟩=>?_
    subst h1 h2
    simp -implicitDefEqProofs only[go_sem]
    refine ⟨0,by rw[Xr hl2,Jf,Gp]; rfl,by rw[Q8 hl2]; rfl⟩
  ·have e1:((m:Int) != -1)=true:=bne_iff_ne.2 (by omega)
   rw[hp,if_neg (by omega),Gf,← List.append_assoc]at hacc
   have hdl:=decl_le ht (u:=m) (a:=a)
   simp -implicitDefEqProofs only[go_sem,tRw,KI,upz ha,hp,e1]
   refine ⟨by omega,by omega,?_⟩
   refine JU ((nDeclares g ht hm ha).fn rfl (Jd _)) ?_
   generalize JbW t m a=xs at hacc hdl ⊢
   cases xs with
   |nil=>
    rw[Gh]at hacc
    simp -implicitDefEqProofs only[go_sem,tRw,KI,upz ha,hp,KN]
    refine ⟨by omega,(f,m,acc),[0],⟨hm,by simp only; omega,hacc,by simp only; omega⟩,by simp only; omega,rfl,?_,?_⟩
    ·simp only[KE,Gd,Gg,go_sem,Qd (Jb (Jd acc))]
    ·simp[forget,JI,ren,Jo,QC,tRw]
   |cons x xs=>
    simp only[Ga]at hdl
    simp -implicitDefEqProofs only[go_sem,tRw,KI,upz ha,hp,JQ,Jf,Jds,JK]
    refine ⟨⟨by omega,by omega⟩,by omega,(f,m,acc++x::xs),[1],⟨hm,by simp only; omega,hacc,by simp only[Gj,Ga]; omega⟩,by simp only; omega,rfl,?_,?_⟩
    ·rw[Yp,JQ,KH]
     simp only[KE,Gd,Gg,go_sem,Jt]
     simp[Jb (Jd acc),Jb (Jd xs),JI,ren]
    ·rw[Yp,JQ,KG]
     simp[forget,JI,ren,Jo,Jf,tRw]
end
end
end Go.Cm
end
end
