/-
  A part of the proof. Conditions: none.
-/
import Derived.Test.YtaiboeciecfgoaaGreatDoorRP42
set_option linter.unusedSimpArgs false
set_option linter.unusedVariables false
open List renaming getD_eq_getElem?_getD→Gc,getElem?_eq_getElem→Gd,length_cons→Gb,map_cons→Gf,append_nil→Gi,map_nil→Gh,getElem_mem→Gj,length_append→Gl,take_succ_eq_append_getElem→Gn,nil_append→Gm,take_of_length_le→Gp,length_mergeSort→Gq,length_filter_le→Gr,length_take→Gs,length_nil→Gt
open Go.Proofs.Tryz renaming prog→Ga
open Int renaming toNat_natCast→Gg
noncomputable section
section
set_option maxRecDepth 100000
set_option maxHeartbeats 4000000
open Go.Proofs
namespace Go.Cm
section
theorem kbE {k m:Nat}:((k:Int) == no_index (@OfNat.ofNat Int m _))=(k == m):=by
 rw[Bool.eq_iff_iff,beq_iff_eq,beq_iff_eq]; exact Int.ofNat_inj
theorem kbN {k m:Nat}:((k:Int) != no_index (@OfNat.ofNat Int m _)) = !(k == m):=by rw[bne,kbE]
def tRw (t:Tr):List CV:=[.rslc 5 (ndz t.nodes) none,.rslc 1 (iz t.items) none,.rslc 1 (iz (upT t)) none,.rslc 1 (iz (JcW t)) none]
theorem fitN {t:Tr}(ht:t.Fit) {i:Nat}(hi:i < t.nodes.length):(nd t i).Fit:=ht.nodes _ (by unfold nd; rw[Gc,Gd hi]; exact Gj hi)
theorem J6 {t:Tr}{i:Nat}(h:i < t.nodes.length):(ndz t.nodes).getD i []=(nd t i).cv:=Kz h
theorem upz {t:Tr}{i:Nat}(h:i < t.nodes.length):(iz (upT t)).getD i []=[.int .i64 (J3 t i)]:=by rw[JR (by rw[Jdu]; exact h),upT_get h]
theorem itz {t:Tr}{i:Nat}(h:i < t.nodes.length):(iz (JcW t)).getD i []=[.int .i64 (Xf t i)]:=by rw[JR (by rw[JbU]; exact h),itemT_get h]
theorem KL {t:Tr}:(iz (upT t)).length=t.nodes.length:=by rw[Jf,Jdu]
theorem itz_len {t:Tr}:(iz (JcW t)).length=t.nodes.length:=by rw[Jf,JbU]
theorem JcV (t:Tr) {i:Nat}(hi:i < t.nodes.length):Fn Ga 50 [.rptr (tRw t),.int .i64 (i:Int)] (.int .u8 ((nd t i).k:Int)):=by
 have hg:=J6 hi
 refine Ja c50_ok rfl rfl fun N=>?_
 simp -implicitDefEqProofs only[c50,go_sem,tRw,Jc,hg,Nd.cv]
 omega
theorem nInside (t:Tr) {i:Nat}(hi:i < t.nodes.length):Fn Ga 99 [.rptr (tRw t),.int .i64 (i:Int)] (.bool (!((nd t i).k == 43))):=by
 refine Ja c99_ok rfl rfl fun N=>?_
 simp -implicitDefEqProofs only[c99,go_sem]
 refine JV (JcV t hi) ?_
 simp -implicitDefEqProofs only[go_sem,kbN]
def bz (l:List Nat):List (List CV):=l.map fun i:Nat=>[.int .u8 (i:Int)]
theorem bz_len {l:List Nat}:(bz l).length=l.length:=by simp[bz]
theorem bz_get {l:List Nat}{i:Nat}(h:i < l.length):(bz l).getD i []=[.int .u8 (l.getD i 0:Nat)]:=by
 simp[bz,Gc,Gd h]
theorem bz_closed:∀ (l:List Nat),Jq (bz l)=true
 |[]=>rfl
 |x::l=>by simp[bz,Jq,Jm,CV.closed]; exact bz_closed l
theorem indexB (l:List Nat) (x:Nat) (hl:l.length≤100000):Fn Ga 118 [.rslc 1 (bz l) none,.int .u8 (x:Int)] (.int .i64 (QU (fun y=>x == y) l 0)):=by
 have hil:(bz l).length=l.length:=bz_len
 have hbc:=bz_closed l
 refine Ja c118_ok rfl rfl fun N=>?_
 simp -implicitDefEqProofs only[c118,go_sem,hil]
 refine Jz (I:=fun i:Nat=>i≤l.length∧QU (fun y=>x == y) l 0=QU (fun y=>x == y) (l.drop i) i) (inv:=fun i=>gp [(0,.rslc 1 (bz l) none),(0,.int .u8 x),(5,.int .i64 (l.length:Int)),(0,.int .i64 (i:Int))] 10) (hp:=fun _=>[]) (μ:=fun i=>l.length-i) 0 ⟨by omega,rfl⟩ ?_ rfl ?_
 ·simp[forget,gp]
 ·rintro i ⟨hi,hinv⟩
  by_cases hlt:i < l.length
  ·have d1:((i:Int) < (l.length:Int))=True:=Jn
   have hgi:=bz_get hlt
   have hge:l[i]? = some (l.getD i 0):=by rw[Gc,Gd hlt]; rfl
   rw[QF hge]at hinv
   have en:=Jct (l.getD i 0) x
   simp -implicitDefEqProofs only[go_sem,hil,d1,hgi,en]
   generalize l.getD i 0=y at hinv ⊢
   refine ⟨by omega,?_⟩
   cases he:(x == y) with
   |true=>
    rw[he,if_pos rfl]at hinv
    simp -implicitDefEqProofs only[go_sem,hinv]
   |false=>
    rw[he]at hinv
    simp -implicitDefEqProofs only[go_sem]
    refine ⟨Ji,i+1,⟨by omega,by simpa using hinv⟩,by omega,?_⟩
    simp[forget]
  ·have d1:((i:Int) < (l.length:Int))=False:=Jj
   rw[List.drop_eq_nil_of_le (by omega)]at hinv
   simp -implicitDefEqProofs only[go_sem,d1,hinv,QU]
theorem containsB (l:List Nat) (x:Nat) (hl:l.length≤100000):Fn Ga 103 [.rslc 1 (bz l) none,.int .u8 (x:Int)] (.bool (l.contains x)):=by
 refine Ja c103_ok rfl rfl fun N=>?_
 simp -implicitDefEqProofs only[c103,go_sem]
 refine JV (indexB l x hl) ?_
 have e:decide (0≤QU (fun y=>x == y) l 0)=l.contains x:=by rw[JaI,List.contains_eq_any_beq]
 simp -implicitDefEqProofs only[go_sem,e]
theorem Jgl (t:Tr) {i:Nat}(hi:i < t.nodes.length):Fn Ga 72 [.rptr (tRw t),.int .i64 (i:Int)] (.bool (Kk (nd t i).k)):=by
 have e:[65,64,42,43,47].contains (nd t i).k=Kk (nd t i).k:=by
  simp only[List.contains_cons,List.contains_nil,Bool.or_false,Kk,Bool.or_assoc]
 refine Ja c72_ok rfl rfl fun N=>?_
 simp -implicitDefEqProofs only[c72,go_sem]
 refine Jg (id:=0) (z:=1) (els:=bz [65,64,42,43,47]) rfl rfl ?_
 simp only[go_sem,J2,Ko,frz,KG,bz,Gf,Gh,Gb,Gt,List.drop_zero,List.take_succ_cons,List.take_zero]
 refine JV (JcV t hi) ?_
 simp -implicitDefEqProofs only[go_sem]
 refine JV (containsB [65,64,42,43,47] _ (by simp)) ?_
 simp -implicitDefEqProofs only[go_sem,e]
section
variable {t:Tr}{o:List Int}(g:GoodT t o)
include g
theorem nBelow {j0 a:Nat}(hj0:j0 < t.nodes.length) (ha:a < t.nodes.length):Fn Ga 51 [.rptr (tRw t),.int .i64 (j0:Int),.int .i64 (a:Int)] (.bool (Ja0 o j0 a)):=by
 refine Ja c51_ok rfl rfl fun N=>?_
 simp -implicitDefEqProofs only[c51,go_sem]
 refine Jz (σ:=Int) (I:=fun v=>(v = -1∧Ja0 o j0 a=false)∨∃ j:Nat,v=j∧j < t.nodes.length∧Ja0 o j0 a=Ja0 o j a) (inv:=fun v=>gp [(0,.rptr (tRw t)),(0,.int .i64 v),(0,.int .i64 (a:Int))] 21) (hp:=fun _=>[]) (μ:=fun v=>if v < 0 then 0 else t.nodes.length-v.toNat+1) (j0:Int) (.inr ⟨j0,rfl,hj0,rfl⟩) ?_ rfl ?_
 ·simp[forget,gp]
 ·rintro v (⟨rfl,hb⟩ | ⟨j,rfl,hj,hb⟩)
  ·have e1:(((-1:Int)) != -1)=false:=by decide
   have e2:((-1:Int) == (a:Int))=false:=beq_eq_false_iff_ne.2 (by omega)
   simp -implicitDefEqProofs only[go_sem,e1,e2,hb]
  ·have e1:((j:Int) != -1)=true:=bne_iff_ne.2 (by omega)
   by_cases he:j=a
   ·subst he
    have e2:((j:Int) != (j:Int))=false:=by simp
    have e3:((j:Int) == (j:Int))=true:=by simp
    have e4:=K9.2 (JgL g hj)
    simp -implicitDefEqProofs only[go_sem,e1,e2,e3,hb,e4]
   ·have e2:((j:Int) != (a:Int))=true:=bne_iff_ne.2 (by omega)
    have hp:=par_rng g hj
    have hu:=blw_up g hj ha he
    simp -implicitDefEqProofs only[go_sem,e1,e2,tRw,KL,upz hj]
    refine ⟨by omega,J3 t j,?_,?_,?_⟩
    ·rcases QI g hj with ⟨h,_⟩ | ⟨m,h,h1,h2,_⟩
     ·rw[h,if_pos (by decide)]at hu
      exact .inl ⟨h,by rw[hb,hu]⟩
     ·rw[h,if_neg (by omega),Gg]at hu
      exact .inr ⟨m,h,h2,by rw[hb,hu]⟩
    ·rcases QI g hj with ⟨h,_⟩ | ⟨m,h,h1,h2,_⟩
     ·show (if J3 t j < 0 then 0 else _) < (if (j:Int) < 0 then 0 else _)
      rw[h,if_pos (by decide),if_neg (by omega)]; omega
     ·rw[h,if_neg (by omega),if_neg (by omega)]; omega
    ·simp[forget,tRw]
theorem lastz {m:Nat}(hm:m < t.nodes.length) (hlen:0 < (nd t m).kids.length):(iz (nd t m).kids).getD ((nd t m).kids.length-1) []=[.int .i64 (JI t m:Int)]:=by
 rw[JR (by omega)]
 have h4:(nd t m).kids.getD ((nd t m).kids.length-1) 0∈(nd t m).kids:=by
  rw[Gc,Gd (by omega)]; exact Gj _
 have h5:=(g.kid hm h4).1
 have:((JI t m:Nat):Int)=(nd t m).kids.getD ((nd t m).kids.length-1) 0:=by unfold JI; omega
 rw[this]
theorem nLate (ht:t.Fit) {a0 s:Nat}(hs:s < t.nodes.length) (hk:(nd t s).k=41) (hb0:blw o a0 (JI t s)):Fn Ga 52 [.rptr (tRw t),.int .i64 (a0:Int),.int .i64 (s:Int)] (.bool (buL t (upL t (JI t s) t.nodes.length a0) false)):=by
 have htop:=(set_kid g hs hk).1
 have htl:JI t s < t.nodes.length:=by have:=(Kn g hs htop).2; omega
 generalize hR:buL t (upL t (JI t s) t.nodes.length a0) false=R
 refine Ja c52_ok rfl rfl fun N=>?_
 simp -implicitDefEqProofs only[c52,go_sem]
 refine Jz (σ:=Nat×Bool) (I:=fun s'=>blw o s'.1 (JI t s)∧∃ f,t.nodes.length≤s'.1+f∧R=buL t (upL t (JI t s) f s'.1) s'.2) (inv:=fun s'=>gp [(0,.rptr (tRw t)),(1,.int .i64 (s:Int)),(4,.bool s'.2),(0,.int .i64 (s'.1:Int))] 64) (hp:=fun _=>[]) (μ:=fun s'=>t.nodes.length-s'.1) (a0,false) ⟨hb0,t.nodes.length,by omega,hR.symm⟩ ?_ rfl ?_
 ·simp[forget,gp]
 ·rintro ⟨a,late⟩ ⟨hb,f,hf,hinv⟩
  dsimp only at hb hf hinv
  have ha:a < t.nodes.length:=by have:=hb.1; omega
  rcases late_step g (late:=late) hs htop hb hf with ⟨he,hp⟩ | ⟨hne,m,f',hp,hms,ham,hm,hbm,hkid,hf',hstep⟩
  ·have e1:((s:Int) != (s:Int))=false:=by simp
   subst he
   rw[late_end]at hinv
   simp -implicitDefEqProofs only[go_sem,tRw,KL,upz ha,hp,e1,hinv]
   omega
  ·have e1:((m:Int) != (s:Int))=true:=bne_iff_ne.2 (by omega)
   have hg:=J6 hm
   rw[hstep]at hinv
   have hlen:0 < (nd t m).kids.length:=List.length_pos_of_mem hkid
   have hkl:(iz (nd t m).kids).length=(nd t m).kids.length:=Jf
   have hgl:=lastz g hm hlen
   have hkn:(nd t m).kids.length < 9223372036854775807:=by have:=(fitN ht hm).kidn; omega
   simp -implicitDefEqProofs only[go_sem,tRw,KL,upz ha,hp,e1,Jc,hg,Nd.cv]
   refine ⟨by omega,by omega,by omega,?_⟩
   refine JV (JcV t hm) ?_
   have fin:∀ late',late'=Jcg t m a late→(blw o m (JI t s)∧∃ f,t.nodes.length≤m+f∧R=buL t (upL t (JI t s) f m) late'):=fun late' h=>⟨hbm,f',hf',by rw[h]; exact hinv⟩
   have en:=Jct (JI t m) a
   by_cases h4:(nd t m).k=4
   ·have hst:Jcg t m a late=true:=by unfold Jcg; rw[if_pos h4]
    simp -implicitDefEqProofs only[go_sem,kbE,h4,tRw,KL,upz ha,hp]
    refine ⟨by omega,(m,true),fin true hst.symm,by simp only; omega,?_⟩
    simp[forget,tRw]
   ·have b4:((nd t m).k == 4)=false:=beq_eq_false_iff_ne.2 h4
    by_cases h5:(nd t m).k=46∨(nd t m).k=47
    ·have hst:Jcg t m a late=(late || a == JI t m):=by unfold Jcg; rw[if_neg h4,if_pos h5]
     have b5:((nd t m).k == 46)=true∨((nd t m).k == 46)=false∧((nd t m).k == 47)=true:=by
      rcases h5 with h | h <;> simp[h]
     rcases b5 with b5 | ⟨b5,b6⟩
     ·cases late with
      |true=>
       simp -implicitDefEqProofs only[go_sem,kbE,b4,b5,tRw,KL,upz ha,hp]
       refine ⟨by omega,(m,true),fin true (by rw[hst]; rfl),by simp only; omega,?_⟩
       simp[forget,tRw]
      |false=>
       simp -implicitDefEqProofs only[go_sem,kbE,b4,b5,tRw,KL,upz ha,hp,hkl,hgl,en]
       refine ⟨Ji,by omega,by omega,(m,a == JI t m),fin _ (by rw[hst]; rfl),by simp only; omega,?_⟩
       simp[forget,tRw]
     ·cases late with
      |true=>
       simp -implicitDefEqProofs only[go_sem,kbE,b4,b5,b6,tRw,KL,upz ha,hp]
       refine ⟨by omega,(m,true),fin true (by rw[hst]; rfl),by simp only; omega,?_⟩
       simp[forget,tRw]
      |false=>
       simp -implicitDefEqProofs only[go_sem,kbE,b4,b5,b6,tRw,KL,upz ha,hp,hkl,hgl,en]
       refine ⟨Ji,by omega,by omega,(m,a == JI t m),fin _ (by rw[hst]; rfl),by simp only; omega,?_⟩
       simp[forget,tRw]
    ·have b5:((nd t m).k == 46)=false:=beq_eq_false_iff_ne.2 fun h=>h5 (.inl h)
     have b6:((nd t m).k == 47)=false:=beq_eq_false_iff_ne.2 fun h=>h5 (.inr h)
     by_cases h7:(nd t m).k=28
     ·have b7:((nd t m).k == 28)=true:=by simp[h7]
      have hst:Jcg t m a late=(late && (nd t a).k == 43):=by unfold Jcg; rw[if_neg h4,if_neg h5,if_pos h7]
      cases late with
      |true=>
       simp -implicitDefEqProofs only[go_sem,kbE,b4,b5,b6,b7]
       refine JN (gok rfl) (nInside t ha) ?_
       simp -implicitDefEqProofs only[go_sem,tRw,KL,upz ha,hp,Bool.not_not]
       refine ⟨by omega,(m,(nd t a).k == 43),fin _ (by rw[hst]; rfl),by simp only; omega,?_⟩
       simp[forget,tRw]
      |false=>
       simp -implicitDefEqProofs only[go_sem,kbE,b4,b5,b6,b7,tRw,KL,upz ha,hp]
       refine ⟨by omega,(m,false),fin _ (by rw[hst]; rfl),by simp only; omega,?_⟩
       simp[forget,tRw]
     ·have b7:((nd t m).k == 28)=false:=beq_eq_false_iff_ne.2 h7
      have hst:Jcg t m a late=late:=by unfold Jcg; rw[if_neg h4,if_neg h5,if_neg h7]
      simp -implicitDefEqProofs only[go_sem,kbE,b4,b5,b6,b7,tRw,KL,upz ha,hp]
      refine ⟨by omega,(m,late),fin _ hst.symm,by simp only; omega,?_⟩
      simp[forget,tRw]
end
end
theorem kidsK_take {t:Tr}{u k i:Nat}(h:i < (nd t u).kids.length):((nd t u).kids.take (i+1)).filter (fun c=>Jt t.nodes c == k)=((nd t u).kids.take i).filter (fun c=>Jt t.nodes c == k)++if Jt t.nodes ((nd t u).kids.getD i 0) == k then [(nd t u).kids.getD i 0] else []:=by
 rw[Gn h,List.filter_append,Gc,Gd h,Option.getD_some,List.filter_cons,List.filter_nil]
theorem kids_len_le {t:Tr}{u k i:Nat}:(((nd t u).kids.take i).filter (fun c=>Jt t.nodes c == k)).length≤(nd t u).kids.length:=
 Nat.le_trans (Gr _ _) (by rw[Gs]; omega)
theorem nKids (t:Tr) (ht:t.Fit) {u:Nat}(hu:u < t.nodes.length) (hK:∀ k∈(nd t u).kids,0≤k∧k < t.nodes.length) (k:Nat):Jbp Ga 54 [.rptr (tRw t),.int .i64 (u:Int),.int .u8 (k:Int)] 1 (iz (Qh t u k)):=by
 have hg:=J6 hu
 have hkn:=(fitN ht hu).kidn
 have hkl:(iz (nd t u).kids).length=(nd t u).kids.length:=Jf
 refine JaH (KI c54_ok fun N=>?_) rfl (Jd _)
 simp -implicitDefEqProofs only[c54,go_sem,tRw,Jc,hg,Nd.cv,hkl]
 refine ⟨by omega,?_⟩
 refine XU ?_
 simp only[go_sem,Gm]
 generalize hF:(fun c=>Jt t.nodes c == k)=F
 refine JG (I:=fun i:Nat=>i≤(nd t u).kids.length) (inv:=fun i=>gp [(0,.rptr (tRw t)),(1,.int .u8 (k:Int)),(3,QC 0 (iz (((nd t u).kids.take i).filter F))),(10,.rslc 1 (iz (nd t u).kids) none),(0,.int .i64 ((nd t u).kids.length:Int)),(0,.int .i64 (i:Int))] 14) (hp:=fun i=>[Xu 1 (iz (((nd t u).kids.take i).filter F))]) (μ:=fun i=>(nd t u).kids.length-i) 0 [0] (by omega) rfl ?_ rfl ?_
 ·simp[forget,JF,ren,Jo,gp,tRw,iz,QC]
 ·intro i hi
  by_cases hlt:i < (nd t u).kids.length
  ·have d1:((i:Int) < ((nd t u).kids.length:Int))=True:=Jn
   have hgi:=JR hlt
   have htk:=kidsK_take (k:=k) hlt
   have hle:=kids_len_le (t:=t) (u:=u) (k:=k) (i:=i)
   have hmem:(nd t u).kids.getD i 0∈(nd t u).kids:=by rw[Gc,Gd hlt]; exact Gj hlt
   have hb:=hK _ hmem
   rw[hF]at htk hle
   generalize (nd t u).kids.getD i 0=c at htk hgi hb
   obtain ⟨c,rfl⟩:∃ c':Nat,c=c':=⟨c.toNat,by omega⟩
   generalize ((nd t u).kids.take i).filter F=acc at htk hle
   simp -implicitDefEqProofs only[go_sem,d1,hkl,hgi]
   refine ⟨by omega,?_⟩
   refine JV (JcV t (by omega)) ?_
   have en:=Jct k (nd t c).k
   have ek:Jt t.nodes (c:Int)=(nd t c).k:=by unfold Jt nd; rw[Gg]
   rw[ek]at htk
   cases hq:(nd t c).k == k with
   |false=>
    rw[hq]at htk en
    simp only[Bool.false_eq_true,if_false,Gi]at htk
    simp -implicitDefEqProofs only[go_sem,en]
    refine ⟨Ji,i+1,[0],by omega,by omega,rfl,?_,?_⟩
    ·rw[htk]; simp only[Kw,Gf,Gh,go_sem,KU (Jb (Jd acc))]
    ·rw[htk]; simp[forget,JF,ren,Jo,tRw,Qo]
   |true=>
    rw[hq]at htk en
    simp only[if_true]at htk
    simp -implicitDefEqProofs only[go_sem,en,Jf,JJ]
    refine ⟨⟨by omega,by omega⟩,Ji,i+1,[2],by omega,by omega,rfl,?_,?_⟩
    ·rw[htk,J8,Km]
     simp only[Kw,Gf,Gh,go_sem,Jp]
     simp[Jb (Jd acc),JF,ren]
    ·rw[htk,J8,Kl]
     simp[forget,JF,ren,Jo,tRw,Jf]
  ·have d1:((i:Int) < ((nd t u).kids.length:Int))=False:=Jj
   rw[Gp (by omega)]
   rw[show (nd t u).kids.filter F=Qh t u k by rw[← hF]; rfl]
   simp -implicitDefEqProofs only[go_sem,d1]
   exact ⟨0,rfl,rfl⟩
section
theorem Jef {z bytes id:Nat}{H:List CObj}{els:List (List CV)}:J4 z bytes H (QC id els) []=some (.tt,QC id els,H):=by cases els <;> rfl
attribute [go_sem] Jef
theorem Qw:iz []=[]:=rfl
theorem JY {x:Int}{l:List Int}:iz (x::l)=[.int .i64 x]::iz l:=rfl
theorem Y1 {a b:List Int}:iz (a++b)=iz a++iz b:=by simp[iz]
theorem Jd9 {f:Int→List Int}{b:Nat}(h:∀ x,(f x).length≤b):∀ l:List Int,((l.map f).flatten).length≤l.length*b
 |[]=>by simp
 |x::l=>by
  have h1:=h x
  have h2:=Jd9 h l
  simp only[Gf,List.flatten_cons,Gl,Gb,Nat.add_mul,Nat.one_mul]
  omega
theorem kidsK_len {t:Tr}{u k:Nat}:(Qh t u k).length≤(nd t u).kids.length:=Gr _ _
theorem flat_take {f:Int→List Int}{l:List Int}{i:Nat}(h:i < l.length):((l.take (i+1)).map f).flatten=((l.take i).map f).flatten++f (l.getD i 0):=by
 rw[Gn h,List.map_append,List.flatten_append,Gc,Gd h]
 simp
theorem JdZ {t:Tr}{o:List Int}(g:GoodT t o) {u k:Nat}(hu:u < t.nodes.length) {c:Int}(hc:c∈Qh t u k):0≤c∧c < t.nodes.length:=by
 have:=g.kid hu (Kv.1 hc).1; omega
theorem XY {t:Tr}(ht:t.Fit) {x:Int}{k:Nat}:(Qh t x.toNat k).length≤30:=by
 rcases Nat.lt_or_ge x.toNat t.nodes.length with h | h
 ·exact Nat.le_trans kidsK_len (fitN ht h).kidn
 ·have:nd t x.toNat=default:=by unfold nd; rw[Gc,List.getElem?_eq_none h]; rfl
  refine Nat.le_trans kidsK_len ?_
  rw[this]; exact Nat.zero_le _
theorem binds_le {t:Tr}(ht:t.Fit) {u:Nat}:(Yq t u).length≤900:=by
 have h1:=Jd9 (f:=fun s:Int=>Qh t s.toNat 42) (b:=30) (fun x=>XY ht) (Qh t u 41)
 have h2:=XY ht (x:=(u:Int)) (k:=41)
 rw[Gg]at h2
 unfold Yq
 omega
section
variable {t:Tr}{o:List Int}(g:GoodT t o) (ht:t.Fit)
include g ht
theorem Jfm {u:Nat}(hu:u < t.nodes.length) (k:Nat):Jbp Ga 54 [.rptr (tRw t),.int .i64 (u:Int),.int .u8 (k:Int)] 1 (iz (Qh t u k)):=
 nKids t ht hu (fun c hc=>by have:=g.kid hu hc; omega) k
theorem nKidsF {u:Nat}(hu:u < t.nodes.length) (k:Nat):Fn Ga 54 [.rptr (tRw t),.int .i64 (u:Int),.int .u8 (k:Int)] (.rslc 1 (iz (Qh t u k)) none):=
 (Jfm g ht hu k).fn rfl (Jd _)
theorem nBinds {u:Nat}(hu:u < t.nodes.length):Jbp Ga 145 [.rptr (tRw t),.int .i64 (u:Int)] 1 (iz (Yq t u)):=by
 have hL:=XY ht (x:=(u:Int)) (k:=41)
 rw[Gg]at hL
 refine JaH (KI c145_ok fun N=>?_) rfl (Jd _)
 simp -implicitDefEqProofs only[c145,go_sem]
 refine JV (nKidsF g ht hu 41) ?_
 have hbl:Yq t u=((Qh t u 41).map fun s=>Qh t s.toNat 42).flatten:=rfl
 rw[hbl]
 have hr:∀ c∈Qh t u 41,0≤c∧c < t.nodes.length:=fun c hc=>JdZ g hu hc
 generalize Qh t u 41=L at hL hr ⊢
 have hil:(iz L).length=L.length:=Jf
 simp -implicitDefEqProofs only[go_sem,hil]
 refine XU ?_
 simp only[go_sem,Gm]
 generalize hf:(fun s:Int=>Qh t s.toNat 42)=f
 have hfl:∀ x,(f x).length≤30:=fun x=>by rw[← hf]; exact XY ht
 refine JG (I:=fun i:Nat=>i≤L.length) (inv:=fun i=>gp [(0,.rptr (tRw t)),(3,QC 0 (iz ((L.take i).map f).flatten)),(4,.rslc 1 (iz L) none),(0,.int .i64 (L.length:Int)),(0,.int .i64 (i:Int))] 10) (hp:=fun i=>[Xu 1 (iz ((L.take i).map f).flatten)]) (μ:=fun i=>L.length-i) 0 [0] (by omega) rfl ?_ rfl ?_
 ·simp[forget,JF,ren,Jo,gp,QC,iz]
 ·intro i hi
  by_cases hlt:i < L.length
  ·have d1:((i:Int) < (L.length:Int))=True:=Jn
   have hgi:=JR hlt
   have hmem:L.getD i 0∈L:=by rw[Gc,Gd hlt]; exact Gj hlt
   have hb:=hr _ hmem
   have hft:=flat_take (f:=f) hlt
   have hfx:f (L.getD i 0)=Qh t (L.getD i 0).toNat 42:=by rw[← hf]
   have hflx:=hfl (L.getD i 0)
   have hacc:=Jd9 hfl (L.take i)
   rw[Gs]at hacc
   generalize ((L.take i).map f).flatten=acc at hacc hft ⊢
   generalize f (L.getD i 0)=xs at hfx hflx hft
   generalize L.getD i 0=c at hgi hb hfx
   obtain ⟨c,rfl⟩:∃ c':Nat,c=c':=⟨c.toNat,by omega⟩
   rw[Gg]at hfx
   simp -implicitDefEqProofs only[go_sem,d1,hil,hgi]
   refine ⟨by omega,?_⟩
   refine JV (nKidsF g ht (by omega) 42) ?_
   rw[← hfx]
   cases xs with
   |nil=>
    rw[Gi]at hft
    simp -implicitDefEqProofs only[go_sem,Qw]
    refine ⟨Ji,i+1,[0],by omega,by omega,rfl,?_,?_⟩
    ·rw[hft]; simp only[Kw,Gf,Gh,go_sem,KU (Jb (Jd acc))]
    ·rw[hft]; simp[forget,JF,ren,Jo,Qo]
   |cons x xs=>
    simp only[Gb]at hflx
    simp -implicitDefEqProofs only[go_sem,JY,Jf,JJ]
    refine ⟨⟨by omega,by omega⟩,Ji,i+1,[1],by omega,by omega,rfl,?_,?_⟩
    ·rw[hft,Y1,JY,Km]
     simp only[Kw,Gf,Gh,go_sem,Jp]
     simp[Jb (Jd acc),Jb (Jd xs),JF,ren]
    ·rw[hft,Y1,JY,Kl]
     simp[forget,JF,ren,Jo,Jf]
  ·have d1:((i:Int) < (L.length:Int))=False:=Jj
   rw[Gp (by omega)]
   simp -implicitDefEqProofs only[go_sem,d1]
   exact ⟨0,rfl,rfl⟩
end
end
section
section
variable {P:Program}{E:Env}{H:List CObj}
theorem CallsC.pad {f:Nat}{args:List CV}{R R':CV→List CObj→Prop}(h:CallsC P E f args H R) (hR:∀ v H',R v H'→R' v H'∨R' v (H'++[.dead])):CallsC P E f args H R':=by
 intro m w vs hs hv
 refine (h m w vs hs hv).mono ?_
 rintro e w' ⟨r,m',v,H',h1,h2,h3,h4,h5⟩
 rcases hR _ _ h5 with g | g
 ·exact ⟨r,m',v,H',h1,h2,h3,h4,g⟩
 ·obtain ⟨t1,t2,t3⟩:=h3.pad (n0:=H.length)
  exact ⟨r,_,v,_,h1,h2.trans t3,t1,QH t2 (J5.refl _) _ _ h4,g⟩
def RowR (z:Nat) (els:List (List CV)) (v:CV) (H':List CObj):Prop:=(∃ id,v=QC id els∧H'[id]? = some (Xu z els))∨(v=.nils∧els=[])∨∃ id c,v=.slc id 0 els.length (some c)∧H'[id]? = some (.arr z els)∧els≠[]
theorem RowR.row {z id:Nat}{els:List (List CV)}{v:CV}{H':List CObj}(h1:v=QC id els) (h2:H'[id]? = some (Xu z els)):RowR z els v H':=.inl ⟨id,h1,h2⟩
theorem RowR.nil {z:Nat}{H':List CObj}:RowR z [] .nils H':=.inr (.inl ⟨rfl,rfl⟩)
theorem RowR.lit {z id c:Nat}{e:List CV}{els:List (List CV)}{H':List CObj}(h2:H'[id]? = some (.arr z (e::els))):RowR z (e::els) (.slc id 0 (els.length+1) (some c)) H':=.inr (.inr ⟨id,c,rfl,h2,by simp⟩)
theorem Jd6 {f:Nat}{args:List CV}{z:Nat}{els:List (List CV)}(h:CallsC P Env.none f args [] (RowR z els)) (ha:Jm args=true) (hc:Jq els=true):Jbp P f args z els:=
 JaH ((h.wk (R':=fun v H'=>(∃ id,v=QC id els∧H'[id]? = some (Xu z els))∨(v=.nils∧els=[])) fun v H' hv=>by
  rcases hv with hv | hv | ⟨id,c,rfl,h2,h3⟩
  ·exact ⟨v,wk.refl _,.inl hv⟩
  ·exact ⟨v,wk.refl _,.inr hv⟩
  ·exact ⟨_,wk_cap,.inl ⟨id,(Qz h3).symm,by rw[Qd h3]; exact h2⟩⟩).pad fun v H' hv=>by
  rcases hv with hv | ⟨rfl,rfl⟩
  ·exact .inl hv
  ·exact .inr ⟨H'.length,rfl,by simp; rfl⟩) ha hc
end
section
variable {t:Tr}{o:List Int}(g:GoodT t o) (ht:t.Fit)
include g ht
theorem nDeclares {u a:Nat}(hu:u < t.nodes.length) (ha:a < t.nodes.length):Jbp Ga 114 [.rptr (tRw t),.int .i64 (u:Int),.int .i64 (a:Int)] 1 (iz (Jb0 t u a)):=by
 have hg:=J6 hu
 have hkl:(iz (nd t u).kids).length=(nd t u).kids.length:=Jf
 have bu:((u:Int) < (t.nodes.length:Int))=True:=Jn
 refine Jd6 (KI c114_ok fun N=>?_) rfl (Jd _)
 unfold Jb0
 by_cases h40:(nd t u).k=40
 ·rw[if_pos h40]
  simp -implicitDefEqProofs only[c114,go_sem,tRw,Jc,hg,Nd.cv,kbE,h40]
  refine ⟨by omega,?_⟩
  refine Jdr (.inl rfl) (nBinds g ht hu) ?_
  simp -implicitDefEqProofs only[go_sem]
  exact .row (id:=1) rfl rfl
 have b40:((nd t u).k == 40)=false:=beq_eq_false_iff_ne.2 h40
 rw[if_neg h40]
 by_cases h65:(nd t u).k=65
 ·rw[if_pos h65]
  simp -implicitDefEqProofs only[c114,go_sem,tRw,Jc,hg,Nd.cv,kbE,h65]
  refine ⟨by omega,?_⟩
  refine Jdr (.inl rfl) (Jfm g ht hu 64) ?_
  simp -implicitDefEqProofs only[go_sem]
  exact .row (id:=1) rfl rfl
 have b65:((nd t u).k == 65)=false:=beq_eq_false_iff_ne.2 h65
 rw[if_neg h65]
 by_cases h47:(nd t u).k=47
 ·rw[if_pos h47]
  have hlen:(nd t u).kids.length=3:=(JbC g hu h47).1
  have hg2:=JR (l:=(nd t u).kids) (i:=2) (by omega)
  by_cases he:(a:Int)=(nd t u).kids.getD 2 0
  ·have e1:((a:Int) == (nd t u).kids.getD 2 0)=true:=beq_iff_eq.2 he
   rw[if_pos he]
   simp -implicitDefEqProofs only[c114,go_sem,tRw,Jc,hg,Nd.cv,kbE,h47,hkl,hlen,hg2,e1]
   exact ⟨by omega,by omega,.lit rfl⟩
  ·have e1:((a:Int) == (nd t u).kids.getD 2 0)=false:=beq_eq_false_iff_ne.2 he
   rw[if_neg he]
   simp -implicitDefEqProofs only[c114,go_sem,tRw,Jc,hg,Nd.cv,kbE,h47,hkl,hlen,hg2,e1]
   exact ⟨by omega,by omega,.nil⟩
 have b47:((nd t u).k == 47)=false:=beq_eq_false_iff_ne.2 h47
 rw[if_neg h47]
 by_cases h28:(nd t u).k=28
 ·rw[if_pos h28]
  simp -implicitDefEqProofs only[c114,go_sem,tRw,Jc,hg,Nd.cv,kbE,h28]
  refine ⟨by omega,?_⟩
  refine JV (JcV t ha) ?_
  by_cases h43:(nd t a).k=43
  ·rw[if_pos h43]
   simp -implicitDefEqProofs only[go_sem,kbE,h43]
   exact .nil
  have b43:((nd t a).k == 43)=false:=beq_eq_false_iff_ne.2 h43
  rw[if_neg h43]
  by_cases h41:(nd t a).k=41∨(nd t a).k=44
  ·rw[if_pos h41]
   have hK:=XY ht (x:=(u:Int)) (k:=43)
   rw[Gg]at hK
   have hB:=binds_le ht (u:=u)
   have b41:((nd t a).k == 41)=true∨((nd t a).k == 41)=false∧((nd t a).k == 44)=true:=by
    rcases h41 with h | h <;> simp[h]
   rcases b41 with b41 | ⟨b41,b44⟩
   ·simp -implicitDefEqProofs only[go_sem,kbE,b43,b41]
    refine Jdr (.inl rfl) (Jfm g ht hu 43) ?_
    simp -implicitDefEqProofs only[go_sem]
    refine JV ((nBinds g ht hu).fn rfl (Jd _)) ?_
    generalize Qh t u 43=L at hK ⊢
    generalize Yq t u=M at hB ⊢
    cases M with
    |nil=>
     simp -implicitDefEqProofs only[go_sem,Qw,Gi]
     exact .row (id:=1) rfl rfl
    |cons x xs=>
     simp only[Gb]at hB
     simp -implicitDefEqProofs only[go_sem,JY,Jf,JJ]
     refine ⟨⟨by omega,by omega⟩,.row (id:=2) (by rw[Y1,JY,Kl,Jf,Jf]) (by rw[Y1,JY,Km]; rfl)⟩
   ·simp -implicitDefEqProofs only[go_sem,kbE,b43,b41,b44]
    refine Jdr (.inl rfl) (Jfm g ht hu 43) ?_
    simp -implicitDefEqProofs only[go_sem]
    refine JV ((nBinds g ht hu).fn rfl (Jd _)) ?_
    generalize Qh t u 43=L at hK ⊢
    generalize Yq t u=M at hB ⊢
    cases M with
    |nil=>
     simp -implicitDefEqProofs only[go_sem,Qw,Gi]
     exact .row (id:=1) rfl rfl
    |cons x xs=>
     simp only[Gb]at hB
     simp -implicitDefEqProofs only[go_sem,JY,Jf,JJ]
     refine ⟨⟨by omega,by omega⟩,.row (id:=2) (by rw[Y1,JY,Kl,Jf,Jf]) (by rw[Y1,JY,Km]; rfl)⟩
  ·have b41:((nd t a).k == 41)=false:=beq_eq_false_iff_ne.2 fun h=>h41 (.inl h)
   have b44:((nd t a).k == 44)=false:=beq_eq_false_iff_ne.2 fun h=>h41 (.inr h)
   rw[if_neg h41]
   simp -implicitDefEqProofs only[go_sem,kbE,b43,b41,b44]
   refine Jdr (.inl rfl) (Jfm g ht hu 43) ?_
   simp -implicitDefEqProofs only[go_sem]
   exact .row (id:=1) rfl rfl
 have b28:((nd t u).k == 28)=false:=beq_eq_false_iff_ne.2 h28
 rw[if_neg h28]
 simp -implicitDefEqProofs only[c114,go_sem,tRw,Jc,hg,Nd.cv,kbE,b40,b65,b47,b28]
 exact ⟨by omega,.nil⟩
omit g in
theorem decl_le {u a:Nat}:(Jb0 t u a).length≤1000:=by
 have hB:=binds_le ht (u:=u)
 have hK:∀ k,(Qh t u k).length≤30:=fun k=>by
  have:=XY ht (x:=(u:Int)) (k:=k)
  rwa [Gg]at this
 have h1:=hK 64
 have h2:=hK 43
 unfold Jb0
 repeat' split
 all_goals first | omega | simp only[Gl,Gb,Gt]; omega
omit ht in
theorem sight_sort {j:Nat}(hj:j < t.nodes.length):(Xr t t.nodes.length j).mergeSort (fun x y=>decide (x≤y))=JbD t j:=by
 refine JfJ (sort_strict (climb_nodup g _ _ hj)) (JaP.filter _) fun x=>?_
 unfold JbD
 rw[sort_mem,List.mem_filter,List.contains_iff_mem]
 constructor
 ·intro h
  have:=climb_who g _ _ _ hj h
  exact ⟨Qp.2 ⟨this.1,this.2.1⟩,h⟩
 ·exact fun h=>h.2
theorem nSight {j:Nat}(hj:j < t.nodes.length):Fn Ga 89 [.rptr (tRw t),.int .i64 (j:Int)] (.rslc 1 (iz (JbD t j)) none):=by
 have hmany:=g.many
 rw[← sight_sort g hj]
 refine Jfw (KI c89_ok fun N=>?_) rfl (Jd _)
 simp -implicitDefEqProofs only[c89,go_sem]
 refine XU ?_
 simp only[go_sem,Gm]
 generalize hC:Xr t t.nodes.length j=C
 refine JG (σ:=Nat×Nat×List Int) (I:=fun s=>s.2.1 < t.nodes.length∧t.nodes.length≤s.2.1+s.1∧s.2.2++Xr t s.1 s.2.1=C∧s.2.2.length+1000*s.1≤1000*t.nodes.length) (inv:=fun s=>gp [(0,.rptr (tRw t)),(3,QC 0 (iz s.2.2)),(0,.int .i64 (s.2.1:Int))] 31) (hp:=fun s=>[Xu 1 (iz s.2.2)]) (μ:=fun s=>t.nodes.length-s.2.1) (t.nodes.length,j,[]) [0] ⟨hj,by simp only; omega,by simp[hC],by simp⟩ rfl ?_ rfl ?_
 ·simp[forget,JF,ren,Jo,gp,QC,iz]
 ·rintro ⟨f,a,acc⟩ ⟨ha,hf,hacc,hlen⟩
  dsimp only at ha hf hacc hlen
  obtain ⟨f,rfl⟩:∃ f',f=f' + 1:=⟨f-1,by omega⟩
  rw[Xr]at hacc
  rcases QI g ha with ⟨hp,_⟩ | ⟨m,hp,ham,hm,_⟩
  ·have e1:((-1:Int) != -1)=false:=by decide
   rw[hp,if_pos (by decide),Gi]at hacc
   simp -implicitDefEqProofs only[go_sem,tRw,KL,upz ha,hp,e1]
   refine ⟨by omega,?_⟩
   cases acc with
   |nil=>
    rw[← hacc]
    simp -implicitDefEqProofs only[go_sem,Qw,Qn]
    refine JV sortNil ?_
    simp -implicitDefEqProofs only[go_sem,List.mergeSort_nil,Qw,Qn,QX]
    exact ⟨0,rfl⟩
   |cons x xs=>
    rw[← hacc]
    simp only[Gb]at hlen
    have hne:(x::xs).mergeSort (fun x y=>decide (x≤y))≠[]:=by
     intro e
     have:=congrArg List.length e
     rw[Gq]at this
     simp at this
    have hl2:(iz ((x::xs).mergeSort fun x y=>decide (x≤y)))≠[]:=by simpa [iz]using hne
    simp -implicitDefEqProofs only[go_sem,JY,Xl,JbF,Jf]
    refine Xc (.inl rfl) (sortRow (l:=x::xs) (by simp) (by simp only[Gb]; omega) rfl) fun v H' ⟨h1,h2⟩=>?_
    subst h1 h2
    simp -implicitDefEqProofs only[go_sem]
    refine ⟨0,by rw[Qz hl2,Jf,Gq]; rfl,by rw[Qd hl2]; rfl⟩
  ·have e1:((m:Int) != -1)=true:=bne_iff_ne.2 (by omega)
   rw[hp,if_neg (by omega),Gg,← List.append_assoc]at hacc
   have hdl:=decl_le ht (u:=m) (a:=a)
   simp -implicitDefEqProofs only[go_sem,tRw,KL,upz ha,hp,e1]
   refine ⟨by omega,by omega,?_⟩
   refine JV ((nDeclares g ht hm ha).fn rfl (Jd _)) ?_
   generalize Jb0 t m a=xs at hacc hdl ⊢
   cases xs with
   |nil=>
    rw[Gi]at hacc
    simp -implicitDefEqProofs only[go_sem,tRw,KL,upz ha,hp,Qw]
    refine ⟨by omega,(f,m,acc),[0],⟨hm,by simp only; omega,hacc,by simp only; omega⟩,by simp only; omega,rfl,?_,?_⟩
    ·simp only[Kw,Gf,Gh,go_sem,KU (Jb (Jd acc))]
    ·simp[forget,JF,ren,Jo,Qo,tRw]
   |cons x xs=>
    simp only[Gb]at hdl
    simp -implicitDefEqProofs only[go_sem,tRw,KL,upz ha,hp,JY,Jf,Jdu,JJ]
    refine ⟨⟨by omega,by omega⟩,by omega,(f,m,acc++x::xs),[1],⟨hm,by simp only; omega,hacc,by simp only[Gl,Gb]; omega⟩,by simp only; omega,rfl,?_,?_⟩
    ·rw[Y1,JY,Km]
     simp only[Kw,Gf,Gh,go_sem,Jp]
     simp[Jb (Jd acc),Jb (Jd xs),JF,ren]
    ·rw[Y1,JY,Kl]
     simp[forget,JF,ren,Jo,Jf,tRw]
end
end
end Go.Cm
end
end
