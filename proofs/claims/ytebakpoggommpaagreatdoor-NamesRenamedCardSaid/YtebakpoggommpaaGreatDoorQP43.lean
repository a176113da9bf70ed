/-
  A part of the proof. Conditions: none.
-/
import Derived.Test.YtebakpoggommpaaGreatDoorQP40
set_option linter.unusedSimpArgs false
set_option linter.unusedVariables false
open Bool renaming not_true→Gi,not_false→Gl,true_and→Gj,false_and→Gn,false_or→Gr,true_or→Gu,and_false→GG,or_false→GQ,and_eq_true_iff→Ha,false_eq_true→Hd,eq_iff_iff→HZ,and_true→H5,or_true→H6
open List renaming getD_eq_getElem?_getD→Gm,drop_zero→Gf,map_cons→Gc,getElem?_eq_getElem→Gp,map_nil→Gd,length_cons→Gg,range→Ga,drop_eq_nil_of_le→Gs,append_nil→Gq,take_of_length_le→Gv,length_nil→Gt,length_filter_le→Gw,length_append→Gx,drop_eq_getElem_cons→GH,getElem_mem→Gy,nil_append→GA,any_cons→Gz,take_succ_eq_append_getElem→G5,mem_filter→GI,find?_cons→GJ,find?_nil→GK,drop_succ_cons→GU,any_nil→GD,set_cons_zero→GV,set_cons_succ→GX,contains_iff_mem→G6,cons_append→GY,mem_of_mem_drop→G7,replicate→GZ,contains_eq_any_beq→He,length_take→G8,length_pos_of_mem→Hf,length_mergeSort→Hg,mem_of_getElem?→Hl,take_succ_cons→Hm,length_range→Ho,range_succ→Hq,mem_append→Hr,length_eraseIdx_of_lt→H7,take_zero→Ht,getElem?_eq_some_iff→H8,all_cons→Hu,getElem?_set_self→H9,take→G9,all_nil→Hw,length_reverse→La,mergeSort_nil→Lb,find?_eq_none→Lc,filter_append→Ld,contains_cons→Le,contains_nil→Lf,any_eq_false→Lg,length_drop→Lh,filter_cons→Li,drop_length→Lj,take_left'→Ll,map_append→Lm,length_map→Lp,filter_nil→Lr,any_append→Ls,mem_range→Lt,map_set→Lu,length→Lv
open Go.Proofs.Tryz renaming prog→Gb
open Int renaming toNat_natCast→Gh,le_refl→GL,lt_or_le→Lx
open Nat renaming zero_add→GM,le_trans→GN,le_refl→GR,mul_le_mul→Hy,add_zero→Hz,mul_le_mul_right→LA,one_mul→HV,add_mul→HY,le_add_right→LB
noncomputable section
section
set_option maxRecDepth 100000
set_option maxHeartbeats 4000000
open Go.Proofs
namespace Go.Cm
section
theorem kbE {k m:Nat}:((k:Int) == no_index (@OfNat.ofNat Int m _))=(k == m):=by
 rw[HZ,beq_iff_eq,beq_iff_eq]; exact Int.ofNat_inj
theorem kbN {k m:Nat}:((k:Int) != no_index (@OfNat.ofNat Int m _)) = !(k == m):=by rw[bne,kbE]
def tRw (t:Tr):List CV:=[.rslc 5 (ndz t.nodes) none,.rslc 1 (iz t.items) none,.rslc 1 (iz (upT t)) none,.rslc 1 (iz (JcX t)) none]
theorem fitN {t:Tr}(ht:t.Fit) {i:Nat}(hi:i < t.nodes.length):(nd t i).Fit:=ht.nodes _ (by unfold nd; rw[Gm,Gp hi]; exact Gy hi)
theorem Kt {t:Tr}{i:Nat}(h:i < t.nodes.length):(ndz t.nodes).getD i []=(nd t i).cv:=KQ h
theorem upz {t:Tr}{i:Nat}(h:i < t.nodes.length):(iz (upT t)).getD i []=[.int .i64 (Kb t i)]:=by rw[JP (by rw[Jdh]; exact h),upT_get h]
theorem itz {t:Tr}{i:Nat}(h:i < t.nodes.length):(iz (JcX t)).getD i []=[.int .i64 (J5 t i)]:=by rw[JP (by rw[JbY]; exact h),itemT_get h]
theorem Qe {t:Tr}:(iz (upT t)).length=t.nodes.length:=by rw[Jf,Jdh]
theorem itz_len {t:Tr}:(iz (JcX t)).length=t.nodes.length:=by rw[Jf,JbY]
theorem Jcv (t:Tr) {i:Nat}(hi:i < t.nodes.length):Fn Gb 49 [.rptr (tRw t),.int .i64 (i:Int)] (.int .u8 ((nd t i).k:Int)):=by
 have hg:=Kt hi
 refine Jb c49_ok rfl rfl fun N=>?_
 simp -implicitDefEqProofs only[c49,go_sem,tRw,Jc,hg,Nd.cv]
 omega
theorem nInside (t:Tr) {i:Nat}(hi:i < t.nodes.length):Fn Gb 101 [.rptr (tRw t),.int .i64 (i:Int)] (.bool (!((nd t i).k == 43))):=by
 refine Jb c101_ok rfl rfl fun N=>?_
 simp -implicitDefEqProofs only[c101,go_sem]
 refine JR (Jcv t hi) ?_
 simp -implicitDefEqProofs only[go_sem,kbN]
def bz (l:List Nat):List (List CV):=l.map fun i:Nat=>[.int .u8 (i:Int)]
theorem bz_len {l:List Nat}:(bz l).length=l.length:=by simp[bz]
theorem bz_get {l:List Nat}{i:Nat}(h:i < l.length):(bz l).getD i []=[.int .u8 (l.getD i 0:Nat)]:=by
 simp[bz,Gm,Gp h]
theorem bz_closed:∀ (l:List Nat),Jw (bz l)=true
 |[]=>rfl
 |x::l=>by simp[bz,Jw,Jv,CV.closed]; exact bz_closed l
theorem indexB (l:List Nat) (x:Nat) (hl:l.length≤100000):Fn Gb 143 [.rslc 1 (bz l) none,.int .u8 (x:Int)] (.int .i64 (Q8 (fun y=>x == y) l 0)):=by
 have hil:(bz l).length=l.length:=bz_len
 have hbc:=bz_closed l
 refine Jb c143_ok rfl rfl fun N=>?_
 simp -implicitDefEqProofs only[c143,go_sem,hil]
 refine JC (I:=fun i:Nat=>i≤l.length∧Q8 (fun y=>x == y) l 0=Q8 (fun y=>x == y) (l.drop i) i) (inv:=fun i=>gp [(0,.rslc 1 (bz l) none),(0,.int .u8 x),(5,.int .i64 (l.length:Int)),(0,.int .i64 (i:Int))] 10) (hp:=fun _=>[]) (μ:=fun i=>l.length-i) 0 ⟨by omega,rfl⟩ ?_ rfl ?_
 ·simp[forget,gp]
 ·rintro i ⟨hi,hinv⟩
  by_cases hlt:i < l.length
  ·have d1:((i:Int) < (l.length:Int))=True:=Jo
   have hgi:=bz_get hlt
   have hge:l[i]? = some (l.getD i 0):=by rw[Gm,Gp hlt]; rfl
   rw[QS hge]at hinv
   have en:=JcV (l.getD i 0) x
   simp -implicitDefEqProofs only[go_sem,hil,d1,hgi,en]
   generalize l.getD i 0=y at hinv ⊢
   refine ⟨by omega,?_⟩
   cases he:(x == y) with
   |true=>
    rw[he,if_pos rfl]at hinv
    simp -implicitDefEqProofs only[go_sem,hinv]
   |false=>
    rw[he]at hinv
    simp -implicitDefEqProofs only[go_sem]
    refine ⟨Jj,i+1,⟨by omega,by simpa using hinv⟩,by omega,?_⟩
    simp[forget]
  ·have d1:((i:Int) < (l.length:Int))=False:=Jn
   rw[Gs (by omega)]at hinv
   simp -implicitDefEqProofs only[go_sem,d1,hinv,Q8]
theorem containsB (l:List Nat) (x:Nat) (hl:l.length≤100000):Fn Gb 111 [.rslc 1 (bz l) none,.int .u8 (x:Int)] (.bool (l.contains x)):=by
 refine Jb c111_ok rfl rfl fun N=>?_
 simp -implicitDefEqProofs only[c111,go_sem]
 refine JR (indexB l x hl) ?_
 have e:decide (0≤Q8 (fun y=>x == y) l 0)=l.contains x:=by rw[Ja5,He]
 simp -implicitDefEqProofs only[go_sem,e]
theorem nIsDecl (t:Tr) {i:Nat}(hi:i < t.nodes.length):Fn Gb 69 [.rptr (tRw t),.int .i64 (i:Int)] (.bool (Kh (nd t i).k)):=by
 have e:[65,64,42,43,47].contains (nd t i).k=Kh (nd t i).k:=by
  simp only[Le,Lf,GQ,Kh,Bool.or_assoc]
 refine Jb c69_ok rfl rfl fun N=>?_
 simp -implicitDefEqProofs only[c69,go_sem]
 refine Je (id:=0) (z:=1) (els:=bz [65,64,42,43,47]) rfl rfl ?_
 simp only[go_sem,JS,Ki,frz,KP,bz,Gc,Gd,Gg,Gt,Gf,Hm,Ht]
 refine JR (Jcv t hi) ?_
 simp -implicitDefEqProofs only[go_sem]
 refine JR (containsB [65,64,42,43,47] _ (by simp)) ?_
 simp -implicitDefEqProofs only[go_sem,e]
section
variable {t:Tr}{o:List Int}(g:GoodT t o)
include g
theorem nBelow {j0 a:Nat}(hj0:j0 < t.nodes.length) (ha:a < t.nodes.length):Fn Gb 55 [.rptr (tRw t),.int .i64 (j0:Int),.int .i64 (a:Int)] (.bool (Jae o j0 a)):=by
 refine Jb c55_ok rfl rfl fun N=>?_
 simp -implicitDefEqProofs only[c55,go_sem]
 refine JC (σ:=Int) (I:=fun v=>(v = -1∧Jae o j0 a=false)∨∃ j:Nat,v=j∧j < t.nodes.length∧Jae o j0 a=Jae o j a) (inv:=fun v=>gp [(0,.rptr (tRw t)),(0,.int .i64 v),(0,.int .i64 (a:Int))] 21) (hp:=fun _=>[]) (μ:=fun v=>if v < 0 then 0 else t.nodes.length-v.toNat+1) (j0:Int) (.inr ⟨j0,rfl,hj0,rfl⟩) ?_ rfl ?_
 ·simp[forget,gp]
 ·rintro v (⟨rfl,hb⟩ | ⟨j,rfl,hj,hb⟩)
  ·have e1:(((-1:Int)) != -1)=false:=by decide
   have e2:((-1:Int) == (a:Int))=false:=beq_eq_false_iff_ne.2 (by omega)
   simp -implicitDefEqProofs only[go_sem,e1,e2,hb]
  ·have e1:((j:Int) != -1)=true:=bne_iff_ne.2 (by omega)
   by_cases he:j=a
   ·subst he
    have e2:((j:Int) != (j:Int))=false:=by simp
    have e3:((j:Int) == (j:Int))=true:=by simp
    have e4:=Kr.2 (Yn g hj)
    simp -implicitDefEqProofs only[go_sem,e1,e2,e3,hb,e4]
   ·have e2:((j:Int) != (a:Int))=true:=bne_iff_ne.2 (by omega)
    have hp:=par_rng g hj
    have hu:=blw_up g hj ha he
    simp -implicitDefEqProofs only[go_sem,e1,e2,tRw,Qe,upz hj]
    refine ⟨by omega,Kb t j,?_,?_,?_⟩
    ·rcases Qv g hj with ⟨h,_⟩ | ⟨m,h,h1,h2,_⟩
     ·rw[h,if_pos (by decide)]at hu
      exact .inl ⟨h,by rw[hb,hu]⟩
     ·rw[h,if_neg (by omega),Gh]at hu
      exact .inr ⟨m,h,h2,by rw[hb,hu]⟩
    ·rcases Qv g hj with ⟨h,_⟩ | ⟨m,h,h1,h2,_⟩
     ·show (if Kb t j < 0 then 0 else _) < (if (j:Int) < 0 then 0 else _)
      rw[h,if_pos (by decide),if_neg (by omega)]; omega
     ·rw[h,if_neg (by omega),if_neg (by omega)]; omega
    ·simp[forget,tRw]
theorem lastz {m:Nat}(hm:m < t.nodes.length) (hlen:0 < (nd t m).kids.length):(iz (nd t m).kids).getD ((nd t m).kids.length-1) []=[.int .i64 (JH t m:Int)]:=by
 rw[JP (by omega)]
 have h4:(nd t m).kids.getD ((nd t m).kids.length-1) 0∈(nd t m).kids:=by
  rw[Gm,Gp (by omega)]; exact Gy _
 have h5:=(g.kid hm h4).1
 have:((JH t m:Nat):Int)=(nd t m).kids.getD ((nd t m).kids.length-1) 0:=by unfold JH; omega
 rw[this]
theorem nLate (ht:t.Fit) {a0 s:Nat}(hs:s < t.nodes.length) (hk:(nd t s).k=41) (hb0:blw o a0 (JH t s)):Fn Gb 100 [.rptr (tRw t),.int .i64 (a0:Int),.int .i64 (s:Int)] (.bool (buL t (upL t (JH t s) t.nodes.length a0) false)):=by
 have htop:=(set_kid g hs hk).1
 have htl:JH t s < t.nodes.length:=by have:=(JW g hs htop).2; omega
 generalize hR:buL t (upL t (JH t s) t.nodes.length a0) false=R
 refine Jb c100_ok rfl rfl fun N=>?_
 simp -implicitDefEqProofs only[c100,go_sem]
 refine JC (σ:=Nat×Bool) (I:=fun s'=>blw o s'.1 (JH t s)∧∃ f,t.nodes.length≤s'.1+f∧R=buL t (upL t (JH t s) f s'.1) s'.2) (inv:=fun s'=>gp [(0,.rptr (tRw t)),(1,.int .i64 (s:Int)),(4,.bool s'.2),(0,.int .i64 (s'.1:Int))] 64) (hp:=fun _=>[]) (μ:=fun s'=>t.nodes.length-s'.1) (a0,false) ⟨hb0,t.nodes.length,by omega,hR.symm⟩ ?_ rfl ?_
 ·simp[forget,gp]
 ·rintro ⟨a,late⟩ ⟨hb,f,hf,hinv⟩
  dsimp only at hb hf hinv
  have ha:a < t.nodes.length:=by have:=hb.1; omega
  rcases late_step g (late:=late) hs htop hb hf with ⟨he,hp⟩ | ⟨hne,m,f',hp,hms,ham,hm,hbm,hkid,hf',hstep⟩
  ·have e1:((s:Int) != (s:Int))=false:=by simp
   subst he
   rw[late_end]at hinv
   simp -implicitDefEqProofs only[go_sem,tRw,Qe,upz ha,hp,e1,hinv]
   omega
  ·have e1:((m:Int) != (s:Int))=true:=bne_iff_ne.2 (by omega)
   have hg:=Kt hm
   rw[hstep]at hinv
   have hlen:0 < (nd t m).kids.length:=Hf hkid
   have hkl:(iz (nd t m).kids).length=(nd t m).kids.length:=Jf
   have hgl:=lastz g hm hlen
   have hkn:(nd t m).kids.length < 9223372036854775807:=by have:=(fitN ht hm).kidn; omega
   simp -implicitDefEqProofs only[go_sem,tRw,Qe,upz ha,hp,e1,Jc,hg,Nd.cv]
   refine ⟨by omega,by omega,by omega,?_⟩
   refine JR (Jcv t hm) ?_
   have fin:∀ late',late'=Jal t m a late→(blw o m (JH t s)∧∃ f,t.nodes.length≤m+f∧R=buL t (upL t (JH t s) f m) late'):=fun late' h=>⟨hbm,f',hf',by rw[h]; exact hinv⟩
   have en:=JcV (JH t m) a
   by_cases h4:(nd t m).k=4
   ·have hst:Jal t m a late=true:=by unfold Jal; rw[if_pos h4]
    simp -implicitDefEqProofs only[go_sem,kbE,h4,tRw,Qe,upz ha,hp]
    refine ⟨by omega,(m,true),fin true hst.symm,by simp only; omega,?_⟩
    simp[forget,tRw]
   ·have b4:((nd t m).k == 4)=false:=beq_eq_false_iff_ne.2 h4
    by_cases h5:(nd t m).k=46∨(nd t m).k=47
    ·have hst:Jal t m a late=(late || a == JH t m):=by unfold Jal; rw[if_neg h4,if_pos h5]
     have b5:((nd t m).k == 46)=true∨((nd t m).k == 46)=false∧((nd t m).k == 47)=true:=by
      rcases h5 with h | h <;> simp[h]
     rcases b5 with b5 | ⟨b5,b6⟩
     ·cases late with
      |true=>
       simp -implicitDefEqProofs only[go_sem,kbE,b4,b5,tRw,Qe,upz ha,hp]
       refine ⟨by omega,(m,true),fin true (by rw[hst]; rfl),by simp only; omega,?_⟩
       simp[forget,tRw]
      |false=>
       simp -implicitDefEqProofs only[go_sem,kbE,b4,b5,tRw,Qe,upz ha,hp,hkl,hgl,en]
       refine ⟨Jj,by omega,by omega,(m,a == JH t m),fin _ (by rw[hst]; rfl),by simp only; omega,?_⟩
       simp[forget,tRw]
     ·cases late with
      |true=>
       simp -implicitDefEqProofs only[go_sem,kbE,b4,b5,b6,tRw,Qe,upz ha,hp]
       refine ⟨by omega,(m,true),fin true (by rw[hst]; rfl),by simp only; omega,?_⟩
       simp[forget,tRw]
      |false=>
       simp -implicitDefEqProofs only[go_sem,kbE,b4,b5,b6,tRw,Qe,upz ha,hp,hkl,hgl,en]
       refine ⟨Jj,by omega,by omega,(m,a == JH t m),fin _ (by rw[hst]; rfl),by simp only; omega,?_⟩
       simp[forget,tRw]
    ·have b5:((nd t m).k == 46)=false:=beq_eq_false_iff_ne.2 fun h=>h5 (.inl h)
     have b6:((nd t m).k == 47)=false:=beq_eq_false_iff_ne.2 fun h=>h5 (.inr h)
     by_cases h7:(nd t m).k=28
     ·have b7:((nd t m).k == 28)=true:=by simp[h7]
      have hst:Jal t m a late=(late && (nd t a).k == 43):=by unfold Jal; rw[if_neg h4,if_neg h5,if_pos h7]
      cases late with
      |true=>
       simp -implicitDefEqProofs only[go_sem,kbE,b4,b5,b6,b7]
       refine JV (gok rfl) (nInside t ha) ?_
       simp -implicitDefEqProofs only[go_sem,tRw,Qe,upz ha,hp,Bool.not_not]
       refine ⟨by omega,(m,(nd t a).k == 43),fin _ (by rw[hst]; rfl),by simp only; omega,?_⟩
       simp[forget,tRw]
      |false=>
       simp -implicitDefEqProofs only[go_sem,kbE,b4,b5,b6,b7,tRw,Qe,upz ha,hp]
       refine ⟨by omega,(m,false),fin _ (by rw[hst]; rfl),by simp only; omega,?_⟩
       simp[forget,tRw]
     ·have b7:((nd t m).k == 28)=false:=beq_eq_false_iff_ne.2 h7
      have hst:Jal t m a late=late:=by unfold Jal; rw[if_neg h4,if_neg h5,if_neg h7]
      simp -implicitDefEqProofs only[go_sem,kbE,b4,b5,b6,b7,tRw,Qe,upz ha,hp]
      refine ⟨by omega,(m,late),fin _ hst.symm,by simp only; omega,?_⟩
      simp[forget,tRw]
end
end
theorem kidsK_take {t:Tr}{u k i:Nat}(h:i < (nd t u).kids.length):((nd t u).kids.take (i+1)).filter (fun c=>Jq t.nodes c == k)=((nd t u).kids.take i).filter (fun c=>Jq t.nodes c == k)++if Jq t.nodes ((nd t u).kids.getD i 0) == k then [(nd t u).kids.getD i 0] else []:=by
 rw[G5 h,Ld,Gm,Gp h,Option.getD_some,Li,Lr]
theorem kids_len_le {t:Tr}{u k i:Nat}:(((nd t u).kids.take i).filter (fun c=>Jq t.nodes c == k)).length≤(nd t u).kids.length:=
 GN (Gw _ _) (by rw[G8]; omega)
theorem nKids (t:Tr) (ht:t.Fit) {u:Nat}(hu:u < t.nodes.length) (hK:∀ k∈(nd t u).kids,0≤k∧k < t.nodes.length) (k:Nat):Jbi Gb 76 [.rptr (tRw t),.int .i64 (u:Int),.int .u8 (k:Int)] 1 (iz (QE t u k)):=by
 have hg:=Kt hu
 have hkn:=(fitN ht hu).kidn
 have hkl:(iz (nd t u).kids).length=(nd t u).kids.length:=Jf
 refine Ja4 (J7 c76_ok fun N=>?_) rfl (Jd _)
 simp -implicitDefEqProofs only[c76,go_sem,tRw,Jc,hg,Nd.cv,hkl]
 refine ⟨by omega,?_⟩
 refine Q3 ?_
 simp only[go_sem,GA]
 generalize hF:(fun c=>Jq t.nodes c == k)=F
 refine Jy (I:=fun i:Nat=>i≤(nd t u).kids.length) (inv:=fun i=>gp [(0,.rptr (tRw t)),(1,.int .u8 (k:Int)),(3,KN 0 (iz (((nd t u).kids.take i).filter F))),(10,.rslc 1 (iz (nd t u).kids) none),(0,.int .i64 ((nd t u).kids.length:Int)),(0,.int .i64 (i:Int))] 14) (hp:=fun i=>[Qi 1 (iz (((nd t u).kids.take i).filter F))]) (μ:=fun i=>(nd t u).kids.length-i) 0 [0] (by omega) rfl ?_ rfl ?_
 ·simp[forget,JA,ren,Jl,gp,tRw,iz,KN]
 ·intro i hi
  by_cases hlt:i < (nd t u).kids.length
  ·have d1:((i:Int) < ((nd t u).kids.length:Int))=True:=Jo
   have hgi:=JP hlt
   have htk:=kidsK_take (k:=k) hlt
   have hle:=kids_len_le (t:=t) (u:=u) (k:=k) (i:=i)
   have hmem:(nd t u).kids.getD i 0∈(nd t u).kids:=by rw[Gm,Gp hlt]; exact Gy hlt
   have hb:=hK _ hmem
   rw[hF]at htk hle
   generalize (nd t u).kids.getD i 0=c at htk hgi hb
   obtain ⟨c,rfl⟩:∃ c':Nat,c=c':=⟨c.toNat,by omega⟩
   generalize ((nd t u).kids.take i).filter F=acc at htk hle
   simp -implicitDefEqProofs only[go_sem,d1,hkl,hgi]
   refine ⟨by omega,?_⟩
   refine JR (Jcv t (by omega)) ?_
   have en:=JcV k (nd t c).k
   have ek:Jq t.nodes (c:Int)=(nd t c).k:=by unfold Jq nd; rw[Gh]
   rw[ek]at htk
   cases hq:(nd t c).k == k with
   |false=>
    rw[hq]at htk en
    simp only[Hd,if_false,Gq]at htk
    simp -implicitDefEqProofs only[go_sem,en]
    refine ⟨Jj,i+1,[0],by omega,by omega,rfl,?_,?_⟩
    ·rw[htk]; simp only[Ke,Gc,Gd,go_sem,Kk (Ja (Jd acc))]
    ·rw[htk]; simp[forget,JA,ren,Jl,tRw,KC]
   |true=>
    rw[hq]at htk en
    simp only[if_true]at htk
    simp -implicitDefEqProofs only[go_sem,en,Jf,Jr]
    refine ⟨⟨by omega,by omega⟩,Jj,i+1,[2],by omega,by omega,rfl,?_,?_⟩
    ·rw[htk,Ka,JZ]
     simp only[Ke,Gc,Gd,go_sem,Ji]
     simp[Ja (Jd acc),JA,ren]
    ·rw[htk,Ka,JY]
     simp[forget,JA,ren,Jl,tRw,Jf]
  ·have d1:((i:Int) < ((nd t u).kids.length:Int))=False:=Jn
   rw[Gv (by omega)]
   rw[show (nd t u).kids.filter F=QE t u k by rw[← hF]; rfl]
   simp -implicitDefEqProofs only[go_sem,d1]
   exact ⟨0,rfl,rfl⟩
section
theorem Jd2 {z bytes id:Nat}{H:List CObj}{els:List (List CV)}:KJ z bytes H (KN id els) []=some (.tt,KN id els,H):=by cases els <;> rfl
attribute [go_sem] Jd2
theorem QN:iz []=[]:=rfl
theorem Kg {x:Int}{l:List Int}:iz (x::l)=[.int .i64 x]::iz l:=rfl
theorem Kz {a b:List Int}:iz (a++b)=iz a++iz b:=by simp[iz]
theorem JdZ {f:Int→List Int}{b:Nat}(h:∀ x,(f x).length≤b):∀ l:List Int,((l.map f).flatten).length≤l.length*b
 |[]=>by simp
 |x::l=>by
  have h1:=h x
  have h2:=JdZ h l
  simp only[Gc,List.flatten_cons,Gx,Gg,HY,HV]
  omega
theorem kidsK_len {t:Tr}{u k:Nat}:(QE t u k).length≤(nd t u).kids.length:=Gw _ _
theorem flat_take {f:Int→List Int}{l:List Int}{i:Nat}(h:i < l.length):((l.take (i+1)).map f).flatten=((l.take i).map f).flatten++f (l.getD i 0):=by
 rw[G5 h,Lm,List.flatten_append,Gm,Gp h]
 simp
theorem JdP {t:Tr}{o:List Int}(g:GoodT t o) {u k:Nat}(hu:u < t.nodes.length) {c:Int}(hc:c∈QE t u k):0≤c∧c < t.nodes.length:=by
 have:=g.kid hu (KU.1 hc).1; omega
theorem Yk {t:Tr}(ht:t.Fit) {x:Int}{k:Nat}:(QE t x.toNat k).length≤30:=by
 rcases Nat.lt_or_ge x.toNat t.nodes.length with h | h
 ·exact GN kidsK_len (fitN ht h).kidn
 ·have:nd t x.toNat=default:=by unfold nd; rw[Gm,List.getElem?_eq_none h]; rfl
  refine GN kidsK_len ?_
  rw[this]; exact Nat.zero_le _
theorem binds_le {t:Tr}(ht:t.Fit) {u:Nat}:(YJ t u).length≤900:=by
 have h1:=JdZ (f:=fun s:Int=>QE t s.toNat 42) (b:=30) (fun x=>Yk ht) (QE t u 41)
 have h2:=Yk ht (x:=(u:Int)) (k:=41)
 rw[Gh]at h2
 unfold YJ
 omega
section
variable {t:Tr}{o:List Int}(g:GoodT t o) (ht:t.Fit)
include g ht
theorem Je7 {u:Nat}(hu:u < t.nodes.length) (k:Nat):Jbi Gb 76 [.rptr (tRw t),.int .i64 (u:Int),.int .u8 (k:Int)] 1 (iz (QE t u k)):=
 nKids t ht hu (fun c hc=>by have:=g.kid hu hc; omega) k
theorem nKidsF {u:Nat}(hu:u < t.nodes.length) (k:Nat):Fn Gb 76 [.rptr (tRw t),.int .i64 (u:Int),.int .u8 (k:Int)] (.rslc 1 (iz (QE t u k)) none):=
 (Je7 g ht hu k).fn rfl (Jd _)
theorem nBinds {u:Nat}(hu:u < t.nodes.length):Jbi Gb 188 [.rptr (tRw t),.int .i64 (u:Int)] 1 (iz (YJ t u)):=by
 have hL:=Yk ht (x:=(u:Int)) (k:=41)
 rw[Gh]at hL
 refine Ja4 (J7 c188_ok fun N=>?_) rfl (Jd _)
 simp -implicitDefEqProofs only[c188,go_sem]
 refine JR (nKidsF g ht hu 41) ?_
 have hbl:YJ t u=((QE t u 41).map fun s=>QE t s.toNat 42).flatten:=rfl
 rw[hbl]
 have hr:∀ c∈QE t u 41,0≤c∧c < t.nodes.length:=fun c hc=>JdP g hu hc
 generalize QE t u 41=L at hL hr ⊢
 have hil:(iz L).length=L.length:=Jf
 simp -implicitDefEqProofs only[go_sem,hil]
 refine Q3 ?_
 simp only[go_sem,GA]
 generalize hf:(fun s:Int=>QE t s.toNat 42)=f
 have hfl:∀ x,(f x).length≤30:=fun x=>by rw[← hf]; exact Yk ht
 refine Jy (I:=fun i:Nat=>i≤L.length) (inv:=fun i=>gp [(0,.rptr (tRw t)),(3,KN 0 (iz ((L.take i).map f).flatten)),(4,.rslc 1 (iz L) none),(0,.int .i64 (L.length:Int)),(0,.int .i64 (i:Int))] 10) (hp:=fun i=>[Qi 1 (iz ((L.take i).map f).flatten)]) (μ:=fun i=>L.length-i) 0 [0] (by omega) rfl ?_ rfl ?_
 ·simp[forget,JA,ren,Jl,gp,KN,iz]
 ·intro i hi
  by_cases hlt:i < L.length
  ·have d1:((i:Int) < (L.length:Int))=True:=Jo
   have hgi:=JP hlt
   have hmem:L.getD i 0∈L:=by rw[Gm,Gp hlt]; exact Gy hlt
   have hb:=hr _ hmem
   have hft:=flat_take (f:=f) hlt
   have hfx:f (L.getD i 0)=QE t (L.getD i 0).toNat 42:=by rw[← hf]
   have hflx:=hfl (L.getD i 0)
   have hacc:=JdZ hfl (L.take i)
   rw[G8]at hacc
   generalize ((L.take i).map f).flatten=acc at hacc hft ⊢
   generalize f (L.getD i 0)=xs at hfx hflx hft
   generalize L.getD i 0=c at hgi hb hfx
   obtain ⟨c,rfl⟩:∃ c':Nat,c=c':=⟨c.toNat,by omega⟩
   rw[Gh]at hfx
   simp -implicitDefEqProofs only[go_sem,d1,hil,hgi]
   refine ⟨by omega,?_⟩
   refine JR (nKidsF g ht (by omega) 42) ?_
   rw[← hfx]
   cases xs with
   |nil=>
    rw[Gq]at hft
    simp -implicitDefEqProofs only[go_sem,QN]
    refine ⟨Jj,i+1,[0],by omega,by omega,rfl,?_,?_⟩
    ·rw[hft]; simp only[Ke,Gc,Gd,go_sem,Kk (Ja (Jd acc))]
    ·rw[hft]; simp[forget,JA,ren,Jl,KC]
   |cons x xs=>
    simp only[Gg]at hflx
    simp -implicitDefEqProofs only[go_sem,Kg,Jf,Jr]
    refine ⟨⟨by omega,by omega⟩,Jj,i+1,[1],by omega,by omega,rfl,?_,?_⟩
    ·rw[hft,Kz,Kg,JZ]
     simp only[Ke,Gc,Gd,go_sem,Ji]
     simp[Ja (Jd acc),Ja (Jd xs),JA,ren]
    ·rw[hft,Kz,Kg,JY]
     simp[forget,JA,ren,Jl,Jf]
  ·have d1:((i:Int) < (L.length:Int))=False:=Jn
   rw[Gv (by omega)]
   simp -implicitDefEqProofs only[go_sem,d1]
   exact ⟨0,rfl,rfl⟩
end
end
section
section
variable {P:Program}{E:Env}{H:List CObj}
theorem CallsC.pad {f:Nat}{args:List CV}{R R':CV→List CObj→Prop}(h:CallsC P E f args H R) (hR:∀ v H',R v H'→R' v H'∨R' v (H'++[.dead])):CallsC P E f args H R':=by
 intro m w vs hs hv
 refine (h m w vs hs hv).mono ?_
 rintro e w' ⟨r,m',v,H',h1,h2,h3,h4,h5⟩
 rcases hR _ _ h5 with g | g
 ·exact ⟨r,m',v,H',h1,h2,h3,h4,g⟩
 ·obtain ⟨t1,t2,t3⟩:=h3.pad (n0:=H.length)
  exact ⟨r,_,v,_,h1,h2.trans t3,t1,QV t2 (Kl.refl _) _ _ h4,g⟩
def RowR (z:Nat) (els:List (List CV)) (v:CV) (H':List CObj):Prop:=(∃ id,v=KN id els∧H'[id]? = some (Qi z els))∨(v=.nils∧els=[])∨∃ id c,v=.slc id 0 els.length (some c)∧H'[id]? = some (.arr z els)∧els≠[]
theorem RowR.row {z id:Nat}{els:List (List CV)}{v:CV}{H':List CObj}(h1:v=KN id els) (h2:H'[id]? = some (Qi z els)):RowR z els v H':=.inl ⟨id,h1,h2⟩
theorem RowR.nil {z:Nat}{H':List CObj}:RowR z [] .nils H':=.inr (.inl ⟨rfl,rfl⟩)
theorem RowR.lit {z id c:Nat}{e:List CV}{els:List (List CV)}{H':List CObj}(h2:H'[id]? = some (.arr z (e::els))):RowR z (e::els) (.slc id 0 (els.length+1) (some c)) H':=.inr (.inr ⟨id,c,rfl,h2,by simp⟩)
theorem Jb0 {f:Nat}{args:List CV}{z:Nat}{els:List (List CV)}(h:CallsC P Env.none f args [] (RowR z els)) (ha:Jv args=true) (hc:Jw els=true):Jbi P f args z els:=
 Ja4 ((h.wk (R':=fun v H'=>(∃ id,v=KN id els∧H'[id]? = some (Qi z els))∨(v=.nils∧els=[])) fun v H' hv=>by
  rcases hv with hv | hv | ⟨id,c,rfl,h2,h3⟩
  ·exact ⟨v,wk.refl _,.inl hv⟩
  ·exact ⟨v,wk.refl _,.inr hv⟩
  ·exact ⟨_,wk_cap,.inl ⟨id,(QA h3).symm,by rw[Qk h3]; exact h2⟩⟩).pad fun v H' hv=>by
  rcases hv with hv | ⟨rfl,rfl⟩
  ·exact .inl hv
  ·exact .inr ⟨H'.length,rfl,by simp; rfl⟩) ha hc
end
section
variable {t:Tr}{o:List Int}(g:GoodT t o) (ht:t.Fit)
include g ht
theorem nDeclares {u a:Nat}(hu:u < t.nodes.length) (ha:a < t.nodes.length):Jbi Gb 159 [.rptr (tRw t),.int .i64 (u:Int),.int .i64 (a:Int)] 1 (iz (Jbg t u a)):=by
 have hg:=Kt hu
 have hkl:(iz (nd t u).kids).length=(nd t u).kids.length:=Jf
 have bu:((u:Int) < (t.nodes.length:Int))=True:=Jo
 refine Jb0 (J7 c159_ok fun N=>?_) rfl (Jd _)
 unfold Jbg
 by_cases h40:(nd t u).k=40
 ·rw[if_pos h40]
  simp -implicitDefEqProofs only[c159,go_sem,tRw,Jc,hg,Nd.cv,kbE,h40]
  refine ⟨by omega,?_⟩
  refine Jdf (.inl rfl) (nBinds g ht hu) ?_
  simp -implicitDefEqProofs only[go_sem]
  exact .row (id:=1) rfl rfl
 have b40:((nd t u).k == 40)=false:=beq_eq_false_iff_ne.2 h40
 rw[if_neg h40]
 by_cases h65:(nd t u).k=65
 ·rw[if_pos h65]
  simp -implicitDefEqProofs only[c159,go_sem,tRw,Jc,hg,Nd.cv,kbE,h65]
  refine ⟨by omega,?_⟩
  refine Jdf (.inl rfl) (Je7 g ht hu 64) ?_
  simp -implicitDefEqProofs only[go_sem]
  exact .row (id:=1) rfl rfl
 have b65:((nd t u).k == 65)=false:=beq_eq_false_iff_ne.2 h65
 rw[if_neg h65]
 by_cases h47:(nd t u).k=47
 ·rw[if_pos h47]
  have hlen:(nd t u).kids.length=3:=(Jam g hu h47).1
  have hg2:=JP (l:=(nd t u).kids) (i:=2) (by omega)
  by_cases he:(a:Int)=(nd t u).kids.getD 2 0
  ·have e1:((a:Int) == (nd t u).kids.getD 2 0)=true:=beq_iff_eq.2 he
   rw[if_pos he]
   simp -implicitDefEqProofs only[c159,go_sem,tRw,Jc,hg,Nd.cv,kbE,h47,hkl,hlen,hg2,e1]
   exact ⟨by omega,by omega,.lit rfl⟩
  ·have e1:((a:Int) == (nd t u).kids.getD 2 0)=false:=beq_eq_false_iff_ne.2 he
   rw[if_neg he]
   simp -implicitDefEqProofs only[c159,go_sem,tRw,Jc,hg,Nd.cv,kbE,h47,hkl,hlen,hg2,e1]
   exact ⟨by omega,by omega,.nil⟩
 have b47:((nd t u).k == 47)=false:=beq_eq_false_iff_ne.2 h47
 rw[if_neg h47]
 by_cases h28:(nd t u).k=28
 ·rw[if_pos h28]
  simp -implicitDefEqProofs only[c159,go_sem,tRw,Jc,hg,Nd.cv,kbE,h28]
  refine ⟨by omega,?_⟩
  refine JR (Jcv t ha) ?_
  by_cases h43:(nd t a).k=43
  ·rw[if_pos h43]
   simp -implicitDefEqProofs only[go_sem,kbE,h43]
   exact .nil
  have b43:((nd t a).k == 43)=false:=beq_eq_false_iff_ne.2 h43
  rw[if_neg h43]
  by_cases h41:(nd t a).k=41∨(nd t a).k=44
  ·rw[if_pos h41]
   have hK:=Yk ht (x:=(u:Int)) (k:=43)
   rw[Gh]at hK
   have hB:=binds_le ht (u:=u)
   have b41:((nd t a).k == 41)=true∨((nd t a).k == 41)=false∧((nd t a).k == 44)=true:=by
    rcases h41 with h | h <;> simp[h]
   rcases b41 with b41 | ⟨b41,b44⟩
   ·simp -implicitDefEqProofs only[go_sem,kbE,b43,b41]
    refine Jdf (.inl rfl) (Je7 g ht hu 43) ?_
    simp -implicitDefEqProofs only[go_sem]
    refine JR ((nBinds g ht hu).fn rfl (Jd _)) ?_
    generalize QE t u 43=L at hK ⊢
    generalize YJ t u=M at hB ⊢
    cases M with
    |nil=>
     simp -implicitDefEqProofs only[go_sem,QN,Gq]
     exact .row (id:=1) rfl rfl
    |cons x xs=>
     simp only[Gg]at hB
     simp -implicitDefEqProofs only[go_sem,Kg,Jf,Jr]
     refine ⟨⟨by omega,by omega⟩,.row (id:=2) (by rw[Kz,Kg,JY,Jf,Jf]) (by rw[Kz,Kg,JZ]; rfl)⟩
   ·simp -implicitDefEqProofs only[go_sem,kbE,b43,b41,b44]
    refine Jdf (.inl rfl) (Je7 g ht hu 43) ?_
    simp -implicitDefEqProofs only[go_sem]
    refine JR ((nBinds g ht hu).fn rfl (Jd _)) ?_
    generalize QE t u 43=L at hK ⊢
    generalize YJ t u=M at hB ⊢
    cases M with
    |nil=>
     simp -implicitDefEqProofs only[go_sem,QN,Gq]
     exact .row (id:=1) rfl rfl
    |cons x xs=>
     simp only[Gg]at hB
     simp -implicitDefEqProofs only[go_sem,Kg,Jf,Jr]
     refine ⟨⟨by omega,by omega⟩,.row (id:=2) (by rw[Kz,Kg,JY,Jf,Jf]) (by rw[Kz,Kg,JZ]; rfl)⟩
  ·have b41:((nd t a).k == 41)=false:=beq_eq_false_iff_ne.2 fun h=>h41 (.inl h)
   have b44:((nd t a).k == 44)=false:=beq_eq_false_iff_ne.2 fun h=>h41 (.inr h)
   rw[if_neg h41]
   simp -implicitDefEqProofs only[go_sem,kbE,b43,b41,b44]
   refine Jdf (.inl rfl) (Je7 g ht hu 43) ?_
   simp -implicitDefEqProofs only[go_sem]
   exact .row (id:=1) rfl rfl
 have b28:((nd t u).k == 28)=false:=beq_eq_false_iff_ne.2 h28
 rw[if_neg h28]
 simp -implicitDefEqProofs only[c159,go_sem,tRw,Jc,hg,Nd.cv,kbE,b40,b65,b47,b28]
 exact ⟨by omega,.nil⟩
omit g in
theorem decl_le {u a:Nat}:(Jbg t u a).length≤1000:=by
 have hB:=binds_le ht (u:=u)
 have hK:∀ k,(QE t u k).length≤30:=fun k=>by
  have:=Yk ht (x:=(u:Int)) (k:=k)
  rwa [Gh]at this
 have h1:=hK 64
 have h2:=hK 43
 unfold Jbg
 repeat' split
 all_goals first | omega | simp only[Gx,Gg,Gt]; omega
omit ht in
theorem sight_sort {j:Nat}(hj:j < t.nodes.length):(XM t t.nodes.length j).mergeSort (fun x y=>decide (x≤y))=Qj t j:=by
 refine Jel (sort_strict (climb_nodup g _ _ hj)) (Jbb.filter _) fun x=>?_
 unfold Qj
 rw[JfH,GI,G6]
 constructor
 ·intro h
  have:=climb_who g _ _ _ hj h
  exact ⟨J2.2 ⟨this.1,this.2.1⟩,h⟩
 ·exact fun h=>h.2
theorem nSight {j:Nat}(hj:j < t.nodes.length):Fn Gb 128 [.rptr (tRw t),.int .i64 (j:Int)] (.rslc 1 (iz (Qj t j)) none):=by
 have hmany:=g.many
 rw[← sight_sort g hj]
 refine Jfi (J7 c128_ok fun N=>?_) rfl (Jd _)
 simp -implicitDefEqProofs only[c128,go_sem]
 refine Q3 ?_
 simp only[go_sem,GA]
 generalize hC:XM t t.nodes.length j=C
 refine Jy (σ:=Nat×Nat×List Int) (I:=fun s=>s.2.1 < t.nodes.length∧t.nodes.length≤s.2.1+s.1∧s.2.2++XM t s.1 s.2.1=C∧s.2.2.length+1000*s.1≤1000*t.nodes.length) (inv:=fun s=>gp [(0,.rptr (tRw t)),(3,KN 0 (iz s.2.2)),(0,.int .i64 (s.2.1:Int))] 31) (hp:=fun s=>[Qi 1 (iz s.2.2)]) (μ:=fun s=>t.nodes.length-s.2.1) (t.nodes.length,j,[]) [0] ⟨hj,by simp only; omega,by simp[hC],by simp⟩ rfl ?_ rfl ?_
 ·simp[forget,JA,ren,Jl,gp,KN,iz]
 ·rintro ⟨f,a,acc⟩ ⟨ha,hf,hacc,hlen⟩
  dsimp only at ha hf hacc hlen
  obtain ⟨f,rfl⟩:∃ f',f=f' + 1:=⟨f-1,by omega⟩
  rw[XM]at hacc
  rcases Qv g ha with ⟨hp,_⟩ | ⟨m,hp,ham,hm,_⟩
  ·have e1:((-1:Int) != -1)=false:=by decide
   rw[hp,if_pos (by decide),Gq]at hacc
   simp -implicitDefEqProofs only[go_sem,tRw,Qe,upz ha,hp,e1]
   refine ⟨by omega,?_⟩
   cases acc with
   |nil=>
    rw[← hacc]
    simp -implicitDefEqProofs only[go_sem,QN,Qu]
    refine JR sortNil ?_
    simp -implicitDefEqProofs only[go_sem,Lb,QN,Qu,Xc]
    exact ⟨0,rfl⟩
   |cons x xs=>
    rw[← hacc]
    simp only[Gg]at hlen
    have hne:(x::xs).mergeSort (fun x y=>decide (x≤y))≠[]:=by
     intro e
     have:=congrArg Lv e
     rw[Hg]at this
     simp at this
    have hl2:(iz ((x::xs).mergeSort fun x y=>decide (x≤y)))≠[]:=by simpa [iz]using hne
    simp -implicitDefEqProofs only[go_sem,Kg,QQ,Yx,Jf]
    refine J8 (.inl rfl) (sortRow (l:=x::xs) (by simp) (by simp only[Gg]; omega) rfl) fun v H' ⟨h1,h2⟩=>?_
    subst h1 h2
    simp -implicitDefEqProofs only[go_sem]
    refine ⟨0,by rw[QA hl2,Jf,Hg]; rfl,by rw[Qk hl2]; rfl⟩
  ·have e1:((m:Int) != -1)=true:=bne_iff_ne.2 (by omega)
   rw[hp,if_neg (by omega),Gh,← List.append_assoc]at hacc
   have hdl:=decl_le ht (u:=m) (a:=a)
   simp -implicitDefEqProofs only[go_sem,tRw,Qe,upz ha,hp,e1]
   refine ⟨by omega,by omega,?_⟩
   refine JR ((nDeclares g ht hm ha).fn rfl (Jd _)) ?_
   generalize Jbg t m a=xs at hacc hdl ⊢
   cases xs with
   |nil=>
    rw[Gq]at hacc
    simp -implicitDefEqProofs only[go_sem,tRw,Qe,upz ha,hp,QN]
    refine ⟨by omega,(f,m,acc),[0],⟨hm,by simp only; omega,hacc,by simp only; omega⟩,by simp only; omega,rfl,?_,?_⟩
    ·simp only[Ke,Gc,Gd,go_sem,Kk (Ja (Jd acc))]
    ·simp[forget,JA,ren,Jl,KC,tRw]
   |cons x xs=>
    simp only[Gg]at hdl
    simp -implicitDefEqProofs only[go_sem,tRw,Qe,upz ha,hp,Kg,Jf,Jdh,Jr]
    refine ⟨⟨by omega,by omega⟩,by omega,(f,m,acc++x::xs),[1],⟨hm,by simp only; omega,hacc,by simp only[Gx,Gg]; omega⟩,by simp only; omega,rfl,?_,?_⟩
    ·rw[Kz,Kg,JZ]
     simp only[Ke,Gc,Gd,go_sem,Ji]
     simp[Ja (Jd acc),Ja (Jd xs),JA,ren]
    ·rw[Kz,Kg,JY]
     simp[forget,JA,ren,Jl,Jf,tRw]
end
end
section
theorem Jb1 {q:Int→Bool}:∀ (l:List Int) (i:Nat),(Q8 q l i = -1∧l.find? q=none)∨∃ j,j < l.length∧Q8 q l i=((i+j:Nat):Int)∧l.find? q=some (l.getD j 0)
 |[],i=>.inl ⟨rfl,rfl⟩
 |x::l,i=>by
  rw[Q8,GJ]
  cases hq:q x with
  |true=>exact .inr ⟨0,by simp,by simp,by simp⟩
  |false=>
   rcases Jb1 l (i+1) with ⟨h1,h2⟩ | ⟨j,h1,h2,h3⟩
   ·exact .inl ⟨by simpa using h1,h2⟩
   ·exact .inr ⟨j+1,by simpa using h1,by simp[h2]; omega,by simpa using h3⟩
theorem indexFI {f:Nat}{l1 l2:List CV}{F:IFunc}(l:List Int) (q:Int→Bool) (cap:Option Nat) (hF:Jg Gb f=some F) (hc1:Jv l1=true) (hc2:Jv l2=true)
  (hq:∀ p∈l,Fn Gb f (l1++[.int .i64 p]++l2) (.bool (q p))) (hlen:l.length≤1000000):Fn Gb 81 [.rslc 1 (iz l) cap,.fn f l1 l2] (.int .i64 (Q8 q l 0)):=by
 have hil:(iz l).length=l.length:=Jf
 refine Jb c81_ok (by simp[Jv,CV.closed,hc1,hc2]) rfl fun N=>?_
 simp -implicitDefEqProofs only[c81,go_sem,hil]
 refine JC (I:=fun i:Nat=>i≤l.length∧Q8 q l 0=Q8 q (l.drop i) i) (inv:=fun i=>gp [(0,.rslc 1 (iz l) cap),(0,.fn f l1 l2),(5,.int .i64 l.length),(0,.int .i64 i)] 10) (hp:=fun _=>[]) (μ:=fun i=>l.length-i) 0 ⟨by omega,rfl⟩ ?_ rfl ?_
 ·simp[forget,gp]
 ·rintro i ⟨hi,hinv⟩
  by_cases hlt:i < l.length
  ·have d1:((i:Int) < (l.length:Int))=True:=Jo
   have hgi:=JP hlt
   have hge:l[i]? = some (l.getD i 0):=by rw[Gm,Gp hlt]; rfl
   have hm:l.getD i 0∈l:=Hl hge
   rw[QS hge]at hinv
   simp -implicitDefEqProofs only[go_sem,hil,d1,hgi]
   refine ⟨by omega,?_⟩
   refine vr_fv (.inl rfl) rfl hF (JaZ Je0 _) (hq _ hm) ?_
   cases hb:q (l.getD i 0) with
   |true=>
    rw[hb,if_pos rfl]at hinv
    simp -implicitDefEqProofs only[go_sem,hinv]
   |false=>
    rw[hb]at hinv
    simp -implicitDefEqProofs only[go_sem]
    refine ⟨Jj,i+1,⟨by omega,by simpa using hinv⟩,by omega,?_⟩
    simp[forget]
  ·have d1:((i:Int) < (l.length:Int))=False:=Jn
   rw[Gs (by omega)]at hinv
   simp -implicitDefEqProofs only[go_sem,hil,d1,hinv,Q8]
theorem nNamed1 (t:Tr) (s:List UInt8) {i:Nat}(hi:i < t.nodes.length):Fn Gb 158 [.int .i64 (i:Int),.rptr [.rptr (tRw t)],.rptr [S s]] (.bool ((nd t i).text == s)):=by
 have hg:=Kt hi
 refine Jb c158_ok rfl rfl fun N=>?_
 simp -implicitDefEqProofs only[c158,go_sem]
 refine JQ Jz (by decide) ?_
 simp -implicitDefEqProofs only[go_sem,tRw,Jc,hg,Nd.cv]
 omega
theorem nNamed (t:Tr) (s:List UInt8) (l:List Int) (hl:∀ d∈l,0≤d∧d < t.nodes.length) (hlen:l.length≤1000000):Fn Gb 127 [.rptr (tRw t),.rslc 1 (iz l) none,S s] (.int .i64 (Y9 t l s)):=by
 have hil:(iz l).length=l.length:=Jf
 unfold Y9
 generalize hq:(fun d:Int=>(nd t d.toNat).text == s)=q
 refine Jb c127_ok rfl rfl fun N=>?_
 simp -implicitDefEqProofs only[c127,go_sem]
 refine Je (id:=0) (z:=1) (els:=[[.rptr (tRw t)]]) rfl rfl ?_
 simp only[go_sem,JS,Ki,frz,KP,Gf]
 refine Je (id:=1) (z:=1) (els:=[[S s]]) rfl rfl ?_
 simp only[go_sem,JS,Ki,frz,KP,Gf]
 refine JR (indexFI l q none c158_ok rfl rfl (fun p hp=>?_) hlen) ?_
 ·have hb:=hl p hp
  obtain ⟨p,rfl⟩:∃ p':Nat,p=p':=⟨p.toNat,by omega⟩
  have h:=nNamed1 t s (i:=p) (by omega)
  rw[← hq]
  simpa only[GA,GY,Gh]using h
 ·rcases Jb1 (q:=q) l 0 with ⟨h1,h2⟩ | ⟨j,h1,h2,h3⟩
  ·have e1:((-1:Int) < 0)=True:=Jo
   simp -implicitDefEqProofs only[go_sem,h1,h2,e1]
  ·rw[GM]at h2
   have e1:((j:Int) < 0)=False:=Jn
   have hgj:=JP h1
   simp -implicitDefEqProofs only[go_sem,h2,h3,e1,hil,hgj]
   omega
section
variable {t:Tr}{o:List Int}(g:GoodT t o) (ht:t.Fit)
include g ht
theorem nMeaning {i:Nat}(hi:i < t.nodes.length):Fn Gb 95 [.rptr (tRw t),.int .i64 (i:Int)] (.tup [.int .i64 (JO t o i),.bool (JJ t i)]):=by
 have hg:=Kt hi
 have hmany:=g.many
 have hitm:=ht.items
 refine Jb c95_ok rfl rfl fun N=>?_
 unfold JO JJ
 by_cases h3:(nd t i).k=3
 ·have hm:=Jbw g hi (by omega)
  have hs:∀ d∈Qj t i,0≤d∧d < t.nodes.length:=fun d hd=>J2.1 (GI.1 hd).1
  have hsl:(Qj t i).length≤1000000:=by
   have:=Gw (fun d=>(XM t t.nodes.length i).contains d) (Kq t)
   unfold Qj
   have h2:(Kq t).length=t.nodes.length:=by simp[Kq]
   omega
  have hN:=nNamed t (nd t i).text (Qj t i) hs hsl
  rw[hm]at hN
  simp -implicitDefEqProofs only[c95,go_sem,tRw,Jc,hg,Nd.cv,kbE,h3]
  refine ⟨by omega,?_⟩
  refine Je (id:=0) (z:=5) (els:=[(nd t i).cv]) (by simp only[Nd.cv,h3]; rfl) rfl ?_
  simp only[go_sem,JS,Ki,frz,KP,Gf]
  refine JQ Jz (by decide) ?_
  simp -implicitDefEqProofs only[go_sem,Nd.cv]
  refine J4 (.inl rfl) (nSight g ht hi) ?_
  simp -implicitDefEqProofs only[go_sem,Nd.cv]
  refine J4 (.inl rfl) hN ?_
  simp -implicitDefEqProofs only[go_sem,if_true,BEq.rfl,Gu]
 have b3:((nd t i).k == 3)=false:=beq_eq_false_iff_ne.2 h3
 rw[if_neg h3,b3,Gr]
 by_cases h26:(nd t i).k=26
 ·have hN:=nNamed t (nd t i).text t.items (fun d hd=>by have:=g.itr hd; omega) (by omega)
  rw[call_means g]at hN
  simp -implicitDefEqProofs only[c95,go_sem,tRw,Jc,hg,Nd.cv,kbE,h26]
  refine ⟨by omega,?_⟩
  refine Je (id:=0) (z:=5) (els:=[(nd t i).cv]) (by simp only[Nd.cv,h26]; rfl) rfl ?_
  simp only[go_sem,JS,Ki,frz,KP,Gf]
  refine JQ Jz (by decide) ?_
  simp -implicitDefEqProofs only[go_sem,Nd.cv]
  refine J4 (.inl rfl) hN ?_
  simp -implicitDefEqProofs only[go_sem,if_true,BEq.rfl,Gu]
 have b26:((nd t i).k == 26)=false:=beq_eq_false_iff_ne.2 h26
 rw[if_neg h26,b26,Gr]
 by_cases h44:(nd t i).k=44
 ·obtain ⟨u,hu1,hu2,hu3,hu4⟩:=Qs g hi (by omega)
  have hK:=Yk ht (x:=(u:Int)) (k:=43)
  rw[Gh]at hK
  have hN:=nNamed t (nd t i).text (QE t u 43) (fun d hd=>JdP g hu2 hd) (by omega)
  rw[next_means g hu2 hu1]at hN
  simp -implicitDefEqProofs only[c95,go_sem,tRw,Jc,hg,Nd.cv,kbE,h44]
  refine ⟨by omega,?_⟩
  refine Je (id:=0) (z:=5) (els:=[(nd t i).cv]) (by simp only[Nd.cv,h44]; rfl) rfl ?_
  simp only[go_sem,JS,Ki,frz,KP,Gf]
  refine JQ Jz (by decide) ?_
  simp -implicitDefEqProofs only[go_sem,Nd.cv,Qe,upz hi,hu1]
  refine ⟨by omega,?_⟩
  refine J4 (.inl rfl) (nKidsF g ht hu2 43) ?_
  simp -implicitDefEqProofs only[go_sem,Nd.cv]
  refine J4 (.inl rfl) hN ?_
  simp -implicitDefEqProofs only[go_sem,if_true,BEq.rfl,Gu]
 have b44:((nd t i).k == 44)=false:=beq_eq_false_iff_ne.2 h44
 rw[if_neg h44,b44]
 simp -implicitDefEqProofs only[c95,go_sem,tRw,Jc,hg,Nd.cv,kbE,b3,b26,b44]
 omega
def twQ (t:Tr) (i k:Nat):Bool:=(nd t k).text == (nd t i).text && (if (nd t i).k=44 then (nd t k).k == 44 && Kb t k == Kb t i else if (nd t i).k=65 then (nd t k).k == 65 else !((nd t k).k == 65) && (Kh (nd t k).k && J5 t k == J5 t i))
omit g ht in
theorem nTwice1 {i k:Nat}(hi:i < t.nodes.length) (hk:k < t.nodes.length):Fn Gb 129 [.int .i64 (k:Int),.rptr [.rptr (tRw t)],.rptr (nd t i).cv,.rptr [.int .i64 (i:Int)]] (.bool (twQ t i k)):=by
 have hg:=Kt hk
 refine Jb c129_ok rfl rfl fun N=>?_
 unfold twQ
 cases ht:(nd t k).text == (nd t i).text with
 |false=>
  simp -implicitDefEqProofs only[c129,go_sem,tRw,Jc,hg,Nd.cv,ht,Gl,Gn]
  omega
 |true=>
  rw[Gj]
  by_cases h44:(nd t i).k=44
  ·rw[if_pos h44]
   simp -implicitDefEqProofs only[c129,go_sem,tRw,Jc,hg,Nd.cv,ht,kbE,h44,Gi]
   refine ⟨by omega,?_⟩
   refine Je (id:=0) (z:=5) (els:=[(nd t k).cv]) rfl rfl ?_
   simp only[go_sem,JS,Ki,frz,KP,Gf,Nd.cv]
   refine JQ Jz (by decide) ?_
   cases hkk:(nd t k).k == 44 with
   |false=>
    simp -implicitDefEqProofs only[go_sem,kbE,hkk,Gn]
   |true=>
    simp -implicitDefEqProofs only[go_sem,kbE,hkk,Qe,upz hi,upz hk,Gj]
    omega
  have b44:((nd t i).k == 44)=false:=beq_eq_false_iff_ne.2 h44
  rw[if_neg h44]
  by_cases h65:(nd t i).k=65
  ·rw[if_pos h65]
   simp -implicitDefEqProofs only[c129,go_sem,tRw,Jc,hg,Nd.cv,ht,kbE,h65,Gi]
   omega
  have b65:((nd t i).k == 65)=false:=beq_eq_false_iff_ne.2 h65
  rw[if_neg h65]
  simp -implicitDefEqProofs only[c129,go_sem,tRw,Jc,hg,Nd.cv,ht,kbE,b44,b65,Gi]
  refine ⟨by omega,?_⟩
  refine Je (id:=0) (z:=5) (els:=[(nd t k).cv]) rfl rfl ?_
  simp only[go_sem,JS,Ki,frz,KP,Gf,Nd.cv]
  refine JQ Jz (by decide) ?_
  cases hkk:(nd t k).k == 65 with
  |true=>
   simp -implicitDefEqProofs only[go_sem,kbN,hkk,Gi,Gn]
  |false=>
   simp -implicitDefEqProofs only[go_sem,kbN,hkk,Gl,Gj]
   refine J4 (gok rfl) (nIsDecl t hk) ?_
   cases hd:Kh (nd t k).k with
   |false=>
    simp -implicitDefEqProofs only[go_sem,Gn]
   |true=>
    have en:=JcV (J5 t i) (J5 t k)
    simp -implicitDefEqProofs only[go_sem,tRw,itz_len,itz hi,itz hk,en,Gj]
    omega
end
end
section
theorem Qg {n i:Nat}(h:i < n):(Ga n).drop i=i::(Ga n).drop (i+1):=by
 rw[GH (by simpa using h),List.getElem_range]
theorem any_skip {q:Nat→Bool}{n:Nat}:∀ (m:Nat),m≤n→(∀ i,i < m→q i=false)→(Ga n).any q=((Ga n).drop m).any q
 |0,_,_=>by rw[Gf]
 |m+1,h,hq=>by rw[any_skip m (by omega) fun i hi=>hq i (by omega),Qg (by omega),Gz,hq m (by omega),Gr]
theorem YA (k:Nat):Fn Gb 29 [.int .u8 (k:Int)] (.bool (Kh k)):=by
 refine Jb c29_ok rfl rfl fun N=>?_
 cases h1:(k == 65) <;> cases h2:(k == 64) <;> cases h3:(k == 42) <;> cases h4:(k == 43) <;> cases h5:(k == 47) <;>
  simp -implicitDefEqProofs only[c29,go_sem,kbE,h1,h2,h3,h4,h5,Kh,GQ,H6,Gu,Gr]
theorem JfT (k:Nat):Fn Gb 59 [.int .u8 (k:Int)] (.bool (k == 3 || k == 26 || k == 44)):=by
 refine Jb c59_ok rfl rfl fun N=>?_
 cases h1:(k == 3) <;> cases h2:(k == 26) <;> cases h3:(k == 44) <;>
  simp -implicitDefEqProofs only[c59,go_sem,kbE,h1,h2,h3,GQ,H6,Gu,Gr]
theorem any_cg {q r:Nat→Bool}:∀ {l:List Nat},(∀ x∈l,q x=r x)→l.any q=l.any r
 |[],_=>rfl
 |x::l,h=>by rw[Gz,Gz,h x (by simp),any_cg fun y hy=>h y (by simp[hy])]
section
variable {t:Tr}{o:List Int}(g:GoodT t o) (ht:t.Fit)
include g ht
theorem YB {j i:Nat}(hi:i < t.nodes.length):Fn Gb 66 [t.cv,.int .i64 (j:Int),.int .i64 (i:Int)] (.bool (Jae o j i)):=by
 have h:=refIsBelow t ht g (j:Int) i hi
 rwa [show (decide ((j:Int)≤(i:Int)) && decide (fs o i≤(j:Int)))=Jae o j i by unfold Jae; rw[decide_eq_decide.2 (Int.ofNat_le (m:=j) (n:=i))]]at h
theorem Jbj {n:Nat}(hn:n < t.nodes.length):Fn Gb 106 [t.cv,.int .i64 (n:Int)] (.int .i64 (Kb t n)):=refParent t ht g n hn
theorem Jcp {u:Nat}(hu:u < t.nodes.length) (hlen:0 < (nd t u).kids.length):Fn Gb 110 [t.cv,.int .i64 (u:Int)] (.int .i64 (JH t u:Int)):=by
 have hg:=Kt hu
 have hkl:(iz (nd t u).kids).length=(nd t u).kids.length:=Jf
 have hgl:=lastz g hu hlen
 have hkn:=(fitN ht hu).kidn
 refine Jb c110_ok rfl rfl fun N=>?_
 simp -implicitDefEqProofs only[c110,go_sem,Tr.cv,Tr.row]
 refine Je (id:=0) (z:=2) (els:=[t.row]) rfl rfl ?_
 simp only[go_sem,JS,Ki,frz,KP]
 refine JQ Jz (by decide) ?_
 simp -implicitDefEqProofs only[go_sem,Tr.row,Jc,hg,Nd.cv,hkl,hgl]
 exact ⟨by omega,by omega,Jj,by omega,by omega⟩
theorem refItemOf {i:Nat}(hi:i < t.nodes.length):Fn Gb 107 [t.cv,.int .i64 (i:Int)] (.int .i64 (XI t o i)):=by
 have hil:(iz t.items).length=t.items.length:=Jf
 have hit:=ht.items
 unfold XI
 generalize hq:(fun L:Int=>Jae o i L.toNat)=q
 refine Jb c107_ok rfl rfl fun N=>?_
 simp -implicitDefEqProofs only[c107,go_sem,Tr.cv,Tr.row]
 refine Je (id:=0) (z:=2) (els:=[t.row]) rfl rfl ?_
 simp only[go_sem,JS,Ki,frz,KP]
 refine JC (I:=fun k:Nat=>k≤t.items.length∧t.items.find? q=(t.items.drop k).find? q) (inv:=fun k=>gp [(1,.int .i64 (i:Int)),(0,.rptr t.row),(2,.int .i64 (k:Int))] 20) (hp:=fun _=>[.dead]) (μ:=fun k=>t.items.length-k) 0 ⟨by omega,rfl⟩ ?_ rfl ?_
 ·simp[forget,gp]
 ·rintro k ⟨hk,hinv⟩
  by_cases hlt:k < t.items.length
  ·have d1:((k:Int) < (t.items.length:Int))=True:=Jo
   have hgk:=JP hlt
   have hmem:t.items.getD k 0∈t.items:=by rw[Gm,Gp hlt]; exact Gy hlt
   have hr:=g.itr hmem
   rw[GH hlt,GJ,show t.items[k]=t.items.getD k 0 by rw[Gm,Gp hlt]; rfl]at hinv
   generalize t.items.getD k 0=L at hgk hr hinv
   obtain ⟨L,rfl⟩:∃ L':Nat,L=L':=⟨L.toNat,by omega⟩
   have hqL:q (L:Int)=Jae o i L:=by rw[← hq]; simp only[Gh]
   simp -implicitDefEqProofs only[go_sem,Tr.row,hil,d1]
   refine JQ Jz (by decide) ?_
   simp -implicitDefEqProofs only[go_sem,Tr.row,hil,hgk]
   refine ⟨by omega,?_⟩
   refine J4 (.inl rfl) (YB g ht (by omega)) ?_
   cases hb:Jae o i L with
   |true=>
    rw[hqL,hb]at hinv
    simp -implicitDefEqProofs only[go_sem,Tr.row,hil,hgk,hinv]
    omega
   |false=>
    rw[hqL,hb]at hinv
    simp -implicitDefEqProofs only[go_sem]
    refine ⟨Jj,k+1,⟨by omega,hinv⟩,by omega,?_⟩
    simp[forget]
  ·have d1:((k:Int) < (t.items.length:Int))=False:=Jn
   rw[Gs (by omega),GK]at hinv
   simp -implicitDefEqProofs only[go_sem,Tr.row,hil,d1,hinv]
def bkQ (t:Tr) (o:List Int) (j u:Nat) (last:Bool) (i:Nat):Bool:=(last || decide (i+1 < (nd t u).kids.length)) && Jae o j (YC t u i)
omit g ht in
theorem bk_drop {j u m:Nat}{last:Bool}:bkB t o j u m last=((Ga (nd t u).kids.length).drop m).any (bkQ t o j u last):=by
 unfold bkB
 by_cases hml:m≤(nd t u).kids.length
 ·rw[any_skip m hml fun i hi=>by rw[decide_eq_false (by omega)]; rfl]
  refine any_cg fun i hi=>?_
  rw[List.range_eq_range',List.drop_range',List.mem_range'_1]at hi
  rw[decide_eq_true (by omega),Gj]; rfl
 ·rw[Gs (by simp; omega),GD,Lg]
  intro i hi
  rw[decide_eq_false (by have:=Lt.1 hi; omega)]; simp
theorem JcN {j u m:Nat}(hu:u < t.nodes.length) (hm:m≤100) (last:Bool):Fn Gb 109 [t.cv,.int .i64 (j:Int),.int .i64 (u:Int),.int .i64 (m:Int),.bool last] (.bool (bkB t o j u m last)):=by
 have hg:=Kt hu
 have hkl:(iz (nd t u).kids).length=(nd t u).kids.length:=Jf
 have hkn:=(fitN ht hu).kidn
 rw[bk_drop]
 generalize hq:bkQ t o j u last=q
 refine Jb c109_ok rfl rfl fun N=>?_
 simp -implicitDefEqProofs only[c109,go_sem,Tr.cv,Tr.row,Jc,hg,Nd.cv]
 refine ⟨by omega,?_⟩
 refine Je (id:=0) (z:=2) (els:=[t.row]) rfl rfl ?_
 simp -implicitDefEqProofs only[go_sem,JS,Ki,frz,KP,Tr.row]
 refine JC (I:=fun i:Nat=>((Ga (nd t u).kids.length).drop m).any q=((Ga (nd t u).kids.length).drop i).any q) (inv:=fun i=>gp [(1,.int .i64 (j:Int)),(2,.bool last),(0,.rptr t.row),(5,.rslc 1 (iz (nd t u).kids) none),(0,.int .i64 (i:Int))] 30) (hp:=fun _=>[.dead]) (μ:=fun i=>(nd t u).kids.length-i) m rfl ?_ rfl ?_
 ·simp[forget,gp,Tr.row]
 ·intro i hinv
  by_cases hlt:i < (nd t u).kids.length
  ·have d1:((i:Int) < ((nd t u).kids.length:Int))=True:=Jo
   have hgi:=JP hlt
   obtain ⟨k1,k2,_⟩:=KY g hu hlt
   have hke:(nd t u).kids.getD i 0=(YC t u i:Int):=by
    have hm:(nd t u).kids.getD i 0∈(nd t u).kids:=by rw[Gm,Gp hlt]; exact Gy hlt
    have:=(g.kid hu hm).1
    unfold YC; omega
   rw[hke]at hgi
   have hB:=YB g ht (j:=j) (i:=YC t u i) (by omega)
   have hqi:q i=((last || decide (i+1 < (nd t u).kids.length)) && Jae o j (YC t u i)):=by rw[← hq]; rfl
   rw[Qg hlt,Gz,hqi]at hinv
   simp -implicitDefEqProofs only[go_sem,hkl,d1]
   refine JQ Jz (by decide) ?_
   cases last with
   |true=>
    rw[Gu,Gj]at hinv
    simp -implicitDefEqProofs only[go_sem,Tr.row,Gg,Gt,hkl,hgi]
    refine ⟨by omega,?_⟩
    refine J4 (gok rfl) hB ?_
    cases hb:Jae o j (YC t u i) with
    |true=>
     rw[hb,Gu]at hinv
     simp -implicitDefEqProofs only[go_sem,hinv]
    |false=>
     rw[hb,Gr]at hinv
     simp -implicitDefEqProofs only[go_sem]
     refine ⟨Jj,i+1,hinv,by omega,?_⟩
     simp[forget,Tr.row]
   |false=>
    rw[Gr]at hinv
    by_cases hl:i+1 < (nd t u).kids.length
    ·have e1:decide ((i:Int) < ((nd t u).kids.length:Int)-1)=true:=decide_eq_true (by omega)
     rw[decide_eq_true hl,Gj]at hinv
     simp -implicitDefEqProofs only[go_sem,Tr.row,Gg,Gt,hkl,hgi,e1]
     refine ⟨Jj,by omega,?_⟩
     refine J4 (gok rfl) hB ?_
     cases hb:Jae o j (YC t u i) with
     |true=>
      rw[hb,Gu]at hinv
      simp -implicitDefEqProofs only[go_sem,hinv]
     |false=>
      rw[hb,Gr]at hinv
      simp -implicitDefEqProofs only[go_sem]
      refine ⟨Jj,i+1,hinv,by omega,?_⟩
      simp[forget,Tr.row]
    ·have e1:decide ((i:Int) < ((nd t u).kids.length:Int)-1)=false:=decide_eq_false (by omega)
     rw[decide_eq_false hl,Gn,Gr]at hinv
     simp -implicitDefEqProofs only[go_sem,hkl,e1]
     refine ⟨Jj,Jj,i+1,hinv,by omega,?_⟩
     simp[forget,Tr.row]
  ·have d1:((i:Int) < ((nd t u).kids.length:Int))=False:=Jn
   rw[show (Ga (nd t u).kids.length).drop i=[] from Gs (by simp; omega),GD]at hinv
   simp -implicitDefEqProofs only[go_sem,hkl,d1,hinv]
theorem refInSight {d j:Nat}(hd:d < t.nodes.length) (hj:j < t.nodes.length):Fn Gb 105 [t.cv,.int .i64 (d:Int),.int .i64 (j:Int)] (.bool (inB t o d j)):=by
 have hg:=Kt hd
 have hP:=Jbj g ht hd
 unfold inB
 refine Jb c105_ok rfl rfl fun N=>?_
 simp -implicitDefEqProofs only[c105,go_sem,Tr.cv,Tr.row]
 refine Je (id:=0) (z:=2) (els:=[t.row]) rfl rfl ?_
 simp -implicitDefEqProofs only[go_sem,JS,Ki,frz,KP,Tr.row]
 refine JR hP ?_
 simp -implicitDefEqProofs only[go_sem,Jc,hg,Nd.cv,kbE]
 refine ⟨by omega,?_⟩
 by_cases h65:(nd t d).k=65
 ·simp -implicitDefEqProofs only[h65,go_sem,if_true]
 have b65:((nd t d).k == 65)=false:=beq_eq_false_iff_ne.2 h65
 rw[if_neg h65]
 by_cases h64:(nd t d).k=64
 ·obtain ⟨u,hu1,hu2,hu3,hu4⟩:=Qs g hd h65
  have hlen:=Hf hu4
  have hlk:=KY g hu2 (i:=(nd t u).kids.length-1) (by omega)
  simp -implicitDefEqProofs only[h64,go_sem,hu1,if_true,Gh]
  refine JQ Jz (by decide) ?_
  simp -implicitDefEqProofs only[go_sem]
  refine J4 (.inl rfl) (Jcp g ht hu2 hlen) ?_
  simp -implicitDefEqProofs only[go_sem]
  refine J4 (.inl rfl) (YB g ht (show JH t u < t.nodes.length by have:=hlk.2.1; unfold YC at this; unfold JH; omega)) ?_
  simp -implicitDefEqProofs only[go_sem]
 have b64:((nd t d).k == 64)=false:=beq_eq_false_iff_ne.2 h64
 rw[if_neg h64]
 by_cases h43:(nd t d).k=43
 ·obtain ⟨u,hu1,hu2,hu3,hu4⟩:=Qs g hd h65
  have hku:(nd t u).k=28:=(JbC (JfY g hu2 hu4)).2.1 (by rw[h43]; rfl)
  obtain ⟨a,b,ha,hab,hbl,_⟩:=Jax g hu2 hku
  have ha':(nd t u).n=(a:Int):=ha
  have hkn:=(fitN ht hu2).kidn
  have hbl':b < (nd t u).kids.length:=hbl
  have hgu:=Kt hu2
  simp -implicitDefEqProofs only[h43,go_sem,hu1,if_true,Gh,ha']
  refine JQ Jz (by decide) ?_
  simp -implicitDefEqProofs only[go_sem,Jc,hgu,Nd.cv,ha']
  refine ⟨by omega,?_⟩
  refine J4 (.inl rfl) (JcN g ht hu2 (by omega) true) ?_
  simp -implicitDefEqProofs only[go_sem]
 have b43:((nd t d).k == 43)=false:=beq_eq_false_iff_ne.2 h43
 rw[if_neg h43]
 by_cases h47:(nd t d).k=47
 ·have hlen:(nd t d).kids.length=3:=(Jam g hd h47).1
  have hlk:=KY g hd (i:=(nd t d).kids.length-1) (by omega)
  simp -implicitDefEqProofs only[h47,go_sem,if_true]
  refine JQ Jz (by decide) ?_
  simp -implicitDefEqProofs only[go_sem]
  refine J4 (.inl rfl) (Jcp g ht hd (by omega)) ?_
  simp -implicitDefEqProofs only[go_sem]
  refine J4 (.inl rfl) (YB g ht (show JH t d < t.nodes.length by have:=hlk.2.1; unfold YC at this; unfold JH; omega)) ?_
  simp -implicitDefEqProofs only[go_sem]
 have b47:((nd t d).k == 47)=false:=beq_eq_false_iff_ne.2 h47
 rw[if_neg h47]
 by_cases h42:(nd t d).k=42
 ·obtain ⟨u,hu1,hu2,hu3,hu4⟩:=Qs g hd h65
  have hku:(nd t u).k=41:=(JbC (JfY g hu2 hu4)).2.2.1 (by rw[h42]; rfl)
  obtain ⟨v,hv1,hv2,hv3,hv4⟩:=Qs g hu2 (by omega)
  have hkv:(nd t v).k=40∨(nd t v).k=28:=(JbC (JfY g hv2 hv4)).2.2.2.1 (by rw[hku]; rfl)
  have hgv:=Kt hv2
  have hPu:=Jbj g ht hu2
  rw[hv1]at hPu
  simp -implicitDefEqProofs only[h42,go_sem,hu1,hv1,if_true,Gh]
  refine JR hPu ?_
  simp -implicitDefEqProofs only[go_sem,Jc,hgv,Nd.cv,kbE]
  refine ⟨by omega,?_⟩
  by_cases h40:(nd t v).k=40
  ·simp -implicitDefEqProofs only[h40,go_sem,if_true]
   refine JR (YB g ht hv2) ?_
   simp -implicitDefEqProofs only[go_sem]
  ·have b40:((nd t v).k == 40)=false:=beq_eq_false_iff_ne.2 h40
   obtain ⟨a,b,ha,hab,hbl,_⟩:=Jax g hv2 (hkv.resolve_left h40)
   have ha':(nd t v).n=(a:Int):=ha
   have hkn:=(fitN ht hv2).kidn
   have hbl':b < (nd t v).kids.length:=hbl
   simp -implicitDefEqProofs only[b40,go_sem,if_neg h40]
   refine JQ Jz (by decide) ?_
   simp -implicitDefEqProofs only[go_sem,Jc,hgv,Nd.cv,ha']
   refine ⟨by omega,Jj,?_⟩
   have hBK:=JcN g ht (j:=j) hv2 (show a+1≤100 by omega) false
   rw[Int.natCast_add,show ((1:Nat):Int)=1 from rfl]at hBK
   refine J4 (.inl rfl) hBK ?_
   simp -implicitDefEqProofs only[go_sem]
 have b42:((nd t d).k == 42)=false:=beq_eq_false_iff_ne.2 h42
 rw[if_neg h42]
 simp -implicitDefEqProofs only[b65,b64,b43,b47,b42,go_sem]
end
end
theorem twN_eq {t:Tr}{i:Nat}:twN t i=if (nd t i).k≠44∧Kh (nd t i).k=false then false else (Ga i).any (twQ t i):=rfl
theorem nTwice {t:Tr}{i:Nat}(hmany:t.nodes.length≤100000) (hi:i < t.nodes.length):Fn Gb 96 [.rptr (tRw t),.int .i64 (i:Int)] (.bool (twN t i)):=by
 have hg:=Kt hi
 refine Jb c96_ok rfl rfl fun N=>?_
 rw[twN_eq]
 simp -implicitDefEqProofs only[c96,go_sem]
 refine Je (id:=0) (z:=1) (els:=[[.rptr (tRw t)]]) rfl rfl ?_
 simp only[go_sem,JS,Ki,frz,KP,Gf]
 refine Je (id:=1) (z:=1) (els:=[[.int .i64 (i:Int)]]) rfl rfl ?_
 simp only[go_sem,JS,Ki,frz,KP,Gf]
 refine Qt [false,false,false,false,false,false,false,false,true,true] Jz (by decide +kernel) ?_
 simp -implicitDefEqProofs only[go_sem]
 refine vh_all (.rptr (tRw t)) (fun _=>rfl) trivial ?_
 by_cases h44:(nd t i).k=44
 ·rw[if_neg (fun h=>h.1 h44)]
  simp -implicitDefEqProofs only[go_sem,tRw,Jc,hg,Nd.cv,kbN,h44]
  refine ⟨by omega,?_⟩
  refine Je (id:=2) (z:=5) (els:=[(nd t i).cv]) (by simp only[Nd.cv,h44]; rfl) rfl ?_
  simp only[go_sem,JS,Ki,frz,KP,Gf]
  refine JC (I:=fun k:Nat=>k≤i∧(Ga i).any (twQ t i)=((Ga i).drop k).any (twQ t i)) (inv:=fun k=>gp [(6,.fn 129 [] [.rptr [.rptr (tRw t)],.rptr (nd t i).cv,.rptr [.int .i64 (i:Int)]]),(19,.int .i64 (i:Int)),(0,.int .i64 (k:Int))] 6) (hp:=fun _=>[.dead,.dead,.dead]) (μ:=fun k=>i-k) 0 ⟨by omega,rfl⟩ ?_ rfl ?_
  ·simp[forget,gp,tRw]
  ·rintro k ⟨hk,hinv⟩
   by_cases hlt:k < i
   ·have d1:((k:Int) < (i:Int))=True:=Jo
    rw[Qg hlt,Gz]at hinv
    simp -implicitDefEqProofs only[go_sem,d1]
    refine vr_fv (.inl rfl) rfl c129_ok (JaZ Je0 _) (nTwice1 hi (by omega)) ?_
    cases hb:twQ t i k with
    |true=>
     rw[hb,Gu]at hinv
     simp -implicitDefEqProofs only[go_sem,hinv]
    |false=>
     rw[hb,Gr]at hinv
     simp -implicitDefEqProofs only[go_sem]
     refine ⟨Jj,k+1,⟨by omega,hinv⟩,by omega,?_⟩
     simp[forget]
   ·have d1:((k:Int) < (i:Int))=False:=Jn
    rw[show (Ga i).drop k=[] from Gs (by simp; omega),GD]at hinv
    simp -implicitDefEqProofs only[go_sem,d1,hinv]
 ·have b44:((nd t i).k == 44)=false:=beq_eq_false_iff_ne.2 h44
  simp -implicitDefEqProofs only[go_sem,tRw,Jc,hg,Nd.cv,kbN,b44,Gl]
  refine ⟨by omega,?_⟩
  refine Je (id:=2) (z:=5) (els:=[(nd t i).cv]) rfl rfl ?_
  simp only[go_sem,JS,Ki,frz,KP,Gf]
  refine JV (gok rfl) (nIsDecl t hi) ?_
  cases hd:Kh (nd t i).k with
  |false=>
   simp -implicitDefEqProofs only[go_sem]
   rw[if_pos h44]
  |true=>
   rw[if_neg (show ¬ ((nd t i).k≠44∧true=false) from fun h=>by cases h.2)]
   simp -implicitDefEqProofs only[go_sem]
   refine JC (I:=fun k:Nat=>k≤i∧(Ga i).any (twQ t i)=((Ga i).drop k).any (twQ t i)) (inv:=fun k=>gp [(6,.fn 129 [] [.rptr [.rptr (tRw t)],.rptr (nd t i).cv,.rptr [.int .i64 (i:Int)]]),(19,.int .i64 (i:Int)),(0,.int .i64 (k:Int))] 6) (hp:=fun _=>[.dead,.dead,.dead]) (μ:=fun k=>i-k) 0 ⟨by omega,rfl⟩ ?_ rfl ?_
   ·simp[forget,gp,tRw]
   ·rintro k ⟨hk,hinv⟩
    by_cases hlt:k < i
    ·have d1:((k:Int) < (i:Int))=True:=Jo
     rw[Qg hlt,Gz]at hinv
     simp -implicitDefEqProofs only[go_sem,d1]
     refine vr_fv (.inl rfl) rfl c129_ok (JaZ Je0 _) (nTwice1 hi (by omega)) ?_
     cases hb:twQ t i k with
     |true=>
      rw[hb,Gu]at hinv
      simp -implicitDefEqProofs only[go_sem,hinv]
     |false=>
      rw[hb,Gr]at hinv
      simp -implicitDefEqProofs only[go_sem]
      refine ⟨Jj,k+1,⟨by omega,hinv⟩,by omega,?_⟩
      simp[forget]
    ·have d1:((k:Int) < (i:Int))=False:=Jn
     rw[show (Ga i).drop k=[] from Gs (by simp; omega),GD]at hinv
     simp -implicitDefEqProofs only[go_sem,d1,hinv]
section
theorem Jen {t:Tr}{j:Nat}(h:j < t.nodes.length):(Kq t).drop j=(j:Int)::(Kq t).drop (j+1):=by
 have hl:(Kq t).length=t.nodes.length:=by simp[Kq]
 rw[GH (by omega)]
 simp[Kq]
theorem Jgz {t:Tr}{j:Nat}(h:t.nodes.length≤j):(Kq t).drop j=[]:=Gs (by simp[Kq]; omega)
section
variable {t:Tr}{o:List Int}(g:GoodT t o) (ht:t.Fit)
include g ht
theorem refMeans3 {i:Nat}(hi:i < t.nodes.length) (hk:(nd t i).k=3):Fn Gb 60 [t.cv,.int .i64 (i:Int)] (.int .i64 (Je8 t o i)):=by
 have hmany:=g.many
 have hg:=Kt hi
 unfold Je8
 refine Jb c60_ok rfl rfl fun N=>?_
 simp -implicitDefEqProofs only[c60,go_sem,Tr.cv,Tr.row,Jc,hg,Nd.cv]
 refine ⟨by omega,?_⟩
 refine Je (id:=0) (z:=2) (els:=[t.row]) rfl rfl ?_
 simp only[go_sem,JS,Ki,frz,KP]
 refine Je (id:=1) (z:=5) (els:=[(nd t i).cv]) rfl rfl ?_
 simp only[go_sem,JS,Ki,frz,KP,Gf]
 generalize hq:(fun d:Int=>(nd t d.toNat).text == (nd t i).text && (Kh (nd t d.toNat).k && (!((nd t d.toNat).k == 65) && inB t o d.toNat i)))=q
 refine Jy (I:=fun j:Nat=>j≤t.nodes.length∧(Kq t).find? q=((Kq t).drop j).find? q) (inv:=fun j=>gp [(1,.int .i64 (i:Int)),(0,.rptr t.row),(2,.rptr (nd t i).cv),(0,.int .i64 (j:Int))] 64) (hp:=fun _=>[.dead,.dead]) (μ:=fun j=>t.nodes.length-j) 0 [0,1] ⟨by omega,by rw[Gf]⟩ rfl ?_ rfl ?_
 ·simp[forget,JA,ren,Jl,gp,Tr.row]
 ·rintro j ⟨hj,hinv⟩
  by_cases hlt:j < t.nodes.length
  ·have d1:((j:Int) < (t.nodes.length:Int))=True:=Jo
   have hgj:=Kt hlt
   have hqj:q (j:Int)=((nd t j).text == (nd t i).text && (Kh (nd t j).k && (!((nd t j).k == 65) && inB t o j i))):=by rw[← hq]; simp only[Gh]
   rw[Jen hlt,GJ]at hinv
   cases htx:((nd t j).text == (nd t i).text) with
   |false=>
    rw[hqj,htx,Gn]at hinv
    simp -implicitDefEqProofs only[go_sem,Tr.row,Jc,d1,hgj,Nd.cv,htx,Gl]
    refine ⟨by omega,Jj,j+1,[0,1],⟨by omega,by rw[hinv]⟩,by omega,rfl,rfl,?_⟩
    simp[forget,JA,ren,Jl,Tr.row]
   |true=>
    rw[hqj,htx,Gj]at hinv
    simp -implicitDefEqProofs only[go_sem,Tr.row,Jc,d1,hgj,Nd.cv,htx,Gi]
    refine ⟨by omega,?_⟩
    refine JV (gok rfl) (YA _) ?_
    cases hd:Kh (nd t j).k with
    |false=>
     rw[hd,Gn]at hinv
     simp -implicitDefEqProofs only[go_sem,Gl]
     refine ⟨Jj,j+1,[0,1],⟨by omega,by rw[hinv]⟩,by omega,rfl,rfl,?_⟩
     simp[forget,JA,ren,Jl,Tr.row]
    |true=>
     rw[hd,Gj]at hinv
     cases h65:((nd t j).k == 65) with
     |true=>
      rw[h65,Gi,Gn]at hinv
      simp -implicitDefEqProofs only[go_sem,kbE,kbN,hk,h65,Gi]
      refine ⟨Jj,j+1,[0,1],⟨by omega,by rw[hinv]⟩,by omega,rfl,rfl,?_⟩
      simp[forget,JA,ren,Jl,Tr.row]
     |false=>
      rw[h65,Gl,Gj]at hinv
      simp -implicitDefEqProofs only[go_sem,kbE,kbN,hk,h65,Gl,Gi,Tr.row]
      refine JV (gok rfl) (refInSight g ht hlt hi) ?_
      cases hin:inB t o j i with
      |true=>
       rw[hin]at hinv
       simp -implicitDefEqProofs only[go_sem,hinv]
      |false=>
       rw[hin]at hinv
       simp -implicitDefEqProofs only[go_sem]
       refine ⟨Jj,j+1,[0,1],⟨by omega,by rw[hinv]⟩,by omega,rfl,rfl,?_⟩
       simp[forget,JA,ren,Jl,Tr.row]
  ·have d1:((j:Int) < (t.nodes.length:Int))=False:=Jn
   rw[Jgz (by omega),GK]at hinv
   simp -implicitDefEqProofs only[go_sem,Tr.row,Jc,d1,hinv]
omit ht in
theorem refMeans26 {i:Nat}(hi:i < t.nodes.length) (hk:(nd t i).k=26):Fn Gb 60 [t.cv,.int .i64 (i:Int)] (.int .i64 (Jaa t i)):=by
 have hmany:=g.many
 have hg:=Kt hi
 unfold Jaa
 refine Jb c60_ok rfl rfl fun N=>?_
 simp -implicitDefEqProofs only[c60,go_sem,Tr.cv,Tr.row,Jc,hg,Nd.cv]
 refine ⟨by omega,?_⟩
 refine Je (id:=0) (z:=2) (els:=[t.row]) rfl rfl ?_
 simp only[go_sem,JS,Ki,frz,KP]
 refine Je (id:=1) (z:=5) (els:=[(nd t i).cv]) rfl rfl ?_
 simp only[go_sem,JS,Ki,frz,KP,Gf]
 generalize hq:(fun d:Int=>(nd t d.toNat).text == (nd t i).text && (Kh (nd t d.toNat).k && (nd t d.toNat).k == 65))=q
 refine Jy (I:=fun j:Nat=>j≤t.nodes.length∧(Kq t).find? q=((Kq t).drop j).find? q) (inv:=fun j=>gp [(1,.int .i64 (i:Int)),(0,.rptr t.row),(2,.rptr (nd t i).cv),(0,.int .i64 (j:Int))] 64) (hp:=fun _=>[.dead,.dead]) (μ:=fun j=>t.nodes.length-j) 0 [0,1] ⟨by omega,by rw[Gf]⟩ rfl ?_ rfl ?_
 ·simp[forget,JA,ren,Jl,gp,Tr.row]
 ·rintro j ⟨hj,hinv⟩
  by_cases hlt:j < t.nodes.length
  ·have d1:((j:Int) < (t.nodes.length:Int))=True:=Jo
   have hgj:=Kt hlt
   have hqj:q (j:Int)=((nd t j).text == (nd t i).text && (Kh (nd t j).k && (nd t j).k == 65)):=by rw[← hq]; simp only[Gh]
   rw[Jen hlt,GJ]at hinv
   cases htx:((nd t j).text == (nd t i).text) with
   |false=>
    rw[hqj,htx,Gn]at hinv
    simp -implicitDefEqProofs only[go_sem,Tr.row,Jc,d1,hgj,Nd.cv,htx,Gl]
    refine ⟨by omega,Jj,j+1,[0,1],⟨by omega,by rw[hinv]⟩,by omega,rfl,rfl,?_⟩
    simp[forget,JA,ren,Jl,Tr.row]
   |true=>
    rw[hqj,htx,Gj]at hinv
    simp -implicitDefEqProofs only[go_sem,Tr.row,Jc,d1,hgj,Nd.cv,htx,Gi]
    refine ⟨by omega,?_⟩
    refine JV (gok rfl) (YA _) ?_
    cases hd:Kh (nd t j).k with
    |false=>
     rw[hd,Gn]at hinv
     simp -implicitDefEqProofs only[go_sem,Gl]
     refine ⟨Jj,j+1,[0,1],⟨by omega,by rw[hinv]⟩,by omega,rfl,rfl,?_⟩
     simp[forget,JA,ren,Jl,Tr.row]
    |true=>
     rw[hd,Gj]at hinv
     cases h65:((nd t j).k == 65) with
     |true=>
      rw[h65]at hinv
      simp -implicitDefEqProofs only[go_sem,kbE,hk,h65,Gi,hinv]
     |false=>
      rw[h65]at hinv
      simp -implicitDefEqProofs only[go_sem,kbE,hk,h65,Gi]
      refine ⟨Jj,j+1,[0,1],⟨by omega,by rw[hinv]⟩,by omega,rfl,rfl,?_⟩
      simp[forget,JA,ren,Jl,Tr.row]
  ·have d1:((j:Int) < (t.nodes.length:Int))=False:=Jn
   rw[Jgz (by omega),GK]at hinv
   simp -implicitDefEqProofs only[go_sem,Tr.row,Jc,d1,hinv]
theorem refMeans44 {i:Nat}(hi:i < t.nodes.length) (hk:(nd t i).k=44):Fn Gb 60 [t.cv,.int .i64 (i:Int)] (.int .i64 (Jav t i)):=by
 have hmany:=g.many
 have hg:=Kt hi
 unfold Jav
 refine Jb c60_ok rfl rfl fun N=>?_
 simp -implicitDefEqProofs only[c60,go_sem,Tr.cv,Tr.row,Jc,hg,Nd.cv]
 refine ⟨by omega,?_⟩
 refine Je (id:=0) (z:=2) (els:=[t.row]) rfl rfl ?_
 simp only[go_sem,JS,Ki,frz,KP]
 refine Je (id:=1) (z:=5) (els:=[(nd t i).cv]) rfl rfl ?_
 simp only[go_sem,JS,Ki,frz,KP,Gf]
 generalize hq:(fun d:Int=>(nd t d.toNat).text == (nd t i).text && (Kh (nd t d.toNat).k && ((nd t d.toNat).k == 43 && Kb t d.toNat == Kb t i)))=q
 refine Jy (I:=fun j:Nat=>j≤t.nodes.length∧(Kq t).find? q=((Kq t).drop j).find? q) (inv:=fun j=>gp [(1,.int .i64 (i:Int)),(0,.rptr t.row),(2,.rptr (nd t i).cv),(0,.int .i64 (j:Int))] 64) (hp:=fun _=>[.dead,.dead]) (μ:=fun j=>t.nodes.length-j) 0 [0,1] ⟨by omega,by rw[Gf]⟩ rfl ?_ rfl ?_
 ·simp[forget,JA,ren,Jl,gp,Tr.row]
 ·rintro j ⟨hj,hinv⟩
  by_cases hlt:j < t.nodes.length
  ·have d1:((j:Int) < (t.nodes.length:Int))=True:=Jo
   have hgj:=Kt hlt
   have hqj:q (j:Int)=((nd t j).text == (nd t i).text && (Kh (nd t j).k && ((nd t j).k == 43 && Kb t j == Kb t i))):=by rw[← hq]; simp only[Gh]
   rw[Jen hlt,GJ]at hinv
   cases htx:((nd t j).text == (nd t i).text) with
   |false=>
    rw[hqj,htx,Gn]at hinv
    simp -implicitDefEqProofs only[go_sem,Tr.row,Jc,d1,hgj,Nd.cv,htx,Gl]
    refine ⟨by omega,Jj,j+1,[0,1],⟨by omega,by rw[hinv]⟩,by omega,rfl,rfl,?_⟩
    simp[forget,JA,ren,Jl,Tr.row]
   |true=>
    rw[hqj,htx,Gj]at hinv
    simp -implicitDefEqProofs only[go_sem,Tr.row,Jc,d1,hgj,Nd.cv,htx,Gi]
    refine ⟨by omega,?_⟩
    refine JV (gok rfl) (YA _) ?_
    cases hd:Kh (nd t j).k with
    |false=>
     rw[hd,Gn]at hinv
     simp -implicitDefEqProofs only[go_sem,Gl]
     refine ⟨Jj,j+1,[0,1],⟨by omega,by rw[hinv]⟩,by omega,rfl,rfl,?_⟩
     simp[forget,JA,ren,Jl,Tr.row]
    |true=>
     rw[hd,Gj]at hinv
     simp -implicitDefEqProofs only[go_sem,kbE,hk,Gi]
     refine Je (id:=2) (z:=5) (els:=[(nd t j).cv]) rfl rfl ?_
     simp only[go_sem,JS,Ki,frz,KP,Gf,Nd.cv]
     refine JQ Jz (by decide) ?_
     cases h43:((nd t j).k == 43) with
     |false=>
      rw[h43,Gn]at hinv
      simp -implicitDefEqProofs only[go_sem,kbE,h43,Nd.cv]
      refine ⟨Jj,j+1,[0,1],⟨by omega,by rw[hinv]⟩,by omega,rfl,rfl,?_⟩
      simp[forget,JA,ren,Jl,Tr.row]
     |true=>
      rw[h43,Gj]at hinv
      simp -implicitDefEqProofs only[go_sem,kbE,h43,Nd.cv,Tr.row]
      refine J4 (gok rfl) (Jbj g ht hlt) ?_
      simp -implicitDefEqProofs only[go_sem,Tr.row]
      refine J4 (gok rfl) (Jbj g ht hi) ?_
      cases hpp:(Kb t j == Kb t i) with
      |true=>
       rw[hpp]at hinv
       simp -implicitDefEqProofs only[go_sem,hpp,hinv]
      |false=>
       rw[hpp]at hinv
       simp -implicitDefEqProofs only[go_sem,hpp]
       refine ⟨Jj,j+1,[0,1],⟨by omega,by rw[hinv]⟩,by omega,rfl,rfl,?_⟩
       simp[forget,JA,ren,Jl,Tr.row]
  ·have d1:((j:Int) < (t.nodes.length:Int))=False:=Jn
   rw[Jgz (by omega),GK]at hinv
   simp -implicitDefEqProofs only[go_sem,Tr.row,Jc,d1,hinv]
theorem refMeans {i:Nat}(hi:i < t.nodes.length) (hs:JJ t i=true):Fn Gb 60 [t.cv,.int .i64 (i:Int)] (.int .i64 (JO t o i)):=by
 unfold JO
 unfold JJ at hs
 simp only[Bool.or_eq_true,beq_iff_eq]at hs
 by_cases h3:(nd t i).k=3
 ·rw[if_pos h3]; exact refMeans3 g ht hi h3
 ·rw[if_neg h3]
  by_cases h26:(nd t i).k=26
  ·rw[if_pos h26]; exact refMeans26 g hi h26
  ·rw[if_neg h26,if_pos (by omega)]; exact refMeans44 g ht hi (by omega)
def twRq (t:Tr) (o:List Int) (i k:Nat):Bool:=(nd t k).text == (nd t i).text && (if (nd t i).k=65 then (nd t k).k == 65 else if (nd t i).k=44 then (nd t k).k == 44 && Kb t k == Kb t i else Kh (nd t k).k && (!((nd t k).k == 65) && XI t o k == XI t o i))
omit g ht in
theorem twR_eq {i:Nat}:twR t o i=if (nd t i).k≠44∧Kh (nd t i).k=false then false else (Ga i).any (twRq t o i):=rfl
theorem refTwice {i:Nat}(hi:i < t.nodes.length):Fn Gb 61 [t.cv,.int .i64 (i:Int)] (.bool (twR t o i)):=by
 have hmany:=g.many
 have hg:=Kt hi
 rw[twR_eq]
 refine Jb c61_ok rfl rfl fun N=>?_
 simp -implicitDefEqProofs only[c61,go_sem,Tr.cv,Tr.row,Jc,hg,Nd.cv]
 refine ⟨by omega,?_⟩
 refine Je (id:=0) (z:=2) (els:=[t.row]) rfl rfl ?_
 simp only[go_sem,JS,Ki,frz,KP]
 refine Je (id:=1) (z:=5) (els:=[(nd t i).cv]) rfl rfl ?_
 simp only[go_sem,JS,Ki,frz,KP,Gf,Nd.cv]
 refine JR (YA _) ?_
 by_cases h44:(nd t i).k=44
 ·have hd:Kh (nd t i).k=false:=by rw[h44]; rfl
  have b44:((nd t i).k == 44)=true:=beq_iff_eq.2 h44
  have b65:((nd t i).k == 65)=false:=beq_eq_false_iff_ne.2 (by omega)
  rw[if_neg (show ¬ ((nd t i).k≠44∧Kh (nd t i).k=false) from fun h=>h.1 h44),hd]
  simp -implicitDefEqProofs only[go_sem,kbN,b44,Gl,Gi,Nd.cv]
  generalize hq:twRq t o i=q
  refine Jy (I:=fun j:Nat=>j≤i∧(Ga i).any q=((Ga i).drop j).any q) (inv:=fun j=>gp [(1,.int .i64 (i:Int)),(0,.rptr t.row),(2,.rptr (nd t i).cv),(0,.int .i64 (j:Int))] 71) (hp:=fun _=>[.dead,.dead]) (μ:=fun j=>i-j) 0 [0,1] ⟨by omega,by rw[Gf]⟩ rfl ?_ rfl ?_
  ·simp[forget,JA,ren,Jl,gp,Tr.row,Nd.cv]
  ·rintro j ⟨hj,hinv⟩
   by_cases hlt:j < i
   ·have hjn:j < t.nodes.length:=by omega
    have d1:((j:Int) < (i:Int))=True:=Jo
    have hgj:=Kt hjn
    have hqj:q j=twRq t o i j:=by rw[hq]
    unfold twRq at hqj
    rw[Qg hlt,Gz]at hinv
    cases htx:((nd t j).text == (nd t i).text) with
    |false=>
     rw[hqj,htx,Gn,Gr]at hinv
     simp -implicitDefEqProofs only[go_sem,Tr.row,Jc,d1,hgj,Nd.cv,htx,Gl]
     refine ⟨by omega,Jj,j+1,[0,1],⟨by omega,hinv⟩,by omega,rfl,rfl,?_⟩
     simp[forget,JA,ren,Jl,Tr.row]
    |true=>
     rw[htx,Gj]at hqj
     simp -implicitDefEqProofs only[go_sem,Tr.row,Jc,d1,hgj,Nd.cv,htx,Gi,kbE,b65,b44]
     refine ⟨by omega,?_⟩
     rw[if_neg (by omega),if_pos h44]at hqj
     refine Je (id:=2) (z:=5) (els:=[(nd t j).cv]) rfl rfl ?_
     simp only[go_sem,JS,Ki,frz,KP,Gf,Nd.cv]
     refine JQ Jz (by decide) ?_
     cases h:((nd t j).k == 44) with
     |false=>
      rw[hqj,h,Gn,Gr]at hinv
      simp -implicitDefEqProofs only[go_sem,kbE,h,Nd.cv]
      refine ⟨Jj,j+1,[0,1],⟨by omega,hinv⟩,by omega,rfl,rfl,?_⟩
      simp[forget,JA,ren,Jl,Tr.row]
     |true=>
      rw[h,Gj]at hqj
      simp -implicitDefEqProofs only[go_sem,kbE,h,Nd.cv,Tr.row]
      refine J4 (gok rfl) (Jbj g ht hjn) ?_
      simp -implicitDefEqProofs only[go_sem,Tr.row]
      refine J4 (gok rfl) (Jbj g ht hi) ?_
      cases hpp:(Kb t j == Kb t i) with
      |true=>
       rw[hqj,hpp,Gu]at hinv
       simp -implicitDefEqProofs only[go_sem,hpp,hinv]
      |false=>
       rw[hqj,hpp,Gr]at hinv
       simp -implicitDefEqProofs only[go_sem,hpp]
       refine ⟨Jj,j+1,[0,1],⟨by omega,hinv⟩,by omega,rfl,rfl,?_⟩
       simp[forget,JA,ren,Jl,Tr.row]
   ·have d1:((j:Int) < (i:Int))=False:=Jn
    rw[show (Ga i).drop j=[] from Gs (by simp; omega),GD]at hinv
    simp -implicitDefEqProofs only[go_sem,d1,hinv]
 ·have b44:((nd t i).k == 44)=false:=beq_eq_false_iff_ne.2 h44
  cases hd:Kh (nd t i).k with
  |false=>
   rw[if_pos ⟨h44,rfl⟩]
   simp -implicitDefEqProofs only[go_sem,kbN,b44,Gl,Nd.cv]
  |true=>
   rw[if_neg (show ¬ ((nd t i).k≠44∧true=false) from fun h=>by cases h.2)]
   simp -implicitDefEqProofs only[go_sem,Gi]
   by_cases h65:(nd t i).k=65
   ·have b65:((nd t i).k == 65)=true:=beq_iff_eq.2 h65
    generalize hq:twRq t o i=q
    refine Jy (I:=fun j:Nat=>j≤i∧(Ga i).any q=((Ga i).drop j).any q) (inv:=fun j=>gp [(1,.int .i64 (i:Int)),(0,.rptr t.row),(2,.rptr (nd t i).cv),(0,.int .i64 (j:Int))] 71) (hp:=fun _=>[.dead,.dead]) (μ:=fun j=>i-j) 0 [0,1] ⟨by omega,by rw[Gf]⟩ rfl ?_ rfl ?_
    ·simp[forget,JA,ren,Jl,gp,Tr.row,Nd.cv]
    ·rintro j ⟨hj,hinv⟩
     by_cases hlt:j < i
     ·have hjn:j < t.nodes.length:=by omega
      have d1:((j:Int) < (i:Int))=True:=Jo
      have hgj:=Kt hjn
      have hqj:q j=twRq t o i j:=by rw[hq]
      unfold twRq at hqj
      rw[Qg hlt,Gz]at hinv
      cases htx:((nd t j).text == (nd t i).text) with
      |false=>
       rw[hqj,htx,Gn,Gr]at hinv
       simp -implicitDefEqProofs only[go_sem,Tr.row,Jc,d1,hgj,Nd.cv,htx,Gl]
       refine ⟨by omega,Jj,j+1,[0,1],⟨by omega,hinv⟩,by omega,rfl,rfl,?_⟩
       simp[forget,JA,ren,Jl,Tr.row]
      |true=>
       rw[htx,Gj]at hqj
       simp -implicitDefEqProofs only[go_sem,Tr.row,Jc,d1,hgj,Nd.cv,htx,Gi,kbE,b65]
       refine ⟨by omega,?_⟩
       rw[if_pos h65]at hqj
       cases h:((nd t j).k == 65) with
       |true=>
        rw[hqj,h,Gu]at hinv
        simp -implicitDefEqProofs only[go_sem,h,hinv]
       |false=>
        rw[hqj,h,Gr]at hinv
        simp -implicitDefEqProofs only[go_sem,h]
        refine ⟨Jj,j+1,[0,1],⟨by omega,hinv⟩,by omega,rfl,rfl,?_⟩
        simp[forget,JA,ren,Jl,Tr.row]
     ·have d1:((j:Int) < (i:Int))=False:=Jn
      rw[show (Ga i).drop j=[] from Gs (by simp; omega),GD]at hinv
      simp -implicitDefEqProofs only[go_sem,d1,hinv]
   ·have b65:((nd t i).k == 65)=false:=beq_eq_false_iff_ne.2 h65
    generalize hq:twRq t o i=q
    refine Jy (I:=fun j:Nat=>j≤i∧(Ga i).any q=((Ga i).drop j).any q) (inv:=fun j=>gp [(1,.int .i64 (i:Int)),(0,.rptr t.row),(2,.rptr (nd t i).cv),(0,.int .i64 (j:Int))] 71) (hp:=fun _=>[.dead,.dead]) (μ:=fun j=>i-j) 0 [0,1] ⟨by omega,by rw[Gf]⟩ rfl ?_ rfl ?_
    ·simp[forget,JA,ren,Jl,gp,Tr.row,Nd.cv]
    ·rintro j ⟨hj,hinv⟩
     by_cases hlt:j < i
     ·have hjn:j < t.nodes.length:=by omega
      have d1:((j:Int) < (i:Int))=True:=Jo
      have hgj:=Kt hjn
      have hqj:q j=twRq t o i j:=by rw[hq]
      unfold twRq at hqj
      rw[Qg hlt,Gz]at hinv
      cases htx:((nd t j).text == (nd t i).text) with
      |false=>
       rw[hqj,htx,Gn,Gr]at hinv
       simp -implicitDefEqProofs only[go_sem,Tr.row,Jc,d1,hgj,Nd.cv,htx,Gl]
       refine ⟨by omega,Jj,j+1,[0,1],⟨by omega,hinv⟩,by omega,rfl,rfl,?_⟩
       simp[forget,JA,ren,Jl,Tr.row]
      |true=>
       rw[htx,Gj]at hqj
       simp -implicitDefEqProofs only[go_sem,Tr.row,Jc,d1,hgj,Nd.cv,htx,Gi,kbE,b65,b44]
       refine ⟨by omega,?_⟩
       rw[if_neg h65,if_neg h44]at hqj
       refine Je (id:=2) (z:=5) (els:=[(nd t j).cv]) rfl rfl ?_
       simp only[go_sem,JS,Ki,frz,KP,Gf,Nd.cv]
       refine JQ Jz (by decide) ?_
       simp -implicitDefEqProofs only[go_sem,Nd.cv]
       refine J4 (.inl rfl) (YA _) ?_
       cases hd2:Kh (nd t j).k with
       |false=>
        rw[hqj,hd2,Gn,Gr]at hinv
        simp -implicitDefEqProofs only[go_sem]
        refine ⟨Jj,j+1,[0,1],⟨by omega,hinv⟩,by omega,rfl,rfl,?_⟩
        simp[forget,JA,ren,Jl,Tr.row]
       |true=>
        rw[hd2,Gj]at hqj
        cases h:((nd t j).k == 65) with
        |true=>
         rw[hqj,h,Gi,Gn,Gr]at hinv
         simp -implicitDefEqProofs only[go_sem,kbN,h,Nd.cv,Gi]
         refine ⟨Jj,j+1,[0,1],⟨by omega,hinv⟩,by omega,rfl,rfl,?_⟩
         simp[forget,JA,ren,Jl,Tr.row]
        |false=>
         rw[h,Gl,Gj]at hqj
         simp -implicitDefEqProofs only[go_sem,kbN,h,Nd.cv,Gl,Tr.row]
         refine J4 (gok rfl) (refItemOf g ht hjn) ?_
         simp -implicitDefEqProofs only[go_sem,Tr.row]
         refine J4 (gok rfl) (refItemOf g ht hi) ?_
         cases hpp:(XI t o j == XI t o i) with
         |true=>
          rw[hqj,hpp,Gu]at hinv
          simp -implicitDefEqProofs only[go_sem,hpp,hinv]
         |false=>
          rw[hqj,hpp,Gr]at hinv
          simp -implicitDefEqProofs only[go_sem,hpp]
          refine ⟨Jj,j+1,[0,1],⟨by omega,hinv⟩,by omega,rfl,rfl,?_⟩
          simp[forget,JA,ren,Jl,Tr.row]
     ·have d1:((j:Int) < (i:Int))=False:=Jn
      rw[show (Ga i).drop j=[] from Gs (by simp; omega),GD]at hinv
      simp -implicitDefEqProofs only[go_sem,d1,hinv]
end
end
section
section
variable {P:Program}{E:Env}{H:List CObj}
def RowC (z:Nat) (els:List (List CV)) (v:CV) (H':List CObj):Prop:=RowR z els v H'∨∃ id es,v=.slc id 0 els.length none∧H'[id]? = some (.arr z es)∧es.take els.length=els∧els≠[]
theorem fnRow_cut {f:Nat}{args:List CV}{z:Nat}{els:List (List CV)}(h:CallsC P Env.none f args [] (RowC z els)) (ha:Jv args=true) (hc:Jw els=true):Jbi P f args z els:=
 Jb0 (h.trunc (id:=0) (z:=0) (j:=0) (els:=[]) (v:=.un) fun v H' hv=>by
  rcases hv with hv | ⟨id,es,rfl,h2,h3,h4⟩
  ·exact .inl hv
  ·exact .inr ⟨id,z,es,els.length,h2,.row (id:=id) (QA h4).symm (by rw[Qk h4,h3,H9 (H8.1 h2).1])⟩) ha hc
end
structure OfOk (t:Tr) (of:List Int):Prop where
 len:of.length=t.nodes.length
 rng:∀ i,i < of.length→-1≤of.getD i 0∧of.getD i 0 < t.nodes.length
theorem OfOk.dft {t:Tr}{of:List Int}(h:OfOk t of) {i:Nat}(hi:i < of.length):of.getD i (-1)=of.getD i 0:=by
 simp[Gm,Gp hi]
def rRw (t:Tr) (of:List Int):List CV:=[.rptr (tRw t),.rslc 1 (iz of) none]
section
variable {t:Tr}{o:List Int}(g:GoodT t o) (ht:t.Fit)
include g ht
theorem nNeeds {of:List Int}(ho:OfOk t of) {s:Nat}(hs:s < t.nodes.length) (hk:(nd t s).k=41):Jbi Gb 50 [.agg (rRw t of),.int .i64 (s:Int)] 1 (iz (KD t o of s)):=by
 have hmany:=g.many
 have hol:(iz of).length=t.nodes.length:=by rw[Jf,ho.len]
 rw[← need_done g]
 refine fnRow_cut (J7 c50_ok fun N=>?_) rfl (Jd _)
 simp -implicitDefEqProofs only[c50,go_sem,rRw,hol]
 refine Je (id:=0) (z:=2) (els:=[rRw t of]) rfl rfl ?_
 simp only[go_sem,JS,Ki,frz,KP,Gf]
 refine Q3 ?_
 simp only[go_sem,GY,GA]
 refine Jy (I:=fun i:Nat=>i≤t.nodes.length) (inv:=fun i=>gp [(1,.int .i64 (s:Int)),(0,.rptr (rRw t of)),(1,KN 1 (iz (Xg t o of s (Ga i)))),(4,.rslc 1 (iz of) none),(0,.int .i64 (t.nodes.length:Int)),(0,.int .i64 (i:Int))] 70) (hp:=fun i=>[.dead,Qi 1 (iz (Xg t o of s (Ga i)))]) (μ:=fun i=>t.nodes.length-i) 0 [0,1] (by omega) rfl ?_ rfl ?_
 ·simp[forget,JA,ren,Jl,gp,rRw,KN,iz,Xg]
 ·intro i hi
  by_cases hlt:i < t.nodes.length
  ·have d1:((i:Int) < (t.nodes.length:Int))=True:=Jo
   have hgi:=JP (l:=of) (i:=i) (by rw[ho.len]; exact hlt)
   have hrg:=ho.rng i (by rw[ho.len]; exact hlt)
   have hst:Xg t o of s (Ga (i+1))=Xg t o of s (Ga i)++Xg t o of s [i]:=by rw[Hq,needC_app]
   have hcl:=JdD (t:=t) (o:=o) (of:=of) (s:=s) (Ga i)
   rw[Ho]at hcl
   have hdf:=ho.dft (i:=i) (by rw[ho.len]; exact hlt)
   have h1:Xg t o of s [i]=if (decide (0≤of.getD i 0) && ((nd t (of.getD i 0).toNat).k == 42 && ((nd t i).k == 3 && (Jae o i s && (Kb t (Kb t (of.getD i 0).toNat).toNat == Kb t s && !buL t (upL t (JH t s) t.nodes.length i) false)))))=true then [Kb t (of.getD i 0).toNat] else []:=by
    rw[Xg,hdf]; rfl
   generalize Xg t o of s (Ga i)=acc at hst hcl ⊢
   generalize of.getD i 0=m at hgi hrg h1
   rcases Lx m 0 with hm0 | hm0
   ·obtain rfl:m = -1:=by omega
    have e1:((-1:Int) == -1)=true:=by decide
    have hnil:Xg t o of s [i]=[]:=by rw[h1,if_neg (by simp)]
    simp -implicitDefEqProofs only[go_sem,d1,hol,hgi,e1]
    refine ⟨by omega,?_⟩
    refine ⟨Jj,i+1,[0,1],by omega,by omega,rfl,?_,?_⟩
    ·rw[hst,hnil,Gq]; simp only[Ke,Gc,Gd,go_sem,Kk (Ja (Jd acc)),Jh]
    ·rw[hst,hnil,Gq]; simp[forget,JA,ren,Jl,KC,rRw]
   obtain ⟨m,rfl⟩:∃ m':Nat,m=m':=⟨m.toNat,by omega⟩
   have hmn:m < t.nodes.length:=by omega
   have e1:((m:Int) == -1)=false:=beq_eq_false_iff_ne.2 (by omega)
   rw[decide_eq_true hm0,Gj,Gh]at h1
   simp -implicitDefEqProofs only[go_sem,d1,hol,hgi,e1,rRw]
   refine ⟨by omega,?_⟩
   refine JV (gok rfl) (Jcv t hmn) ?_
   cases hk42:(nd t m).k == 42 with
   |false=>
    have hnil:Xg t o of s [i]=[]:=by rw[h1,hk42,if_neg (by simp)]
    simp -implicitDefEqProofs only[go_sem,kbN,hk42,Gl]
    refine ⟨Jj,i+1,[0,1],by omega,by omega,rfl,?_,?_⟩
    ·rw[hst,hnil,Gq]; simp only[Ke,Gc,Gd,go_sem,Kk (Ja (Jd acc)),Jh]
    ·rw[hst,hnil,Gq]; simp[forget,JA,ren,Jl,KC,rRw]
   |true=>
    rw[hk42,Gj]at h1
    simp -implicitDefEqProofs only[go_sem,kbN,hk42,Gi,rRw]
    refine JV (gok rfl) (Jcv t hlt) ?_
    cases hk3:(nd t i).k == 3 with
    |false=>
     have hnil:Xg t o of s [i]=[]:=by rw[h1,hk3,if_neg (by simp)]
     simp -implicitDefEqProofs only[go_sem,kbN,hk3,Gl]
     refine ⟨Jj,i+1,[0,1],by omega,by omega,rfl,?_,?_⟩
     ·rw[hst,hnil,Gq]; simp only[Ke,Gc,Gd,go_sem,Kk (Ja (Jd acc)),Jh]
     ·rw[hst,hnil,Gq]; simp[forget,JA,ren,Jl,KC,rRw]
    |true=>
     rw[hk3,Gj]at h1
     simp -implicitDefEqProofs only[go_sem,kbN,hk3,Gi,rRw]
     refine JV (gok rfl) (nBelow g hlt hs) ?_
     cases hb:Jae o i s with
     |false=>
      have hnil:Xg t o of s [i]=[]:=by rw[h1,hb,if_neg (by simp)]
      simp -implicitDefEqProofs only[go_sem,Gl]
      refine ⟨Jj,i+1,[0,1],by omega,by omega,rfl,?_,?_⟩
      ·rw[hst,hnil,Gq]; simp only[Ke,Gc,Gd,go_sem,Kk (Ja (Jd acc)),Jh]
      ·rw[hst,hnil,Gq]; simp[forget,JA,ren,Jl,KC,rRw]
     |true=>
      rw[hb,Gj]at h1
      have h42:(nd t m).k=42:=beq_iff_eq.1 hk42
      have h3:(nd t i).k=3:=beq_iff_eq.1 hk3
      obtain ⟨v,hv1,hv2,_,_⟩:=Qs g hmn (by omega)
      have hL:=nLate g ht hs hk ((JbN g hs hk (by omega)).1 (Kr.1 hb))
      rw[hv1,Gh]at h1
      simp -implicitDefEqProofs only[go_sem,Gi,rRw,tRw,Qe,upz hmn,hv1]
      refine ⟨by omega,?_⟩
      refine JQ Jz (by decide) ?_
      cases hpp:(Kb t v == Kb t s) with
      |false=>
       have hnil:Xg t o of s [i]=[]:=by rw[h1,hpp,if_neg (by simp)]
       simp -implicitDefEqProofs only[go_sem,Qe,upz hv2,upz hs,hpp]
       refine ⟨by omega,by omega,?_⟩
       refine ⟨Jj,i+1,[0,1],by omega,by omega,rfl,?_,?_⟩
       ·rw[hst,hnil,Gq]; simp only[Ke,Gc,Gd,go_sem,Kk (Ja (Jd acc)),Jh]
       ·rw[hst,hnil,Gq]; simp[forget,JA,ren,Jl,KC,rRw]
      |true=>
       rw[hpp,Gj]at h1
       simp -implicitDefEqProofs only[go_sem,Qe,upz hv2,upz hs,hpp]
       refine ⟨by omega,by omega,?_⟩
       refine J4 (gok rfl) hL ?_
       cases hl:buL t (upL t (JH t s) t.nodes.length i) false with
       |true=>
        have hnil:Xg t o of s [i]=[]:=by rw[h1,hl,if_neg (by simp)]
        simp -implicitDefEqProofs only[go_sem,Gi]
        refine ⟨Jj,i+1,[0,1],by omega,by omega,rfl,?_,?_⟩
        ·rw[hst,hnil,Gq]; simp only[Ke,Gc,Gd,go_sem,Kk (Ja (Jd acc)),Jh]
        ·rw[hst,hnil,Gq]; simp[forget,JA,ren,Jl,KC,rRw]
       |false=>
        have hone:Xg t o of s [i]=[(v:Int)]:=by rw[h1,hl,if_pos (by simp)]
        simp -implicitDefEqProofs only[go_sem,Gl,Jf,Jr]
        refine ⟨⟨by omega,by omega⟩,Jj,i+1,[0,3],by omega,by omega,rfl,?_,?_⟩
        ·rw[hst,hone,Ka,JZ]
         simp only[Ke,Gc,Gd,go_sem,Ji,Jh]
         simp[Ja (Jd acc),JA,ren]
        ·rw[hst,hone,Ka,JY]
         simp[forget,JA,ren,Jl,rRw,tRw,Jf]
  ·have d1:((i:Int) < (t.nodes.length:Int))=False:=Jn
   obtain rfl:i=t.nodes.length:=by omega
   have hcl:=JdD (t:=t) (o:=o) (of:=of) (s:=s) (Ga t.nodes.length)
   rw[Ho]at hcl
   generalize Xg t o of s (Ga t.nodes.length)=acc at hcl ⊢
   cases acc with
   |nil=>
    simp -implicitDefEqProofs only[go_sem,d1,QN,Qu]
    refine JR sortNil ?_
    simp -implicitDefEqProofs only[go_sem]
    refine JR Jfp ?_
    simp -implicitDefEqProofs only[go_sem]
    rw[show Lib.compact (([]:List Int).mergeSort fun x y=>decide (x≤y))=[] by rw[Lb]; rfl]
    exact .inl .nil
   |cons x xs=>
    simp -implicitDefEqProofs only[go_sem,d1,Kg,QQ,Yx,Jf]
    refine J8 (.inl rfl) (sortRow (l:=x::xs) (by simp) (by omega) rfl) fun v H' ⟨h1,h2⟩=>?_
    subst h1 h2
    simp -implicitDefEqProofs only[go_sem]
    have hsl:((x::xs).mergeSort fun x y=>decide (x≤y)).length=xs.length+1:=by rw[Hg]; rfl
    generalize ((x::xs).mergeSort fun x y=>decide (x≤y))=S at hsl ⊢
    have hSn:S≠[]:=by rintro rfl; simp at hsl
    rw[← hsl]
    refine J8 (.inl rfl) (Jfo (l:=S) hSn (by simp only[Gg]at hcl; omega) rfl) fun v H' ⟨h1,h2⟩=>?_
    subst h1 h2
    simp -implicitDefEqProofs only[go_sem]
    have hcn:Lib.compact S≠[]:=by
     obtain ⟨y,hy⟩:=List.exists_mem_of_ne_nil _ hSn
     exact List.ne_nil_of_mem (Y1.2 hy)
    refine .inr ⟨1,_,by rw[Jf],rfl,?_,by simpa [iz]using hcn⟩
    rw[Kz,Ll rfl]
end
end
section
def nz (l:List Nat):List Int:=l.map fun x:Nat=>(x:Int)
theorem nz_len {l:List Nat}:(nz l).length=l.length:=by simp[nz]
theorem nz_cons {x:Nat}{l:List Nat}:nz (x::l)=(x:Int)::nz l:=rfl
theorem nz_get {l:List Nat}{i:Nat}(h:i < l.length):(nz l).getD i 0=(l.getD i 0:Nat):=by
 simp[nz,Gm,Gp h]
theorem nzz_get {l:List Nat}{i:Nat}(h:i < l.length):(iz (nz l)).getD i []=[.int .i64 (l.getD i 0:Nat)]:=by rw[JP (by rw[nz_len]; exact h),nz_get h]
theorem QX {l:List Nat}:(iz (nz l)).length=l.length:=by rw[Jf,nz_len]
section
variable {t:Tr}{o:List Int}(g:GoodT t o) (ht:t.Fit)
include g ht
theorem refWay {top a0:Nat}(htop:top < t.nodes.length) (hb0:blw o a0 top):Fn Gb 168 [t.cv,.int .i64 (top:Int),.int .i64 (a0:Int)] (.rslc 1 (iz (nz (upL t top t.nodes.length a0).reverse)) none):=by
 have hmany:=g.many
 have hup:=up_len g (f:=t.nodes.length) htop hb0 (by omega)
 have hst:=way_start (t:=t) (top:=top) (f:=t.nodes.length) (a:=a0)
 generalize hR:(upL t top t.nodes.length a0).reverse=R at hst ⊢
 have hRl:R.length≤t.nodes.length:=by rw[← hR,La]; omega
 refine Q6 ?_ rfl rfl
 refine J7 c168_ok fun N=>?_
 simp -implicitDefEqProofs only[c168,go_sem,Tr.cv,Tr.row]
 refine Je (id:=0) (z:=2) (els:=[t.row]) rfl rfl ?_
 simp only[go_sem,JS,Ki,frz,KP,Gc,Gd]
 refine Jy (σ:=Nat×Nat×List Nat×Option Nat) (I:=fun s=>blw o s.2.1 top∧t.nodes.length≤s.2.1+s.1∧R=(upL t top s.1 s.2.1).tail.reverse++s.2.2.1∧s.2.2.1≠[]) (inv:=fun s=>gp [(1,.int .i64 (top:Int)),(0,.int .i64 (s.2.1:Int)),(0,.rptr t.row),(3,.slc 1 0 s.2.2.1.length s.2.2.2)] 13) (hp:=fun s=>[.dead,.arr 1 (iz (nz s.2.2.1))]) (μ:=fun s=>t.nodes.length-s.2.1) (t.nodes.length,a0,[a0],some 1) [0,1] ⟨hb0,by simp only; omega,hst,by simp⟩ rfl ?_ ?_ ?_
 ·simp[forget,JA,ren,Jl,gp,Tr.row]
 ·simp[Ke,JA,ren,Jl,Jcd,iz,nz]
 ·rintro ⟨f,a,w,cap⟩ ⟨hb,hf,hw,hne⟩
  dsimp only at hb hf hw hne
  have ha:a < t.nodes.length:=by have:=hb.1; omega
  by_cases he:a=top
  ·subst he
   rw[way_end,List.reverse_nil,GA]at hw
   have e1:((a:Int) != (a:Int))=false:=by simp
   simp -implicitDefEqProofs only[go_sem,e1]
   refine .step 1 1 (iz (nz w)) rfl (Jd _) (.done ?_)
   have hx:G9 w.length (iz (nz w))=iz (nz w):=Gv (by rw[QX]; omega)
   simp only[frz,if_true,GM,QX,GR,Gf,hx]
   rw[hw]; exact wk.refl _
  ·have e1:((a:Int) != (top:Int))=true:=bne_iff_ne.2 (by omega)
   obtain ⟨m,f',h1,h2,h3,h4,h5,h6⟩:=way_step g htop hb hf he
   rw[h6]at hw
   have hwl:w.length+1≤R.length:=by rw[hw,Gx,Gg]; omega
   have hP:=Jbj g ht ha
   rw[h1]at hP
   obtain ⟨y,ys,rfl⟩:=List.exists_cons_of_ne_nil hne
   simp only[Gg]at hwl
   have htk:G9 (ys.length+1) (([CV.int .i64 (y:Int)])::iz (nz ys))=[CV.int .i64 (y:Int)]::iz (nz ys):=Gv (by simp[QX])
   simp -implicitDefEqProofs only[go_sem,e1,Tr.row]
   refine JR hP ?_
   simp -implicitDefEqProofs only[go_sem,nz_cons,Kg,Gg,htk,QX,Jr,Gf]
   refine ⟨⟨by omega,by omega,by omega⟩,(f',m,m::y::ys,none),[0,3],⟨h4,h5,hw,by simp⟩,by simp only; omega,rfl,?_,?_⟩
   ·have hcl:=Ja (ρ:=[0,3]) (Jd (nz ys))
    simp[Ke,JA,ren,Jl,Jcd,nz_cons,Kg,hcl]
   ·simp[forget,JA,ren,Jl,Tr.row]; omega
theorem refLate {a0 s:Nat}(hs:s < t.nodes.length) (hk:(nd t s).k=41) (hb0:blw o a0 (JH t s)):Fn Gb 142 [t.cv,.int .i64 (a0:Int),.int .i64 (s:Int)] (.bool (tdL t (upL t (JH t s) t.nodes.length a0).reverse false)):=by
 have hmany:=g.many
 have hsk:=set_kid g hs hk
 have htl:JH t s < t.nodes.length:=by have:=(JW g hs hsk.1).2; omega
 have hup:=up_len g (f:=t.nodes.length) htl hb0 (by omega)
 have hW:=refWay g ht htl hb0
 have hrng:=up_rng g t.nodes.length a0 (JH t s) htl hb0
 have hkids:=up_kids g t.nodes.length a0 (JH t s) htl hb0
 have hpr:∀ i,i+1 < (upL t (JH t s) t.nodes.length a0).reverse.length→((((upL t (JH t s) t.nodes.length a0).reverse.getD (i+1) 0:Nat):Int)∈(nd t ((upL t (JH t s) t.nodes.length a0).reverse.getD i 0)).kids∧(upL t (JH t s) t.nodes.length a0).reverse.getD i 0 < t.nodes.length):=fun i hi=>pairs_rev hkids hi
 have hrng':∀ x∈(upL t (JH t s) t.nodes.length a0).reverse,x < t.nodes.length:=fun x hx=>hrng x (List.mem_reverse.1 hx)
 have hRl:(upL t (JH t s) t.nodes.length a0).reverse.length≤t.nodes.length:=by rw[La]; omega
 generalize (upL t (JH t s) t.nodes.length a0).reverse=R at hW hpr hrng' hRl ⊢
 refine Jb c142_ok rfl rfl fun N=>?_
 simp -implicitDefEqProofs only[c142,go_sem,Tr.cv,Tr.row]
 refine Je (id:=0) (z:=2) (els:=[t.row]) rfl rfl ?_
 simp only[go_sem,JS,Ki,frz,KP,Gc,Gd]
 refine JQ Jz (by decide) ?_
 simp -implicitDefEqProofs only[go_sem,Tr.row]
 refine J4 (.inl rfl) (Jcp g ht hs hsk.2) ?_
 simp -implicitDefEqProofs only[go_sem,Tr.row]
 refine J4 (.inl rfl) hW ?_
 simp -implicitDefEqProofs only[go_sem]
 generalize hD:tdL t R false=D
 refine Jy (I:=fun i:Nat=>i≤R.length∧D=tdL t (R.drop i) false) (inv:=fun i=>gp [(3,.rptr t.row),(3,.rslc 1 (iz (nz R)) none),(0,.int .i64 (i:Int))] 54) (hp:=fun _=>[.dead]) (μ:=fun i=>R.length-i) 0 [0] ⟨by omega,by rw[Gf,hD]⟩ rfl ?_ rfl ?_
 ·simp[forget,JA,ren,Jl,gp,Tr.row]
 ·rintro i ⟨hi,hinv⟩
  by_cases hlt:i+1 < R.length
  ·have d1:((i:Int)+1 < (R.length:Int))=True:=Jo
   rw[tdL_drop hlt]at hinv
   obtain ⟨hc,hu⟩:=hpr i hlt
   have hg1:=nzz_get (l:=R) (i:=i) (by omega)
   have hg2:=nzz_get hlt
   have hcn:R.getD (i+1) 0 < t.nodes.length:=hrng' _ (by rw[Gm,Gp hlt]; exact Gy hlt)
   generalize R.getD i 0=u at hinv hc hu hg1
   generalize R.getD (i+1) 0=c at hinv hc hg2 hcn
   have hgu:=Kt hu
   have hgc:=Kt hcn
   have hklen:=Hf hc
   have hi1:((i:Int)+1).toNat=i+1:=by omega
   simp -implicitDefEqProofs only[go_sem,QX,d1]
   refine ⟨Jj,?_⟩
   refine Qt [false,false,false,false,false,false,false,false,true,true] Jz (by decide +kernel) ?_
   by_cases h4:(nd t u).k=4
   ·have hdd:JgA t u c=some true:=by unfold JgA; rw[if_pos h4]
    rw[hdd]at hinv
    simp -implicitDefEqProofs only[go_sem,Tr.row,Jc,QX,hg1,hgu,Nd.cv,kbE,h4]
    exact ⟨by omega,by omega,by rw[hinv]⟩
   have b4:((nd t u).k == 4)=false:=beq_eq_false_iff_ne.2 h4
   by_cases h46:(nd t u).k=46
   ·have hdd:JgA t u c=some (c == JH t u):=by unfold JgA; rw[if_neg h4,if_pos (.inl h46)]
    have b46:((nd t u).k == 46)=true:=beq_iff_eq.2 h46
    rw[hdd]at hinv
    simp -implicitDefEqProofs only[go_sem,Tr.row,Jc,QX,hg1,hgu,Nd.cv,kbE,b4,b46]
    refine ⟨by omega,by omega,?_⟩
    refine JQ Jz (by decide) ?_
    simp -implicitDefEqProofs only[go_sem,QX,hi1,hg1,hg2,Tr.row]
    refine ⟨Jj,by omega,by omega,?_⟩
    refine J4 (.inl rfl) (Jcp g ht hu hklen) ?_
    have en:=JcV (JH t u) c
    simp -implicitDefEqProofs only[go_sem,en,hinv]
   have b46:((nd t u).k == 46)=false:=beq_eq_false_iff_ne.2 h46
   by_cases h47:(nd t u).k=47
   ·have hdd:JgA t u c=some (c == JH t u):=by unfold JgA; rw[if_neg h4,if_pos (.inr h47)]
    have b47:((nd t u).k == 47)=true:=beq_iff_eq.2 h47
    rw[hdd]at hinv
    simp -implicitDefEqProofs only[go_sem,Tr.row,Jc,QX,hg1,hgu,Nd.cv,kbE,b4,b46,b47]
    refine ⟨by omega,by omega,?_⟩
    refine JQ Jz (by decide) ?_
    simp -implicitDefEqProofs only[go_sem,QX,hi1,hg1,hg2,Tr.row]
    refine ⟨Jj,by omega,by omega,?_⟩
    refine J4 (.inl rfl) (Jcp g ht hu hklen) ?_
    have en:=JcV (JH t u) c
    simp -implicitDefEqProofs only[go_sem,en,hinv]
   have b47:((nd t u).k == 47)=false:=beq_eq_false_iff_ne.2 h47
   by_cases h28:(nd t u).k=28
   ·have b28:((nd t u).k == 28)=true:=beq_iff_eq.2 h28
    simp -implicitDefEqProofs only[go_sem,Tr.row,Jc,QX,hg1,hgu,Nd.cv,kbE,b4,b46,b47,b28]
    refine ⟨by omega,by omega,?_⟩
    refine JQ Jz (by decide) ?_
    by_cases h43:(nd t c).k=43
    ·have hdd:JgA t u c=none:=by unfold JgA; rw[if_neg h4,if_neg (by omega),if_pos h28,if_pos h43]
     have b43:((nd t c).k == 43)=true:=beq_iff_eq.2 h43
     rw[hdd]at hinv
     simp -implicitDefEqProofs only[go_sem,QX,hi1,hg2,Tr.row,Jc,hgc,Nd.cv,kbN,b43,Gi]
     refine ⟨Jj,by omega,by omega,Jj,i+1,[0],⟨by omega,hinv⟩,by omega,rfl,rfl,?_⟩
     simp[forget,JA,ren,Jl,Tr.row]
    ·have hdd:JgA t u c=some false:=by unfold JgA; rw[if_neg h4,if_neg (by omega),if_pos h28,if_neg h43]
     have b43:((nd t c).k == 43)=false:=beq_eq_false_iff_ne.2 h43
     rw[hdd]at hinv
     simp -implicitDefEqProofs only[go_sem,QX,hi1,hg2,Tr.row,Jc,hgc,Nd.cv,kbN,b43,Gl]
     exact ⟨Jj,by omega,by omega,by rw[hinv]⟩
   have b28:((nd t u).k == 28)=false:=beq_eq_false_iff_ne.2 h28
   have hdd:JgA t u c=none:=by unfold JgA; rw[if_neg h4,if_neg (by omega),if_neg h28]
   rw[hdd]at hinv
   simp -implicitDefEqProofs only[go_sem,Tr.row,Jc,QX,hg1,hgu,Nd.cv,kbE,b4,b46,b47,b28]
   refine ⟨by omega,by omega,Jj,i+1,[0],⟨by omega,hinv⟩,by omega,rfl,rfl,?_⟩
   simp[forget,JA,ren,Jl,Tr.row]
  ·have d1:((i:Int)+1 < (R.length:Int))=False:=Jn
   rw[tdL_end (by omega)]at hinv
   simp -implicitDefEqProofs only[go_sem,QX,d1,hinv]
   exact Jj
end
end
section
theorem indexO {E:Env}{H:List CObj}{id:Nat}{l:List Int}{x:Int}(hl:l.length≤1000000) (hH:H[id]? = some (.arr 1 (iz l))):CallsC Gb E 104 [.slc id 0 l.length none,.int .i64 x] H fun v H'=>v=.int .i64 (Q8 (fun y=>x == y) l 0)∧H'=H:=by
 have hil:(iz l).length=l.length:=Jf
 refine J7 c104_ok fun N=>?_
 simp -implicitDefEqProofs only[c104,go_sem]
 refine JC (I:=fun i:Nat=>i≤l.length∧Q8 (fun y=>x == y) l 0=Q8 (fun y=>x == y) (l.drop i) i) (inv:=fun i=>gp [(0,.slc id 0 l.length none),(0,.int .i64 x),(5,.int .i64 (l.length:Int)),(0,.int .i64 (i:Int))] 10) (hp:=fun _=>H) (μ:=fun i=>l.length-i) 0 ⟨by omega,rfl⟩ ?_ rfl ?_
 ·simp[forget,gp]
 ·rintro i ⟨hi,hinv⟩
  by_cases hlt:i < l.length
  ·have d1:((i:Int) < (l.length:Int))=True:=Jo
   have hgi:=JP hlt
   have hge:l[i]? = some (l.getD i 0):=by rw[Gm,Gp hlt]; rfl
   rw[QS hge]at hinv
   simp -implicitDefEqProofs only[go_sem,d1,hH,hil,hgi]
   generalize l.getD i 0=y at hinv hgi ⊢
   refine ⟨by omega,by omega,?_⟩
   cases he:(x == y) with
   |true=>
    rw[he,if_pos rfl]at hinv
    simp -implicitDefEqProofs only[go_sem,hinv]
   |false=>
    rw[he]at hinv
    simp -implicitDefEqProofs only[go_sem]
    refine ⟨Jj,i+1,⟨by omega,by simpa using hinv⟩,by omega,?_⟩
    simp[forget]
  ·have d1:((i:Int) < (l.length:Int))=False:=Jn
   rw[Gs (by omega)]at hinv
   simp -implicitDefEqProofs only[go_sem,d1,hinv,Q8]
theorem containsO {E:Env}{H:List CObj}{id:Nat}{l:List Int}{x:Int}(hl:l.length≤100000) (hH:H[id]? = some (Qi 1 (iz l))):CallsC Gb E 78 [KN id (iz l),.int .i64 x] H fun v H'=>v=.bool (l.contains x)∧H'=H:=by
 cases l with
 |nil=>exact (containsI [] x (by simp)).args (args':=[.nils,.int .i64 x]) ⟨wk.nils,wk.refl _,trivial⟩ E H
 |cons y l=>
  rw[Kg,Yx,← Kg]at hH
  have hc:=indexO (E:=E) (x:=x) (l:=y::l) (by omega) hH
  rw[show KN id (iz (y::l))=.slc id 0 (y::l).length none by rw[Kg,QQ,Jf]; rfl]
  generalize y::l=L at *
  refine J7 c78_ok fun N=>?_
  simp -implicitDefEqProofs only[c78,go_sem]
  refine J8 (.inl rfl) hc fun v H' ⟨h1,h2⟩=>?_
  subst h1 h2
  have e:decide (0≤Q8 (fun y=>x == y) L 0)=L.contains x:=by rw[Ja5,He]
  simp -implicitDefEqProofs only[go_sem,e]
theorem Jcz {l:List Int}{n:Nat}:(iz l).drop n=iz (l.drop n):=by simp[iz]
def todoV (els:List Int) (off:Nat):CV:=match els with
 |[]=>.nils
 |_::_=>.slc 2 off (els.length-off) none
theorem JeH {els:List Int}:todoV els 0=KN 2 (iz els):=by cases els <;> simp[todoV,iz,KN]
theorem JfE {els:List Int}{off:Nat}(h:els≠[]):todoV els off=.slc 2 off (els.length-off) none:=by cases els <;> simp_all [todoV]
theorem YU:∀ {l out:List Int},Xh l out≤l.length
 |[],_=>GR _
 |y::l,out=>by
  have:=YU (l:=l) (out:=out)
  simp only[Xh,Gg]
  split <;> omega
theorem Jf3 {t:Tr}{o of:List Int}:∀ x∈Kq t,(∀ y∈KD t o of x.toNat,y∈Kq t)∧(KD t o of x.toNat).length≤(Kq t).length:=
 fun x _=>⟨fun y hy=>(GI.1 hy).1,Gw _ _⟩
section
variable {t:Tr}{o:List Int}(g:GoodT t o) (ht:t.Fit)
include g ht
theorem nAll {of:List Int}(ho:OfOk t of) {s:Nat}(hs:s < t.nodes.length) (hk:(nd t s).k=41):Jbi Gb 97 [.agg (rRw t of),.int .i64 (s:Int)] 1 (iz (bfs (fun x=>KD t o of x.toNat) (Kq t) (KD t o of s) [])):=by
 have hmany:=g.many
 have hal:(Kq t).length=t.nodes.length:=by simp[Kq]
 refine Jb0 (J7 c97_ok fun N=>?_) rfl (Jd _)
 simp -implicitDefEqProofs only[c97,go_sem,rRw]
 refine Je (id:=0) (z:=2) (els:=[rRw t of]) rfl rfl ?_
 simp only[go_sem,JS,Ki,frz,KP,Gf]
 refine Q3 ?_
 simp only[go_sem,GY,GA]
 refine Jdf (.inl rfl) (nNeeds g ht ho hs hk) ?_
 simp -implicitDefEqProofs only[go_sem]
 have hset:∀ s':Nat,∀ x∈KD t o of s',0≤x∧x < t.nodes.length∧(nd t x.toNat).k=41:=fun s' x hx=>YR g hx
 generalize hN:(fun x:Int=>KD t o of x.toNat)=Nf
 have hNok:∀ x∈Kq t,(∀ y∈Nf x,y∈Kq t)∧(Nf x).length≤(Kq t).length:=by rw[← hN]; exact Jf3
 have hset':∀ x,∀ y∈Nf x,0≤y∧y < t.nodes.length∧(nd t y.toNat).k=41:=fun x y hy=>by rw[← hN]at hy; exact hset _ y hy
 have h0:=hset s
 have hlen0:(KD t o of s).length≤t.nodes.length:=by rw[← hal]; exact Gw _ _
 generalize KD t o of s=T0 at h0 hlen0 ⊢
 generalize hR:bfs Nf (Kq t) T0 []=R
 have hst:Xh (Kq t) []*((Kq t).length+1)≤700*701:=Hy (GN YU (by omega)) (by omega)
 refine Jy (σ:=List Int×Nat×List Int) (I:=fun s'=>s'.2.1≤s'.1.length∧(∀ x∈s'.1,0≤x∧x < t.nodes.length∧(nd t x.toNat).k=41)∧bfs Nf (Kq t) (s'.1.drop s'.2.1) s'.2.2=R∧muB (Kq t) (s'.1.drop s'.2.1) s'.2.2≤1000000∧s'.2.2.length+Xh (Kq t) s'.2.2≤700)
  (inv:=fun s'=>gp [(2,.rptr (rRw t of)),(1,KN 1 (iz s'.2.2)),(0,todoV s'.1 s'.2.1)] 26) (hp:=fun s'=>[.dead,Qi 1 (iz s'.2.2),Qi 1 (iz s'.1)]) (μ:=fun s'=>muB (Kq t) (s'.1.drop s'.2.1) s'.2.2) (T0,0,[]) [0,1,2] ⟨by simp,h0,by simpa using hR,by simp only[Gf,muB]; omega,by have:=YU (l:=Kq t) (out:=[]); simp only[Gt]; omega⟩ rfl ?_ ?_ ?_
 ·simp[forget,JA,ren,Jl,gp,rRw,JeH,KC,Qu,QN]
 ·simp only[Ke,Gc,Gd,go_sem,Kk (Ja (Jd T0)),Jh,QN,Xc]
 ·rintro ⟨els,off,out⟩ ⟨hoff,hP,hB,hmu,hout⟩
  dsimp only at hoff hP hB hmu hout
  by_cases hne:els=[]
  ·subst hne
   rw[List.drop_nil,Jgy]at hB
   have d1:((0:Int) > 0)=False:=Jn
   have d2:((0:Int) < 0)=False:=Jn
   simp -implicitDefEqProofs only[go_sem,todoV,d1,d2]
   rw[← hB]
   exact .row (id:=1) rfl rfl
  ·have hrO:Qi 1 (iz els)=.arr 1 (iz els):=Qk (by simpa [iz]using hne)
   have hel:(iz els).length=els.length:=Jf
   rw[hrO,JfE hne]
   by_cases hlt:off < els.length
   ·have d1:((0:Int) < ((els.length-off:Nat):Int))=True:=Jo
    have d2:(((els.length-off:Nat):Int) > 0)=True:=Jo
    have hgi:=JP hlt
    have hdr:els.drop off=els.getD off 0::els.drop (off+1):=by
     rw[GH hlt,Gm,Gp hlt]; rfl
    have hmem:els.getD off 0∈els:=by rw[Gm,Gp hlt]; exact Gy hlt
    have hPx:=hP _ hmem
    have hall:∀ y∈els.drop off,y∈Kq t:=fun y hy=>by
     have:=hP y (G7 hy)
     exact J2.2 ⟨this.1,this.2.1⟩
    rw[hdr]at hB hall hmu ⊢
    have hmu':=hmu
    simp only[muB,Gg]at hmu'
    generalize hx:els.getD off 0=x at hgi hPx hB hall hmu ⊢
    have hlen1:(((els.length-off:Nat):Int)).toNat-(1:Int).toNat=els.length-(off+1):=by omega
    simp -implicitDefEqProofs only[go_sem,d1,d2,hel,hgi,Hz]
    refine ⟨by omega,⟨by omega,GL _⟩,?_⟩
    have hxm:x∈Kq t:=hall x (by simp)
    have hol:out.length≤700:=by omega
    refine J8 (.inl rfl) (containsO (id:=1) (l:=out) (x:=x) (by omega) rfl) fun v H' ⟨h1,h2⟩=>?_
    subst h1 h2
    cases hc:out.contains x with
    |true=>
     rw[bfs_old hNok hall hc]at hB
     simp -implicitDefEqProofs only[go_sem,Gi]
     refine ⟨(els,off+1,out),[0,1,2],⟨by simp only; omega,hP,hB,by simp only[muB]; omega,hout⟩,by simp only[muB,Gg]; omega,rfl,?_,?_⟩
     ·simp only[Ke,Gc,Gd,go_sem,Kk (Ja (Jd out)),Ji,Ja (Jd els),Jh,hrO]
     ·simp[forget,JA,ren,Jl,KC,rRw,JfE hne]; omega
    |false=>
     rw[bfs_new hNok hall hc]at hB
     have hll:=XF hxm hc
     have hlr:=LA ((Kq t).length+1) (show Xh (Kq t) (out++[x])+1≤Xh (Kq t) out from hll)
     rw[HY,HV]at hlr
     have hnx:=(hNok x hxm).2
     obtain ⟨xn,rfl⟩:∃ x':Nat,x=x':=⟨x.toNat,by omega⟩
     have hPx3:=hPx.2.2
     rw[Gh]at hPx3
     have hNx:KD t o of xn=Nf (xn:Int):=by rw[← hN]; simp only[Gh]
     have hsx:=hset' (xn:Int)
     have hNf:=(nNeeds g ht ho (show xn < t.nodes.length by omega) hPx3).fn rfl (Jd _)
     rw[hNx]at hNf
     simp -implicitDefEqProofs only[go_sem,Gl,Jf,Jr,rRw]
     refine ⟨⟨by omega,by omega⟩,?_⟩
     refine JR hNf ?_
     generalize Nf (xn:Int)=M at hnx hsx hB ⊢
     have hel2:off+1+(els.length-off-1)=els.length:=by omega
     have hel3:(off+1+(els.length-off-1)=els.length)=True:=eq_true hel2
     have hd:=Lh (i:=off+1) (l:=els)
     cases M with
     |nil=>
      simp -implicitDefEqProofs only[go_sem,QN]
      rw[Gq]at hB
      refine ⟨(els,off+1,out++[(xn:Int)]),[0,4,2],⟨by simp only; omega,hP,hB,by simp only[muB]; omega,by simp only[Gx,Gg,Gt]; omega⟩,by simp only[muB,Gg]; omega,rfl,?_,?_⟩
      ·rw[hrO,Ka,JZ]
       simp only[Ke,Gc,Gd,go_sem,Ji,Ja (Jd els),Jh]
       simp[Ja (Jd out),JA,ren]
      ·rw[JfE hne,Ka,JY]
       simp[forget,JA,ren,Jl,Jf]; omega
     |cons y ys=>
      simp -implicitDefEqProofs only[go_sem,Kg,hel,hel3,Jf,Jr]
      simp only[Gg]at hnx
      refine ⟨⟨by omega,by omega⟩,(els.drop (off+1)++y::ys,0,out++[(xn:Int)]),[0,4,5],⟨by simp,fun z hz=>?_,by simpa using hB,by simp only[Gf,muB,Gx,Gg]; omega,by simp only[Gx,Gg,Gt]; omega⟩,by simp only[Gf,muB,Gx,Gg]; omega,rfl,?_,?_⟩
      ·rcases Hr.1 hz with h | h
       ·exact hP z (G7 h)
       ·exact hsx z h
      ·rw[Ka,JZ,Kz,Kg,JZ,← Jcz]
       simp only[Ke,Gc,Gd,go_sem,Ji,Jh]
       rw[Jcz]
       simp[Ja (Jd out),Ja (Jd (els.drop (off+1))),Ja (Jd ys),JA,ren]
      ·rw[JeH,Ka,JY,Kz,Kg,JY]
       simp[forget,JA,ren,Jl,Jf]; omega
   ·obtain rfl:off=els.length:=by omega
    rw[Lj,Jgy]at hB
    have d1:((0:Int) < ((els.length-els.length:Nat):Int))=False:=Jn
    have d2:(((els.length-els.length:Nat):Int) > 0)=False:=Jn
    simp -implicitDefEqProofs only[go_sem,d1,d2]
    rw[← hB]
    exact .row (id:=1) rfl rfl
end
end
section
def q2Ok (l:List IOper) (es:List (List Nat)) (bs bs2:List Bool) (i j:Nat) (p q:List Nat):Bool:=
 (!(i == j) && decide (i < es.length) && decide (j < es.length)) && (JcO l.length p q &&
 ((l.length == bs.length && (Jad l.length (YK es j i) (clo (YK es j i)) && KW l (clo (YK es j i)) (bs.map Qw))) &&
 ((prl p l).length == bs2.length && (Jad (prl p l).length (pre p q (YK es i j)) (clo (pre p q (YK es i j))) && KW (prl p l) (clo (pre p q (YK es i j))) (bs2.map Qw)))))
theorem vr_dregQ {P:Program}{E:Env}{n0:Nat}{N:Fr}{Q:Exit→List CV→List CObj→Prop}{H:List CObj}{T:List CV}{k:List KItem}{l:List IOper}{es:List (List Nat)}(i j:Nat) (p q:List Nat) (bs bs2:List Bool) (T':List CV) (H':List CObj) (hm:P.follows .mixedOrders=true) (hord:q2Ok l es bs bs2 i j p q=true)
  (h1:vdk P E (leads P E n0 N Q T' H') l bs T H) (h2:vdk P E (leads P E n0 N Q T' H') (prl p l) bs2 T H) (hfin:Kn P E n0 N Q k T' H'):Ok P E n0 N Q (.code (.dreg l es)::k) T H:=by
 unfold q2Ok at hord
 obtain ⟨g0,r1⟩:=Ha.1 hord
 obtain ⟨g1,r2⟩:=Ha.1 r1
 obtain ⟨g2,g3⟩:=Ha.1 r2
 exact JfA hm (Jb5 i j g0 (XK bs T' H' g2 (JB _ _ _ hfin) h1) (Jb4 p q g1 (XK bs2 T' H' g3 (JB _ _ _ hfin) h2)))
theorem iz_set {l:List Int}{i:Nat}{v:Int}:(iz l).set i [.int .i64 v]=iz (l.set i v):=by simp[iz,Lu]
def oT (t:Tr):List CV:=[.rslc 5 (ndz t.nodes) none,.rslc 1 (iz t.items) none,.slc 1 0 t.nodes.length none,.slc 2 0 t.nodes.length (some t.nodes.length)]
section
variable {t:Tr}{o:List Int}(g:GoodT t o) (ht:t.Fit)
include g ht
theorem nOpen:Fn Gb 94 [t.cv] (.tup [.rptr (tRw t),.int .i64 0]):=by
 have hmany:=g.many
 have hitm:=g.items
 have hc:chk t=0:=(Jb8 t).2 ⟨o,g⟩
 have e:(chk t != 0)=false:=by simp[hc]
 refine Q6 ?_ rfl rfl
 refine J7 c94_ok fun N=>?_
 simp -implicitDefEqProofs only[c94,go_sem,Tr.cv,Tr.row]
 refine Je (id:=0) (z:=2) (els:=[t.row]) rfl rfl ?_
 simp only[go_sem,JS,Ki,frz,KP,Tr.row]
 refine JR (parseCheck t ht) ?_
 simp -implicitDefEqProofs only[go_sem,e]
 have hz:GZ t.nodes.length [CV.int .i64 0]=iz (XH t 0):=by rw[itemTo_zero]; simp[iz]
 have hR:=repeatO (-1) t.nodes.length (by omega)
 rw[← upTo_zero g]at hR
 have hni:=Ja (ρ:=[0,2,1,3]) (Jd (XH t 0))
 have hnu:=Ja (ρ:=[0,2,1,3]) (Jd (upTo t 0))
 refine vr_dregQ 5 9 [0,1,2,3,4,6,7,8,9,5,10,11,12] [0,1,2,3,4,9,5,6,7,8,10,11,12] [false,false,false,false,false,true,false,false,false,true,false,true,false] [false,false,false,false,false,false,false,false,true,true,false,true,false] (gp [(1,.rptr t.row),(3,.ptr 3 0 0)] 71) [.dead,.arr 1 (iz (upTo t 0)),.arr 1 (iz (XH t 0)),.arr 4 [oT t]] Jz (by decide +kernel) ?_ ?_ ?_
 ·simp -implicitDefEqProofs only[go_sem,Tr.row]
  refine ⟨_,_,hs_row (iz [-1]) rfl rfl rfl rfl,?_⟩
  simp -implicitDefEqProofs only[go_sem,Jc]
  refine ⟨_,_,Jaz (.inl rfl) (hR _ _),?_⟩
  simp -implicitDefEqProofs only[go_sem,Jc,hz]
  exact ⟨⟨by omega,GL _,by omega,by omega⟩,Jk (by simp[forget,Tr.row])⟩
 ·simp -implicitDefEqProofs only[prl,QI,Gg,Gt,Gc,Gd,List.getD_cons_zero,List.getD_cons_succ,go_sem,Tr.row]
  refine ⟨_,_,hs_row (iz [-1]) rfl rfl rfl rfl,?_⟩
  simp -implicitDefEqProofs only[go_sem,Jc,hz]
  refine ⟨⟨by omega,GL _,by omega,by omega⟩,?_⟩
  refine ⟨_,_,Jaz (.inl rfl) (hR _ _),?_⟩
  simp -implicitDefEqProofs only[go_sem]
  refine QW [0,2,1,3] rfl (by simp[forget,JA,ren,Jl,Tr.row]) ?_
  simp only[Ke,Gc,Gd,go_sem,Ji,Jh,hni,hnu]
  simp[JA,ren,Jl,oT]
 ·simp only[gp,GZ]
  simp -implicitDefEqProofs only[go_sem,Tr.row,Jc]
  refine Jy (I:=fun i:Nat=>i≤t.nodes.length) (inv:=fun i=>gp [(1,.rptr t.row),(3,.ptr 3 0 0),(24,.rslc 5 (ndz t.nodes) none),(0,.int .i64 (t.nodes.length:Int)),(0,.int .i64 (i:Int))] 44) (hp:=fun i=>[.dead,.arr 1 (iz (upTo t i)),.arr 1 (iz (XH t 0)),.arr 4 [oT t]]) (μ:=fun i=>t.nodes.length-i) 0 [0,1,2,3] (by omega) rfl ?_ ?_ ?_
  ·simp[forget,JA,ren,Jl,gp,Tr.row]
  ·simp only[Ke,Gc,Gd,go_sem,Ji,Jh,Ja (Jd _)]
   simp[JA,ren,Jl,oT]
  ·intro i hi
   by_cases hlt:i < t.nodes.length
   ·have d1:((i:Int) < (t.nodes.length:Int))=True:=Jo
    have hg:=Kt hlt
    have hkl:(iz (nd t i).kids).length=(nd t i).kids.length:=Jf
    have hkn:=(fitN ht hlt).kidn
    have hus:=upTo_succ g hlt
    simp -implicitDefEqProofs only[go_sem,d1,Jc,hg,Nd.cv,hkl]
    refine ⟨by omega,?_⟩
    refine Je (id:=4) (z:=5) (els:=[(nd t i).cv]) rfl rfl ?_
    simp only[go_sem,JS,Ki,frz,KP,oT,Gf,KE (Jd _),Gc,Gd]
    refine JC (I:=fun k:Nat=>k≤(nd t i).kids.length) (inv:=fun k=>gp [(1,.rptr t.row),(3,.ptr 3 0 0),(0,.int .i64 (i:Int)),(23,.rslc 5 (ndz t.nodes) none),(0,.int .i64 (t.nodes.length:Int)),(0,.int .i64 (i:Int)),(5,.rslc 1 (iz (nd t i).kids) none),(0,.int .i64 ((nd t i).kids.length:Int)),(0,.int .i64 (k:Int))] 36) (hp:=fun k=>[.dead,.arr 1 (iz (Yh i (upTo t i) ((nd t i).kids.take k))),.arr 1 (iz (XH t 0)),.arr 4 [oT t],.dead]) (μ:=fun k=>(nd t i).kids.length-k) 0 (by omega) ?_ rfl ?_
    ·simp[forget,gp,Tr.row]
    ·intro k hk
     by_cases hlk:k < (nd t i).kids.length
     ·have d2:((k:Int) < ((nd t i).kids.length:Int))=True:=Jo
      have hgk:=JP hlk
      have hmem:(nd t i).kids.getD k 0∈(nd t i).kids:=by rw[Gm,Gp hlk]; exact Gy hlk
      have hr:=g.kid hlt hmem
      have hsn:Yh (i:Int) (upTo t i) ((nd t i).kids.take (k+1))=(Yh (i:Int) (upTo t i) ((nd t i).kids.take k)).set ((nd t i).kids.getD k 0).toNat i:=by
       rw[G5 hlk,Jdl,Gm,Gp hlk]; rfl
      have hsl:(Yh (i:Int) (upTo t i) ((nd t i).kids.take k)).length=t.nodes.length:=by rw[JeP,JaS]
      generalize (nd t i).kids.getD k 0=c at hgk hr hsn
      obtain ⟨c,rfl⟩:∃ c':Nat,c=c':=⟨c.toNat,by omega⟩
      rw[Gh]at hsn
      generalize Yh (i:Int) (upTo t i) ((nd t i).kids.take k)=r at hsn hsl ⊢
      have hrl:(iz r).length=t.nodes.length:=by rw[Jf,hsl]
      have hgr:=JP (l:=r) (i:=c) (by omega)
      simp -implicitDefEqProofs only[go_sem,d2,hkl,hgk,oT,hrl,hgr,Gg,Gt,GU,Gf,iz_set]
      refine ⟨by omega,by omega,by omega,Jj,k+1,by omega,by omega,?_,?_⟩
      ·rw[hsn]
      ·simp[forget,Tr.row]
     ·have d2:((k:Int) < ((nd t i).kids.length:Int))=False:=Jn
      rw[Gv (by omega),← hus]
      simp -implicitDefEqProofs only[go_sem,d2]
      refine ⟨Jj,i+1,[0,1,2,3],by omega,by omega,rfl,?_,?_⟩
      ·simp only[Ke,Gc,Gd,go_sem,Ji,Jh,Ja (Jd _)]
       simp[JA,ren,Jl,oT]
      ·simp[forget,JA,ren,Jl,Tr.row]
   ·have d1:((i:Int) < (t.nodes.length:Int))=False:=Jn
    obtain rfl:i=t.nodes.length:=by omega
    rw[upTo_all g]
    simp -implicitDefEqProofs only[go_sem,d1,Tr.row,Jc]
    refine Jy (I:=fun i:Nat=>i≤t.nodes.length∧(i=0∨i≤t.nodes.length)∧J5 t i≤t.items.length) (inv:=fun i=>gp [(1,.rptr t.row),(3,.ptr 3 0 0),(4,.int .i64 (J5 t i:Int)),(44,.int .i64 (t.nodes.length:Int)),(0,.int .i64 (i:Int))] 20) (hp:=fun i=>[.dead,.arr 1 (iz (upT t)),.arr 1 (iz (XH t i)),.arr 4 [oT t]]) (μ:=fun i=>t.nodes.length-i) 0 [0,1,2,3] ⟨by omega,.inl rfl,by rw[Jfc g]; omega⟩ rfl ?_ ?_ ?_
    ·simp[forget,JA,ren,Jl,gp,Tr.row,Jfc g]
    ·simp only[Ke,Gc,Gd,go_sem,Ji,Jh,Ja (Jd _)]
     simp[JA,ren,Jl,oT]
    ·rintro i ⟨hi,_,hin⟩
     by_cases hlt:i < t.nodes.length
     ·have d1:((i:Int) < (t.nodes.length:Int))=True:=Jo
      obtain ⟨L,h1,h2,h3,h4,h5⟩:=itemN_step g hlt
      have hsu:=itemTo_succ hlt
      have hrl:(iz (XH t i)).length=t.nodes.length:=by rw[Jf,Jfb (by omega)]
      have hgr:=JP (l:=XH t i) (i:=i) (by rw[Jfb (by omega)]; exact hlt)
      have hgi:=JP (l:=t.items) h1
      rw[h2]at hgi
      have hil:(iz t.items).length=t.items.length:=Jf
      by_cases he:i=L
      ·have e1:((i:Int) == (L:Int))=true:=by simp[he]
       rw[if_pos he]at h5
       simp -implicitDefEqProofs only[go_sem,d1,Tr.row,oT,hrl,hgr,hil,hgi,e1,Gg,Gt,GU,Gf,iz_set]
       refine ⟨by omega,by omega,by omega,Jj,Jj,i+1,[0,1,2,3],⟨by omega,.inr (by omega),by omega⟩,by omega,rfl,?_,?_⟩
       ·rw[← hsu]
        simp only[Ke,Gc,Gd,go_sem,Ji,Jh,Ja (Jd _)]
        simp[JA,ren,Jl]
       ·rw[h5]; simp[forget,JA,ren,Jl]
      ·have e1:((i:Int) == (L:Int))=false:=beq_eq_false_iff_ne.2 (by omega)
       rw[if_neg he]at h5
       simp -implicitDefEqProofs only[go_sem,d1,Tr.row,oT,hrl,hgr,hil,hgi,e1,Gg,Gt,GU,Gf,iz_set]
       refine ⟨by omega,by omega,by omega,Jj,i+1,[0,1,2,3],⟨by omega,.inr (by omega),by omega⟩,by omega,rfl,?_,?_⟩
       ·rw[← hsu]
        simp only[Ke,Gc,Gd,go_sem,Ji,Jh,Ja (Jd _)]
        simp[JA,ren,Jl]
       ·rw[h5]; simp[forget,JA,ren,Jl]
     ·have d1:((i:Int) < (t.nodes.length:Int))=False:=Jn
      obtain rfl:i=t.nodes.length:=by omega
      rw[itemTo_all]
      simp -implicitDefEqProofs only[go_sem,d1]
      refine .step 1 1 (iz (upT t)) rfl (Jd _) (.step 2 1 (iz (JcX t)) ?_ (Jd _) (.step 3 4 [tRw t] ?_ rfl (.done ?_)))
      ·simp only[Ki,KP,JS,frz,oT,Gc,Gd,GX,GV,List.getElem?_cons_succ,List.getElem?_cons_zero,KE (Jd _)]
      ·have q1:(iz (upT t)).take t.nodes.length=iz (upT t):=Gv (by rw[Jf,Jdh]; omega)
       have q2:(iz (JcX t)).take t.nodes.length=iz (JcX t):=Gv (by rw[Jf,JbY]; omega)
       simp[Ki,KP,JS,frz,oT,tRw,Jf,Jdh,JbY,q1,q2]
      ·simp[frz,JS]
       exact wk.refl _
end
end
section
theorem Jgk {n:Nat}{l:List Int}{q:Int→Bool}(h:∀ x∈l,0≤x∧x < n) : -1≤(match l.find? q with | some d=>d | none=>-1)∧(match l.find? q with | some d=>d | none=>-1) < (n:Int):=by
 cases hf:l.find? q with
 |none=>simp; omega
 |some d=>
  have:=h d (List.mem_of_find?_eq_some hf)
  simp only; omega
theorem Jc7 {t:Tr}{o:List Int}{i:Nat} : -1≤JO t o i∧JO t o i < t.nodes.length:=by
 unfold JO Je8 Jaa Jav
 have h:∀ x∈Kq t,0≤x∧x < (t.nodes.length:Int):=fun x hx=>J2.1 hx
 split
 ·exact Jgk h
 ·split
  ·exact Jgk h
  ·split
   ·exact Jgk h
   ·omega
theorem Ql {t:Tr}{o:List Int}:(ofL t o).length=t.nodes.length:=by simp[ofL]
theorem Jcu {t:Tr}{o:List Int}{i:Nat}(h:i < t.nodes.length):(ofL t o).getD i 0=JO t o i:=by
 simp[ofL,Gm,h]
theorem ofL_take {t:Tr}{o:List Int}{i:Nat}(h:i < t.nodes.length):(ofL t o).take (i+1)=(ofL t o).take i++[JO t o i]:=by
 rw[G5 (by rw[Ql]; exact h)]
 simp[ofL]
theorem Je4 {t:Tr}{o:List Int}:OfOk t (ofL t o):=⟨Ql,fun i hi=>by rw[Ql]at hi; rw[Jcu hi]; exact Jc7⟩
def resV (t:Tr) (o:List Int):CV:=match Xn t o 6 10 (Ga t.nodes.length) with
 |some r=>.tup [.agg [.rptr (tRw t),.rslc 1 (iz ((ofL t o).take r.1)) none],.int .i64 (r.1:Int),.int .i64 r.2]
 |none=>match (Ga t.nodes.length).find? (stN t o) with
  |some i=>.tup [.agg (rRw t (ofL t o)),.int .i64 (i:Int),.int .i64 9]
  |none=>.tup [.agg (rRw t (ofL t o)),.int .i64 0,.int .i64 0]
theorem resV_closed {t:Tr}{o:List Int}:(resV t o).closed=true:=by
 unfold resV
 split
 ·rfl
 ·split <;> rfl
theorem frzs_row {H:List CObj}{id:Nat}{l:List Int}{x:CV}{ys:List CV}(hx:x.closed=true) (hy:Jv ys=true) (h:H[id]? = some (Qi 1 (iz l))):Frzs (.tup (.agg [x,.rslc 1 (iz l) none]::ys)) (.tup (.agg [x,KN id (iz l)]::ys)) H:=by
 cases l with
 |nil=>exact .done (JgB ⟨JbH ⟨wk.refl _,wk.nils,trivial⟩,wks.refl _⟩)
 |cons a l=>
  refine .step id 1 (iz (a::l)) h (Jd _) (.done ?_)
  have e:frz id 1 (iz (a::l)) (KN id (iz (a::l)))=.rslc 1 (iz (a::l)) none:=by
   rw[Kg,QQ]
   simp[frz]
  simp only[frz,JS,e,Xu x hx,Qb ys hy]
  exact wk.refl _
theorem bfs_len {N:Int→List Int}{l:List Int}(hN:∀ x∈l,∀ y∈N x,y∈l):∀ (f:Nat) (todo out:List Int),(∀ x∈todo,x∈l)→(Jer N f todo out).length≤out.length+Xh l out
 |0,_,out,_=>LB _ _
 |f+1,[],out,_=>LB _ _
 |f+1,x::todo,out,h=>by
  rw[Jer]
  cases hc:out.contains x with
  |true=>rw[if_pos rfl]; exact bfs_len hN f todo out fun y hy=>h y (by simp[hy])
  |false=>
   rw[if_neg (by simp)]
   have hx:=h x (by simp)
   have h1:=bfs_len hN f (todo++N x) (out++[x]) fun y hy=>by
    rcases Hr.1 hy with h2 | h2
    ·exact h y (by simp[h2])
    ·exact hN x hx y h2
   have h2:=XF hx hc
   simp only[Gx,Gg,Gt]at h1
   omega
section
variable {t:Tr}{o:List Int}(g:GoodT t o) (ht:t.Fit)
include g ht
theorem JdE:Fn Gb 41 [t.cv] (resV t o):=by
 have hmany:=g.many
 refine Q6 ?_ rfl resV_closed
 refine J7 c41_ok fun N=>?_
 simp -implicitDefEqProofs only[c41,go_sem,Tr.cv,Tr.row]
 refine Je (id:=0) (z:=2) (els:=[t.row]) rfl rfl ?_
 simp only[go_sem,JS,Ki,frz,KP,Tr.row]
 refine JR (nOpen g ht) ?_
 simp -implicitDefEqProofs only[go_sem,tRw,Jc]
 refine Q3 ?_
 simp only[go_sem,GY,GA]
 refine Jy (I:=fun i:Nat=>i≤t.nodes.length∧Xn t o 6 10 (Ga t.nodes.length)=Xn t o 6 10 ((Ga t.nodes.length).drop i)) (inv:=fun i=>gp [(2,.ptr 1 0 0),(2,.rptr (tRw t)),(20,.int .i64 (t.nodes.length:Int)),(0,.int .i64 (i:Int))] 53) (hp:=fun i=>[.dead,.arr 2 [[.rptr (tRw t),KN 2 (iz ((ofL t o).take i))]],Qi 1 (iz ((ofL t o).take i))]) (μ:=fun i=>t.nodes.length-i) 0 [0,1,2] ⟨by omega,by rw[Gf]⟩ rfl ?_ ?_ ?_
 ·simp[forget,JA,ren,Jl,gp,tRw]
 ·simp[Ke,JA,ren,Jl,Jcd,KN,Qi,iz,tRw]
 ·rintro i ⟨hi,hinv⟩
  have hacc:((ofL t o).take i).length=i:=by rw[G8,Ql]; omega
  by_cases hlt:i < t.nodes.length
  ·have d1:((i:Int) < (t.nodes.length:Int))=True:=Jo
   have hot:=ofL_take (o:=o) hlt
   rw[Qg hlt,Xn]at hinv
   have hrs:∀ a:Int,Xn t o 6 10 (Ga t.nodes.length)=some (i,a)→resV t o=.tup [.agg [.rptr (tRw t),.rslc 1 (iz ((ofL t o).take i)) none],.int .i64 (i:Int),.int .i64 a]:=fun a h=>by unfold resV; rw[h]
   generalize (ofL t o).take i=acc at hacc hot hrs ⊢
   simp -implicitDefEqProofs only[go_sem,d1]
   refine JR (nMeaning g ht hlt) ?_
   simp -implicitDefEqProofs only[go_sem]
   refine JR (nTwice (by omega) hlt) ?_
   cases htw:twN t i with
   |true=>
    rw[htw,if_pos rfl]at hinv
    rw[hrs 6 hinv]
    simp -implicitDefEqProofs only[go_sem]
    exact frzs_row rfl rfl rfl
   |false=>
    rw[htw]at hinv
    cases hsh:JJ t i with
    |false=>
     rw[if_neg (by simp),if_neg (by rw[hsh]; simp)]at hinv
     simp -implicitDefEqProofs only[go_sem,Jf,Jr]
     refine ⟨⟨by omega,by omega⟩,Jj,i+1,[0,1,4],⟨by omega,hinv⟩,by omega,rfl,?_,?_⟩
     ·rw[hot,Ka,JZ,JY]
      simp only[Ke,Gc,Gd,go_sem,Ji,Jh]
      simp[Ja (Jd acc),JA,ren,Jl,Jf]
     ·simp[forget,JA,ren,Jl]
    |true=>
     cases hme:(JO t o i == -1) with
     |true=>
      rw[if_neg (by simp),if_pos (by rw[hsh,hme]; rfl)]at hinv
      rw[hrs 10 hinv]
      simp -implicitDefEqProofs only[go_sem,hme]
      exact frzs_row rfl rfl rfl
     |false=>
      rw[if_neg (by simp),if_neg (by rw[hsh,hme]; simp)]at hinv
      simp -implicitDefEqProofs only[go_sem,hme,Jf,Jr]
      refine ⟨⟨by omega,by omega⟩,Jj,i+1,[0,1,4],⟨by omega,hinv⟩,by omega,rfl,?_,?_⟩
      ·rw[hot,Ka,JZ,JY]
       simp only[Ke,Gc,Gd,go_sem,Ji,Jh]
       simp[Ja (Jd acc),JA,ren,Jl,Jf]
      ·simp[forget,JA,ren,Jl]
  ·have d1:((i:Int) < (t.nodes.length:Int))=False:=Jn
   obtain rfl:i=t.nodes.length:=by omega
   rw[show (Ga t.nodes.length).drop t.nodes.length=[] from Gs (by simp),Xn]at hinv
   have hrs:resV t o=match (Ga t.nodes.length).find? (stN t o) with | some i=>.tup [.agg (rRw t (ofL t o)),.int .i64 (i:Int),.int .i64 9] | none=>.tup [.agg (rRw t (ofL t o)),.int .i64 0,.int .i64 0]:=by unfold resV; rw[hinv]
   rw[hrs,Gv (by rw[Ql]; omega)]
   by_cases h0:t.nodes.length=0
   ·have hof:ofL t o=[]:=List.length_eq_zero_iff.1 (by rw[Ql]; exact h0)
    have d2:((0:Int) < (t.nodes.length:Int))=False:=Jn
    have hr0:Ga t.nodes.length=[]:=by rw[h0]; rfl
    rw[hof,QN,Qu,Xc,hr0,GK]
    simp -implicitDefEqProofs only[go_sem,d1,d2,tRw,Jc]
    refine JC (σ:=Unit) (I:=fun _=>True) (inv:=fun _=>gp [(2,.ptr 1 0 0),(2,.rptr (tRw t)),(56,.int .i64 (t.nodes.length:Int)),(0,.int .i64 0)] 17) (hp:=fun _=>[.dead,.arr 2 [[.rptr (tRw t),.nils]],.dead]) (μ:=fun _=>0) () trivial ?_ rfl ?_
    ·simp[forget,gp,tRw]
    ·intro _ _
     simp -implicitDefEqProofs only[go_sem,d2]
     exact .done (JgB ⟨JbH ⟨wk.refl _,wk.nils,trivial⟩,wks.refl _⟩)
   ·have hofn:iz (ofL t o)≠[]:=by
     intro e
     have:=congrArg Lv e
     rw[Jf,Ql]at this
     exact h0 (by simpa using this)
    have hofl:=Ql (t:=t) (o:=o)
    rw[QA hofn,Qk hofn,Jf,hofl]
    simp -implicitDefEqProofs only[go_sem,d1,tRw,Jc]
    refine Je (id:=2) (z:=1) (els:=iz (ofL t o)) rfl (Jd _) ?_
    have hft:G9 t.nodes.length (iz (ofL t o))=iz (ofL t o):=Gv (by rw[Jf,hofl]; omega)
    simp only[go_sem,JS,Ki,frz,KP,Gc,Gd,Gf,GM,if_true,Jf,hofl,GR,hft,GX,GV]
    refine Jy (I:=fun i:Nat=>i≤t.nodes.length∧(Ga t.nodes.length).find? (stN t o)=((Ga t.nodes.length).drop i).find? (stN t o)) (inv:=fun i=>gp [(2,.ptr 1 0 0),(2,.rptr (tRw t)),(56,.int .i64 (t.nodes.length:Int)),(0,.int .i64 (i:Int))] 17) (hp:=fun _=>[.dead,.arr 2 [rRw t (ofL t o)],.dead]) (μ:=fun i=>t.nodes.length-i) 0 [0,1,2] ⟨by omega,by rw[Gf]⟩ rfl ?_ ?_ ?_
    ·simp[forget,JA,ren,Jl,gp,tRw]
    ·simp[Ke,JA,ren,Jl,Jcd,rRw,tRw]
    ·rintro i ⟨hi,hinv⟩
     by_cases hlt:i < t.nodes.length
     ·have d1:((i:Int) < (t.nodes.length:Int))=True:=Jo
      rw[Qg hlt,GJ]at hinv
      simp -implicitDefEqProofs only[go_sem,d1]
      refine JR (Jcv t hlt) ?_
      cases hk:((nd t i).k == 41) with
      |false=>
       have hst:stN t o i=false:=by unfold stN; rw[hk]; rfl
       rw[hst]at hinv
       simp -implicitDefEqProofs only[go_sem,kbE,hk]
       refine ⟨Jj,i+1,[0,1,2],⟨by omega,hinv⟩,by omega,rfl,?_,?_⟩
       ·simp[Ke,JA,ren,Jl,Jcd,rRw]
       ·simp[forget,JA,ren,Jl]
      |true=>
       have hst:stN t o i=(bfs (fun x=>KD t o (ofL t o) x.toNat) (Kq t) (KD t o (ofL t o) i) []).contains (i:Int):=by unfold stN; rw[hk,Gj]
       have hA:=(nAll g ht (Je4 (o:=o)) hlt (beq_iff_eq.1 hk)).fn rfl (Jd _)
       have hbl:(bfs (fun x=>KD t o (ofL t o) x.toNat) (Kq t) (KD t o (ofL t o) i) []).length≤100000:=by
        have h1:=bfs_len (N:=fun x=>KD t o (ofL t o) x.toNat) (l:=Kq t) (fun x hx=>(Jf3 x hx).1) (muB (Kq t) (KD t o (ofL t o) i) []+1) (KD t o (ofL t o) i) [] (fun x hx=>(GI.1 hx).1)
        have h2:=YU (l:=Kq t) (out:=[])
        have h3:(Kq t).length=t.nodes.length:=by simp[Kq]
        simp only[Gt]at h1
        show (Jer _ _ _ _).length≤_
        omega
       generalize bfs (fun x=>KD t o (ofL t o) x.toNat) (Kq t) (KD t o (ofL t o) i) []=B at hst hA hbl
       simp -implicitDefEqProofs only[go_sem,kbE,hk,rRw]
       refine JV (gok rfl) hA ?_
       simp -implicitDefEqProofs only[go_sem]
       refine JV (gok rfl) (containsI B (i:Int) hbl) ?_
       cases hc:B.contains (i:Int) with
       |false=>
        rw[hst,hc]at hinv
        simp -implicitDefEqProofs only[go_sem]
        refine ⟨Jj,i+1,[0,1,2],⟨by omega,hinv⟩,by omega,rfl,?_,?_⟩
        ·simp[Ke,JA,ren,Jl,Jcd]
        ·simp[forget,JA,ren,Jl]
       |true=>
        rw[hst,hc]at hinv
        rw[hinv]
        simp -implicitDefEqProofs only[go_sem]
        exact .done (wk.refl _)
     ·have d1:((i:Int) < (t.nodes.length:Int))=False:=Jn
      rw[show (Ga t.nodes.length).drop i=[] from Gs (by simp; omega),GK]at hinv
      rw[hinv]
      simp -implicitDefEqProofs only[go_sem,d1,rRw]
      exact .done (wk.refl _)
theorem Jc5:Fn Gb 9 [t.cv] (if (Xa t o).2=0 then .tup [.agg [.rslc 1 (iz (ofL t o)) none],.int .i64 0,.int .i64 0] else .tup [.agg [.nils],.int .i64 ((Xa t o).1:Int),.int .i64 (Xa t o).2]):=by
 have hV:=JdE g ht
 refine Jb c9_ok rfl (by split <;> rfl) fun N=>?_
 simp -implicitDefEqProofs only[c9,go_sem,Tr.cv,Tr.row]
 refine JR hV ?_
 unfold Xa resV
 cases hs:Xn t o 6 10 (Ga t.nodes.length) with
 |some r=>
  have hr:∀ l:List Nat,Xn t o 6 10 l=some r→r.2=6∨r.2=10:=by
   intro l
   induction l with
   |nil=>intro h; cases h
   |cons x l ih=>
    intro h
    rw[Xn]at h
    split at h
    ·cases h; exact .inl rfl
    ·split at h
     ·cases h; exact .inr rfl
     ·exact ih h
  have h2:=hr _ hs
  have e1:(r.2 != 0)=true:=bne_iff_ne.2 (by omega)
  simp only
  rw[if_neg (by omega)]
  simp -implicitDefEqProofs only[go_sem,e1]
 |none=>
  simp only
  cases hf:(Ga t.nodes.length).find? (stN t o) with
  |some i=>
   simp only
   rw[if_neg (by decide)]
   simp -implicitDefEqProofs only[go_sem,rRw]
  |none=>
   simp only[if_true]
   simp -implicitDefEqProofs only[go_sem,rRw]
end
end
section
def rE (t:Tr) (o:List Int):List CV:=match Xn t o 6 10 (Ga t.nodes.length) with
 |some r=>[.rptr (tRw t),.rslc 1 (iz ((ofL t o).take r.1)) none]
 |none=>rRw t (ofL t o)
theorem resV_eq {t:Tr}{o:List Int}:resV t o=.tup [.agg (rE t o),.int .i64 ((Xa t o).1:Int),.int .i64 (Xa t o).2]:=by
 unfold resV Xa rE
 cases Xn t o 6 10 (Ga t.nodes.length) with
 |some r=>rfl
 |none=>cases (Ga t.nodes.length).find? (stN t o) <;> rfl
theorem rE_ok {t:Tr}{o:List Int}(h:(Xa t o).2=0):rE t o=rRw t (ofL t o):=by
 unfold rE
 unfold Xa at h
 cases hs:Xn t o 6 10 (Ga t.nodes.length) with
 |some r=>
  rw[hs]at h
  have hr:∀ l:List Nat,Xn t o 6 10 l=some r→r.2=6∨r.2=10:=by
   intro l
   induction l with
   |nil=>intro h; cases h
   |cons x l ih=>
    intro h
    rw[Xn]at h
    split at h
    ·cases h; exact .inl rfl
    ·split at h
     ·cases h; exact .inr rfl
     ·exact ih h
  have:=hr _ hs
  simp only at h
  omega
 |none=>rfl
theorem rE_closed {t:Tr}{o:List Int}:Jv (rE t o)=true:=by unfold rE; split <;> rfl
theorem rE_head {t:Tr}{o:List Int}:∃ l,rE t o=[.rptr (tRw t),.rslc 1 (iz l) none]:=by unfold rE rRw; split <;> exact ⟨_,rfl⟩
section
variable {t:Tr}{o:List Int}(g:GoodT t o) (ht:t.Fit)
include g ht
theorem nFind (ns:List Int) (hns:ns.length≤100):Fn Gb 48 [t.cv,.rslc 1 (iz ns) none] (.tup [.agg (rE t o),.int .i64 (if (Xa t o).2≠0 then (Xa t o).2 else if ns.all (inT t)=true then 0 else 7)]):=by
 have hmany:=g.many
 have hV:=JdE g ht
 rw[resV_eq]at hV
 have hil:(iz ns).length=ns.length:=Jf
 obtain ⟨x,hx⟩:=rE_head (t:=t) (o:=o)
 refine Jb c48_ok rfl (by simp[CV.closed,Jv,rE_closed]) fun N=>?_
 rw[hx]at hV ⊢
 simp -implicitDefEqProofs only[c48,go_sem,Tr.cv,Tr.row]
 refine JR hV ?_
 by_cases he:(Xa t o).2=0
 ·have e1:((Xa t o).2 != 0)=false:=by simp[he]
  rw[if_neg (by simpa using he)]
  simp -implicitDefEqProofs only[go_sem,e1,hil]
  refine Je (id:=2) (z:=2) (els:=[[.rptr (tRw t),.rslc 1 (iz x) none]]) rfl rfl ?_
  simp only[go_sem,JS,Ki,frz,KP,Gc,Gd,Gf]
  refine JC (I:=fun i:Nat=>i≤ns.length∧ns.all (inT t)=(ns.drop i).all (inT t)) (inv:=fun i=>gp [(4,.ptr 1 0 0),(1,.rptr [.rptr (tRw t),.rslc 1 (iz x) none]),(14,.rslc 1 (iz ns) none),(0,.int .i64 (ns.length:Int)),(0,.int .i64 (i:Int))] 19) (hp:=fun _=>[.arr 2 [t.row],.arr 2 [[.nilp,.nils]],.dead]) (μ:=fun i=>ns.length-i) 0 ⟨by omega,by rw[Gf]⟩ ?_ rfl ?_
  ·simp[forget,gp]
  ·rintro i ⟨hi,hinv⟩
   by_cases hlt:i < ns.length
   ·have d1:((i:Int) < (ns.length:Int))=True:=Jo
    have hgi:=JP hlt
    rw[GH hlt,Hu,show ns[i]=ns.getD i 0 by rw[Gm,Gp hlt]; rfl]at hinv
    generalize ns.getD i 0=y at hinv hgi
    cases hy:inT t y with
    |true=>
     have hr:=JdR.1 hy
     rw[hy,Gj]at hinv
     have e2:decide (y < 0)=false:=decide_eq_false (by omega)
     have e3:decide ((t.nodes.length:Int)≤y)=false:=decide_eq_false (by omega)
     simp -implicitDefEqProofs only[go_sem,d1,hil,hgi,e2,e3,tRw,Jc]
     refine ⟨by omega,Jj,i+1,⟨by omega,hinv⟩,by omega,?_⟩
     simp[forget,tRw]
    |false=>
     have hr:¬ (0≤y∧y < t.nodes.length):=fun h=>by rw[JdR.2 h]at hy; cases hy
     rw[hy,Gn]at hinv
     rw[hinv]
     by_cases hn:y < 0
     ·have e2:decide (y < 0)=true:=decide_eq_true hn
      simp -implicitDefEqProofs only[go_sem,d1,hil,hgi,e2,if_false,Hd]
      omega
     ·have e2:decide (y < 0)=false:=decide_eq_false hn
      have e3:decide ((t.nodes.length:Int)≤y)=true:=decide_eq_true (by omega)
      simp -implicitDefEqProofs only[go_sem,d1,hil,hgi,e2,e3,tRw,Jc,if_false,Hd]
      omega
   ·have d1:((i:Int) < (ns.length:Int))=False:=Jn
    rw[Gs (by omega),Hw]at hinv
    rw[hinv,if_pos rfl]
    simp -implicitDefEqProofs only[go_sem,d1]
 ·have e1:((Xa t o).2 != 0)=true:=by simpa using he
  rw[if_pos he]
  simp -implicitDefEqProofs only[go_sem,e1]
theorem nNeedsF (hE:(Xa t o).2=0) (s:Nat) (hs:s < t.nodes.length) (hk:(nd t s).k=41):Fn Gb 14 [t.cv,.int .i64 (s:Int)] (.tup [.rslc 1 (iz (KD t o (ofL t o) s)) none,.int .i64 0]):=by
 have hmany:=g.many
 have hF:=nFind g ht [(s:Int)] (by simp)
 have hin:[(s:Int)].all (inT t)=true:=by simp only[Hu,Hw,H5]; exact JdR.2 ⟨by omega,by omega⟩
 rw[if_neg (by simp[hE]),if_pos hin,rE_ok hE]at hF
 refine Jb c14_ok rfl rfl fun N=>?_
 simp -implicitDefEqProofs only[c14,go_sem,Tr.cv,Tr.row]
 refine Je (id:=1) (z:=1) (els:=iz [(s:Int)]) rfl rfl ?_
 simp only[go_sem,JS,Ki,frz,KP,Kg,QN,Gc,Gd,Gg,Gt,Gf,Hm,Ht]
 refine JR hF ?_
 simp -implicitDefEqProofs only[go_sem,rRw]
 refine JR (Jcv t hs) ?_
 simp -implicitDefEqProofs only[go_sem,kbN,hk]
 refine JR ((nNeeds g ht (Je4 (o:=o)) hs hk).fn rfl (Jd _)) ?_
 simp -implicitDefEqProofs only[go_sem]
end
end
section
section
variable {E:Env}{H:List CObj}
theorem vr_pc {P:Program}{n0:Nat}{N:Fr}{Q:Exit→List CV→List CObj→Prop}{T:List CV}{k:List KItem}{d:Option Nat}{g:Option (Nat×Bool)}{f:Nat}{xa:List IArg}{l:List IOper}{v:CV}(hg:GOk T g) (hcall:Pure P E f (xa.map (Kc T)) H v) (h:Kn P E n0 N Q (.ops l::k) (put T d v) H):Ok P E n0 N Q (.ops (⟨d,.call f xa,g⟩::l)::k) T H:=
 J8 hg hcall fun v' H' ⟨h1,h2⟩=>by rw[h1,h2]; exact h
theorem order1 {b r:Nat}{left:List Int}{x:Int}(hb:H[b]? = some (.arr 1 [[KN r (iz left)]])) (hr:H[r]? = some (Qi 1 (iz left))) (hl:left.length≤100000):Pure Gb E 77 [.int .i64 x,.ptr b 0 0] H (.bool (left.contains x)):=by
 refine J7 c77_ok fun N=>?_
 simp -implicitDefEqProofs only[c77,go_sem,hb]
 refine vr_pc (.inl rfl) (containsO (id:=r) hl hr) ?_
 simp -implicitDefEqProofs only[go_sem]
theorem indexFP {f:Nat}{l1 l2:List CV}{F:IFunc}(l:List Int) (q:Int→Bool) (hF:Jg Gb f=some F)
  (hq:∀ p∈l,Pure Gb E f (l1++[.int .i64 p]++l2) H (.bool (q p))) (hlen:l.length≤1000000):Pure Gb E 81 [.rslc 1 (iz l) none,.fn f l1 l2] H (.int .i64 (Q8 q l 0)):=by
 have hil:(iz l).length=l.length:=Jf
 refine J7 c81_ok fun N=>?_
 simp -implicitDefEqProofs only[c81,go_sem,hil]
 refine JC (I:=fun i:Nat=>i≤l.length∧Q8 q l 0=Q8 q (l.drop i) i) (inv:=fun i=>gp [(0,.rslc 1 (iz l) none),(0,.fn f l1 l2),(5,.int .i64 l.length),(0,.int .i64 i)] 10) (hp:=fun _=>H) (μ:=fun i=>l.length-i) 0 ⟨by omega,rfl⟩ ?_ rfl ?_
 ·simp[forget,gp]
 ·rintro i ⟨hi,hinv⟩
  by_cases hlt:i < l.length
  ·have d1:((i:Int) < (l.length:Int))=True:=Jo
   have hgi:=JP hlt
   have hge:l[i]? = some (l.getD i 0):=by rw[Gm,Gp hlt]; rfl
   have hm:l.getD i 0∈l:=Hl hge
   rw[QS hge]at hinv
   simp -implicitDefEqProofs only[go_sem,hil,d1,hgi]
   refine ⟨by omega,?_⟩
   refine Jdg (.inl rfl) rfl hF (JaZ Je0 _) (hq _ hm) ?_
   cases hb:q (l.getD i 0) with
   |true=>
    rw[hb,if_pos rfl]at hinv
    simp -implicitDefEqProofs only[go_sem,hinv]
   |false=>
    rw[hb]at hinv
    simp -implicitDefEqProofs only[go_sem]
    refine ⟨Jj,i+1,⟨by omega,by simpa using hinv⟩,by omega,?_⟩
    simp[forget]
  ·have d1:((i:Int) < (l.length:Int))=False:=Jn
   rw[Gs (by omega)]at hinv
   simp -implicitDefEqProofs only[go_sem,hil,d1,hinv,Q8]
theorem indexFO {f id:Nat}{l1 l2:List CV}{F:IFunc}(l:List Int) (q:Int→Bool) (hF:Jg Gb f=some F) (hH:H[id]? = some (.arr 1 (iz l)))
  (hq:∀ p∈l,Pure Gb E f (l1++[.int .i64 p]++l2) H (.bool (q p))) (hlen:l.length≤1000000):Pure Gb E 81 [.slc id 0 l.length none,.fn f l1 l2] H (.int .i64 (Q8 q l 0)):=by
 have hil:(iz l).length=l.length:=Jf
 refine J7 c81_ok fun N=>?_
 simp -implicitDefEqProofs only[c81,go_sem]
 refine JC (I:=fun i:Nat=>i≤l.length∧Q8 q l 0=Q8 q (l.drop i) i) (inv:=fun i=>gp [(0,.slc id 0 l.length none),(0,.fn f l1 l2),(5,.int .i64 l.length),(0,.int .i64 i)] 10) (hp:=fun _=>H) (μ:=fun i=>l.length-i) 0 ⟨by omega,rfl⟩ ?_ rfl ?_
 ·simp[forget,gp]
 ·rintro i ⟨hi,hinv⟩
  by_cases hlt:i < l.length
  ·have d1:((i:Int) < (l.length:Int))=True:=Jo
   have hgi:=JP hlt
   have hge:l[i]? = some (l.getD i 0):=by rw[Gm,Gp hlt]; rfl
   have hm:l.getD i 0∈l:=Hl hge
   rw[QS hge]at hinv
   simp -implicitDefEqProofs only[go_sem,d1,hH,hil,hgi]
   refine ⟨by omega,by omega,?_⟩
   refine Jdg (.inl rfl) rfl hF (JaZ Je0 _) (hq _ hm) ?_
   cases hb:q (l.getD i 0) with
   |true=>
    rw[hb,if_pos rfl]at hinv
    simp -implicitDefEqProofs only[go_sem,hinv]
   |false=>
    rw[hb]at hinv
    simp -implicitDefEqProofs only[go_sem]
    refine ⟨Jj,i+1,⟨by omega,by simpa using hinv⟩,by omega,?_⟩
    simp[forget]
  ·have d1:((i:Int) < (l.length:Int))=False:=Jn
   rw[Gs (by omega)]at hinv
   simp -implicitDefEqProofs only[go_sem,d1,hinv,Q8]
theorem containsFP {f:Nat}{l1 l2:List CV}{F:IFunc}(l:List Int) (q:Int→Bool) (hF:Jg Gb f=some F)
  (hq:∀ p∈l,Pure Gb E f (l1++[.int .i64 p]++l2) H (.bool (q p))) (hlen:l.length≤1000000):Pure Gb E 80 [.rslc 1 (iz l) none,.fn f l1 l2] H (.bool (l.any q)):=by
 refine J7 c80_ok fun N=>?_
 simp -implicitDefEqProofs only[c80,go_sem]
 refine vr_pc (.inl rfl) (indexFP l q hF hq hlen) ?_
 simp -implicitDefEqProofs only[go_sem,Ja5]
end
theorem JdW {H:List CObj}{id:Nat}{l:List Int}{ys:List CV}(hy:Jv ys=true) (h:H[id]? = some (Qi 1 (iz l))):Frzs (.tup (.rslc 1 (iz l) none::ys)) (.tup (KN id (iz l)::ys)) H:=by
 cases l with
 |nil=>exact .done (JgB ⟨wk.nils,wks.refl _⟩)
 |cons a l=>
  refine .step id 1 (iz (a::l)) h (Jd _) (.done ?_)
  have e:frz id 1 (iz (a::l)) (KN id (iz (a::l)))=.rslc 1 (iz (a::l)) none:=by
   rw[Kg,QQ]
   simp[frz]
  simp only[frz,JS,e,Qb ys hy]
  exact wk.refl _
theorem deleteRowT {E:Env}{H:List CObj}{id k:Nat}{l:List Int}(hk:k < l.length) (hH:H[id]? = some (.arr 1 (iz l))):CallsC Gb E 82 [.slc id 0 l.length none,.int .i64 (k:Int),.int .i64 ((k:Int)+1)] H fun v' H'=>v'=.slc id 0 (l.length-1) none∧H'=H.set id (.arr 1 (iz (l.eraseIdx k))):=by
 have h:=deleteRow (E:=E) (cap:=none) hk hH
 rw[show (((k+1:Nat)):Int)=(k:Int)+1 from rfl]at h
 refine h.trunc (id:=0) (z:=0) (j:=0) (els:=[]) (v:=.un) fun v H' ⟨h1,h2⟩=>.inr ⟨id,1,iz (l.take k++l.drop (k+1)++[0]),l.length-1,by rw[h2,H9 (H8.1 hH).1],h1,?_⟩
 rw[h2,List.set_set,List.eraseIdx_eq_take_drop_succ]
 congr 2
 unfold iz
 rw[← List.map_take,Ll (by simp; omega)]
def JeA (N:Int→List Int) (left:List Int) (s:Int):Bool:=!(N s).any fun y=>left.contains y
def ordG (N:Int→List Int):Nat→List Int→List Int
 |0,_=>[]
 |f+1,left=>if left=[] then [] else left.getD (Q8 (JeA N left) left 0).toNat 0::ordG N f (left.eraseIdx (Q8 (JeA N left) left 0).toNat)
def ordL (t:Tr) (o of:List Int) (b:Nat):List Int:=ordG (fun x=>KD t o of x.toNat) (QE t b 41).length (QE t b 41)
section
variable {t:Tr}{o:List Int}(g:GoodT t o) (ht:t.Fit)
include g ht
theorem order2 {E:Env}{H:List CObj}{of:List Int}(ho:OfOk t of) {b c r:Nat}{left:List Int}{s:Nat}(hs:s < t.nodes.length) (hk:(nd t s).k=41) (hc:H[c]? = some (.arr 1 [[.fn 77 [] [.ptr b 0 0]]])) (hb:H[b]? = some (.arr 1 [[KN r (iz left)]])) (hr:H[r]? = some (Qi 1 (iz left))) (hl:left.length≤100000):Pure Gb E 79 [.int .i64 (s:Int),.rptr (rRw t of),.ptr c 0 0] H (.bool (JeA (fun x=>KD t o of x.toNat) left (s:Int))):=by
 have hmany:=g.many
 have hN:=(nNeeds g ht ho hs hk).fn rfl (Jd _)
 have hnl:(KD t o of s).length≤1000000:=by
  have h1:(KD t o of s).length≤(Kq t).length:=Gw _ _
  have h2:(Kq t).length=t.nodes.length:=by simp[Kq]
  omega
 have hF:JeA (fun x=>KD t o of x.toNat) left (s:Int) = !(KD t o of s).any fun y=>left.contains y:=by unfold JeA; simp only[Gh]
 rw[hF]
 generalize KD t o of s=M at hN hnl
 refine J7 c79_ok fun N=>?_
 simp -implicitDefEqProofs only[c79,go_sem]
 refine Qt [false,false,false,true,true,false,false] Jz (by decide +kernel) ?_
 simp -implicitDefEqProofs only[go_sem,rRw]
 refine vh_f hN ?_
 simp -implicitDefEqProofs only[go_sem,hc]
 refine ⟨_,_,Jaz (.inl rfl) (containsFP M (fun y=>left.contains y) c77_ok (fun p _=>order1 hb hr hl) hnl),?_⟩
 simp -implicitDefEqProofs only[go_sem]
omit g ht in
theorem res_st (hE:(Xa t o).2=0) {i:Nat}(hi:i < t.nodes.length):stN t o i=false:=by
 unfold Xa at hE
 cases hs:Xn t o 6 10 (Ga t.nodes.length) with
 |some r=>
  have h1:=rE_ok (t:=t) (o:=o) (by unfold Xa; exact hE)
  rw[hs]at hE
  unfold rE rRw at h1
  rw[hs]at h1
  simp only[List.cons.injEq,CV.rslc.injEq,true_and,and_true]at h1
  have hr:∀ l:List Nat,Xn t o 6 10 l=some r→r.2=6∨r.2=10:=by
   intro l
   induction l with
   |nil=>intro h; cases h
   |cons x l ih=>
    intro h
    rw[Xn]at h
    split at h
    ·cases h; exact .inl rfl
    ·split at h
     ·cases h; exact .inr rfl
     ·exact ih h
  have:=hr _ hs
  simp only at hE
  omega
 |none=>
  rw[hs]at hE
  simp only at hE
  cases hf:(Ga t.nodes.length).find? (stN t o) with
  |some k=>rw[hf]at hE; simp only at hE; omega
  |none=>
   have:=Lc.1 hf i (Lt.2 hi)
   simpa using this
omit ht in
theorem order_free (hE:(Xa t o).2=0) {left:List Int}(hl:∀ x∈left,0≤x∧x < t.nodes.length∧(nd t x.toNat).k=41) (hne:left≠[]):∃ k,Q8 (JeA (fun x=>KD t o (ofL t o) x.toNat) left) left 0=((k:Nat):Int)∧k < left.length:=by
 generalize hN:(fun x:Int=>KD t o (ofL t o) x.toNat)=Nf
 have hset:∀ x,∀ y∈Nf x,0≤y∧y < t.nodes.length∧(nd t y.toNat).k=41:=fun x y hy=>by rw[← hN]at hy; exact YR g hy
 have hmem:∀ x,x∈(Kq t).filter (fun x=>(nd t x.toNat).k == 41)↔0≤x∧x < t.nodes.length∧(nd t x.toNat).k=41:=fun x=>by
  rw[GI,J2,beq_iff_eq]; exact ⟨fun ⟨⟨a,b⟩,c⟩=>⟨a,b,c⟩,fun ⟨a,b,c⟩=>⟨⟨a,b⟩,c⟩⟩
 have hNl:∀ x∈(Kq t).filter (fun x=>(nd t x.toNat).k == 41),(∀ y∈Nf x,y∈(Kq t).filter (fun x=>(nd t x.toNat).k == 41))∧(Nf x).length≤((Kq t).filter (fun x=>(nd t x.toNat).k == 41)).length:=by
  intro x _
  refine ⟨fun y hy=>(hmem y).2 (hset x y hy),?_⟩
  have hsub:Nf x=((Kq t).filter fun x=>(nd t x.toNat).k == 41).filter fun y=>(Nf x).contains y:=by
   rw[List.filter_filter]
   have:Nf x=(Kq t).filter fun y=>(Nf x).contains y:=by
    refine Jel (by rw[← hN]; exact Jbb.filter _) (Jbb.filter _) fun y=>?_
    rw[GI,J2,G6]
    exact ⟨fun h=>⟨⟨(hset x y h).1,(hset x y h).2.1⟩,h⟩,fun h=>h.2⟩
   conv=>lhs; rw[this]
   refine List.filter_congr fun y _=>?_
   cases hc:(Nf x).contains y with
   |false=>rw[Gn]
   |true=>
    have:=(hset x y (G6.1 hc)).2.2
    rw[Gj,this]; rfl
  rw[hsub]
  exact Gw _ _
 have hno:∀ x∈(Kq t).filter (fun x=>(nd t x.toNat).k == 41),x∉bfs Nf ((Kq t).filter (fun x=>(nd t x.toNat).k == 41)) (Nf x) []:=by
  intro x hx hin
  have hb:=(hmem x).1 hx
  obtain ⟨xn,rfl⟩:∃ x':Nat,x=x':=⟨x.toNat,by omega⟩
  have hst:=res_st hE (i:=xn) (by omega)
  have hk:=hb.2.2
  rw[Gh]at hk
  unfold stN at hst
  rw[hN,show KD t o (ofL t o) xn=Nf (xn:Int) by rw[← hN]; simp only[Gh],hk]at hst
  have hf:bfs Nf (Kq t) (Nf (xn:Int)) []=bfs Nf ((Kq t).filter (fun x=>(nd t x.toNat).k == 41)) (Nf (xn:Int)) []:=by
   refine Jb9 hNl _ _ _ _ (hNl _ hx).1 ?_ (Nat.lt_succ_self _)
   have a1:∀ l:List Int,Xh l []=l.length:=by
    intro l
    induction l with
    |nil=>rfl
    |cons y l ih=>rw[Xh,ih]; simp; omega
   have a2:=Gw (fun x=>(nd t x.toNat).k == 41) (Kq t)
   unfold muB
   rw[a1,a1]
   have:=Hy a2 (Nat.add_le_add_right a2 1)
   omega
  rw[hf]at hst
  rw[G6.2 hin]at hst
  simp at hst
 obtain ⟨x,hx,hfr⟩:=free_one hNl hno (left:=left) (fun x hx=>(hmem x).2 (hl x hx)) hne
 have hfx:JeA Nf left x=true:=by
  unfold JeA
  rw[Bool.not_eq_true',Lg]
  intro y hy
  simpa using hfr y hy
 rcases Jb1 (q:=JeA Nf left) left 0 with ⟨h1,h2⟩ | ⟨j,h1,h2,_⟩
 ·have:=Lc.1 h2 x hx
  exact absurd hfx this
 ·exact ⟨j,by rw[h2,GM],h1⟩
theorem nOrderF (hE:(Xa t o).2=0) {b:Nat}(hb:b < t.nodes.length) (hk:(nd t b).k=40∨(nd t b).k=28):Fn Gb 35 [t.cv,.int .i64 (b:Int)] (.tup [.rslc 1 (iz (ordL t o (ofL t o) b)) none,.int .i64 0]):=by
 have hmany:=g.many
 have hF:=nFind g ht [(b:Int)] (by simp)
 have hin:[(b:Int)].all (inT t)=true:=by simp only[Hu,Hw,H5]; exact JdR.2 ⟨by omega,by omega⟩
 rw[if_neg (by simp[hE]),if_pos hin,rE_ok hE]at hF
 have hKl:=Yk ht (x:=(b:Int)) (k:=41)
 rw[Gh]at hKl
 have hKm:∀ x∈QE t b 41,0≤x∧x < t.nodes.length∧(nd t x.toNat).k=41:=fun x hx=>by
  have h1:=JdP g hb hx
  have h2:=(KU.1 hx).2
  exact ⟨h1.1,h1.2,h2⟩
 unfold ordL
 have hRow:=Je7 g ht hb 41
 refine Q6 ?_ rfl rfl
 refine J7 c35_ok fun N=>?_
 simp -implicitDefEqProofs only[c35,go_sem,Tr.cv,Tr.row]
 refine Je (id:=1) (z:=1) (els:=iz [(b:Int)]) rfl rfl ?_
 simp only[go_sem,JS,Ki,frz,KP,Kg,QN,Gc,Gd,Gg,Gt,Gf,Hm,Ht]
 refine JR hF ?_
 simp -implicitDefEqProofs only[go_sem,rRw]
 refine JR (Jcv t hb) ?_
 generalize hN:(fun x:Int=>KD t o (ofL t o) x.toNat)=Nf
 generalize QE t b 41=K at hKl hKm hRow
 by_cases hK0:K=[]
 ·subst hK0
  have hRf:=hRow.fn rfl (Jd _)
  rcases hk with hk | hk <;> simp -implicitDefEqProofs only[go_sem,kbN,hk]
  case' inr=>
   refine JV (gok rfl) (Jcv t hb) ?_
   simp -implicitDefEqProofs only[go_sem,kbN,hk]
  all_goals
   refine JR hRf ?_
   simp -implicitDefEqProofs only[go_sem,QN]
   refine JC (σ:=Unit) (I:=fun _=>True) (inv:=fun _=>gp [(4,.nils),(1,.ptr 2 0 0),(0,.ptr 3 0 0)] 52) (hp:=fun _=>[.arr 2 [t.row],.dead,.arr 2 [rRw t (ofL t o)],.arr 1 [[.rslc 1 [] none]]]) (μ:=fun _=>0) () trivial ?_ rfl ?_
   ·simp[forget,gp]
   ·intro _ _
    have d1:((0:Int) < 0)=False:=Jn
    have d2:((0:Int) > 0)=False:=Jn
    simp -implicitDefEqProofs only[go_sem,d1,d2]
    exact .done (JgB ⟨wk.nils,wks.refl _⟩)
 have hRow':∀ E H,CallsC Gb E 76 [.rptr (tRw t),.int .i64 (b:Int),.int .u8 (41:Int)] H fun v H'=>v=.slc H.length 0 K.length none∧H'=H++[.arr 1 (iz K)]:=fun E H=>by
  have h:=hRow E H
  rw[QA (by simpa [iz]using hK0),Jf,Qk (by simpa [iz]using hK0)]at h
  exact h
 rcases hk with hk | hk <;> simp -implicitDefEqProofs only[go_sem,kbN,hk]
 case' inr=>
  refine JV (gok rfl) (Jcv t hb) ?_
  simp -implicitDefEqProofs only[go_sem,kbN,hk]
 all_goals
  refine J8 (.inl rfl) (hRow' _ _) fun v' H' ⟨h1,h2⟩=>?_
  subst h1 h2
  simp -implicitDefEqProofs only[go_sem]
  refine Je (id:=2) (z:=2) (els:=[rRw t (ofL t o)]) rfl rfl ?_
  simp only[go_sem,JS,Ki,frz,KP,Gc,Gd,Gf,KE (Jd K)]
  refine Q3 ?_
  simp only[go_sem,GY,GA]
  refine Jy (σ:=List Int×List Int×CV×CObj) (I:=fun s=>(∀ x∈s.1,0≤x∧x < t.nodes.length∧(nd t x.toNat).k=41)∧s.1.length+s.2.1.length≤30∧ordG Nf K.length K=s.2.1++ordG Nf s.1.length s.1∧((s.1≠[]∧s.2.2.1=.slc 3 0 s.1.length none∧s.2.2.2=.arr 1 (iz s.1))∨(s.1=[]∧((s.2.2.1=.nils∧s.2.2.2=.dead)∨(s.2.2.1=.slc 3 0 0 none∧s.2.2.2=.arr 1 []))))) (inv:=fun s=>gp [(4,KN 5 (iz s.2.1)),(1,.rptr (rRw t (ofL t o))),(0,.ptr 4 0 0)] 52) (hp:=fun s=>[.arr 2 [t.row],.dead,.dead,s.2.2.2,.arr 1 [[s.2.2.1]],Qi 1 (iz s.2.1)]) (μ:=fun s=>s.1.length) (K,[],.slc 3 0 K.length none,.arr 1 (iz K)) [0,1,2,3,4,5] ⟨hKm,by simpa using hKl,by simp,?_⟩ rfl ?_ ?_ ?_
  ·exact .inl ⟨hK0,rfl,rfl⟩
  ·simp[forget,JA,ren,Jl,gp,rRw,Qu,QN]
  ·simp only[Ke,Gc,Gd,go_sem,Ji,Jh,Ja (Jd K),QN,Xc]
   simp[JA,ren,Jl,Tr.row]
  ·rintro ⟨left,out,v,ob⟩ ⟨hm,hlen,hord,hv⟩
   dsimp only at hm hlen hord hv
   rcases hv with ⟨hne,rfl,rfl⟩ | ⟨rfl,hv⟩
   ·have hlp:=List.length_pos_iff.2 hne
    have d1:((0:Int) < (left.length:Int))=True:=Jo
    have d2:((left.length:Int) > 0)=True:=Jo
    obtain ⟨k,hk1,hk2⟩:=order_free g hE hm hne
    rw[hN]at hk1
    have hgk:=JP hk2
    have hil:(iz left).length=left.length:=Jf
    have hrv:KN 3 (iz left)=.slc 3 0 left.length none:=by rw[QA (by simpa [iz]using hne),Jf]
    have hro:Qi 1 (iz left)=.arr 1 (iz left):=Qk (by simpa [iz]using hne)
    have hog:ordG Nf left.length left=left.getD k 0::ordG Nf (left.eraseIdx k).length (left.eraseIdx k):=by
     rw[H7 hk2]
     obtain ⟨m,hm⟩:∃ m,left.length=m+1:=⟨left.length-1,by omega⟩
     rw[hm,ordG,if_neg hne,hk1,Gh]; rfl
    have hel:=H7 hk2
    simp -implicitDefEqProofs only[go_sem,d1,d2]
    refine vr_pc (.inl rfl) (indexFO (id:=3) left (JeA Nf left) c79_ok rfl (fun p hp=>?_) (by omega)) ?_
    ·have hb:=hm p hp
     obtain ⟨p,rfl⟩:∃ p':Nat,p=p':=⟨p.toNat,by omega⟩
     have hk4:=hb.2.2
     rw[Gh]at hk4
     rw[← hN]
     exact order2 g ht (Je4 (o:=o)) (b:=4) (c:=6) (r:=3) (by omega) hk4 rfl (by rw[hrv]; rfl) (by rw[hro]; rfl) (by omega)
    ·simp -implicitDefEqProofs only[go_sem,hk1,hil,hgk,Jf,Jr]
     refine ⟨by omega,by omega,⟨by omega,by omega⟩,Jj,?_⟩
     refine J8 (.inl rfl) (deleteRowT (id:=3) (k:=k) hk2 rfl) fun v' H' ⟨h1,h2⟩=>?_
     subst h1 h2
     simp -implicitDefEqProofs only[go_sem]
     refine ⟨(left.eraseIdx k,out++[left.getD k 0],.slc 3 0 (left.length-1) none,.arr 1 (iz (left.eraseIdx k))),[0,1,2,3,4,8],⟨fun x hx=>hm x (List.mem_of_mem_eraseIdx hx),by simp only[Gx,Gg,Gt]; omega,by rw[hord,hog]; simp,?_⟩,by simp only; omega,rfl,?_,?_⟩
     ·by_cases h0:left.eraseIdx k=[]
      ·refine .inr ⟨h0,.inr ⟨?_,by rw[h0]; rfl⟩⟩
       rw[h0]at hel
       rw[← hel]; rfl
      ·exact .inl ⟨h0,by rw[hel],rfl⟩
     ·rw[Ka,JZ]
      simp only[Ke,Gc,Gd,go_sem,Ji,Jh,Ja (Jd _)]
      simp[JA,ren,Jl,Tr.row,Ja (Jd out)]
     ·rw[Ka,JY]
      simp[forget,JA,ren,Jl,Jf,rRw]
   ·have d1:((0:Int) < 0)=False:=Jn
    have d2:((0:Int) > 0)=False:=Jn
    rw[show ordG Nf ([]:List Int).length []=[] from rfl,Gq]at hord
    rw[hord]
    rcases hv with ⟨rfl,rfl⟩ | ⟨rfl,rfl⟩
    ·simp -implicitDefEqProofs only[go_sem,d1,d2]
     exact JdW rfl rfl
    ·simp -implicitDefEqProofs only[go_sem,d1,d2,Int.ofNat_zero]
     exact JdW rfl rfl
end
end
section
def bb (l:List Bool):List (List CV):=l.map fun b=>[.bool b]
theorem bb_len {l:List Bool}:(bb l).length=l.length:=by simp[bb]
theorem bb_get {l:List Bool}{i:Nat}(h:i < l.length):(bb l).getD i []=[.bool (l.getD i false)]:=by
 simp[bb,Gm,Gp h]
theorem QU:∀ (l:List Bool),Jw (bb l)=true
 |[]=>rfl
 |x::l=>by simp[bb,Jw,Jv,CV.closed]; exact QU l
theorem bb_set {l:List Bool}{i:Nat}{b:Bool}:(bb l).set i [.bool b]=bb (l.set i b):=by simp[bb,Lu]
theorem bb_rep {n:Nat}:GZ n [CV.bool false]=bb (GZ n false):=by simp[bb]
def JcT (l:List Bool) (i:Nat):List Int:=((Ga i).filter fun j=>l.getD j false).map fun j:Nat=>(j:Int)
theorem setTo_succ {l:List Bool}{i:Nat}:JcT l (i+1)=JcT l i++if l.getD i false=true then [(i:Int)] else []:=by
 unfold JcT
 rw[Hq,Ld,Lm,Li,Lr]
 split <;> rfl
theorem setTo_len {l:List Bool}{i:Nat}:(JcT l i).length≤i:=by
 unfold JcT
 rw[Lp]
 exact GN (Gw _ _) (by simp)
theorem refSet (l:List Bool) (hl:l.length≤100000):Jep Gb 52 [.rslc 1 (bb l) none] 1 (iz (setL l)):=by
 have hbl:(bb l).length=l.length:=bb_len
 refine JdX (J7 c52_ok fun N=>?_) rfl (Jd _)
 simp -implicitDefEqProofs only[c52,go_sem]
 refine Jy (I:=fun i:Nat=>i≤l.length) (inv:=fun i=>gp [(0,.rslc 1 (bb l) none),(2,.slc 0 0 (iz (JcT l i)).length (JbF (iz (JcT l i)))),(0,.int .i64 (i:Int))] 16) (hp:=fun i=>[.arr 1 (iz (JcT l i))]) (μ:=fun i=>l.length-i) 0 [0] (by omega) rfl ?_ ?_ ?_
 ·simp[forget,JA,ren,Jl,gp,JcT,iz,JbF]
 ·simp[Ke,Jcd,JcT,iz]
 ·intro i hi
  by_cases hlt:i < l.length
  ·have d1:((i:Int) < (l.length:Int))=True:=Jo
   have hgi:=bb_get hlt
   have hst:=setTo_succ (l:=l) (i:=i)
   have hsl:=setTo_len (l:=l) (i:=i)
   have hcl:=Ja (ρ:=[0]) (Jd (JcT l i))
   have hcl2:=Ja (ρ:=[2]) (Jd (JcT l i))
   cases hb:l.getD i false with
   |false=>
    rw[hb,if_neg (by simp),Gq]at hst
    rw[hb]at hgi
    simp -implicitDefEqProofs only[go_sem,hbl,d1,hgi]
    refine ⟨by omega,Jj,i+1,[0],by omega,by omega,rfl,?_,?_⟩
    ·rw[hst]; simp only[Ke,Gc,Gd,go_sem,Ji,hcl]
    ·rw[hst]; simp[forget,JA,ren,Jl]
   |true=>
    rw[hb,if_pos rfl]at hst
    rw[hb]at hgi
    simp -implicitDefEqProofs only[go_sem,hbl,d1,hgi,Jr,Jf]
    refine ⟨by omega,⟨by omega,by omega⟩,Jj,i+1,[2],by omega,by omega,rfl,?_,?_⟩
    ·rw[hst,Ka]
     simp only[Ke,Gc,Gd,go_sem,Ji]
     simp[hcl2,JA,ren]
    ·rw[hst,Ka,Y2]
     simp[forget,JA,ren,Jl,Jf]
  ·have d1:((i:Int) < (l.length:Int))=False:=Jn
   obtain rfl:i=l.length:=by omega
   simp -implicitDefEqProofs only[go_sem,hbl,d1]
   exact ⟨0,rfl,rfl⟩
theorem refHas3 (l:List Int) (x:Int) (hl:l.length≤100000):Fn Gb 31 [.rslc 1 (iz l) none,.int .i64 x] (.bool (l.contains x)):=by
 have hil:(iz l).length=l.length:=Jf
 refine Jb c31_ok rfl rfl fun N=>?_
 simp -implicitDefEqProofs only[c31,go_sem]
 refine JC (I:=fun i:Nat=>i≤l.length∧l.contains x=(l.drop i).contains x) (inv:=fun i=>gp [(0,.rslc 1 (iz l) none),(0,.int .i64 x),(3,.int .i64 (i:Int))] 12) (hp:=fun _=>[]) (μ:=fun i=>l.length-i) 0 ⟨by omega,rfl⟩ ?_ rfl ?_
 ·simp[forget,gp]
 ·rintro i ⟨hi,hinv⟩
  by_cases hlt:i < l.length
  ·have d1:((i:Int) < (l.length:Int))=True:=Jo
   have hgi:=JP hlt
   rw[GH hlt,Le,show l[i]=l.getD i 0 by rw[Gm,Gp hlt]; rfl]at hinv
   generalize l.getD i 0=y at hinv hgi
   have hc:(x == y)=(y == x):=by rw[HZ,beq_iff_eq,beq_iff_eq]; exact ⟨Eq.symm,Eq.symm⟩
   rw[hc]at hinv
   cases he:(y == x) with
   |true=>
    rw[he,Gu]at hinv
    simp -implicitDefEqProofs only[go_sem,hil,d1,hgi,he,hinv]
    omega
   |false=>
    rw[he,Gr]at hinv
    simp -implicitDefEqProofs only[go_sem,hil,d1,hgi,he]
    refine ⟨by omega,Jj,i+1,⟨by omega,hinv⟩,by omega,?_⟩
    simp[forget]
  ·have d1:((i:Int) < (l.length:Int))=False:=Jn
   rw[show l.drop i=[] from Gs (by omega),Lf]at hinv
   simp -implicitDefEqProofs only[go_sem,hil,d1,hinv]
section
variable {t:Tr}{o:List Int}(g:GoodT t o) (ht:t.Fit)
include g ht
theorem refNeeds {of:List Int}(ho:OfOk t of) {s:Nat}(hs:s < t.nodes.length) (hk:(nd t s).k=41):Jep Gb 108 [t.cv,.rslc 1 (iz of) none,.int .i64 (s:Int)] 1 (iz (Ye t o of s)):=by
 have hmany:=g.many
 have hol:(iz of).length=t.nodes.length:=by rw[Jf,ho.len]
 have hsk:=set_kid g hs hk
 have htl:JH t s < t.nodes.length:=by have:=(JW g hs hsk.1).2; omega
 rw[needR_eq]
 refine JdX (J7 c108_ok fun N=>?_) rfl (Jd _)
 simp -implicitDefEqProofs only[c108,go_sem,Tr.cv,Tr.row]
 refine Je (id:=0) (z:=2) (els:=[t.row]) rfl rfl ?_
 simp only[go_sem,JS,Ki,frz,KP,Gc,Gd]
 refine Qt [false,false,false,true,false,false,false,false,false] Jz (by decide +kernel) ?_
 simp -implicitDefEqProofs only[go_sem,Tr.row,Jc]
 refine ⟨⟨by omega,GL _,by omega,by omega⟩,?_⟩
 refine vh_f (Jbj g ht hs) ?_
 simp -implicitDefEqProofs only[go_sem,Tr.row,Jc]
 rw[bb_rep,← JcS]
 have hany:∀ (i:Nat) (p:Nat→Bool),(Ga (i+1)).any p=((Ga i).any p || p i):=fun i p=>by
  rw[Hq,Ls,Gz,GD,GQ]
 refine Jy (I:=fun i:Nat=>i≤t.nodes.length) (inv:=fun i=>gp [(1,.rslc 1 (iz of) none),(0,.int .i64 (s:Int)),(0,.rptr t.row),(3,.slc 1 0 t.nodes.length (some t.nodes.length)),(0,.int .i64 (Kb t s)),(0,.int .i64 (i:Int))] 73) (hp:=fun i=>[.dead,.arr 1 (bb (KA t.nodes.length fun x=>(Ga i).any (Jbe t o of s x)))]) (μ:=fun i=>t.nodes.length-i) 0 [0,1] (by omega) rfl ?_ ?_ ?_
 ·simp[forget,JA,ren,Jl,gp,Tr.row]
 ·simp only[Ke,Gc,Gd,go_sem,Ji,Jh,Ja (QU _)]
  rfl
 ·intro i hi
  have hcl:=Ja (ρ:=[0,1]) (QU (KA t.nodes.length fun x=>(Ga i).any (Jbe t o of s x)))
  by_cases hlt:i < t.nodes.length
  ·have d1:((i:Int) < (t.nodes.length:Int))=True:=Jo
   have hgi:=JP (l:=of) (i:=i) (by rw[ho.len]; exact hlt)
   have hgn:=Kt hlt
   have hrg:=ho.rng i (by rw[ho.len]; exact hlt)
   have hdf:=ho.dft (i:=i) (by rw[ho.len]; exact hlt)
   have hQ:∀ x,Jbe t o of s x i=((nd t i).k == 3 && (decide (0≤of.getD i 0) && (Jae o i (JH t s) && ((nd t (of.getD i 0).toNat).k == 42 && (Kb t (of.getD i 0).toNat == x && (Kb t x.toNat == Kb t s && !tdL t (upL t (JH t s) t.nodes.length i).reverse false)))))):=fun x=>by unfold Jbe; rw[hdf]
   have hno:(∀ x,Jbe t o of s x i=false)→(KA t.nodes.length fun x=>(Ga (i+1)).any (Jbe t o of s x))=KA t.nodes.length fun x=>(Ga i).any (Jbe t o of s x):=fun h=>boolsN_congr fun j hj=>by rw[hany,h,GQ]
   generalize of.getD i 0=m at hgi hrg hQ
   simp -implicitDefEqProofs only[go_sem,d1,Tr.row,Jc]
   refine JQ Jz (by decide) ?_
   cases h3:((nd t i).k == 3) with
   |false=>
    have hnil:=hno fun x=>by rw[hQ,h3,Gn]
    simp -implicitDefEqProofs only[go_sem,Jc,hgn,Nd.cv,kbN,h3,Gl]
    refine ⟨by omega,Jj,i+1,[0,1],by omega,by omega,rfl,?_,?_⟩
    ·rw[hnil]; simp only[Ke,Gc,Gd,go_sem,Ji,hcl,Jh]
    ·simp[forget,JA,ren,Jl,Tr.row]
   |true=>
    rcases Lx m 0 with hm0 | hm0
    ·have e1:decide (m < 0)=true:=decide_eq_true hm0
     have hnil:=hno fun x=>by rw[hQ,decide_eq_false (by omega),Gn,GG]
     simp -implicitDefEqProofs only[go_sem,Jc,hgn,Nd.cv,kbN,h3,Gi,hol,hgi,e1]
     refine ⟨by omega,by omega,Jj,i+1,[0,1],by omega,by omega,rfl,?_,?_⟩
     ·rw[hnil]; simp only[Ke,Gc,Gd,go_sem,Ji,hcl,Jh]
     ·simp[forget,JA,ren,Jl,Tr.row]
    ·have e1:decide (m < 0)=false:=decide_eq_false (by omega)
     obtain ⟨m,rfl⟩:∃ m':Nat,m=m':=⟨m.toNat,by omega⟩
     have hmn:m < t.nodes.length:=by omega
     have hgm:=Kt hmn
     simp -implicitDefEqProofs only[go_sem,Jc,hgn,Nd.cv,kbN,h3,Gi,hol,hgi,e1]
     refine ⟨by omega,by omega,?_⟩
     refine J4 (gok rfl) (Jcp g ht hs hsk.2) ?_
     simp -implicitDefEqProofs only[go_sem]
     refine J4 (gok rfl) (YB g ht htl) ?_
     cases hb:Jae o i (JH t s) with
     |false=>
      have hnil:=hno fun x=>by rw[hQ,hb,Gn,GG,GG]
      simp -implicitDefEqProofs only[go_sem,Gl]
      refine ⟨Jj,i+1,[0,1],by omega,by omega,rfl,?_,?_⟩
      ·rw[hnil]; simp only[Ke,Gc,Gd,go_sem,Ji,hcl,Jh]
      ·simp[forget,JA,ren,Jl,Tr.row]
     |true=>
      cases h42:((nd t m).k == 42) with
      |false=>
       have hnil:=hno fun x=>by rw[hQ,Gh,h42,Gn,GG,GG,GG]
       simp -implicitDefEqProofs only[go_sem,Gi,Jc,hol,hgi,hgm,Nd.cv,kbN,h42,Gl]
       refine ⟨by omega,by omega,Jj,i+1,[0,1],by omega,by omega,rfl,?_,?_⟩
       ·rw[hnil]; simp only[Ke,Gc,Gd,go_sem,Ji,hcl,Jh]
       ·simp[forget,JA,ren,Jl,Tr.row]
      |true=>
       have k42:(nd t m).k=42:=beq_iff_eq.1 h42
       obtain ⟨v,hv1,hv2,_,_⟩:=Qs g hmn (by omega)
       have hPm:=Jbj g ht hmn
       rw[hv1]at hPm
       have hQ2:∀ x,Jbe t o of s x i=(((v:Int) == x) && (Kb t x.toNat == Kb t s && !tdL t (upL t (JH t s) t.nodes.length i).reverse false)):=fun x=>by
        rw[hQ,h3,hb,Gh,h42,hv1,decide_eq_true (by omega)]; rfl
       simp -implicitDefEqProofs only[go_sem,Gi,Jc,hol,hgi,hgm,Nd.cv,kbN,h42]
       refine ⟨by omega,by omega,?_⟩
       refine JQ Jz (by decide) ?_
       simp -implicitDefEqProofs only[go_sem,hol,hgi,Tr.row]
       refine ⟨by omega,?_⟩
       refine J4 (.inl rfl) hPm ?_
       simp -implicitDefEqProofs only[go_sem,Tr.row]
       refine JR (Jbj g ht hv2) ?_
       cases hpp:(Kb t v == Kb t s) with
       |false=>
        have hnil:=hno fun x=>by
         rw[hQ2]
         cases hx:((v:Int) == x) with
         |false=>rfl
         |true=>
          have:=beq_iff_eq.1 hx
          rw[← this,Gh,hpp]; rfl
        simp -implicitDefEqProofs only[go_sem,hpp]
        refine ⟨Jj,i+1,[0,1],by omega,by omega,rfl,?_,?_⟩
        ·rw[hnil]; simp only[Ke,Gc,Gd,go_sem,Ji,hcl,Jh]
        ·simp[forget,JA,ren,Jl,Tr.row]
       |true=>
        simp -implicitDefEqProofs only[go_sem,hpp,Tr.row]
        refine JV (gok rfl) (refLate g ht hs hk (Kr.1 hb)) ?_
        cases hl:tdL t (upL t (JH t s) t.nodes.length i).reverse false with
        |true=>
         have hnil:=hno fun x=>by rw[hQ2,hl]; simp
         simp -implicitDefEqProofs only[go_sem,Gi]
         refine ⟨Jj,i+1,[0,1],by omega,by omega,rfl,?_,?_⟩
         ·rw[hnil]; simp only[Ke,Gc,Gd,go_sem,Ji,hcl,Jh]
         ·simp[forget,JA,ren,Jl,Tr.row]
        |false=>
         have hset:(KA t.nodes.length fun x=>(Ga i).any (Jbe t o of s x)).set v true=KA t.nodes.length fun x=>(Ga (i+1)).any (Jbe t o of s x):=by
          refine Jfs hv2 (fun j hj hne=>?_) ?_
          ·rw[hany,hQ2,beq_eq_false_iff_ne.2 (show (v:Int)≠(j:Int) by omega),Gn,GQ]
          ·rw[hany,hQ2,Gh,hpp,hl]; simp
         have hbl:(bb (KA t.nodes.length fun x=>(Ga i).any (Jbe t o of s x))).length=t.nodes.length:=by rw[bb_len,Qq]
         have hbg:=bb_get (l:=KA t.nodes.length fun x=>(Ga i).any (Jbe t o of s x)) (i:=v) (by rw[Qq]; exact hv2)
         simp -implicitDefEqProofs only[go_sem,Gl,hbl,hbg,Gg,Gt,GU,Gf,bb_set,hset]
         refine ⟨by omega,by omega,Jj,i+1,[0,1],by omega,by omega,rfl,?_,?_⟩
         ·simp only[Ke,Gc,Gd,go_sem,Ji,Ja (QU _),Jh]
         ·simp[forget,JA,ren,Jl,Tr.row]
  ·have d1:((i:Int) < (t.nodes.length:Int))=False:=Jn
   obtain rfl:i=t.nodes.length:=by omega
   have hbl:(bb (KA t.nodes.length fun x=>(Ga t.nodes.length).any (Jbe t o of s x))).length=t.nodes.length:=by rw[bb_len,Qq]
   simp -implicitDefEqProofs only[go_sem,d1,Tr.row,Jc]
   refine Je (id:=1) (z:=1) (els:=bb (KA t.nodes.length fun x=>(Ga t.nodes.length).any (Jbe t o of s x))) rfl (QU _) ?_
   have hft:=Gv (l:=bb (KA t.nodes.length fun x=>(Ga t.nodes.length).any (Jbe t o of s x))) (i:=t.nodes.length) (by rw[hbl]; omega)
   simp only[go_sem,JS,Ki,frz,KP,Gc,Gd,Gf,GM,if_true,hbl,GR,hft,GX,GV]
   refine vr_rowW (.inl rfl) (refSet _ (by rw[Qq]; omega)) ?_
   simp -implicitDefEqProofs only[go_sem]
   exact ⟨2,rfl,rfl⟩
end
end
section
theorem needR_ok {t:Tr}{o of:List Int}:∀ x∈Kq t,(∀ y∈Ye t o of x.toNat,y∈Kq t)∧(Ye t o of x.toNat).length≤(Kq t).length:=
 fun x _=>⟨fun y hy=>(GI.1 hy).1,Gw _ _⟩
def todoW (els:List Int) (off:Nat):CV:=.slc 2 off (els.length-off) (JbF (iz els))
theorem Jee {els:List Int}(h:els≠[]):JbF (iz els)=none:=by cases els with
 |nil=>exact absurd rfl h
 |cons x l=>rfl
section
variable {t:Tr}{o:List Int}(g:GoodT t o) (ht:t.Fit)
include g ht
theorem refReached {of:List Int}(ho:OfOk t of) {s:Nat}(hs:s < t.nodes.length) (hk:(nd t s).k=41):Jep Gb 62 [t.cv,.rslc 1 (iz of) none,.int .i64 (s:Int)] 1 (iz ((Kq t).filter fun x=>(bfs (fun x=>Ye t o of x.toNat) (Kq t) (Ye t o of s) []).contains x)):=by
 have hmany:=g.many
 have hal:(Kq t).length=t.nodes.length:=by simp[Kq]
 refine JdX (J7 c62_ok fun N=>?_) rfl (Jd _)
 simp -implicitDefEqProofs only[c62,go_sem,Tr.cv,Tr.row,Jc]
 refine ⟨⟨by omega,GL _,by omega,by omega⟩,?_⟩
 refine Je (id:=0) (z:=2) (els:=[t.row]) rfl rfl ?_
 simp only[go_sem,JS,Ki,frz,KP,Gc,Gd,List.map_replicate,Tr.row]
 refine vr_rowW (.inl rfl) (refNeeds g ht ho hs hk) ?_
 simp -implicitDefEqProofs only[go_sem]
 have hset:∀ s':Nat,s' < t.nodes.length→(nd t s').k=41→∀ x∈Ye t o of s',0≤x∧x < t.nodes.length∧(nd t x.toNat).k=41:=fun s' h1 h2 x hx=>by
  rw[← need_eq g h1 h2]at hx; exact YR g hx
 generalize hN:(fun x:Int=>Ye t o of x.toNat)=Nf
 have hNok:∀ x∈Kq t,(∀ y∈Nf x,y∈Kq t)∧(Nf x).length≤(Kq t).length:=by rw[← hN]; exact needR_ok
 have hset':∀ x:Nat,x < t.nodes.length→(nd t x).k=41→∀ y∈Nf x,0≤y∧y < t.nodes.length∧(nd t y.toNat).k=41:=fun x h1 h2 y hy=>by
  rw[← hN]at hy; simp only[Gh]at hy; exact hset x h1 h2 y hy
 have h0:=hset s hs hk
 have hlen0:(Ye t o of s).length≤t.nodes.length:=by rw[← hal]; exact Gw _ _
 generalize Ye t o of s=T0 at h0 hlen0 ⊢
 generalize hR:bfs Nf (Kq t) T0 []=R
 have hst:Xh (Kq t) []*((Kq t).length+1)≤700*701:=Hy (GN YU (by omega)) (by omega)
 have hbf:(KA t.nodes.length fun x=>([]:List Int).contains x)=GZ t.nodes.length false:=by rw[← JcS]; rfl
 rw[bb_rep,← hbf]
 refine Jy (σ:=List Int×Nat×List Int) (I:=fun s'=>s'.2.1≤s'.1.length∧(∀ x∈s'.1,0≤x∧x < t.nodes.length∧(nd t x.toNat).k=41)∧bfs Nf (Kq t) (s'.1.drop s'.2.1) s'.2.2=R∧muB (Kq t) (s'.1.drop s'.2.1) s'.2.2≤1000000)
  (inv:=fun s'=>gp [(1,.rslc 1 (iz of) none),(1,.rptr t.row),(3,.slc 1 0 t.nodes.length (some t.nodes.length)),(0,todoW s'.1 s'.2.1)] 33) (hp:=fun s'=>[.dead,.arr 1 (bb (KA t.nodes.length fun x=>s'.2.2.contains x)),.arr 1 (iz s'.1)]) (μ:=fun s'=>muB (Kq t) (s'.1.drop s'.2.1) s'.2.2) (T0,0,[]) [0,1,2] ⟨by simp,h0,by simpa using hR,by simp only[Gf,muB]; omega⟩ rfl ?_ ?_ ?_
 ·simp[forget,JA,ren,Jl,gp,todoW,rowW,Tr.row,Jf]
 ·simp only[Ke,Gc,Gd,go_sem,Ji,Ja (Jd T0),Ja (QU _),Jh]
 ·rintro ⟨els,off,out⟩ ⟨hoff,hP,hB,hmu⟩
  dsimp only at hoff hP hB hmu
  have hel:(iz els).length=els.length:=Jf
  by_cases hlt:off < els.length
  ·have hne:els≠[]:=by rintro rfl; simp at hlt
   have d1:((0:Int) < ((els.length-off:Nat):Int))=True:=Jo
   have d2:(((els.length-off:Nat):Int) > 0)=True:=Jo
   have hgi:=JP hlt
   have hdr:els.drop off=els.getD off 0::els.drop (off+1):=by
    rw[GH hlt,Gm,Gp hlt]; rfl
   have hmem:els.getD off 0∈els:=by rw[Gm,Gp hlt]; exact Gy hlt
   have hPx:=hP _ hmem
   have hall:∀ y∈els.drop off,y∈Kq t:=fun y hy=>by
    have:=hP y (G7 hy)
    exact J2.2 ⟨this.1,this.2.1⟩
   rw[hdr]at hB hall hmu ⊢
   have hmu':=hmu
   simp only[muB,Gg]at hmu'
   generalize hx:els.getD off 0=x at hgi hPx hB hall hmu ⊢
   obtain ⟨xn,rfl⟩:∃ x':Nat,x=x':=⟨x.toNat,by omega⟩
   have hxm:(xn:Int)∈Kq t:=hall xn (by simp)
   have hPx3:=hPx.2.2
   rw[Gh]at hPx3
   have hxn:xn < t.nodes.length:=by omega
   have hbl:(bb (KA t.nodes.length fun x=>out.contains x)).length=t.nodes.length:=by rw[bb_len,Qq]
   have hbg:=bb_get (l:=KA t.nodes.length fun x=>out.contains x) (i:=xn) (by rw[Qq]; exact hxn)
   rw[Jft hxn]at hbg
   cases hc:out.contains (xn:Int) with
   |true=>
    rw[hc]at hbg
    rw[bfs_old hNok hall hc]at hB
    simp -implicitDefEqProofs only[go_sem,todoW,Jee hne,d1,d2,hel,hgi,Hz,hbl,hbg,Gi]
    refine ⟨by omega,⟨by omega,GL _⟩,by omega,by omega,(els,off+1,out),[0,1,2],⟨by simp only; omega,hP,hB,by simp only[muB]; omega⟩,by simp only[muB,Gg]; omega,rfl,?_,?_⟩
    ·simp only[Ke,Gc,Gd,go_sem,Ji,Ja (Jd els),Ja (QU _),Jh]
    ·simp[forget,JA,ren,Jl,Jee hne]; omega
   |false=>
    rw[hc]at hbg
    rw[bfs_new hNok hall hc]at hB
    have hll:=XF hxm hc
    have hlr:=LA ((Kq t).length+1) (show Xh (Kq t) (out++[(xn:Int)])+1≤Xh (Kq t) out from hll)
    rw[HY,HV]at hlr
    have hnx:=(hNok xn hxm).2
    have hNx:Ye t o of xn=Nf (xn:Int):=by rw[← hN]; simp only[Gh]
    have hsx:=hset' xn hxn hPx3
    have hNf:=(refNeeds g ht ho hxn hPx3).fn rfl (Jd _)
    rw[hNx]at hNf
    have hset2:(KA t.nodes.length fun x=>out.contains x).set xn true=KA t.nodes.length fun x=>(out++[(xn:Int)]).contains x:=by
     refine Jfs hxn (fun j hj hne=>?_) (by simp)
     have:((j:Int) == (xn:Int))=false:=beq_eq_false_iff_ne.2 (by omega)
     simp[He,Ls,this]
     omega
    simp -implicitDefEqProofs only[go_sem,todoW,Jee hne,d1,d2,hel,hgi,Hz,hbl,hbg,Gl,Gg,Gt,GU,Gf,bb_set,hset2,Tr.row]
    refine ⟨by omega,⟨by omega,GL _⟩,by omega,by omega,by omega,by omega,?_⟩
    refine JR hNf ?_
    generalize Nf (xn:Int)=M at hnx hsx hB ⊢
    have hel2:off+1+(els.length-off-1)=els.length:=by omega
    have hel3:(off+1+(els.length-off-1)=els.length)=True:=eq_true hel2
    have hd:=Lh (i:=off+1) (l:=els)
    cases M with
    |nil=>
     simp -implicitDefEqProofs only[go_sem,QN]
     rw[Gq]at hB
     refine ⟨(els,off+1,out++[(xn:Int)]),[0,1,2],⟨by simp only; omega,hP,hB,by simp only[muB]; omega⟩,by simp only[muB,Gg]; omega,rfl,?_,?_⟩
     ·simp only[Ke,Gc,Gd,go_sem,Ji,Ja (Jd els),Ja (QU _),Jh]
     ·simp[forget,JA,ren,Jl,Jee hne]; omega
    |cons y ys=>
     simp -implicitDefEqProofs only[go_sem,Kg,hel,hel3,Jf,Jr]
     simp only[Gg]at hnx
     refine ⟨⟨by omega,by omega⟩,(els.drop (off+1)++y::ys,0,out++[(xn:Int)]),[0,1,3],⟨by simp,fun z hz=>?_,by simpa using hB,by simp only[Gf,muB,Gx,Gg]; omega⟩,by simp only[Gf,muB,Gx,Gg]; omega,rfl,?_,?_⟩
     ·rcases Hr.1 hz with h | h
      ·exact hP z (G7 h)
      ·exact hsx z h
     ·rw[Kz,Kg,← Jcz]
      simp only[Ke,Gc,Gd,go_sem,Ji,Jh,Ja (QU _)]
      rw[Jcz]
      simp[Ja (Jd (els.drop (off+1))),Ja (Jd ys),JA,ren]
     ·rw[Jee (show els.drop (off+1)++y::ys≠[] by simp)]
      simp[forget,JA,ren,Jl,Jf]; omega
  ·obtain rfl:off=els.length:=by omega
   rw[Lj,Jgy]at hB
   have hbl:(bb (KA t.nodes.length fun x=>out.contains x)).length=t.nodes.length:=by rw[bb_len,Qq]
   have d1:((0:Int) < ((els.length-els.length:Nat):Int))=False:=Jn
   have d2:(((els.length-els.length:Nat):Int) > 0)=False:=Jn
   simp -implicitDefEqProofs only[go_sem,todoW,d1,d2]
   refine Je (id:=1) (z:=1) (els:=bb (KA t.nodes.length fun x=>out.contains x)) rfl (QU _) ?_
   have hft:=Gv (l:=bb (KA t.nodes.length fun x=>out.contains x)) (i:=t.nodes.length) (by rw[hbl]; omega)
   simp only[go_sem,JS,Ki,frz,KP,Gc,Gd,Gf,GM,if_true,hbl,GR,hft,GX,GV,KE (Jd _)]
   refine vr_rowW (.inl rfl) (refSet _ (by rw[Qq]; omega)) ?_
   rw[← hB,← JeO (t:=t) (f:=fun x=>out.contains x)]
   simp -implicitDefEqProofs only[go_sem]
   exact ⟨3,rfl,rfl⟩
theorem refResolve:Fn Gb 21 [t.cv] (if (resR t o).2=0 then .tup [.rslc 1 (iz (ofL t o)) none,.int .i64 0,.int .i64 0] else .tup [.rslc 1 [] none,.int .i64 ((resR t o).1:Int),.int .i64 (resR t o).2]):=by
 have hmany:=g.many
 have hchk:chk t=0:=(Jb8 t).2 ⟨o,g⟩
 have e0:(chk t != 0)=false:=by simp[hchk]
 refine Q6 ?_ rfl (by split <;> rfl)
 refine J7 c21_ok fun N=>?_
 simp -implicitDefEqProofs only[c21,go_sem,Tr.cv,Tr.row]
 refine Je (id:=0) (z:=2) (els:=[t.row]) rfl rfl ?_
 simp only[go_sem,JS,Ki,frz,KP,Gc,Gd,Tr.row]
 refine JR (JfV t ht) ?_
 simp -implicitDefEqProofs only[go_sem,e0]
 have hrow:∀ {k:Nat} {y:List CV} {H:List CObj},H[k]? = some (.arr 1 [])→Jv y=true→Frzs (.tup (.rslc 1 [] none::y)) (.tup (.slc k 0 0 (some 0)::y)) H:=fun h hy=>.step _ 1 [] h rfl (.done (by
  simp only[frz,JS,if_true,Qb _ hy]
  exact wk.refl _))
 have hres:∀ (i:Nat) (a:Int),a≠0→resR t o=(i,a)→(if (resR t o).2=0 then CV.tup [.rslc 1 (iz (ofL t o)) none,.int .i64 0,.int .i64 0] else .tup [.rslc 1 [] none,.int .i64 ((resR t o).1:Int),.int .i64 (resR t o).2])=.tup [.rslc 1 [] none,.int .i64 (i:Int),.int .i64 a]:=fun i a ha h=>by rw[h,if_neg ha]
 refine Jy (I:=fun i:Nat=>i≤t.nodes.length∧JfM t o 6 10 (Ga t.nodes.length)=JfM t o 6 10 ((Ga t.nodes.length).drop i)) (inv:=fun i=>gp [(1,.rptr t.row),(4,.slc 1 0 (iz ((ofL t o).take i)).length (JbF (iz ((ofL t o).take i)))),(0,.int .i64 (i:Int))] 64) (hp:=fun i=>[.dead,.arr 1 (iz ((ofL t o).take i))]) (μ:=fun i=>t.nodes.length-i) 0 [0,1] ⟨by omega,by rw[Gf]⟩ rfl ?_ ?_ ?_
 ·simp[forget,JA,ren,Jl,gp,Tr.row,iz,JbF]
 ·simp[Ke,Jcd,iz]
 ·rintro i ⟨hi,hinv⟩
  have hacc:((ofL t o).take i).length=i:=by rw[G8,Ql]; omega
  by_cases hlt:i < t.nodes.length
  ·have d1:((i:Int) < (t.nodes.length:Int))=True:=Jo
   have hgi:=Kt hlt
   have hot:=ofL_take (o:=o) hlt
   rw[Qg hlt,JfM]at hinv
   have hrs:∀ a:Int,JfM t o 6 10 (Ga t.nodes.length)=some (i,a)→resR t o=(i,a):=fun a h=>by unfold resR; rw[h]
   have hcl:=Ja (ρ:=[0,3]) (Jd ((ofL t o).take i))
   generalize (ofL t o).take i=acc at hacc hot hcl ⊢
   simp -implicitDefEqProofs only[go_sem,d1,Tr.row,Jc,hgi,Nd.cv]
   refine ⟨by omega,?_⟩
   refine JR (JfT _) ?_
   have hsh:((nd t i).k == 3 || (nd t i).k == 26 || (nd t i).k == 44)=JJ t i:=rfl
   rw[hsh]
   cases hs:JJ t i with
   |true=>
    simp -implicitDefEqProofs only[go_sem,Tr.row]
    refine JR (refMeans g ht hlt hs) ?_
    by_cases hm:JO t o i < 0
    ·have e1:(JO t o i < 0)=True:=eq_true hm
     rw[hs,decide_eq_true hm,Gj,if_pos rfl]at hinv
     rw[hres i 10 (by decide) (hrs 10 hinv)]
     simp -implicitDefEqProofs only[go_sem,e1]
     exact hrow (k:=2) rfl rfl
    ·have e1:(JO t o i < 0)=False:=eq_false hm
     rw[hs,decide_eq_false hm,GG,if_neg (by simp)]at hinv
     simp -implicitDefEqProofs only[go_sem,e1,Tr.row]
     refine JR (refTwice g ht hlt) ?_
     cases htw:twR t o i with
     |true=>
      rw[htw,if_pos rfl]at hinv
      rw[hres i 6 (by decide) (hrs 6 hinv)]
      simp -implicitDefEqProofs only[go_sem]
      exact hrow (k:=2) rfl rfl
     |false=>
      rw[htw,if_neg (by simp)]at hinv
      simp -implicitDefEqProofs only[go_sem,Jr,Jf]
      refine ⟨⟨by omega,by omega⟩,Jj,i+1,[0,3],⟨by omega,hinv⟩,by omega,rfl,?_,?_⟩
      ·rw[hot,Ka]
       simp only[Ke,Gc,Gd,go_sem,Ji,Jh]
       simp[hcl,JA,ren]
      ·rw[hot,Ka,Y2]
       simp[forget,JA,ren,Jl,Jf,Tr.row]
   |false=>
    have hm1:JO t o i = -1:=by
     unfold JJ at hs
     simp only[Bool.or_eq_false_iff,beq_eq_false_iff_ne]at hs
     unfold JO
     rw[if_neg hs.1.1,if_neg hs.1.2,if_neg hs.2]
    rw[hs,Gn,if_neg (by simp)]at hinv
    rw[hm1]at hot
    simp -implicitDefEqProofs only[go_sem,Tr.row]
    refine JR (refTwice g ht hlt) ?_
    cases htw:twR t o i with
    |true=>
     rw[htw,if_pos rfl]at hinv
     rw[hres i 6 (by decide) (hrs 6 hinv)]
     simp -implicitDefEqProofs only[go_sem]
     exact hrow (k:=2) rfl rfl
    |false=>
     rw[htw,if_neg (by simp)]at hinv
     simp -implicitDefEqProofs only[go_sem,Jr,Jf]
     refine ⟨⟨by omega,by omega⟩,Jj,i+1,[0,3],⟨by omega,hinv⟩,by omega,rfl,?_,?_⟩
     ·rw[hot,Ka]
      simp only[Ke,Gc,Gd,go_sem,Ji,Jh]
      simp[hcl,JA,ren]
     ·rw[hot,Ka,Y2]
      simp[forget,JA,ren,Jl,Jf,Tr.row]
  ·have d1:((i:Int) < (t.nodes.length:Int))=False:=Jn
   obtain rfl:i=t.nodes.length:=by omega
   rw[show (Ga t.nodes.length).drop t.nodes.length=[] from Gs (by simp),JfM]at hinv
   have hrs:resR t o=match (Ga t.nodes.length).find? (stR t o) with | some i=>(i,9) | none=>(0,0):=by unfold resR; simp only[hinv]; cases (Ga t.nodes.length).find? (stR t o) <;> rfl
   rw[Gv (by rw[Ql]; omega)]
   simp -implicitDefEqProofs only[go_sem,d1,Tr.row,Jc]
   refine Je (id:=1) (z:=1) (els:=iz (ofL t o)) rfl (Jd _) ?_
   have hofl:=Ql (t:=t) (o:=o)
   have hft:G9 t.nodes.length (iz (ofL t o))=iz (ofL t o):=Gv (by rw[Jf,hofl]; omega)
   simp only[go_sem,JS,Ki,frz,KP,Gc,Gd,Gf,GM,if_true,Jf,hofl,GR,hft,GX,GV]
   refine Jy (I:=fun i:Nat=>i≤t.nodes.length∧(Ga t.nodes.length).find? (stR t o)=((Ga t.nodes.length).drop i).find? (stR t o)) (inv:=fun i=>gp [(1,.rptr t.row),(4,.rslc 1 (iz (ofL t o)) none),(2,.int .i64 (i:Int))] 62) (hp:=fun _=>[.dead,.dead]) (μ:=fun i=>t.nodes.length-i) 0 [0,1] ⟨by omega,by rw[Gf]⟩ rfl ?_ rfl ?_
   ·simp[forget,JA,ren,Jl,gp,Tr.row]
   ·rintro i ⟨hi,hinv⟩
    by_cases hlt:i < t.nodes.length
    ·have d1:((i:Int) < (t.nodes.length:Int))=True:=Jo
     have hgi:=Kt hlt
     rw[Qg hlt,GJ]at hinv
     cases hk:((nd t i).k == 41) with
     |false=>
      have hst:stR t o i=false:=by unfold stR; rw[hk]; rfl
      rw[hst]at hinv
      simp -implicitDefEqProofs only[go_sem,d1,Tr.row,Jc,hgi,Nd.cv,kbE,hk]
      refine ⟨by omega,Jj,i+1,[0,1],⟨by omega,hinv⟩,by omega,rfl,rfl,?_⟩
      simp[forget,JA,ren,Jl,Tr.row]
     |true=>
      have hst:stR t o i=((Kq t).filter fun x=>(bfs (fun x=>Ye t o (ofL t o) x.toNat) (Kq t) (Ye t o (ofL t o) i) []).contains x).contains (i:Int):=by unfold stR; rw[hk,Gj]
      have hA:=(refReached g ht (Je4 (o:=o)) hlt (beq_iff_eq.1 hk)).fn rfl (Jd _)
      have hbl:((Kq t).filter fun x=>(bfs (fun x=>Ye t o (ofL t o) x.toNat) (Kq t) (Ye t o (ofL t o) i) []).contains x).length≤100000:=by
       refine GN (Gw _ _) ?_
       simp only[Kq,Lp,Ho]; omega
      generalize (Kq t).filter (fun x=>(bfs (fun x=>Ye t o (ofL t o) x.toNat) (Kq t) (Ye t o (ofL t o) i) []).contains x)=B at hst hA hbl
      simp -implicitDefEqProofs only[go_sem,d1,Tr.row,Jc,hgi,Nd.cv,kbE,hk]
      refine ⟨by omega,?_⟩
      refine JV (gok rfl) hA ?_
      simp -implicitDefEqProofs only[go_sem]
      refine JV (gok rfl) (refHas3 B (i:Int) hbl) ?_
      cases hc:B.contains (i:Int) with
      |false=>
       rw[hst,hc]at hinv
       simp -implicitDefEqProofs only[go_sem]
       refine ⟨Jj,i+1,[0,1],⟨by omega,hinv⟩,by omega,rfl,rfl,?_⟩
       simp[forget,JA,ren,Jl,Tr.row]
      |true=>
       rw[hst,hc]at hinv
       rw[hinv]at hrs
       rw[hres i 9 (by decide) hrs]
       simp -implicitDefEqProofs only[go_sem]
       exact hrow (k:=2) rfl rfl
    ·have d1:((i:Int) < (t.nodes.length:Int))=False:=Jn
     rw[show (Ga t.nodes.length).drop i=[] from Gs (by simp; omega),GK]at hinv
     rw[hinv]at hrs
     rw[hrs,if_pos rfl]
     simp -implicitDefEqProofs only[go_sem,d1,Tr.row,Jc]
     exact .done (wk.refl _)
end
theorem refResolveE (t:Tr) (ht:t.Fit) (h:chk t≠0):Fn Gb 21 [t.cv] (.tup [.rslc 1 [] none,.int .i64 0,.int .i64 (chk t)]):=by
 have e:(chk t != 0)=true:=by simpa using h
 refine Q6 ?_ rfl rfl
 refine J7 c21_ok fun N=>?_
 simp -implicitDefEqProofs only[c21,go_sem,Tr.cv,Tr.row]
 refine JR (JfV t ht) ?_
 simp -implicitDefEqProofs only[go_sem,e]
 refine .step 1 1 [] rfl rfl (.done ?_)
 simp only[frz,JS,if_true]
 exact wk.refl _
end
end Go.Cm
end
end
