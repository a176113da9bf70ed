/-
  A part of the proof. Conditions: none.
-/
import Derived.Test.YtebakpoggommpaaGreatDoorNP40
set_option linter.unusedSimpArgs false
set_option linter.unusedVariables false
open Bool renaming true_and→Gi,not_true→Gj,not_false→Gl,false_and→Gn,false_or→Gr,true_or→Gu,and_false→GG,or_false→GQ,and_eq_true_iff→Ha,false_eq_true→Hd,eq_iff_iff→HZ,and_true→H5,or_true→H6
open List renaming getD_eq_getElem?_getD→Gm,drop_zero→Gf,map_cons→Gc,getElem?_eq_getElem→Gp,map_nil→Gd,length_cons→Gg,range→Ga,drop_eq_nil_of_le→Gs,append_nil→Gq,take_of_length_le→Gv,length_nil→Gt,length_filter_le→Gw,length_append→Gx,drop_eq_getElem_cons→GH,getElem_mem→Gy,nil_append→GA,any_cons→Gz,take_succ_eq_append_getElem→G5,mem_filter→GI,find?_cons→GJ,find?_nil→GK,drop_succ_cons→GU,any_nil→GD,set_cons_zero→GV,set_cons_succ→GX,contains_iff_mem→G6,cons_append→GY,mem_of_mem_drop→G7,replicate→GZ,contains_eq_any_beq→He,length_take→G8,length_pos_of_mem→Hf,length_mergeSort→Hg,mem_of_getElem?→Hl,take_succ_cons→Hm,length_range→Ho,range_succ→Hq,mem_append→Hr,length_eraseIdx_of_lt→H7,take_zero→Ht,getElem?_eq_some_iff→H8,all_cons→Hu,getElem?_set_self→H9,take→G9,all_nil→Hw,length_reverse→La,mergeSort_nil→Lb,find?_eq_none→Lc,filter_append→Ld,contains_cons→Le,contains_nil→Lf,any_eq_false→Lg,length_drop→Lh,filter_cons→Li,drop_length→Lj,take_left'→Ll,map_append→Lm,length_map→Lp,filter_nil→Lr,any_append→Ls,mem_range→Lt,map_set→Lu,length→Lv
open Go.Proofs.Tryz renaming prog→Gb
open Int renaming toNat_natCast→Gh,le_refl→GL,lt_or_le→Lx
open Nat renaming zero_add→GM,le_trans→GN,le_refl→GR,mul_le_mul→Hy,add_zero→Hz,mul_le_mul_right→LA,one_mul→HV,add_mul→HY,le_add_right→LB
noncomputable section
section
set_option maxRecDepth 100000
set_option maxHeartbeats 4000000
open Go.Proofs
namespace Go.Cm
section
theorem kbE {k m:Nat}:((k:Int) == no_index (@OfNat.ofNat Int m _))=(k == m):=by
 rw[HZ,beq_iff_eq,beq_iff_eq]; exact Int.ofNat_inj
theorem kbN {k m:Nat}:((k:Int) != no_index (@OfNat.ofNat Int m _)) = !(k == m):=by rw[bne,kbE]
def tRw (t:Tr):List CV:=[.rslc 5 (ndz t.nodes) none,.rslc 1 (iz t.items) none,.rslc 1 (iz (upT t)) none,.rslc 1 (iz (Jcj t)) none]
theorem fitN {t:Tr}(ht:t.Fit) {i:Nat}(hi:i < t.nodes.length):(nd t i).Fit:=ht.nodes _ (by unfold nd; rw[Gm,Gp hi]; exact Gy hi)
theorem Kh {t:Tr}{i:Nat}(h:i < t.nodes.length):(ndz t.nodes).getD i []=(nd t i).cv:=Qb h
theorem upz {t:Tr}{i:Nat}(h:i < t.nodes.length):(iz (upT t)).getD i []=[.int .i64 (Kg t i)]:=by rw[JQ (by rw[JcD]; exact h),upT_get h]
theorem itz {t:Tr}{i:Nat}(h:i < t.nodes.length):(iz (Jcj t)).getD i []=[.int .i64 (KE t i)]:=by rw[JQ (by rw[Jbp]; exact h),itemT_get h]
theorem KO {t:Tr}:(iz (upT t)).length=t.nodes.length:=by rw[Jf,JcD]
theorem itz_len {t:Tr}:(iz (Jcj t)).length=t.nodes.length:=by rw[Jf,Jbp]
theorem YS (t:Tr) {i:Nat}(hi:i < t.nodes.length):Fn Gb 49 [.rptr (tRw t),.int .i64 (i:Int)] (.int .u8 ((nd t i).k:Int)):=by
 have hg:=Kh hi
 refine Jb c49_ok rfl rfl fun N=>?_
 simp -implicitDefEqProofs only[c49,go_sem,tRw,Jd,hg,Nd.cv]
 omega
theorem nInside (t:Tr) {i:Nat}(hi:i < t.nodes.length):Fn Gb 101 [.rptr (tRw t),.int .i64 (i:Int)] (.bool (!((nd t i).k == 43))):=by
 refine Jb c101_ok rfl rfl fun N=>?_
 simp -implicitDefEqProofs only[c101,go_sem]
 refine JM (YS t hi) ?_
 simp -implicitDefEqProofs only[go_sem,kbN]
def Yt (k:Nat):Bool:=decide (1≤k) && decide (k≤29)
theorem nIsExpr (t:Tr) {i:Nat}(hi:i < t.nodes.length):Fn Gb 53 [.rptr (tRw t),.int .i64 (i:Int)] (.bool (Yt (nd t i).k)):=by
 have e2:decide (((nd t i).k:Int)≤29)=decide ((nd t i).k≤29):=decide_eq_decide.2 (by omega)
 refine Jb c53_ok rfl rfl fun N=>?_
 simp -implicitDefEqProofs only[c53,go_sem]
 refine JM (YS t hi) ?_
 by_cases h1:1≤(nd t i).k
 ·have e1:decide ((1:Int)≤((nd t i).k:Int))=true:=decide_eq_true (by omega)
  have e3:Yt (nd t i).k=decide ((nd t i).k≤29):=by unfold Yt; rw[decide_eq_true h1,Gi]
  simp -implicitDefEqProofs only[go_sem,e1,e2,e3]
 ·have e1:decide ((1:Int)≤((nd t i).k:Int))=false:=decide_eq_false (by omega)
  have e3:Yt (nd t i).k=false:=by unfold Yt; rw[decide_eq_false h1,Gn]
  simp -implicitDefEqProofs only[go_sem,e1,e3]
def bz (l:List Nat):List (List CV):=l.map fun i:Nat=>[.int .u8 (i:Int)]
theorem bz_len {l:List Nat}:(bz l).length=l.length:=by simp[bz]
theorem bz_get {l:List Nat}{i:Nat}(h:i < l.length):(bz l).getD i []=[.int .u8 (l.getD i 0:Nat)]:=by
 simp[bz,Gm,Gp h]
theorem bz_closed:∀ (l:List Nat),Jw (bz l)=true
 |[]=>rfl
 |x::l=>by simp[bz,Jw,Jr,CV.closed]; exact bz_closed l
theorem indexB (l:List Nat) (x:Nat) (hl:l.length≤100000):Fn Gb 143 [.rslc 1 (bz l) none,.int .u8 (x:Int)] (.int .i64 (QE (fun y=>x == y) l 0)):=by
 have hil:(bz l).length=l.length:=bz_len
 have hbc:=bz_closed l
 refine Jb c143_ok rfl rfl fun N=>?_
 simp -implicitDefEqProofs only[c143,go_sem,hil]
 refine JA (I:=fun i:Nat=>i≤l.length∧QE (fun y=>x == y) l 0=QE (fun y=>x == y) (l.drop i) i) (inv:=fun i=>gp [(0,.rslc 1 (bz l) none),(0,.int .u8 x),(5,.int .i64 (l.length:Int)),(0,.int .i64 (i:Int))] 10) (hp:=fun _=>[]) (μ:=fun i=>l.length-i) 0 ⟨by omega,rfl⟩ ?_ rfl ?_
 ·simp[forget,gp]
 ·rintro i ⟨hi,hinv⟩
  by_cases hlt:i < l.length
  ·have d1:((i:Int) < (l.length:Int))=True:=Jo
   have hgi:=bz_get hlt
   have hge:l[i]? = some (l.getD i 0):=by rw[Gm,Gp hlt]; rfl
   rw[Qr hge]at hinv
   have en:=JbT (l.getD i 0) x
   simp -implicitDefEqProofs only[go_sem,hil,d1,hgi,en]
   generalize l.getD i 0=y at hinv ⊢
   refine ⟨by omega,?_⟩
   cases he:(x == y) with
   |true=>
    rw[he,if_pos rfl]at hinv
    simp -implicitDefEqProofs only[go_sem,hinv]
   |false=>
    rw[he]at hinv
    simp -implicitDefEqProofs only[go_sem]
    refine ⟨Jj,i+1,⟨by omega,by simpa using hinv⟩,by omega,?_⟩
    simp[forget]
  ·have d1:((i:Int) < (l.length:Int))=False:=Jn
   rw[Gs (by omega)]at hinv
   simp -implicitDefEqProofs only[go_sem,d1,hinv,QE]
theorem containsB (l:List Nat) (x:Nat) (hl:l.length≤100000):Fn Gb 111 [.rslc 1 (bz l) none,.int .u8 (x:Int)] (.bool (l.contains x)):=by
 refine Jb c111_ok rfl rfl fun N=>?_
 simp -implicitDefEqProofs only[c111,go_sem]
 refine JM (indexB l x hl) ?_
 have e:decide (0≤QE (fun y=>x == y) l 0)=l.contains x:=by rw[Jaz,He]
 simp -implicitDefEqProofs only[go_sem,e]
theorem nIsDecl (t:Tr) {i:Nat}(hi:i < t.nodes.length):Fn Gb 69 [.rptr (tRw t),.int .i64 (i:Int)] (.bool (KZ (nd t i).k)):=by
 have e:[65,64,42,43,47].contains (nd t i).k=KZ (nd t i).k:=by
  simp only[Le,Lf,GQ,KZ,Bool.or_assoc]
 refine Jb c69_ok rfl rfl fun N=>?_
 simp -implicitDefEqProofs only[c69,go_sem]
 refine Je (id:=0) (z:=1) (els:=bz [65,64,42,43,47]) rfl rfl ?_
 simp only[go_sem,JS,Kb,frz,KI,bz,Gc,Gd,Gg,Gt,Gf,Hm,Ht]
 refine JM (YS t hi) ?_
 simp -implicitDefEqProofs only[go_sem]
 refine JM (containsB [65,64,42,43,47] _ (by simp)) ?_
 simp -implicitDefEqProofs only[go_sem,e]
section
variable {t:Tr}{o:List Int}(g:GoodT t o)
include g
theorem nBelow {j0 a:Nat}(hj0:j0 < t.nodes.length) (ha:a < t.nodes.length):Fn Gb 55 [.rptr (tRw t),.int .i64 (j0:Int),.int .i64 (a:Int)] (.bool (XF o j0 a)):=by
 refine Jb c55_ok rfl rfl fun N=>?_
 simp -implicitDefEqProofs only[c55,go_sem]
 refine JA (σ:=Int) (I:=fun v=>(v = -1∧XF o j0 a=false)∨∃ j:Nat,v=j∧j < t.nodes.length∧XF o j0 a=XF o j a) (inv:=fun v=>gp [(0,.rptr (tRw t)),(0,.int .i64 v),(0,.int .i64 (a:Int))] 21) (hp:=fun _=>[]) (μ:=fun v=>if v < 0 then 0 else t.nodes.length-v.toNat+1) (j0:Int) (.inr ⟨j0,rfl,hj0,rfl⟩) ?_ rfl ?_
 ·simp[forget,gp]
 ·rintro v (⟨rfl,hb⟩ | ⟨j,rfl,hj,hb⟩)
  ·have e1:(((-1:Int)) != -1)=false:=by decide
   have e2:((-1:Int) == (a:Int))=false:=beq_eq_false_iff_ne.2 (by omega)
   simp -implicitDefEqProofs only[go_sem,e1,e2,hb]
  ·have e1:((j:Int) != -1)=true:=bne_iff_ne.2 (by omega)
   by_cases he:j=a
   ·subst he
    have e2:((j:Int) != (j:Int))=false:=by simp
    have e3:((j:Int) == (j:Int))=true:=by simp
    have e4:=Kj.2 (JaD g hj)
    simp -implicitDefEqProofs only[go_sem,e1,e2,e3,hb,e4]
   ·have e2:((j:Int) != (a:Int))=true:=bne_iff_ne.2 (by omega)
    have hp:=par_rng g hj
    have hu:=blw_up g hj ha he
    simp -implicitDefEqProofs only[go_sem,e1,e2,tRw,KO,upz hj]
    refine ⟨by omega,Kg t j,?_,?_,?_⟩
    ·rcases QK g hj with ⟨h,_⟩ | ⟨m,h,h1,h2,_⟩
     ·rw[h,if_pos (by decide)]at hu
      exact .inl ⟨h,by rw[hb,hu]⟩
     ·rw[h,if_neg (by omega),Gh]at hu
      exact .inr ⟨m,h,h2,by rw[hb,hu]⟩
    ·rcases QK g hj with ⟨h,_⟩ | ⟨m,h,h1,h2,_⟩
     ·show (if Kg t j < 0 then 0 else _) < (if (j:Int) < 0 then 0 else _)
      rw[h,if_pos (by decide),if_neg (by omega)]; omega
     ·rw[h,if_neg (by omega),if_neg (by omega)]; omega
    ·simp[forget,tRw]
theorem lastz {m:Nat}(hm:m < t.nodes.length) (hlen:0 < (nd t m).kids.length):(iz (nd t m).kids).getD ((nd t m).kids.length-1) []=[.int .i64 (JI t m:Int)]:=by
 rw[JQ (by omega)]
 have h4:(nd t m).kids.getD ((nd t m).kids.length-1) 0∈(nd t m).kids:=by
  rw[Gm,Gp (by omega)]; exact Gy _
 have h5:=(g.kid hm h4).1
 have:((JI t m:Nat):Int)=(nd t m).kids.getD ((nd t m).kids.length-1) 0:=by unfold JI; omega
 rw[this]
theorem nLate (ht:t.Fit) {a0 s:Nat}(hs:s < t.nodes.length) (hk:(nd t s).k=41) (hb0:blw o a0 (JI t s)):Fn Gb 100 [.rptr (tRw t),.int .i64 (a0:Int),.int .i64 (s:Int)] (.bool (buL t (upL t (JI t s) t.nodes.length a0) false)):=by
 have htop:=(set_kid g hs hk).1
 have htl:JI t s < t.nodes.length:=by have:=(KF g hs htop).2; omega
 generalize hR:buL t (upL t (JI t s) t.nodes.length a0) false=R
 refine Jb c100_ok rfl rfl fun N=>?_
 simp -implicitDefEqProofs only[c100,go_sem]
 refine JA (σ:=Nat×Bool) (I:=fun s'=>blw o s'.1 (JI t s)∧∃ f,t.nodes.length≤s'.1+f∧R=buL t (upL t (JI t s) f s'.1) s'.2) (inv:=fun s'=>gp [(0,.rptr (tRw t)),(1,.int .i64 (s:Int)),(4,.bool s'.2),(0,.int .i64 (s'.1:Int))] 64) (hp:=fun _=>[]) (μ:=fun s'=>t.nodes.length-s'.1) (a0,false) ⟨hb0,t.nodes.length,by omega,hR.symm⟩ ?_ rfl ?_
 ·simp[forget,gp]
 ·rintro ⟨a,late⟩ ⟨hb,f,hf,hinv⟩
  dsimp only at hb hf hinv
  have ha:a < t.nodes.length:=by have:=hb.1; omega
  rcases late_step g (late:=late) hs htop hb hf with ⟨he,hp⟩ | ⟨hne,m,f',hp,hms,ham,hm,hbm,hkid,hf',hstep⟩
  ·have e1:((s:Int) != (s:Int))=false:=by simp
   subst he
   rw[late_end]at hinv
   simp -implicitDefEqProofs only[go_sem,tRw,KO,upz ha,hp,e1,hinv]
   omega
  ·have e1:((m:Int) != (s:Int))=true:=bne_iff_ne.2 (by omega)
   have hg:=Kh hm
   rw[hstep]at hinv
   have hlen:0 < (nd t m).kids.length:=Hf hkid
   have hkl:(iz (nd t m).kids).length=(nd t m).kids.length:=Jf
   have hgl:=lastz g hm hlen
   have hkn:(nd t m).kids.length < 9223372036854775807:=by have:=(fitN ht hm).kidn; omega
   simp -implicitDefEqProofs only[go_sem,tRw,KO,upz ha,hp,e1,Jd,hg,Nd.cv]
   refine ⟨by omega,by omega,by omega,?_⟩
   refine JM (YS t hm) ?_
   have fin:∀ late',late'=JbK t m a late→(blw o m (JI t s)∧∃ f,t.nodes.length≤m+f∧R=buL t (upL t (JI t s) f m) late'):=fun late' h=>⟨hbm,f',hf',by rw[h]; exact hinv⟩
   have en:=JbT (JI t m) a
   by_cases h4:(nd t m).k=4
   ·have hst:JbK t m a late=true:=by unfold JbK; rw[if_pos h4]
    simp -implicitDefEqProofs only[go_sem,kbE,h4,tRw,KO,upz ha,hp]
    refine ⟨by omega,(m,true),fin true hst.symm,by simp only; omega,?_⟩
    simp[forget,tRw]
   ·have b4:((nd t m).k == 4)=false:=beq_eq_false_iff_ne.2 h4
    by_cases h5:(nd t m).k=46∨(nd t m).k=47
    ·have hst:JbK t m a late=(late || a == JI t m):=by unfold JbK; rw[if_neg h4,if_pos h5]
     have b5:((nd t m).k == 46)=true∨((nd t m).k == 46)=false∧((nd t m).k == 47)=true:=by
      rcases h5 with h | h <;> simp[h]
     rcases b5 with b5 | ⟨b5,b6⟩
     ·cases late with
      |true=>
       simp -implicitDefEqProofs only[go_sem,kbE,b4,b5,tRw,KO,upz ha,hp]
       refine ⟨by omega,(m,true),fin true (by rw[hst]; rfl),by simp only; omega,?_⟩
       simp[forget,tRw]
      |false=>
       simp -implicitDefEqProofs only[go_sem,kbE,b4,b5,tRw,KO,upz ha,hp,hkl,hgl,en]
       refine ⟨Jj,by omega,by omega,(m,a == JI t m),fin _ (by rw[hst]; rfl),by simp only; omega,?_⟩
       simp[forget,tRw]
     ·cases late with
      |true=>
       simp -implicitDefEqProofs only[go_sem,kbE,b4,b5,b6,tRw,KO,upz ha,hp]
       refine ⟨by omega,(m,true),fin true (by rw[hst]; rfl),by simp only; omega,?_⟩
       simp[forget,tRw]
      |false=>
       simp -implicitDefEqProofs only[go_sem,kbE,b4,b5,b6,tRw,KO,upz ha,hp,hkl,hgl,en]
       refine ⟨Jj,by omega,by omega,(m,a == JI t m),fin _ (by rw[hst]; rfl),by simp only; omega,?_⟩
       simp[forget,tRw]
    ·have b5:((nd t m).k == 46)=false:=beq_eq_false_iff_ne.2 fun h=>h5 (.inl h)
     have b6:((nd t m).k == 47)=false:=beq_eq_false_iff_ne.2 fun h=>h5 (.inr h)
     by_cases h7:(nd t m).k=28
     ·have b7:((nd t m).k == 28)=true:=by simp[h7]
      have hst:JbK t m a late=(late && (nd t a).k == 43):=by unfold JbK; rw[if_neg h4,if_neg h5,if_pos h7]
      cases late with
      |true=>
       simp -implicitDefEqProofs only[go_sem,kbE,b4,b5,b6,b7]
       refine JP (gok rfl) (nInside t ha) ?_
       simp -implicitDefEqProofs only[go_sem,tRw,KO,upz ha,hp,Bool.not_not]
       refine ⟨by omega,(m,(nd t a).k == 43),fin _ (by rw[hst]; rfl),by simp only; omega,?_⟩
       simp[forget,tRw]
      |false=>
       simp -implicitDefEqProofs only[go_sem,kbE,b4,b5,b6,b7,tRw,KO,upz ha,hp]
       refine ⟨by omega,(m,false),fin _ (by rw[hst]; rfl),by simp only; omega,?_⟩
       simp[forget,tRw]
     ·have b7:((nd t m).k == 28)=false:=beq_eq_false_iff_ne.2 h7
      have hst:JbK t m a late=late:=by unfold JbK; rw[if_neg h4,if_neg h5,if_neg h7]
      simp -implicitDefEqProofs only[go_sem,kbE,b4,b5,b6,b7,tRw,KO,upz ha,hp]
      refine ⟨by omega,(m,late),fin _ hst.symm,by simp only; omega,?_⟩
      simp[forget,tRw]
end
end
theorem kidsK_take {t:Tr}{u k i:Nat}(h:i < (nd t u).kids.length):((nd t u).kids.take (i+1)).filter (fun c=>Ju t.nodes c == k)=((nd t u).kids.take i).filter (fun c=>Ju t.nodes c == k)++if Ju t.nodes ((nd t u).kids.getD i 0) == k then [(nd t u).kids.getD i 0] else []:=by
 rw[G5 h,Ld,Gm,Gp h,Option.getD_some,Li,Lr]
theorem kids_len_le {t:Tr}{u k i:Nat}:(((nd t u).kids.take i).filter (fun c=>Ju t.nodes c == k)).length≤(nd t u).kids.length:=
 GN (Gw _ _) (by rw[G8]; omega)
theorem nKids (t:Tr) (ht:t.Fit) {u:Nat}(hu:u < t.nodes.length) (hK:∀ k∈(nd t u).kids,0≤k∧k < t.nodes.length) (k:Nat):Jb2 Gb 76 [.rptr (tRw t),.int .i64 (u:Int),.int .u8 (k:Int)] 1 (iz (Qq t u k)):=by
 have hg:=Kh hu
 have hkn:=(fitN ht hu).kidn
 have hkl:(iz (nd t u).kids).length=(nd t u).kids.length:=Jf
 refine Jfr (J8 c76_ok fun N=>?_) rfl (Jc _)
 simp -implicitDefEqProofs only[c76,go_sem,tRw,Jd,hg,Nd.cv,hkl]
 refine ⟨by omega,?_⟩
 refine Xh ?_
 simp only[go_sem,GA]
 generalize hF:(fun c=>Ju t.nodes c == k)=F
 refine Jv (I:=fun i:Nat=>i≤(nd t u).kids.length) (inv:=fun i=>gp [(0,.rptr (tRw t)),(1,.int .u8 (k:Int)),(3,K5 0 (iz (((nd t u).kids.take i).filter F))),(10,.rslc 1 (iz (nd t u).kids) none),(0,.int .i64 ((nd t u).kids.length:Int)),(0,.int .i64 (i:Int))] 14) (hp:=fun i=>[Qm 1 (iz (((nd t u).kids.take i).filter F))]) (μ:=fun i=>(nd t u).kids.length-i) 0 [0] (by omega) rfl ?_ rfl ?_
 ·simp[forget,Jy,ren,Jk,gp,tRw,iz,K5]
 ·intro i hi
  by_cases hlt:i < (nd t u).kids.length
  ·have d1:((i:Int) < ((nd t u).kids.length:Int))=True:=Jo
   have hgi:=JQ hlt
   have htk:=kidsK_take (k:=k) hlt
   have hle:=kids_len_le (t:=t) (u:=u) (k:=k) (i:=i)
   have hmem:(nd t u).kids.getD i 0∈(nd t u).kids:=by rw[Gm,Gp hlt]; exact Gy hlt
   have hb:=hK _ hmem
   rw[hF]at htk hle
   generalize (nd t u).kids.getD i 0=c at htk hgi hb
   obtain ⟨c,rfl⟩:∃ c':Nat,c=c':=⟨c.toNat,by omega⟩
   generalize ((nd t u).kids.take i).filter F=acc at htk hle
   simp -implicitDefEqProofs only[go_sem,d1,hkl,hgi]
   refine ⟨by omega,?_⟩
   refine JM (YS t (by omega)) ?_
   have en:=JbT k (nd t c).k
   have ek:Ju t.nodes (c:Int)=(nd t c).k:=by unfold Ju nd; rw[Gh]
   rw[ek]at htk
   cases hq:(nd t c).k == k with
   |false=>
    rw[hq]at htk en
    simp only[Hd,if_false,Gq]at htk
    simp -implicitDefEqProofs only[go_sem,en]
    refine ⟨Jj,i+1,[0],by omega,by omega,rfl,?_,?_⟩
    ·rw[htk]; simp only[J5,Gc,Gd,go_sem,Ke (Ja (Jc acc))]
    ·rw[htk]; simp[forget,Jy,ren,Jk,tRw,Kr]
   |true=>
    rw[hq]at htk en
    simp only[if_true]at htk
    simp -implicitDefEqProofs only[go_sem,en,Jf,Jt]
    refine ⟨⟨by omega,by omega⟩,Jj,i+1,[2],by omega,by omega,rfl,?_,?_⟩
    ·rw[htk,Ka,J7]
     simp only[J5,Gc,Gd,go_sem,Ji]
     simp[Ja (Jc acc),Jy,ren]
    ·rw[htk,Ka,J6]
     simp[forget,Jy,ren,Jk,tRw,Jf]
  ·have d1:((i:Int) < ((nd t u).kids.length:Int))=False:=Jn
   rw[Gv (by omega)]
   rw[show (nd t u).kids.filter F=Qq t u k by rw[← hF]; rfl]
   simp -implicitDefEqProofs only[go_sem,d1]
   exact ⟨0,rfl,rfl⟩
section
theorem Jdh {z bytes id:Nat}{H:List CObj}{els:List (List CV)}:KA z bytes H (K5 id els) []=some (.tt,K5 id els,H):=by cases els <;> rfl
attribute [go_sem] Jdh
theorem Qi:iz []=[]:=rfl
theorem JV {x:Int}{l:List Int}:iz (x::l)=[.int .i64 x]::iz l:=rfl
theorem Kl {a b:List Int}:iz (a++b)=iz a++iz b:=by simp[iz]
theorem Jdd {f:Int→List Int}{b:Nat}(h:∀ x,(f x).length≤b):∀ l:List Int,((l.map f).flatten).length≤l.length*b
 |[]=>by simp
 |x::l=>by
  have h1:=h x
  have h2:=Jdd h l
  simp only[Gc,List.flatten_cons,Gx,Gg,HY,HV]
  omega
theorem kidsK_len {t:Tr}{u k:Nat}:(Qq t u k).length≤(nd t u).kids.length:=Gw _ _
theorem flat_take {f:Int→List Int}{l:List Int}{i:Nat}(h:i < l.length):((l.take (i+1)).map f).flatten=((l.take i).map f).flatten++f (l.getD i 0):=by
 rw[G5 h,Lm,List.flatten_append,Gm,Gp h]
 simp
theorem Jc6 {t:Tr}{o:List Int}(g:GoodT t o) {u k:Nat}(hu:u < t.nodes.length) {c:Int}(hc:c∈Qq t u k):0≤c∧c < t.nodes.length:=by
 have:=g.kid hu (KN.1 hc).1; omega
theorem X8 {t:Tr}(ht:t.Fit) {x:Int}{k:Nat}:(Qq t x.toNat k).length≤30:=by
 rcases Nat.lt_or_ge x.toNat t.nodes.length with h | h
 ·exact GN kidsK_len (fitN ht h).kidn
 ·have:nd t x.toNat=default:=by unfold nd; rw[Gm,List.getElem?_eq_none h]; rfl
  refine GN kidsK_len ?_
  rw[this]; exact Nat.zero_le _
theorem binds_le {t:Tr}(ht:t.Fit) {u:Nat}:(Yx t u).length≤900:=by
 have h1:=Jdd (f:=fun s:Int=>Qq t s.toNat 42) (b:=30) (fun x=>X8 ht) (Qq t u 41)
 have h2:=X8 ht (x:=(u:Int)) (k:=41)
 rw[Gh]at h2
 unfold Yx
 omega
section
variable {t:Tr}{o:List Int}(g:GoodT t o) (ht:t.Fit)
include g ht
theorem Jeh {u:Nat}(hu:u < t.nodes.length) (k:Nat):Jb2 Gb 76 [.rptr (tRw t),.int .i64 (u:Int),.int .u8 (k:Int)] 1 (iz (Qq t u k)):=
 nKids t ht hu (fun c hc=>by have:=g.kid hu hc; omega) k
theorem nKidsF {u:Nat}(hu:u < t.nodes.length) (k:Nat):Fn Gb 76 [.rptr (tRw t),.int .i64 (u:Int),.int .u8 (k:Int)] (.rslc 1 (iz (Qq t u k)) none):=
 (Jeh g ht hu k).fn rfl (Jc _)
theorem nBinds {u:Nat}(hu:u < t.nodes.length):Jb2 Gb 188 [.rptr (tRw t),.int .i64 (u:Int)] 1 (iz (Yx t u)):=by
 have hL:=X8 ht (x:=(u:Int)) (k:=41)
 rw[Gh]at hL
 refine Jfr (J8 c188_ok fun N=>?_) rfl (Jc _)
 simp -implicitDefEqProofs only[c188,go_sem]
 refine JM (nKidsF g ht hu 41) ?_
 have hbl:Yx t u=((Qq t u 41).map fun s=>Qq t s.toNat 42).flatten:=rfl
 rw[hbl]
 have hr:∀ c∈Qq t u 41,0≤c∧c < t.nodes.length:=fun c hc=>Jc6 g hu hc
 generalize Qq t u 41=L at hL hr ⊢
 have hil:(iz L).length=L.length:=Jf
 simp -implicitDefEqProofs only[go_sem,hil]
 refine Xh ?_
 simp only[go_sem,GA]
 generalize hf:(fun s:Int=>Qq t s.toNat 42)=f
 have hfl:∀ x,(f x).length≤30:=fun x=>by rw[← hf]; exact X8 ht
 refine Jv (I:=fun i:Nat=>i≤L.length) (inv:=fun i=>gp [(0,.rptr (tRw t)),(3,K5 0 (iz ((L.take i).map f).flatten)),(4,.rslc 1 (iz L) none),(0,.int .i64 (L.length:Int)),(0,.int .i64 (i:Int))] 10) (hp:=fun i=>[Qm 1 (iz ((L.take i).map f).flatten)]) (μ:=fun i=>L.length-i) 0 [0] (by omega) rfl ?_ rfl ?_
 ·simp[forget,Jy,ren,Jk,gp,K5,iz]
 ·intro i hi
  by_cases hlt:i < L.length
  ·have d1:((i:Int) < (L.length:Int))=True:=Jo
   have hgi:=JQ hlt
   have hmem:L.getD i 0∈L:=by rw[Gm,Gp hlt]; exact Gy hlt
   have hb:=hr _ hmem
   have hft:=flat_take (f:=f) hlt
   have hfx:f (L.getD i 0)=Qq t (L.getD i 0).toNat 42:=by rw[← hf]
   have hflx:=hfl (L.getD i 0)
   have hacc:=Jdd hfl (L.take i)
   rw[G8]at hacc
   generalize ((L.take i).map f).flatten=acc at hacc hft ⊢
   generalize f (L.getD i 0)=xs at hfx hflx hft
   generalize L.getD i 0=c at hgi hb hfx
   obtain ⟨c,rfl⟩:∃ c':Nat,c=c':=⟨c.toNat,by omega⟩
   rw[Gh]at hfx
   simp -implicitDefEqProofs only[go_sem,d1,hil,hgi]
   refine ⟨by omega,?_⟩
   refine JM (nKidsF g ht (by omega) 42) ?_
   rw[← hfx]
   cases xs with
   |nil=>
    rw[Gq]at hft
    simp -implicitDefEqProofs only[go_sem,Qi]
    refine ⟨Jj,i+1,[0],by omega,by omega,rfl,?_,?_⟩
    ·rw[hft]; simp only[J5,Gc,Gd,go_sem,Ke (Ja (Jc acc))]
    ·rw[hft]; simp[forget,Jy,ren,Jk,Kr]
   |cons x xs=>
    simp only[Gg]at hflx
    simp -implicitDefEqProofs only[go_sem,JV,Jf,Jt]
    refine ⟨⟨by omega,by omega⟩,Jj,i+1,[1],by omega,by omega,rfl,?_,?_⟩
    ·rw[hft,Kl,JV,J7]
     simp only[J5,Gc,Gd,go_sem,Ji]
     simp[Ja (Jc acc),Ja (Jc xs),Jy,ren]
    ·rw[hft,Kl,JV,J6]
     simp[forget,Jy,ren,Jk,Jf]
  ·have d1:((i:Int) < (L.length:Int))=False:=Jn
   rw[Gv (by omega)]
   simp -implicitDefEqProofs only[go_sem,d1]
   exact ⟨0,rfl,rfl⟩
end
end
section
section
variable {P:Program}{E:Env}{H:List CObj}
theorem CallsC.pad {f:Nat}{args:List CV}{R R':CV→List CObj→Prop}(h:CallsC P E f args H R) (hR:∀ v H',R v H'→R' v H'∨R' v (H'++[.dead])):CallsC P E f args H R':=by
 intro m w vs hs hv
 refine (h m w vs hs hv).mono ?_
 rintro e w' ⟨r,m',v,H',h1,h2,h3,h4,h5⟩
 rcases hR _ _ h5 with g | g
 ·exact ⟨r,m',v,H',h1,h2,h3,h4,g⟩
 ·obtain ⟨t1,t2,t3⟩:=h3.pad (n0:=H.length)
  exact ⟨r,_,v,_,h1,h2.trans t3,t1,QJ t2 (Ki.refl _) _ _ h4,g⟩
def RowR (z:Nat) (els:List (List CV)) (v:CV) (H':List CObj):Prop:=(∃ id,v=K5 id els∧H'[id]? = some (Qm z els))∨(v=.nils∧els=[])∨∃ id c,v=.slc id 0 els.length (some c)∧H'[id]? = some (.arr z els)∧els≠[]
theorem RowR.row {z id:Nat}{els:List (List CV)}{v:CV}{H':List CObj}(h1:v=K5 id els) (h2:H'[id]? = some (Qm z els)):RowR z els v H':=.inl ⟨id,h1,h2⟩
theorem RowR.nil {z:Nat}{H':List CObj}:RowR z [] .nils H':=.inr (.inl ⟨rfl,rfl⟩)
theorem RowR.lit {z id c:Nat}{e:List CV}{els:List (List CV)}{H':List CObj}(h2:H'[id]? = some (.arr z (e::els))):RowR z (e::els) (.slc id 0 (els.length+1) (some c)) H':=.inr (.inr ⟨id,c,rfl,h2,by simp⟩)
theorem Jbu {f:Nat}{args:List CV}{z:Nat}{els:List (List CV)}(h:CallsC P Env.none f args [] (RowR z els)) (ha:Jr args=true) (hc:Jw els=true):Jb2 P f args z els:=
 Jfr ((h.wk (R':=fun v H'=>(∃ id,v=K5 id els∧H'[id]? = some (Qm z els))∨(v=.nils∧els=[])) fun v H' hv=>by
  rcases hv with hv | hv | ⟨id,c,rfl,h2,h3⟩
  ·exact ⟨v,wk.refl _,.inl hv⟩
  ·exact ⟨v,wk.refl _,.inr hv⟩
  ·exact ⟨_,wk_cap,.inl ⟨id,(QU h3).symm,by rw[QC h3]; exact h2⟩⟩).pad fun v H' hv=>by
  rcases hv with hv | ⟨rfl,rfl⟩
  ·exact .inl hv
  ·exact .inr ⟨H'.length,rfl,by simp; rfl⟩) ha hc
end
section
variable {t:Tr}{o:List Int}(g:GoodT t o) (ht:t.Fit)
include g ht
theorem nDeclares {u a:Nat}(hu:u < t.nodes.length) (ha:a < t.nodes.length):Jb2 Gb 159 [.rptr (tRw t),.int .i64 (u:Int),.int .i64 (a:Int)] 1 (iz (JbA t u a)):=by
 have hg:=Kh hu
 have hkl:(iz (nd t u).kids).length=(nd t u).kids.length:=Jf
 have bu:((u:Int) < (t.nodes.length:Int))=True:=Jo
 refine Jbu (J8 c159_ok fun N=>?_) rfl (Jc _)
 unfold JbA
 by_cases h40:(nd t u).k=40
 ·rw[if_pos h40]
  simp -implicitDefEqProofs only[c159,go_sem,tRw,Jd,hg,Nd.cv,kbE,h40]
  refine ⟨by omega,?_⟩
  refine JdR (.inl rfl) (nBinds g ht hu) ?_
  simp -implicitDefEqProofs only[go_sem]
  exact .row (id:=1) rfl rfl
 have b40:((nd t u).k == 40)=false:=beq_eq_false_iff_ne.2 h40
 rw[if_neg h40]
 by_cases h65:(nd t u).k=65
 ·rw[if_pos h65]
  simp -implicitDefEqProofs only[c159,go_sem,tRw,Jd,hg,Nd.cv,kbE,h65]
  refine ⟨by omega,?_⟩
  refine JdR (.inl rfl) (Jeh g ht hu 64) ?_
  simp -implicitDefEqProofs only[go_sem]
  exact .row (id:=1) rfl rfl
 have b65:((nd t u).k == 65)=false:=beq_eq_false_iff_ne.2 h65
 rw[if_neg h65]
 by_cases h47:(nd t u).k=47
 ·rw[if_pos h47]
  have hlen:(nd t u).kids.length=3:=(Yn g hu h47).1
  have hg2:=JQ (l:=(nd t u).kids) (i:=2) (by omega)
  by_cases he:(a:Int)=(nd t u).kids.getD 2 0
  ·have e1:((a:Int) == (nd t u).kids.getD 2 0)=true:=beq_iff_eq.2 he
   rw[if_pos he]
   simp -implicitDefEqProofs only[c159,go_sem,tRw,Jd,hg,Nd.cv,kbE,h47,hkl,hlen,hg2,e1]
   exact ⟨by omega,by omega,.lit rfl⟩
  ·have e1:((a:Int) == (nd t u).kids.getD 2 0)=false:=beq_eq_false_iff_ne.2 he
   rw[if_neg he]
   simp -implicitDefEqProofs only[c159,go_sem,tRw,Jd,hg,Nd.cv,kbE,h47,hkl,hlen,hg2,e1]
   exact ⟨by omega,by omega,.nil⟩
 have b47:((nd t u).k == 47)=false:=beq_eq_false_iff_ne.2 h47
 rw[if_neg h47]
 by_cases h28:(nd t u).k=28
 ·rw[if_pos h28]
  simp -implicitDefEqProofs only[c159,go_sem,tRw,Jd,hg,Nd.cv,kbE,h28]
  refine ⟨by omega,?_⟩
  refine JM (YS t ha) ?_
  by_cases h43:(nd t a).k=43
  ·rw[if_pos h43]
   simp -implicitDefEqProofs only[go_sem,kbE,h43]
   exact .nil
  have b43:((nd t a).k == 43)=false:=beq_eq_false_iff_ne.2 h43
  rw[if_neg h43]
  by_cases h41:(nd t a).k=41∨(nd t a).k=44
  ·rw[if_pos h41]
   have hK:=X8 ht (x:=(u:Int)) (k:=43)
   rw[Gh]at hK
   have hB:=binds_le ht (u:=u)
   have b41:((nd t a).k == 41)=true∨((nd t a).k == 41)=false∧((nd t a).k == 44)=true:=by
    rcases h41 with h | h <;> simp[h]
   rcases b41 with b41 | ⟨b41,b44⟩
   ·simp -implicitDefEqProofs only[go_sem,kbE,b43,b41]
    refine JdR (.inl rfl) (Jeh g ht hu 43) ?_
    simp -implicitDefEqProofs only[go_sem]
    refine JM ((nBinds g ht hu).fn rfl (Jc _)) ?_
    generalize Qq t u 43=L at hK ⊢
    generalize Yx t u=M at hB ⊢
    cases M with
    |nil=>
     simp -implicitDefEqProofs only[go_sem,Qi,Gq]
     exact .row (id:=1) rfl rfl
    |cons x xs=>
     simp only[Gg]at hB
     simp -implicitDefEqProofs only[go_sem,JV,Jf,Jt]
     refine ⟨⟨by omega,by omega⟩,.row (id:=2) (by rw[Kl,JV,J6,Jf,Jf]) (by rw[Kl,JV,J7]; rfl)⟩
   ·simp -implicitDefEqProofs only[go_sem,kbE,b43,b41,b44]
    refine JdR (.inl rfl) (Jeh g ht hu 43) ?_
    simp -implicitDefEqProofs only[go_sem]
    refine JM ((nBinds g ht hu).fn rfl (Jc _)) ?_
    generalize Qq t u 43=L at hK ⊢
    generalize Yx t u=M at hB ⊢
    cases M with
    |nil=>
     simp -implicitDefEqProofs only[go_sem,Qi,Gq]
     exact .row (id:=1) rfl rfl
    |cons x xs=>
     simp only[Gg]at hB
     simp -implicitDefEqProofs only[go_sem,JV,Jf,Jt]
     refine ⟨⟨by omega,by omega⟩,.row (id:=2) (by rw[Kl,JV,J6,Jf,Jf]) (by rw[Kl,JV,J7]; rfl)⟩
  ·have b41:((nd t a).k == 41)=false:=beq_eq_false_iff_ne.2 fun h=>h41 (.inl h)
   have b44:((nd t a).k == 44)=false:=beq_eq_false_iff_ne.2 fun h=>h41 (.inr h)
   rw[if_neg h41]
   simp -implicitDefEqProofs only[go_sem,kbE,b43,b41,b44]
   refine JdR (.inl rfl) (Jeh g ht hu 43) ?_
   simp -implicitDefEqProofs only[go_sem]
   exact .row (id:=1) rfl rfl
 have b28:((nd t u).k == 28)=false:=beq_eq_false_iff_ne.2 h28
 rw[if_neg h28]
 simp -implicitDefEqProofs only[c159,go_sem,tRw,Jd,hg,Nd.cv,kbE,b40,b65,b47,b28]
 exact ⟨by omega,.nil⟩
omit g in
theorem decl_le {u a:Nat}:(JbA t u a).length≤1000:=by
 have hB:=binds_le ht (u:=u)
 have hK:∀ k,(Qq t u k).length≤30:=fun k=>by
  have:=X8 ht (x:=(u:Int)) (k:=k)
  rwa [Gh]at this
 have h1:=hK 64
 have h2:=hK 43
 unfold JbA
 repeat' split
 all_goals first | omega | simp only[Gx,Gg,Gt]; omega
omit ht in
theorem sight_sort {j:Nat}(hj:j < t.nodes.length):(Xo t t.nodes.length j).mergeSort (fun x y=>decide (x≤y))=Yo t j:=by
 refine Jdy (sort_strict (climb_nodup g _ _ hj)) (JaH.filter _) fun x=>?_
 unfold Yo
 rw[JeR,GI,G6]
 constructor
 ·intro h
  have:=climb_who g _ _ _ hj h
  exact ⟨K7.2 ⟨this.1,this.2.1⟩,h⟩
 ·exact fun h=>h.2
theorem nSight {j:Nat}(hj:j < t.nodes.length):Fn Gb 128 [.rptr (tRw t),.int .i64 (j:Int)] (.rslc 1 (iz (Yo t j)) none):=by
 have hmany:=g.many
 rw[← sight_sort g hj]
 refine Jet (J8 c128_ok fun N=>?_) rfl (Jc _)
 simp -implicitDefEqProofs only[c128,go_sem]
 refine Xh ?_
 simp only[go_sem,GA]
 generalize hC:Xo t t.nodes.length j=C
 refine Jv (σ:=Nat×Nat×List Int) (I:=fun s=>s.2.1 < t.nodes.length∧t.nodes.length≤s.2.1+s.1∧s.2.2++Xo t s.1 s.2.1=C∧s.2.2.length+1000*s.1≤1000*t.nodes.length) (inv:=fun s=>gp [(0,.rptr (tRw t)),(3,K5 0 (iz s.2.2)),(0,.int .i64 (s.2.1:Int))] 31) (hp:=fun s=>[Qm 1 (iz s.2.2)]) (μ:=fun s=>t.nodes.length-s.2.1) (t.nodes.length,j,[]) [0] ⟨hj,by simp only; omega,by simp[hC],by simp⟩ rfl ?_ rfl ?_
 ·simp[forget,Jy,ren,Jk,gp,K5,iz]
 ·rintro ⟨f,a,acc⟩ ⟨ha,hf,hacc,hlen⟩
  dsimp only at ha hf hacc hlen
  obtain ⟨f,rfl⟩:∃ f',f=f' + 1:=⟨f-1,by omega⟩
  rw[Xo]at hacc
  rcases QK g ha with ⟨hp,_⟩ | ⟨m,hp,ham,hm,_⟩
  ·have e1:((-1:Int) != -1)=false:=by decide
   rw[hp,if_pos (by decide),Gq]at hacc
   simp -implicitDefEqProofs only[go_sem,tRw,KO,upz ha,hp,e1]
   refine ⟨by omega,?_⟩
   cases acc with
   |nil=>
    rw[← hacc]
    simp -implicitDefEqProofs only[go_sem,Qi,QI]
    refine JM JeU ?_
    simp -implicitDefEqProofs only[go_sem,Lb,Qi,QI,X7]
    exact ⟨0,rfl⟩
   |cons x xs=>
    rw[← hacc]
    simp only[Gg]at hlen
    have hne:(x::xs).mergeSort (fun x y=>decide (x≤y))≠[]:=by
     intro e
     have:=congrArg Lv e
     rw[Hg]at this
     simp at this
    have hl2:(iz ((x::xs).mergeSort fun x y=>decide (x≤y)))≠[]:=by simpa [iz]using hne
    simp -implicitDefEqProofs only[go_sem,JV,QV,XI,Jf]
    refine JY (.inl rfl) (JeT (l:=x::xs) (by simp) (by simp only[Gg]; omega) rfl) fun v H' ⟨h1,h2⟩=>?_
    subst h1 h2
    simp -implicitDefEqProofs only[go_sem]
    refine ⟨0,by rw[QU hl2,Jf,Hg]; rfl,by rw[QC hl2]; rfl⟩
  ·have e1:((m:Int) != -1)=true:=bne_iff_ne.2 (by omega)
   rw[hp,if_neg (by omega),Gh,← List.append_assoc]at hacc
   have hdl:=decl_le ht (u:=m) (a:=a)
   simp -implicitDefEqProofs only[go_sem,tRw,KO,upz ha,hp,e1]
   refine ⟨by omega,by omega,?_⟩
   refine JM ((nDeclares g ht hm ha).fn rfl (Jc _)) ?_
   generalize JbA t m a=xs at hacc hdl ⊢
   cases xs with
   |nil=>
    rw[Gq]at hacc
    simp -implicitDefEqProofs only[go_sem,tRw,KO,upz ha,hp,Qi]
    refine ⟨by omega,(f,m,acc),[0],⟨hm,by simp only; omega,hacc,by simp only; omega⟩,by simp only; omega,rfl,?_,?_⟩
    ·simp only[J5,Gc,Gd,go_sem,Ke (Ja (Jc acc))]
    ·simp[forget,Jy,ren,Jk,Kr,tRw]
   |cons x xs=>
    simp only[Gg]at hdl
    simp -implicitDefEqProofs only[go_sem,tRw,KO,upz ha,hp,JV,Jf,JcD,Jt]
    refine ⟨⟨by omega,by omega⟩,by omega,(f,m,acc++x::xs),[1],⟨hm,by simp only; omega,hacc,by simp only[Gx,Gg]; omega⟩,by simp only; omega,rfl,?_,?_⟩
    ·rw[Kl,JV,J7]
     simp only[J5,Gc,Gd,go_sem,Ji]
     simp[Ja (Jc acc),Ja (Jc xs),Jy,ren]
    ·rw[Kl,JV,J6]
     simp[forget,Jy,ren,Jk,Jf,tRw]
end
end
section
theorem Jbv {q:Int→Bool}:∀ (l:List Int) (i:Nat),(QE q l i = -1∧l.find? q=none)∨∃ j,j < l.length∧QE q l i=((i+j:Nat):Int)∧l.find? q=some (l.getD j 0)
 |[],i=>.inl ⟨rfl,rfl⟩
 |x::l,i=>by
  rw[QE,GJ]
  cases hq:q x with
  |true=>exact .inr ⟨0,by simp,by simp,by simp⟩
  |false=>
   rcases Jbv l (i+1) with ⟨h1,h2⟩ | ⟨j,h1,h2,h3⟩
   ·exact .inl ⟨by simpa using h1,h2⟩
   ·exact .inr ⟨j+1,by simpa using h1,by simp[h2]; omega,by simpa using h3⟩
theorem indexFI {f:Nat}{l1 l2:List CV}{F:IFunc}(l:List Int) (q:Int→Bool) (cap:Option Nat) (hF:Jh Gb f=some F) (hc1:Jr l1=true) (hc2:Jr l2=true)
  (hq:∀ p∈l,Fn Gb f (l1++[.int .i64 p]++l2) (.bool (q p))) (hlen:l.length≤1000000):Fn Gb 81 [.rslc 1 (iz l) cap,.fn f l1 l2] (.int .i64 (QE q l 0)):=by
 have hil:(iz l).length=l.length:=Jf
 refine Jb c81_ok (by simp[Jr,CV.closed,hc1,hc2]) rfl fun N=>?_
 simp -implicitDefEqProofs only[c81,go_sem,hil]
 refine JA (I:=fun i:Nat=>i≤l.length∧QE q l 0=QE q (l.drop i) i) (inv:=fun i=>gp [(0,.rslc 1 (iz l) cap),(0,.fn f l1 l2),(5,.int .i64 l.length),(0,.int .i64 i)] 10) (hp:=fun _=>[]) (μ:=fun i=>l.length-i) 0 ⟨by omega,rfl⟩ ?_ rfl ?_
 ·simp[forget,gp]
 ·rintro i ⟨hi,hinv⟩
  by_cases hlt:i < l.length
  ·have d1:((i:Int) < (l.length:Int))=True:=Jo
   have hgi:=JQ hlt
   have hge:l[i]? = some (l.getD i 0):=by rw[Gm,Gp hlt]; rfl
   have hm:l.getD i 0∈l:=Hl hge
   rw[Qr hge]at hinv
   simp -implicitDefEqProofs only[go_sem,hil,d1,hgi]
   refine ⟨by omega,?_⟩
   refine vr_fv (.inl rfl) rfl hF (Jax Jeb _) (hq _ hm) ?_
   cases hb:q (l.getD i 0) with
   |true=>
    rw[hb,if_pos rfl]at hinv
    simp -implicitDefEqProofs only[go_sem,hinv]
   |false=>
    rw[hb]at hinv
    simp -implicitDefEqProofs only[go_sem]
    refine ⟨Jj,i+1,⟨by omega,by simpa using hinv⟩,by omega,?_⟩
    simp[forget]
  ·have d1:((i:Int) < (l.length:Int))=False:=Jn
   rw[Gs (by omega)]at hinv
   simp -implicitDefEqProofs only[go_sem,hil,d1,hinv,QE]
theorem nNamed1 (t:Tr) (s:List UInt8) {i:Nat}(hi:i < t.nodes.length):Fn Gb 158 [.int .i64 (i:Int),.rptr [.rptr (tRw t)],.rptr [S s]] (.bool ((nd t i).text == s)):=by
 have hg:=Kh hi
 refine Jb c158_ok rfl rfl fun N=>?_
 simp -implicitDefEqProofs only[c158,go_sem]
 refine JK Jz (by decide) ?_
 simp -implicitDefEqProofs only[go_sem,tRw,Jd,hg,Nd.cv]
 omega
theorem nNamed (t:Tr) (s:List UInt8) (l:List Int) (hl:∀ d∈l,0≤d∧d < t.nodes.length) (hlen:l.length≤1000000):Fn Gb 127 [.rptr (tRw t),.rslc 1 (iz l) none,S s] (.int .i64 (JaQ t l s)):=by
 have hil:(iz l).length=l.length:=Jf
 unfold JaQ
 generalize hq:(fun d:Int=>(nd t d.toNat).text == s)=q
 refine Jb c127_ok rfl rfl fun N=>?_
 simp -implicitDefEqProofs only[c127,go_sem]
 refine Je (id:=0) (z:=1) (els:=[[.rptr (tRw t)]]) rfl rfl ?_
 simp only[go_sem,JS,Kb,frz,KI,Gf]
 refine Je (id:=1) (z:=1) (els:=[[S s]]) rfl rfl ?_
 simp only[go_sem,JS,Kb,frz,KI,Gf]
 refine JM (indexFI l q none c158_ok rfl rfl (fun p hp=>?_) hlen) ?_
 ·have hb:=hl p hp
  obtain ⟨p,rfl⟩:∃ p':Nat,p=p':=⟨p.toNat,by omega⟩
  have h:=nNamed1 t s (i:=p) (by omega)
  rw[← hq]
  simpa only[GA,GY,Gh]using h
 ·rcases Jbv (q:=q) l 0 with ⟨h1,h2⟩ | ⟨j,h1,h2,h3⟩
  ·have e1:((-1:Int) < 0)=True:=Jo
   simp -implicitDefEqProofs only[go_sem,h1,h2,e1]
  ·rw[GM]at h2
   have e1:((j:Int) < 0)=False:=Jn
   have hgj:=JQ h1
   simp -implicitDefEqProofs only[go_sem,h2,h3,e1,hil,hgj]
   omega
section
variable {t:Tr}{o:List Int}(g:GoodT t o) (ht:t.Fit)
include g ht
theorem nMeaning {i:Nat}(hi:i < t.nodes.length):Fn Gb 95 [.rptr (tRw t),.int .i64 (i:Int)] (.tup [.int .i64 (KX t o i),.bool (K8 t i)]):=by
 have hg:=Kh hi
 have hmany:=g.many
 have hitm:=ht.items
 refine Jb c95_ok rfl rfl fun N=>?_
 unfold KX K8
 by_cases h3:(nd t i).k=3
 ·have hm:=Jc0 g hi (by omega)
  have hs:∀ d∈Yo t i,0≤d∧d < t.nodes.length:=fun d hd=>K7.1 (GI.1 hd).1
  have hsl:(Yo t i).length≤1000000:=by
   have:=Gw (fun d=>(Xo t t.nodes.length i).contains d) (Ku t)
   unfold Yo
   have h2:(Ku t).length=t.nodes.length:=by simp[Ku]
   omega
  have hN:=nNamed t (nd t i).text (Yo t i) hs hsl
  rw[hm]at hN
  simp -implicitDefEqProofs only[c95,go_sem,tRw,Jd,hg,Nd.cv,kbE,h3]
  refine ⟨by omega,?_⟩
  refine Je (id:=0) (z:=5) (els:=[(nd t i).cv]) (by simp only[Nd.cv,h3]; rfl) rfl ?_
  simp only[go_sem,JS,Kb,frz,KI,Gf]
  refine JK Jz (by decide) ?_
  simp -implicitDefEqProofs only[go_sem,Nd.cv]
  refine JO (.inl rfl) (nSight g ht hi) ?_
  simp -implicitDefEqProofs only[go_sem,Nd.cv]
  refine JO (.inl rfl) hN ?_
  simp -implicitDefEqProofs only[go_sem,if_true,BEq.rfl,Gu]
 have b3:((nd t i).k == 3)=false:=beq_eq_false_iff_ne.2 h3
 rw[if_neg h3,b3,Gr]
 by_cases h26:(nd t i).k=26
 ·have hN:=nNamed t (nd t i).text t.items (fun d hd=>by have:=g.itr hd; omega) (by omega)
  rw[call_means g]at hN
  simp -implicitDefEqProofs only[c95,go_sem,tRw,Jd,hg,Nd.cv,kbE,h26]
  refine ⟨by omega,?_⟩
  refine Je (id:=0) (z:=5) (els:=[(nd t i).cv]) (by simp only[Nd.cv,h26]; rfl) rfl ?_
  simp only[go_sem,JS,Kb,frz,KI,Gf]
  refine JK Jz (by decide) ?_
  simp -implicitDefEqProofs only[go_sem,Nd.cv]
  refine JO (.inl rfl) hN ?_
  simp -implicitDefEqProofs only[go_sem,if_true,BEq.rfl,Gu]
 have b26:((nd t i).k == 26)=false:=beq_eq_false_iff_ne.2 h26
 rw[if_neg h26,b26,Gr]
 by_cases h44:(nd t i).k=44
 ·obtain ⟨u,hu1,hu2,hu3,hu4⟩:=Xt g hi (by omega)
  have hK:=X8 ht (x:=(u:Int)) (k:=43)
  rw[Gh]at hK
  have hN:=nNamed t (nd t i).text (Qq t u 43) (fun d hd=>Jc6 g hu2 hd) (by omega)
  rw[next_means g hu2 hu1]at hN
  simp -implicitDefEqProofs only[c95,go_sem,tRw,Jd,hg,Nd.cv,kbE,h44]
  refine ⟨by omega,?_⟩
  refine Je (id:=0) (z:=5) (els:=[(nd t i).cv]) (by simp only[Nd.cv,h44]; rfl) rfl ?_
  simp only[go_sem,JS,Kb,frz,KI,Gf]
  refine JK Jz (by decide) ?_
  simp -implicitDefEqProofs only[go_sem,Nd.cv,KO,upz hi,hu1]
  refine ⟨by omega,?_⟩
  refine JO (.inl rfl) (nKidsF g ht hu2 43) ?_
  simp -implicitDefEqProofs only[go_sem,Nd.cv]
  refine JO (.inl rfl) hN ?_
  simp -implicitDefEqProofs only[go_sem,if_true,BEq.rfl,Gu]
 have b44:((nd t i).k == 44)=false:=beq_eq_false_iff_ne.2 h44
 rw[if_neg h44,b44]
 simp -implicitDefEqProofs only[c95,go_sem,tRw,Jd,hg,Nd.cv,kbE,b3,b26,b44]
 omega
def twQ (t:Tr) (i k:Nat):Bool:=(nd t k).text == (nd t i).text && (if (nd t i).k=44 then (nd t k).k == 44 && Kg t k == Kg t i else if (nd t i).k=65 then (nd t k).k == 65 else !((nd t k).k == 65) && (KZ (nd t k).k && KE t k == KE t i))
omit g ht in
theorem nTwice1 {i k:Nat}(hi:i < t.nodes.length) (hk:k < t.nodes.length):Fn Gb 129 [.int .i64 (k:Int),.rptr [.rptr (tRw t)],.rptr (nd t i).cv,.rptr [.int .i64 (i:Int)]] (.bool (twQ t i k)):=by
 have hg:=Kh hk
 refine Jb c129_ok rfl rfl fun N=>?_
 unfold twQ
 cases ht:(nd t k).text == (nd t i).text with
 |false=>
  simp -implicitDefEqProofs only[c129,go_sem,tRw,Jd,hg,Nd.cv,ht,Gl,Gn]
  omega
 |true=>
  rw[Gi]
  by_cases h44:(nd t i).k=44
  ·rw[if_pos h44]
   simp -implicitDefEqProofs only[c129,go_sem,tRw,Jd,hg,Nd.cv,ht,kbE,h44,Gj]
   refine ⟨by omega,?_⟩
   refine Je (id:=0) (z:=5) (els:=[(nd t k).cv]) rfl rfl ?_
   simp only[go_sem,JS,Kb,frz,KI,Gf,Nd.cv]
   refine JK Jz (by decide) ?_
   cases hkk:(nd t k).k == 44 with
   |false=>
    simp -implicitDefEqProofs only[go_sem,kbE,hkk,Gn]
   |true=>
    simp -implicitDefEqProofs only[go_sem,kbE,hkk,KO,upz hi,upz hk,Gi]
    omega
  have b44:((nd t i).k == 44)=false:=beq_eq_false_iff_ne.2 h44
  rw[if_neg h44]
  by_cases h65:(nd t i).k=65
  ·rw[if_pos h65]
   simp -implicitDefEqProofs only[c129,go_sem,tRw,Jd,hg,Nd.cv,ht,kbE,h65,Gj]
   omega
  have b65:((nd t i).k == 65)=false:=beq_eq_false_iff_ne.2 h65
  rw[if_neg h65]
  simp -implicitDefEqProofs only[c129,go_sem,tRw,Jd,hg,Nd.cv,ht,kbE,b44,b65,Gj]
  refine ⟨by omega,?_⟩
  refine Je (id:=0) (z:=5) (els:=[(nd t k).cv]) rfl rfl ?_
  simp only[go_sem,JS,Kb,frz,KI,Gf,Nd.cv]
  refine JK Jz (by decide) ?_
  cases hkk:(nd t k).k == 65 with
  |true=>
   simp -implicitDefEqProofs only[go_sem,kbN,hkk,Gj,Gn]
  |false=>
   simp -implicitDefEqProofs only[go_sem,kbN,hkk,Gl,Gi]
   refine JO (gok rfl) (nIsDecl t hk) ?_
   cases hd:KZ (nd t k).k with
   |false=>
    simp -implicitDefEqProofs only[go_sem,Gn]
   |true=>
    have en:=JbT (KE t i) (KE t k)
    simp -implicitDefEqProofs only[go_sem,tRw,itz_len,itz hi,itz hk,en,Gi]
    omega
end
end
section
theorem Qa {n i:Nat}(h:i < n):(Ga n).drop i=i::(Ga n).drop (i+1):=by
 rw[GH (by simpa using h),List.getElem_range]
theorem any_skip {q:Nat→Bool}{n:Nat}:∀ (m:Nat),m≤n→(∀ i,i < m→q i=false)→(Ga n).any q=((Ga n).drop m).any q
 |0,_,_=>by rw[Gf]
 |m+1,h,hq=>by rw[any_skip m (by omega) fun i hi=>hq i (by omega),Qa (by omega),Gz,hq m (by omega),Gr]
theorem Y1 (k:Nat):Fn Gb 29 [.int .u8 (k:Int)] (.bool (KZ k)):=by
 refine Jb c29_ok rfl rfl fun N=>?_
 cases h1:(k == 65) <;> cases h2:(k == 64) <;> cases h3:(k == 42) <;> cases h4:(k == 43) <;> cases h5:(k == 47) <;>
  simp -implicitDefEqProofs only[c29,go_sem,kbE,h1,h2,h3,h4,h5,KZ,GQ,H6,Gu,Gr]
theorem Je5 (k:Nat):Fn Gb 59 [.int .u8 (k:Int)] (.bool (k == 3 || k == 26 || k == 44)):=by
 refine Jb c59_ok rfl rfl fun N=>?_
 cases h1:(k == 3) <;> cases h2:(k == 26) <;> cases h3:(k == 44) <;>
  simp -implicitDefEqProofs only[c59,go_sem,kbE,h1,h2,h3,GQ,H6,Gu,Gr]
theorem any_cg {q r:Nat→Bool}:∀ {l:List Nat},(∀ x∈l,q x=r x)→l.any q=l.any r
 |[],_=>rfl
 |x::l,h=>by rw[Gz,Gz,h x (by simp),any_cg fun y hy=>h y (by simp[hy])]
section
variable {t:Tr}{o:List Int}(g:GoodT t o) (ht:t.Fit)
include g ht
theorem QG {j i:Nat}(hi:i < t.nodes.length):Fn Gb 66 [t.cv,.int .i64 (j:Int),.int .i64 (i:Int)] (.bool (XF o j i)):=by
 have h:=refIsBelow t ht g (j:Int) i hi
 rwa [show (decide ((j:Int)≤(i:Int)) && decide (fs o i≤(j:Int)))=XF o j i by unfold XF; rw[decide_eq_decide.2 (Int.ofNat_le (m:=j) (n:=i))]]at h
theorem JaO {n:Nat}(hn:n < t.nodes.length):Fn Gb 106 [t.cv,.int .i64 (n:Int)] (.int .i64 (Kg t n)):=refParent t ht g n hn
theorem JaZ {u:Nat}(hu:u < t.nodes.length) (hlen:0 < (nd t u).kids.length):Fn Gb 110 [t.cv,.int .i64 (u:Int)] (.int .i64 (JI t u:Int)):=by
 have hg:=Kh hu
 have hkl:(iz (nd t u).kids).length=(nd t u).kids.length:=Jf
 have hgl:=lastz g hu hlen
 have hkn:=(fitN ht hu).kidn
 refine Jb c110_ok rfl rfl fun N=>?_
 simp -implicitDefEqProofs only[c110,go_sem,Tr.cv,Tr.row]
 refine Je (id:=0) (z:=2) (els:=[t.row]) rfl rfl ?_
 simp only[go_sem,JS,Kb,frz,KI]
 refine JK Jz (by decide) ?_
 simp -implicitDefEqProofs only[go_sem,Tr.row,Jd,hg,Nd.cv,hkl,hgl]
 exact ⟨by omega,by omega,Jj,by omega,by omega⟩
theorem refItemOf {i:Nat}(hi:i < t.nodes.length):Fn Gb 107 [t.cv,.int .i64 (i:Int)] (.int .i64 (Xl t o i)):=by
 have hil:(iz t.items).length=t.items.length:=Jf
 have hit:=ht.items
 unfold Xl
 generalize hq:(fun L:Int=>XF o i L.toNat)=q
 refine Jb c107_ok rfl rfl fun N=>?_
 simp -implicitDefEqProofs only[c107,go_sem,Tr.cv,Tr.row]
 refine Je (id:=0) (z:=2) (els:=[t.row]) rfl rfl ?_
 simp only[go_sem,JS,Kb,frz,KI]
 refine JA (I:=fun k:Nat=>k≤t.items.length∧t.items.find? q=(t.items.drop k).find? q) (inv:=fun k=>gp [(1,.int .i64 (i:Int)),(0,.rptr t.row),(2,.int .i64 (k:Int))] 20) (hp:=fun _=>[.dead]) (μ:=fun k=>t.items.length-k) 0 ⟨by omega,rfl⟩ ?_ rfl ?_
 ·simp[forget,gp]
 ·rintro k ⟨hk,hinv⟩
  by_cases hlt:k < t.items.length
  ·have d1:((k:Int) < (t.items.length:Int))=True:=Jo
   have hgk:=JQ hlt
   have hmem:t.items.getD k 0∈t.items:=by rw[Gm,Gp hlt]; exact Gy hlt
   have hr:=g.itr hmem
   rw[GH hlt,GJ,show t.items[k]=t.items.getD k 0 by rw[Gm,Gp hlt]; rfl]at hinv
   generalize t.items.getD k 0=L at hgk hr hinv
   obtain ⟨L,rfl⟩:∃ L':Nat,L=L':=⟨L.toNat,by omega⟩
   have hqL:q (L:Int)=XF o i L:=by rw[← hq]; simp only[Gh]
   simp -implicitDefEqProofs only[go_sem,Tr.row,hil,d1]
   refine JK Jz (by decide) ?_
   simp -implicitDefEqProofs only[go_sem,Tr.row,hil,hgk]
   refine ⟨by omega,?_⟩
   refine JO (.inl rfl) (QG g ht (by omega)) ?_
   cases hb:XF o i L with
   |true=>
    rw[hqL,hb]at hinv
    simp -implicitDefEqProofs only[go_sem,Tr.row,hil,hgk,hinv]
    omega
   |false=>
    rw[hqL,hb]at hinv
    simp -implicitDefEqProofs only[go_sem]
    refine ⟨Jj,k+1,⟨by omega,hinv⟩,by omega,?_⟩
    simp[forget]
  ·have d1:((k:Int) < (t.items.length:Int))=False:=Jn
   rw[Gs (by omega),GK]at hinv
   simp -implicitDefEqProofs only[go_sem,Tr.row,hil,d1,hinv]
def bkQ (t:Tr) (o:List Int) (j u:Nat) (last:Bool) (i:Nat):Bool:=(last || decide (i+1 < (nd t u).kids.length)) && XF o j (Jba t u i)
omit g ht in
theorem bk_drop {j u m:Nat}{last:Bool}:bkB t o j u m last=((Ga (nd t u).kids.length).drop m).any (bkQ t o j u last):=by
 unfold bkB
 by_cases hml:m≤(nd t u).kids.length
 ·rw[any_skip m hml fun i hi=>by rw[decide_eq_false (by omega)]; rfl]
  refine any_cg fun i hi=>?_
  rw[List.range_eq_range',List.drop_range',List.mem_range'_1]at hi
  rw[decide_eq_true (by omega),Gi]; rfl
 ·rw[Gs (by simp; omega),GD,Lg]
  intro i hi
  rw[decide_eq_false (by have:=Lt.1 hi; omega)]; simp
theorem Y2 {j u m:Nat}(hu:u < t.nodes.length) (hm:m≤100) (last:Bool):Fn Gb 109 [t.cv,.int .i64 (j:Int),.int .i64 (u:Int),.int .i64 (m:Int),.bool last] (.bool (bkB t o j u m last)):=by
 have hg:=Kh hu
 have hkl:(iz (nd t u).kids).length=(nd t u).kids.length:=Jf
 have hkn:=(fitN ht hu).kidn
 rw[bk_drop]
 generalize hq:bkQ t o j u last=q
 refine Jb c109_ok rfl rfl fun N=>?_
 simp -implicitDefEqProofs only[c109,go_sem,Tr.cv,Tr.row,Jd,hg,Nd.cv]
 refine ⟨by omega,?_⟩
 refine Je (id:=0) (z:=2) (els:=[t.row]) rfl rfl ?_
 simp -implicitDefEqProofs only[go_sem,JS,Kb,frz,KI,Tr.row]
 refine JA (I:=fun i:Nat=>((Ga (nd t u).kids.length).drop m).any q=((Ga (nd t u).kids.length).drop i).any q) (inv:=fun i=>gp [(1,.int .i64 (j:Int)),(2,.bool last),(0,.rptr t.row),(5,.rslc 1 (iz (nd t u).kids) none),(0,.int .i64 (i:Int))] 30) (hp:=fun _=>[.dead]) (μ:=fun i=>(nd t u).kids.length-i) m rfl ?_ rfl ?_
 ·simp[forget,gp,Tr.row]
 ·intro i hinv
  by_cases hlt:i < (nd t u).kids.length
  ·have d1:((i:Int) < ((nd t u).kids.length:Int))=True:=Jo
   have hgi:=JQ hlt
   obtain ⟨k1,k2,_⟩:=Kt g hu hlt
   have hke:(nd t u).kids.getD i 0=(Jba t u i:Int):=by
    have hm:(nd t u).kids.getD i 0∈(nd t u).kids:=by rw[Gm,Gp hlt]; exact Gy hlt
    have:=(g.kid hu hm).1
    unfold Jba; omega
   rw[hke]at hgi
   have hB:=QG g ht (j:=j) (i:=Jba t u i) (by omega)
   have hqi:q i=((last || decide (i+1 < (nd t u).kids.length)) && XF o j (Jba t u i)):=by rw[← hq]; rfl
   rw[Qa hlt,Gz,hqi]at hinv
   simp -implicitDefEqProofs only[go_sem,hkl,d1]
   refine JK Jz (by decide) ?_
   cases last with
   |true=>
    rw[Gu,Gi]at hinv
    simp -implicitDefEqProofs only[go_sem,Tr.row,Gg,Gt,hkl,hgi]
    refine ⟨by omega,?_⟩
    refine JO (gok rfl) hB ?_
    cases hb:XF o j (Jba t u i) with
    |true=>
     rw[hb,Gu]at hinv
     simp -implicitDefEqProofs only[go_sem,hinv]
    |false=>
     rw[hb,Gr]at hinv
     simp -implicitDefEqProofs only[go_sem]
     refine ⟨Jj,i+1,hinv,by omega,?_⟩
     simp[forget,Tr.row]
   |false=>
    rw[Gr]at hinv
    by_cases hl:i+1 < (nd t u).kids.length
    ·have e1:decide ((i:Int) < ((nd t u).kids.length:Int)-1)=true:=decide_eq_true (by omega)
     rw[decide_eq_true hl,Gi]at hinv
     simp -implicitDefEqProofs only[go_sem,Tr.row,Gg,Gt,hkl,hgi,e1]
     refine ⟨Jj,by omega,?_⟩
     refine JO (gok rfl) hB ?_
     cases hb:XF o j (Jba t u i) with
     |true=>
      rw[hb,Gu]at hinv
      simp -implicitDefEqProofs only[go_sem,hinv]
     |false=>
      rw[hb,Gr]at hinv
      simp -implicitDefEqProofs only[go_sem]
      refine ⟨Jj,i+1,hinv,by omega,?_⟩
      simp[forget,Tr.row]
    ·have e1:decide ((i:Int) < ((nd t u).kids.length:Int)-1)=false:=decide_eq_false (by omega)
     rw[decide_eq_false hl,Gn,Gr]at hinv
     simp -implicitDefEqProofs only[go_sem,hkl,e1]
     refine ⟨Jj,Jj,i+1,hinv,by omega,?_⟩
     simp[forget,Tr.row]
  ·have d1:((i:Int) < ((nd t u).kids.length:Int))=False:=Jn
   rw[show (Ga (nd t u).kids.length).drop i=[] from Gs (by simp; omega),GD]at hinv
   simp -implicitDefEqProofs only[go_sem,hkl,d1,hinv]
theorem refInSight {d j:Nat}(hd:d < t.nodes.length) (hj:j < t.nodes.length):Fn Gb 105 [t.cv,.int .i64 (d:Int),.int .i64 (j:Int)] (.bool (inB t o d j)):=by
 have hg:=Kh hd
 have hP:=JaO g ht hd
 unfold inB
 refine Jb c105_ok rfl rfl fun N=>?_
 simp -implicitDefEqProofs only[c105,go_sem,Tr.cv,Tr.row]
 refine Je (id:=0) (z:=2) (els:=[t.row]) rfl rfl ?_
 simp -implicitDefEqProofs only[go_sem,JS,Kb,frz,KI,Tr.row]
 refine JM hP ?_
 simp -implicitDefEqProofs only[go_sem,Jd,hg,Nd.cv,kbE]
 refine ⟨by omega,?_⟩
 by_cases h65:(nd t d).k=65
 ·simp -implicitDefEqProofs only[h65,go_sem,if_true]
 have b65:((nd t d).k == 65)=false:=beq_eq_false_iff_ne.2 h65
 rw[if_neg h65]
 by_cases h64:(nd t d).k=64
 ·obtain ⟨u,hu1,hu2,hu3,hu4⟩:=Xt g hd h65
  have hlen:=Hf hu4
  have hlk:=Kt g hu2 (i:=(nd t u).kids.length-1) (by omega)
  simp -implicitDefEqProofs only[h64,go_sem,hu1,if_true,Gh]
  refine JK Jz (by decide) ?_
  simp -implicitDefEqProofs only[go_sem]
  refine JO (.inl rfl) (JaZ g ht hu2 hlen) ?_
  simp -implicitDefEqProofs only[go_sem]
  refine JO (.inl rfl) (QG g ht (show JI t u < t.nodes.length by have:=hlk.2.1; unfold Jba at this; unfold JI; omega)) ?_
  simp -implicitDefEqProofs only[go_sem]
 have b64:((nd t d).k == 64)=false:=beq_eq_false_iff_ne.2 h64
 rw[if_neg h64]
 by_cases h43:(nd t d).k=43
 ·obtain ⟨u,hu1,hu2,hu3,hu4⟩:=Xt g hd h65
  have hku:(nd t u).k=28:=(Ja7 (Je9 g hu2 hu4)).2.1 (by rw[h43]; rfl)
  obtain ⟨a,b,ha,hab,hbl,_⟩:=XL g hu2 hku
  have ha':(nd t u).n=(a:Int):=ha
  have hkn:=(fitN ht hu2).kidn
  have hbl':b < (nd t u).kids.length:=hbl
  have hgu:=Kh hu2
  simp -implicitDefEqProofs only[h43,go_sem,hu1,if_true,Gh,ha']
  refine JK Jz (by decide) ?_
  simp -implicitDefEqProofs only[go_sem,Jd,hgu,Nd.cv,ha']
  refine ⟨by omega,?_⟩
  refine JO (.inl rfl) (Y2 g ht hu2 (by omega) true) ?_
  simp -implicitDefEqProofs only[go_sem]
 have b43:((nd t d).k == 43)=false:=beq_eq_false_iff_ne.2 h43
 rw[if_neg h43]
 by_cases h47:(nd t d).k=47
 ·have hlen:(nd t d).kids.length=3:=(Yn g hd h47).1
  have hlk:=Kt g hd (i:=(nd t d).kids.length-1) (by omega)
  simp -implicitDefEqProofs only[h47,go_sem,if_true]
  refine JK Jz (by decide) ?_
  simp -implicitDefEqProofs only[go_sem]
  refine JO (.inl rfl) (JaZ g ht hd (by omega)) ?_
  simp -implicitDefEqProofs only[go_sem]
  refine JO (.inl rfl) (QG g ht (show JI t d < t.nodes.length by have:=hlk.2.1; unfold Jba at this; unfold JI; omega)) ?_
  simp -implicitDefEqProofs only[go_sem]
 have b47:((nd t d).k == 47)=false:=beq_eq_false_iff_ne.2 h47
 rw[if_neg h47]
 by_cases h42:(nd t d).k=42
 ·obtain ⟨u,hu1,hu2,hu3,hu4⟩:=Xt g hd h65
  have hku:(nd t u).k=41:=(Ja7 (Je9 g hu2 hu4)).2.2.1 (by rw[h42]; rfl)
  obtain ⟨v,hv1,hv2,hv3,hv4⟩:=Xt g hu2 (by omega)
  have hkv:(nd t v).k=40∨(nd t v).k=28:=(Ja7 (Je9 g hv2 hv4)).2.2.2.1 (by rw[hku]; rfl)
  have hgv:=Kh hv2
  have hPu:=JaO g ht hu2
  rw[hv1]at hPu
  simp -implicitDefEqProofs only[h42,go_sem,hu1,hv1,if_true,Gh]
  refine JM hPu ?_
  simp -implicitDefEqProofs only[go_sem,Jd,hgv,Nd.cv,kbE]
  refine ⟨by omega,?_⟩
  by_cases h40:(nd t v).k=40
  ·simp -implicitDefEqProofs only[h40,go_sem,if_true]
   refine JM (QG g ht hv2) ?_
   simp -implicitDefEqProofs only[go_sem]
  ·have b40:((nd t v).k == 40)=false:=beq_eq_false_iff_ne.2 h40
   obtain ⟨a,b,ha,hab,hbl,_⟩:=XL g hv2 (hkv.resolve_left h40)
   have ha':(nd t v).n=(a:Int):=ha
   have hkn:=(fitN ht hv2).kidn
   have hbl':b < (nd t v).kids.length:=hbl
   simp -implicitDefEqProofs only[b40,go_sem,if_neg h40]
   refine JK Jz (by decide) ?_
   simp -implicitDefEqProofs only[go_sem,Jd,hgv,Nd.cv,ha']
   refine ⟨by omega,Jj,?_⟩
   have hBK:=Y2 g ht (j:=j) hv2 (show a+1≤100 by omega) false
   rw[Int.natCast_add,show ((1:Nat):Int)=1 from rfl]at hBK
   refine JO (.inl rfl) hBK ?_
   simp -implicitDefEqProofs only[go_sem]
 have b42:((nd t d).k == 42)=false:=beq_eq_false_iff_ne.2 h42
 rw[if_neg h42]
 simp -implicitDefEqProofs only[b65,b64,b43,b47,b42,go_sem]
end
end
theorem twN_eq {t:Tr}{i:Nat}:twN t i=if (nd t i).k≠44∧KZ (nd t i).k=false then false else (Ga i).any (twQ t i):=rfl
theorem nTwice {t:Tr}{i:Nat}(hmany:t.nodes.length≤100000) (hi:i < t.nodes.length):Fn Gb 96 [.rptr (tRw t),.int .i64 (i:Int)] (.bool (twN t i)):=by
 have hg:=Kh hi
 refine Jb c96_ok rfl rfl fun N=>?_
 rw[twN_eq]
 simp -implicitDefEqProofs only[c96,go_sem]
 refine Je (id:=0) (z:=1) (els:=[[.rptr (tRw t)]]) rfl rfl ?_
 simp only[go_sem,JS,Kb,frz,KI,Gf]
 refine Je (id:=1) (z:=1) (els:=[[.int .i64 (i:Int)]]) rfl rfl ?_
 simp only[go_sem,JS,Kb,frz,KI,Gf]
 refine XA [false,false,false,false,false,false,false,false,true,true] Jz (by decide +kernel) ?_
 simp -implicitDefEqProofs only[go_sem]
 refine vh_all (.rptr (tRw t)) (fun _=>rfl) trivial ?_
 by_cases h44:(nd t i).k=44
 ·rw[if_neg (fun h=>h.1 h44)]
  simp -implicitDefEqProofs only[go_sem,tRw,Jd,hg,Nd.cv,kbN,h44]
  refine ⟨by omega,?_⟩
  refine Je (id:=2) (z:=5) (els:=[(nd t i).cv]) (by simp only[Nd.cv,h44]; rfl) rfl ?_
  simp only[go_sem,JS,Kb,frz,KI,Gf]
  refine JA (I:=fun k:Nat=>k≤i∧(Ga i).any (twQ t i)=((Ga i).drop k).any (twQ t i)) (inv:=fun k=>gp [(6,.fn 129 [] [.rptr [.rptr (tRw t)],.rptr (nd t i).cv,.rptr [.int .i64 (i:Int)]]),(19,.int .i64 (i:Int)),(0,.int .i64 (k:Int))] 6) (hp:=fun _=>[.dead,.dead,.dead]) (μ:=fun k=>i-k) 0 ⟨by omega,rfl⟩ ?_ rfl ?_
  ·simp[forget,gp,tRw]
  ·rintro k ⟨hk,hinv⟩
   by_cases hlt:k < i
   ·have d1:((k:Int) < (i:Int))=True:=Jo
    rw[Qa hlt,Gz]at hinv
    simp -implicitDefEqProofs only[go_sem,d1]
    refine vr_fv (.inl rfl) rfl c129_ok (Jax Jeb _) (nTwice1 hi (by omega)) ?_
    cases hb:twQ t i k with
    |true=>
     rw[hb,Gu]at hinv
     simp -implicitDefEqProofs only[go_sem,hinv]
    |false=>
     rw[hb,Gr]at hinv
     simp -implicitDefEqProofs only[go_sem]
     refine ⟨Jj,k+1,⟨by omega,hinv⟩,by omega,?_⟩
     simp[forget]
   ·have d1:((k:Int) < (i:Int))=False:=Jn
    rw[show (Ga i).drop k=[] from Gs (by simp; omega),GD]at hinv
    simp -implicitDefEqProofs only[go_sem,d1,hinv]
 ·have b44:((nd t i).k == 44)=false:=beq_eq_false_iff_ne.2 h44
  simp -implicitDefEqProofs only[go_sem,tRw,Jd,hg,Nd.cv,kbN,b44,Gl]
  refine ⟨by omega,?_⟩
  refine Je (id:=2) (z:=5) (els:=[(nd t i).cv]) rfl rfl ?_
  simp only[go_sem,JS,Kb,frz,KI,Gf]
  refine JP (gok rfl) (nIsDecl t hi) ?_
  cases hd:KZ (nd t i).k with
  |false=>
   simp -implicitDefEqProofs only[go_sem]
   rw[if_pos h44]
  |true=>
   rw[if_neg (show ¬ ((nd t i).k≠44∧true=false) from fun h=>by cases h.2)]
   simp -implicitDefEqProofs only[go_sem]
   refine JA (I:=fun k:Nat=>k≤i∧(Ga i).any (twQ t i)=((Ga i).drop k).any (twQ t i)) (inv:=fun k=>gp [(6,.fn 129 [] [.rptr [.rptr (tRw t)],.rptr (nd t i).cv,.rptr [.int .i64 (i:Int)]]),(19,.int .i64 (i:Int)),(0,.int .i64 (k:Int))] 6) (hp:=fun _=>[.dead,.dead,.dead]) (μ:=fun k=>i-k) 0 ⟨by omega,rfl⟩ ?_ rfl ?_
   ·simp[forget,gp,tRw]
   ·rintro k ⟨hk,hinv⟩
    by_cases hlt:k < i
    ·have d1:((k:Int) < (i:Int))=True:=Jo
     rw[Qa hlt,Gz]at hinv
     simp -implicitDefEqProofs only[go_sem,d1]
     refine vr_fv (.inl rfl) rfl c129_ok (Jax Jeb _) (nTwice1 hi (by omega)) ?_
     cases hb:twQ t i k with
     |true=>
      rw[hb,Gu]at hinv
      simp -implicitDefEqProofs only[go_sem,hinv]
     |false=>
      rw[hb,Gr]at hinv
      simp -implicitDefEqProofs only[go_sem]
      refine ⟨Jj,k+1,⟨by omega,hinv⟩,by omega,?_⟩
      simp[forget]
    ·have d1:((k:Int) < (i:Int))=False:=Jn
     rw[show (Ga i).drop k=[] from Gs (by simp; omega),GD]at hinv
     simp -implicitDefEqProofs only[go_sem,d1,hinv]
section
theorem JdA {t:Tr}{j:Nat}(h:j < t.nodes.length):(Ku t).drop j=(j:Int)::(Ku t).drop (j+1):=by
 have hl:(Ku t).length=t.nodes.length:=by simp[Ku]
 rw[GH (by omega)]
 simp[Ku]
theorem JfL {t:Tr}{j:Nat}(h:t.nodes.length≤j):(Ku t).drop j=[]:=Gs (by simp[Ku]; omega)
section
variable {t:Tr}{o:List Int}(g:GoodT t o) (ht:t.Fit)
include g ht
theorem refMeans3 {i:Nat}(hi:i < t.nodes.length) (hk:(nd t i).k=3):Fn Gb 60 [t.cv,.int .i64 (i:Int)] (.int .i64 (Jei t o i)):=by
 have hmany:=g.many
 have hg:=Kh hi
 unfold Jei
 refine Jb c60_ok rfl rfl fun N=>?_
 simp -implicitDefEqProofs only[c60,go_sem,Tr.cv,Tr.row,Jd,hg,Nd.cv]
 refine ⟨by omega,?_⟩
 refine Je (id:=0) (z:=2) (els:=[t.row]) rfl rfl ?_
 simp only[go_sem,JS,Kb,frz,KI]
 refine Je (id:=1) (z:=5) (els:=[(nd t i).cv]) rfl rfl ?_
 simp only[go_sem,JS,Kb,frz,KI,Gf]
 generalize hq:(fun d:Int=>(nd t d.toNat).text == (nd t i).text && (KZ (nd t d.toNat).k && (!((nd t d.toNat).k == 65) && inB t o d.toNat i)))=q
 refine Jv (I:=fun j:Nat=>j≤t.nodes.length∧(Ku t).find? q=((Ku t).drop j).find? q) (inv:=fun j=>gp [(1,.int .i64 (i:Int)),(0,.rptr t.row),(2,.rptr (nd t i).cv),(0,.int .i64 (j:Int))] 64) (hp:=fun _=>[.dead,.dead]) (μ:=fun j=>t.nodes.length-j) 0 [0,1] ⟨by omega,by rw[Gf]⟩ rfl ?_ rfl ?_
 ·simp[forget,Jy,ren,Jk,gp,Tr.row]
 ·rintro j ⟨hj,hinv⟩
  by_cases hlt:j < t.nodes.length
  ·have d1:((j:Int) < (t.nodes.length:Int))=True:=Jo
   have hgj:=Kh hlt
   have hqj:q (j:Int)=((nd t j).text == (nd t i).text && (KZ (nd t j).k && (!((nd t j).k == 65) && inB t o j i))):=by rw[← hq]; simp only[Gh]
   rw[JdA hlt,GJ]at hinv
   cases htx:((nd t j).text == (nd t i).text) with
   |false=>
    rw[hqj,htx,Gn]at hinv
    simp -implicitDefEqProofs only[go_sem,Tr.row,Jd,d1,hgj,Nd.cv,htx,Gl]
    refine ⟨by omega,Jj,j+1,[0,1],⟨by omega,by rw[hinv]⟩,by omega,rfl,rfl,?_⟩
    simp[forget,Jy,ren,Jk,Tr.row]
   |true=>
    rw[hqj,htx,Gi]at hinv
    simp -implicitDefEqProofs only[go_sem,Tr.row,Jd,d1,hgj,Nd.cv,htx,Gj]
    refine ⟨by omega,?_⟩
    refine JP (gok rfl) (Y1 _) ?_
    cases hd:KZ (nd t j).k with
    |false=>
     rw[hd,Gn]at hinv
     simp -implicitDefEqProofs only[go_sem,Gl]
     refine ⟨Jj,j+1,[0,1],⟨by omega,by rw[hinv]⟩,by omega,rfl,rfl,?_⟩
     simp[forget,Jy,ren,Jk,Tr.row]
    |true=>
     rw[hd,Gi]at hinv
     cases h65:((nd t j).k == 65) with
     |true=>
      rw[h65,Gj,Gn]at hinv
      simp -implicitDefEqProofs only[go_sem,kbE,kbN,hk,h65,Gj]
      refine ⟨Jj,j+1,[0,1],⟨by omega,by rw[hinv]⟩,by omega,rfl,rfl,?_⟩
      simp[forget,Jy,ren,Jk,Tr.row]
     |false=>
      rw[h65,Gl,Gi]at hinv
      simp -implicitDefEqProofs only[go_sem,kbE,kbN,hk,h65,Gl,Gj,Tr.row]
      refine JP (gok rfl) (refInSight g ht hlt hi) ?_
      cases hin:inB t o j i with
      |true=>
       rw[hin]at hinv
       simp -implicitDefEqProofs only[go_sem,hinv]
      |false=>
       rw[hin]at hinv
       simp -implicitDefEqProofs only[go_sem]
       refine ⟨Jj,j+1,[0,1],⟨by omega,by rw[hinv]⟩,by omega,rfl,rfl,?_⟩
       simp[forget,Jy,ren,Jk,Tr.row]
  ·have d1:((j:Int) < (t.nodes.length:Int))=False:=Jn
   rw[JfL (by omega),GK]at hinv
   simp -implicitDefEqProofs only[go_sem,Tr.row,Jd,d1,hinv]
omit ht in
theorem refMeans26 {i:Nat}(hi:i < t.nodes.length) (hk:(nd t i).k=26):Fn Gb 60 [t.cv,.int .i64 (i:Int)] (.int .i64 (Jce t i)):=by
 have hmany:=g.many
 have hg:=Kh hi
 unfold Jce
 refine Jb c60_ok rfl rfl fun N=>?_
 simp -implicitDefEqProofs only[c60,go_sem,Tr.cv,Tr.row,Jd,hg,Nd.cv]
 refine ⟨by omega,?_⟩
 refine Je (id:=0) (z:=2) (els:=[t.row]) rfl rfl ?_
 simp only[go_sem,JS,Kb,frz,KI]
 refine Je (id:=1) (z:=5) (els:=[(nd t i).cv]) rfl rfl ?_
 simp only[go_sem,JS,Kb,frz,KI,Gf]
 generalize hq:(fun d:Int=>(nd t d.toNat).text == (nd t i).text && (KZ (nd t d.toNat).k && (nd t d.toNat).k == 65))=q
 refine Jv (I:=fun j:Nat=>j≤t.nodes.length∧(Ku t).find? q=((Ku t).drop j).find? q) (inv:=fun j=>gp [(1,.int .i64 (i:Int)),(0,.rptr t.row),(2,.rptr (nd t i).cv),(0,.int .i64 (j:Int))] 64) (hp:=fun _=>[.dead,.dead]) (μ:=fun j=>t.nodes.length-j) 0 [0,1] ⟨by omega,by rw[Gf]⟩ rfl ?_ rfl ?_
 ·simp[forget,Jy,ren,Jk,gp,Tr.row]
 ·rintro j ⟨hj,hinv⟩
  by_cases hlt:j < t.nodes.length
  ·have d1:((j:Int) < (t.nodes.length:Int))=True:=Jo
   have hgj:=Kh hlt
   have hqj:q (j:Int)=((nd t j).text == (nd t i).text && (KZ (nd t j).k && (nd t j).k == 65)):=by rw[← hq]; simp only[Gh]
   rw[JdA hlt,GJ]at hinv
   cases htx:((nd t j).text == (nd t i).text) with
   |false=>
    rw[hqj,htx,Gn]at hinv
    simp -implicitDefEqProofs only[go_sem,Tr.row,Jd,d1,hgj,Nd.cv,htx,Gl]
    refine ⟨by omega,Jj,j+1,[0,1],⟨by omega,by rw[hinv]⟩,by omega,rfl,rfl,?_⟩
    simp[forget,Jy,ren,Jk,Tr.row]
   |true=>
    rw[hqj,htx,Gi]at hinv
    simp -implicitDefEqProofs only[go_sem,Tr.row,Jd,d1,hgj,Nd.cv,htx,Gj]
    refine ⟨by omega,?_⟩
    refine JP (gok rfl) (Y1 _) ?_
    cases hd:KZ (nd t j).k with
    |false=>
     rw[hd,Gn]at hinv
     simp -implicitDefEqProofs only[go_sem,Gl]
     refine ⟨Jj,j+1,[0,1],⟨by omega,by rw[hinv]⟩,by omega,rfl,rfl,?_⟩
     simp[forget,Jy,ren,Jk,Tr.row]
    |true=>
     rw[hd,Gi]at hinv
     cases h65:((nd t j).k == 65) with
     |true=>
      rw[h65]at hinv
      simp -implicitDefEqProofs only[go_sem,kbE,hk,h65,Gj,hinv]
     |false=>
      rw[h65]at hinv
      simp -implicitDefEqProofs only[go_sem,kbE,hk,h65,Gj]
      refine ⟨Jj,j+1,[0,1],⟨by omega,by rw[hinv]⟩,by omega,rfl,rfl,?_⟩
      simp[forget,Jy,ren,Jk,Tr.row]
  ·have d1:((j:Int) < (t.nodes.length:Int))=False:=Jn
   rw[JfL (by omega),GK]at hinv
   simp -implicitDefEqProofs only[go_sem,Tr.row,Jd,d1,hinv]
theorem refMeans44 {i:Nat}(hi:i < t.nodes.length) (hk:(nd t i).k=44):Fn Gb 60 [t.cv,.int .i64 (i:Int)] (.int .i64 (Jc1 t i)):=by
 have hmany:=g.many
 have hg:=Kh hi
 unfold Jc1
 refine Jb c60_ok rfl rfl fun N=>?_
 simp -implicitDefEqProofs only[c60,go_sem,Tr.cv,Tr.row,Jd,hg,Nd.cv]
 refine ⟨by omega,?_⟩
 refine Je (id:=0) (z:=2) (els:=[t.row]) rfl rfl ?_
 simp only[go_sem,JS,Kb,frz,KI]
 refine Je (id:=1) (z:=5) (els:=[(nd t i).cv]) rfl rfl ?_
 simp only[go_sem,JS,Kb,frz,KI,Gf]
 generalize hq:(fun d:Int=>(nd t d.toNat).text == (nd t i).text && (KZ (nd t d.toNat).k && ((nd t d.toNat).k == 43 && Kg t d.toNat == Kg t i)))=q
 refine Jv (I:=fun j:Nat=>j≤t.nodes.length∧(Ku t).find? q=((Ku t).drop j).find? q) (inv:=fun j=>gp [(1,.int .i64 (i:Int)),(0,.rptr t.row),(2,.rptr (nd t i).cv),(0,.int .i64 (j:Int))] 64) (hp:=fun _=>[.dead,.dead]) (μ:=fun j=>t.nodes.length-j) 0 [0,1] ⟨by omega,by rw[Gf]⟩ rfl ?_ rfl ?_
 ·simp[forget,Jy,ren,Jk,gp,Tr.row]
 ·rintro j ⟨hj,hinv⟩
  by_cases hlt:j < t.nodes.length
  ·have d1:((j:Int) < (t.nodes.length:Int))=True:=Jo
   have hgj:=Kh hlt
   have hqj:q (j:Int)=((nd t j).text == (nd t i).text && (KZ (nd t j).k && ((nd t j).k == 43 && Kg t j == Kg t i))):=by rw[← hq]; simp only[Gh]
   rw[JdA hlt,GJ]at hinv
   cases htx:((nd t j).text == (nd t i).text) with
   |false=>
    rw[hqj,htx,Gn]at hinv
    simp -implicitDefEqProofs only[go_sem,Tr.row,Jd,d1,hgj,Nd.cv,htx,Gl]
    refine ⟨by omega,Jj,j+1,[0,1],⟨by omega,by rw[hinv]⟩,by omega,rfl,rfl,?_⟩
    simp[forget,Jy,ren,Jk,Tr.row]
   |true=>
    rw[hqj,htx,Gi]at hinv
    simp -implicitDefEqProofs only[go_sem,Tr.row,Jd,d1,hgj,Nd.cv,htx,Gj]
    refine ⟨by omega,?_⟩
    refine JP (gok rfl) (Y1 _) ?_
    cases hd:KZ (nd t j).k with
    |false=>
     rw[hd,Gn]at hinv
     simp -implicitDefEqProofs only[go_sem,Gl]
     refine ⟨Jj,j+1,[0,1],⟨by omega,by rw[hinv]⟩,by omega,rfl,rfl,?_⟩
     simp[forget,Jy,ren,Jk,Tr.row]
    |true=>
     rw[hd,Gi]at hinv
     simp -implicitDefEqProofs only[go_sem,kbE,hk,Gj]
     refine Je (id:=2) (z:=5) (els:=[(nd t j).cv]) rfl rfl ?_
     simp only[go_sem,JS,Kb,frz,KI,Gf,Nd.cv]
     refine JK Jz (by decide) ?_
     cases h43:((nd t j).k == 43) with
     |false=>
      rw[h43,Gn]at hinv
      simp -implicitDefEqProofs only[go_sem,kbE,h43,Nd.cv]
      refine ⟨Jj,j+1,[0,1],⟨by omega,by rw[hinv]⟩,by omega,rfl,rfl,?_⟩
      simp[forget,Jy,ren,Jk,Tr.row]
     |true=>
      rw[h43,Gi]at hinv
      simp -implicitDefEqProofs only[go_sem,kbE,h43,Nd.cv,Tr.row]
      refine JO (gok rfl) (JaO g ht hlt) ?_
      simp -implicitDefEqProofs only[go_sem,Tr.row]
      refine JO (gok rfl) (JaO g ht hi) ?_
      cases hpp:(Kg t j == Kg t i) with
      |true=>
       rw[hpp]at hinv
       simp -implicitDefEqProofs only[go_sem,hpp,hinv]
      |false=>
       rw[hpp]at hinv
       simp -implicitDefEqProofs only[go_sem,hpp]
       refine ⟨Jj,j+1,[0,1],⟨by omega,by rw[hinv]⟩,by omega,rfl,rfl,?_⟩
       simp[forget,Jy,ren,Jk,Tr.row]
  ·have d1:((j:Int) < (t.nodes.length:Int))=False:=Jn
   rw[JfL (by omega),GK]at hinv
   simp -implicitDefEqProofs only[go_sem,Tr.row,Jd,d1,hinv]
theorem refMeans {i:Nat}(hi:i < t.nodes.length) (hs:K8 t i=true):Fn Gb 60 [t.cv,.int .i64 (i:Int)] (.int .i64 (KX t o i)):=by
 unfold KX
 unfold K8 at hs
 simp only[Bool.or_eq_true,beq_iff_eq]at hs
 by_cases h3:(nd t i).k=3
 ·rw[if_pos h3]; exact refMeans3 g ht hi h3
 ·rw[if_neg h3]
  by_cases h26:(nd t i).k=26
  ·rw[if_pos h26]; exact refMeans26 g hi h26
  ·rw[if_neg h26,if_pos (by omega)]; exact refMeans44 g ht hi (by omega)
def twRq (t:Tr) (o:List Int) (i k:Nat):Bool:=(nd t k).text == (nd t i).text && (if (nd t i).k=65 then (nd t k).k == 65 else if (nd t i).k=44 then (nd t k).k == 44 && Kg t k == Kg t i else KZ (nd t k).k && (!((nd t k).k == 65) && Xl t o k == Xl t o i))
omit g ht in
theorem twR_eq {i:Nat}:twR t o i=if (nd t i).k≠44∧KZ (nd t i).k=false then false else (Ga i).any (twRq t o i):=rfl
theorem refTwice {i:Nat}(hi:i < t.nodes.length):Fn Gb 61 [t.cv,.int .i64 (i:Int)] (.bool (twR t o i)):=by
 have hmany:=g.many
 have hg:=Kh hi
 rw[twR_eq]
 refine Jb c61_ok rfl rfl fun N=>?_
 simp -implicitDefEqProofs only[c61,go_sem,Tr.cv,Tr.row,Jd,hg,Nd.cv]
 refine ⟨by omega,?_⟩
 refine Je (id:=0) (z:=2) (els:=[t.row]) rfl rfl ?_
 simp only[go_sem,JS,Kb,frz,KI]
 refine Je (id:=1) (z:=5) (els:=[(nd t i).cv]) rfl rfl ?_
 simp only[go_sem,JS,Kb,frz,KI,Gf,Nd.cv]
 refine JM (Y1 _) ?_
 by_cases h44:(nd t i).k=44
 ·have hd:KZ (nd t i).k=false:=by rw[h44]; rfl
  have b44:((nd t i).k == 44)=true:=beq_iff_eq.2 h44
  have b65:((nd t i).k == 65)=false:=beq_eq_false_iff_ne.2 (by omega)
  rw[if_neg (show ¬ ((nd t i).k≠44∧KZ (nd t i).k=false) from fun h=>h.1 h44),hd]
  simp -implicitDefEqProofs only[go_sem,kbN,b44,Gl,Gj,Nd.cv]
  generalize hq:twRq t o i=q
  refine Jv (I:=fun j:Nat=>j≤i∧(Ga i).any q=((Ga i).drop j).any q) (inv:=fun j=>gp [(1,.int .i64 (i:Int)),(0,.rptr t.row),(2,.rptr (nd t i).cv),(0,.int .i64 (j:Int))] 71) (hp:=fun _=>[.dead,.dead]) (μ:=fun j=>i-j) 0 [0,1] ⟨by omega,by rw[Gf]⟩ rfl ?_ rfl ?_
  ·simp[forget,Jy,ren,Jk,gp,Tr.row,Nd.cv]
  ·rintro j ⟨hj,hinv⟩
   by_cases hlt:j < i
   ·have hjn:j < t.nodes.length:=by omega
    have d1:((j:Int) < (i:Int))=True:=Jo
    have hgj:=Kh hjn
    have hqj:q j=twRq t o i j:=by rw[hq]
    unfold twRq at hqj
    rw[Qa hlt,Gz]at hinv
    cases htx:((nd t j).text == (nd t i).text) with
    |false=>
     rw[hqj,htx,Gn,Gr]at hinv
     simp -implicitDefEqProofs only[go_sem,Tr.row,Jd,d1,hgj,Nd.cv,htx,Gl]
     refine ⟨by omega,Jj,j+1,[0,1],⟨by omega,hinv⟩,by omega,rfl,rfl,?_⟩
     simp[forget,Jy,ren,Jk,Tr.row]
    |true=>
     rw[htx,Gi]at hqj
     simp -implicitDefEqProofs only[go_sem,Tr.row,Jd,d1,hgj,Nd.cv,htx,Gj,kbE,b65,b44]
     refine ⟨by omega,?_⟩
     rw[if_neg (by omega),if_pos h44]at hqj
     refine Je (id:=2) (z:=5) (els:=[(nd t j).cv]) rfl rfl ?_
     simp only[go_sem,JS,Kb,frz,KI,Gf,Nd.cv]
     refine JK Jz (by decide) ?_
     cases h:((nd t j).k == 44) with
     |false=>
      rw[hqj,h,Gn,Gr]at hinv
      simp -implicitDefEqProofs only[go_sem,kbE,h,Nd.cv]
      refine ⟨Jj,j+1,[0,1],⟨by omega,hinv⟩,by omega,rfl,rfl,?_⟩
      simp[forget,Jy,ren,Jk,Tr.row]
     |true=>
      rw[h,Gi]at hqj
      simp -implicitDefEqProofs only[go_sem,kbE,h,Nd.cv,Tr.row]
      refine JO (gok rfl) (JaO g ht hjn) ?_
      simp -implicitDefEqProofs only[go_sem,Tr.row]
      refine JO (gok rfl) (JaO g ht hi) ?_
      cases hpp:(Kg t j == Kg t i) with
      |true=>
       rw[hqj,hpp,Gu]at hinv
       simp -implicitDefEqProofs only[go_sem,hpp,hinv]
      |false=>
       rw[hqj,hpp,Gr]at hinv
       simp -implicitDefEqProofs only[go_sem,hpp]
       refine ⟨Jj,j+1,[0,1],⟨by omega,hinv⟩,by omega,rfl,rfl,?_⟩
       simp[forget,Jy,ren,Jk,Tr.row]
   ·have d1:((j:Int) < (i:Int))=False:=Jn
    rw[show (Ga i).drop j=[] from Gs (by simp; omega),GD]at hinv
    simp -implicitDefEqProofs only[go_sem,d1,hinv]
 ·have b44:((nd t i).k == 44)=false:=beq_eq_false_iff_ne.2 h44
  cases hd:KZ (nd t i).k with
  |false=>
   rw[if_pos ⟨h44,rfl⟩]
   simp -implicitDefEqProofs only[go_sem,kbN,b44,Gl,Nd.cv]
  |true=>
   rw[if_neg (show ¬ ((nd t i).k≠44∧true=false) from fun h=>by cases h.2)]
   simp -implicitDefEqProofs only[go_sem,Gj]
   by_cases h65:(nd t i).k=65
   ·have b65:((nd t i).k == 65)=true:=beq_iff_eq.2 h65
    generalize hq:twRq t o i=q
    refine Jv (I:=fun j:Nat=>j≤i∧(Ga i).any q=((Ga i).drop j).any q) (inv:=fun j=>gp [(1,.int .i64 (i:Int)),(0,.rptr t.row),(2,.rptr (nd t i).cv),(0,.int .i64 (j:Int))] 71) (hp:=fun _=>[.dead,.dead]) (μ:=fun j=>i-j) 0 [0,1] ⟨by omega,by rw[Gf]⟩ rfl ?_ rfl ?_
    ·simp[forget,Jy,ren,Jk,gp,Tr.row,Nd.cv]
    ·rintro j ⟨hj,hinv⟩
     by_cases hlt:j < i
     ·have hjn:j < t.nodes.length:=by omega
      have d1:((j:Int) < (i:Int))=True:=Jo
      have hgj:=Kh hjn
      have hqj:q j=twRq t o i j:=by rw[hq]
      unfold twRq at hqj
      rw[Qa hlt,Gz]at hinv
      cases htx:((nd t j).text == (nd t i).text) with
      |false=>
       rw[hqj,htx,Gn,Gr]at hinv
       simp -implicitDefEqProofs only[go_sem,Tr.row,Jd,d1,hgj,Nd.cv,htx,Gl]
       refine ⟨by omega,Jj,j+1,[0,1],⟨by omega,hinv⟩,by omega,rfl,rfl,?_⟩
       simp[forget,Jy,ren,Jk,Tr.row]
      |true=>
       rw[htx,Gi]at hqj
       simp -implicitDefEqProofs only[go_sem,Tr.row,Jd,d1,hgj,Nd.cv,htx,Gj,kbE,b65]
       refine ⟨by omega,?_⟩
       rw[if_pos h65]at hqj
       cases h:((nd t j).k == 65) with
       |true=>
        rw[hqj,h,Gu]at hinv
        simp -implicitDefEqProofs only[go_sem,h,hinv]
       |false=>
        rw[hqj,h,Gr]at hinv
        simp -implicitDefEqProofs only[go_sem,h]
        refine ⟨Jj,j+1,[0,1],⟨by omega,hinv⟩,by omega,rfl,rfl,?_⟩
        simp[forget,Jy,ren,Jk,Tr.row]
     ·have d1:((j:Int) < (i:Int))=False:=Jn
      rw[show (Ga i).drop j=[] from Gs (by simp; omega),GD]at hinv
      simp -implicitDefEqProofs only[go_sem,d1,hinv]
   ·have b65:((nd t i).k == 65)=false:=beq_eq_false_iff_ne.2 h65
    generalize hq:twRq t o i=q
    refine Jv (I:=fun j:Nat=>j≤i∧(Ga i).any q=((Ga i).drop j).any q) (inv:=fun j=>gp [(1,.int .i64 (i:Int)),(0,.rptr t.row),(2,.rptr (nd t i).cv),(0,.int .i64 (j:Int))] 71) (hp:=fun _=>[.dead,.dead]) (μ:=fun j=>i-j) 0 [0,1] ⟨by omega,by rw[Gf]⟩ rfl ?_ rfl ?_
    ·simp[forget,Jy,ren,Jk,gp,Tr.row,Nd.cv]
    ·rintro j ⟨hj,hinv⟩
     by_cases hlt:j < i
     ·have hjn:j < t.nodes.length:=by omega
      have d1:((j:Int) < (i:Int))=True:=Jo
      have hgj:=Kh hjn
      have hqj:q j=twRq t o i j:=by rw[hq]
      unfold twRq at hqj
      rw[Qa hlt,Gz]at hinv
      cases htx:((nd t j).text == (nd t i).text) with
      |false=>
       rw[hqj,htx,Gn,Gr]at hinv
       simp -implicitDefEqProofs only[go_sem,Tr.row,Jd,d1,hgj,Nd.cv,htx,Gl]
       refine ⟨by omega,Jj,j+1,[0,1],⟨by omega,hinv⟩,by omega,rfl,rfl,?_⟩
       simp[forget,Jy,ren,Jk,Tr.row]
      |true=>
       rw[htx,Gi]at hqj
       simp -implicitDefEqProofs only[go_sem,Tr.row,Jd,d1,hgj,Nd.cv,htx,Gj,kbE,b65,b44]
       refine ⟨by omega,?_⟩
       rw[if_neg h65,if_neg h44]at hqj
       refine Je (id:=2) (z:=5) (els:=[(nd t j).cv]) rfl rfl ?_
       simp only[go_sem,JS,Kb,frz,KI,Gf,Nd.cv]
       refine JK Jz (by decide) ?_
       simp -implicitDefEqProofs only[go_sem,Nd.cv]
       refine JO (.inl rfl) (Y1 _) ?_
       cases hd2:KZ (nd t j).k with
       |false=>
        rw[hqj,hd2,Gn,Gr]at hinv
        simp -implicitDefEqProofs only[go_sem]
        refine ⟨Jj,j+1,[0,1],⟨by omega,hinv⟩,by omega,rfl,rfl,?_⟩
        simp[forget,Jy,ren,Jk,Tr.row]
       |true=>
        rw[hd2,Gi]at hqj
        cases h:((nd t j).k == 65) with
        |true=>
         rw[hqj,h,Gj,Gn,Gr]at hinv
         simp -implicitDefEqProofs only[go_sem,kbN,h,Nd.cv,Gj]
         refine ⟨Jj,j+1,[0,1],⟨by omega,hinv⟩,by omega,rfl,rfl,?_⟩
         simp[forget,Jy,ren,Jk,Tr.row]
        |false=>
         rw[h,Gl,Gi]at hqj
         simp -implicitDefEqProofs only[go_sem,kbN,h,Nd.cv,Gl,Tr.row]
         refine JO (gok rfl) (refItemOf g ht hjn) ?_
         simp -implicitDefEqProofs only[go_sem,Tr.row]
         refine JO (gok rfl) (refItemOf g ht hi) ?_
         cases hpp:(Xl t o j == Xl t o i) with
         |true=>
          rw[hqj,hpp,Gu]at hinv
          simp -implicitDefEqProofs only[go_sem,hpp,hinv]
         |false=>
          rw[hqj,hpp,Gr]at hinv
          simp -implicitDefEqProofs only[go_sem,hpp]
          refine ⟨Jj,j+1,[0,1],⟨by omega,hinv⟩,by omega,rfl,rfl,?_⟩
          simp[forget,Jy,ren,Jk,Tr.row]
     ·have d1:((j:Int) < (i:Int))=False:=Jn
      rw[show (Ga i).drop j=[] from Gs (by simp; omega),GD]at hinv
      simp -implicitDefEqProofs only[go_sem,d1,hinv]
end
end
section
section
variable {P:Program}{E:Env}{H:List CObj}
def RowC (z:Nat) (els:List (List CV)) (v:CV) (H':List CObj):Prop:=RowR z els v H'∨∃ id es,v=.slc id 0 els.length none∧H'[id]? = some (.arr z es)∧es.take els.length=els∧els≠[]
theorem fnRow_cut {f:Nat}{args:List CV}{z:Nat}{els:List (List CV)}(h:CallsC P Env.none f args [] (RowC z els)) (ha:Jr args=true) (hc:Jw els=true):Jb2 P f args z els:=
 Jbu (h.trunc (id:=0) (z:=0) (j:=0) (els:=[]) (v:=.un) fun v H' hv=>by
  rcases hv with hv | ⟨id,es,rfl,h2,h3,h4⟩
  ·exact .inl hv
  ·exact .inr ⟨id,z,es,els.length,h2,.row (id:=id) (QU h4).symm (by rw[QC h4,h3,H9 (H8.1 h2).1])⟩) ha hc
end
structure OfOk (t:Tr) (of:List Int):Prop where
 len:of.length=t.nodes.length
 rng:∀ i,i < of.length→-1≤of.getD i 0∧of.getD i 0 < t.nodes.length
theorem OfOk.dft {t:Tr}{of:List Int}(h:OfOk t of) {i:Nat}(hi:i < of.length):of.getD i (-1)=of.getD i 0:=by
 simp[Gm,Gp hi]
def rRw (t:Tr) (of:List Int):List CV:=[.rptr (tRw t),.rslc 1 (iz of) none]
section
variable {t:Tr}{o:List Int}(g:GoodT t o) (ht:t.Fit)
include g ht
theorem nNeeds {of:List Int}(ho:OfOk t of) {s:Nat}(hs:s < t.nodes.length) (hk:(nd t s).k=41):Jb2 Gb 50 [.agg (rRw t of),.int .i64 (s:Int)] 1 (iz (KW t o of s)):=by
 have hmany:=g.many
 have hol:(iz of).length=t.nodes.length:=by rw[Jf,ho.len]
 rw[← need_done g]
 refine fnRow_cut (J8 c50_ok fun N=>?_) rfl (Jc _)
 simp -implicitDefEqProofs only[c50,go_sem,rRw,hol]
 refine Je (id:=0) (z:=2) (els:=[rRw t of]) rfl rfl ?_
 simp only[go_sem,JS,Kb,frz,KI,Gf]
 refine Xh ?_
 simp only[go_sem,GY,GA]
 refine Jv (I:=fun i:Nat=>i≤t.nodes.length) (inv:=fun i=>gp [(1,.int .i64 (s:Int)),(0,.rptr (rRw t of)),(1,K5 1 (iz (QY t o of s (Ga i)))),(4,.rslc 1 (iz of) none),(0,.int .i64 (t.nodes.length:Int)),(0,.int .i64 (i:Int))] 70) (hp:=fun i=>[.dead,Qm 1 (iz (QY t o of s (Ga i)))]) (μ:=fun i=>t.nodes.length-i) 0 [0,1] (by omega) rfl ?_ rfl ?_
 ·simp[forget,Jy,ren,Jk,gp,rRw,K5,iz,QY]
 ·intro i hi
  by_cases hlt:i < t.nodes.length
  ·have d1:((i:Int) < (t.nodes.length:Int))=True:=Jo
   have hgi:=JQ (l:=of) (i:=i) (by rw[ho.len]; exact hlt)
   have hrg:=ho.rng i (by rw[ho.len]; exact hlt)
   have hst:QY t o of s (Ga (i+1))=QY t o of s (Ga i)++QY t o of s [i]:=by rw[Hq,needC_app]
   have hcl:=JcZ (t:=t) (o:=o) (of:=of) (s:=s) (Ga i)
   rw[Ho]at hcl
   have hdf:=ho.dft (i:=i) (by rw[ho.len]; exact hlt)
   have h1:QY t o of s [i]=if (decide (0≤of.getD i 0) && ((nd t (of.getD i 0).toNat).k == 42 && ((nd t i).k == 3 && (XF o i s && (Kg t (Kg t (of.getD i 0).toNat).toNat == Kg t s && !buL t (upL t (JI t s) t.nodes.length i) false)))))=true then [Kg t (of.getD i 0).toNat] else []:=by
    rw[QY,hdf]; rfl
   generalize QY t o of s (Ga i)=acc at hst hcl ⊢
   generalize of.getD i 0=m at hgi hrg h1
   rcases Lx m 0 with hm0 | hm0
   ·obtain rfl:m = -1:=by omega
    have e1:((-1:Int) == -1)=true:=by decide
    have hnil:QY t o of s [i]=[]:=by rw[h1,if_neg (by simp)]
    simp -implicitDefEqProofs only[go_sem,d1,hol,hgi,e1]
    refine ⟨by omega,?_⟩
    refine ⟨Jj,i+1,[0,1],by omega,by omega,rfl,?_,?_⟩
    ·rw[hst,hnil,Gq]; simp only[J5,Gc,Gd,go_sem,Ke (Ja (Jc acc)),Jg]
    ·rw[hst,hnil,Gq]; simp[forget,Jy,ren,Jk,Kr,rRw]
   obtain ⟨m,rfl⟩:∃ m':Nat,m=m':=⟨m.toNat,by omega⟩
   have hmn:m < t.nodes.length:=by omega
   have e1:((m:Int) == -1)=false:=beq_eq_false_iff_ne.2 (by omega)
   rw[decide_eq_true hm0,Gi,Gh]at h1
   simp -implicitDefEqProofs only[go_sem,d1,hol,hgi,e1,rRw]
   refine ⟨by omega,?_⟩
   refine JP (gok rfl) (YS t hmn) ?_
   cases hk42:(nd t m).k == 42 with
   |false=>
    have hnil:QY t o of s [i]=[]:=by rw[h1,hk42,if_neg (by simp)]
    simp -implicitDefEqProofs only[go_sem,kbN,hk42,Gl]
    refine ⟨Jj,i+1,[0,1],by omega,by omega,rfl,?_,?_⟩
    ·rw[hst,hnil,Gq]; simp only[J5,Gc,Gd,go_sem,Ke (Ja (Jc acc)),Jg]
    ·rw[hst,hnil,Gq]; simp[forget,Jy,ren,Jk,Kr,rRw]
   |true=>
    rw[hk42,Gi]at h1
    simp -implicitDefEqProofs only[go_sem,kbN,hk42,Gj,rRw]
    refine JP (gok rfl) (YS t hlt) ?_
    cases hk3:(nd t i).k == 3 with
    |false=>
     have hnil:QY t o of s [i]=[]:=by rw[h1,hk3,if_neg (by simp)]
     simp -implicitDefEqProofs only[go_sem,kbN,hk3,Gl]
     refine ⟨Jj,i+1,[0,1],by omega,by omega,rfl,?_,?_⟩
     ·rw[hst,hnil,Gq]; simp only[J5,Gc,Gd,go_sem,Ke (Ja (Jc acc)),Jg]
     ·rw[hst,hnil,Gq]; simp[forget,Jy,ren,Jk,Kr,rRw]
    |true=>
     rw[hk3,Gi]at h1
     simp -implicitDefEqProofs only[go_sem,kbN,hk3,Gj,rRw]
     refine JP (gok rfl) (nBelow g hlt hs) ?_
     cases hb:XF o i s with
     |false=>
      have hnil:QY t o of s [i]=[]:=by rw[h1,hb,if_neg (by simp)]
      simp -implicitDefEqProofs only[go_sem,Gl]
      refine ⟨Jj,i+1,[0,1],by omega,by omega,rfl,?_,?_⟩
      ·rw[hst,hnil,Gq]; simp only[J5,Gc,Gd,go_sem,Ke (Ja (Jc acc)),Jg]
      ·rw[hst,hnil,Gq]; simp[forget,Jy,ren,Jk,Kr,rRw]
     |true=>
      rw[hb,Gi]at h1
      have h42:(nd t m).k=42:=beq_iff_eq.1 hk42
      have h3:(nd t i).k=3:=beq_iff_eq.1 hk3
      obtain ⟨v,hv1,hv2,_,_⟩:=Xt g hmn (by omega)
      have hL:=nLate g ht hs hk ((Jco g hs hk (by omega)).1 (Kj.1 hb))
      rw[hv1,Gh]at h1
      simp -implicitDefEqProofs only[go_sem,Gj,rRw,tRw,KO,upz hmn,hv1]
      refine ⟨by omega,?_⟩
      refine JK Jz (by decide) ?_
      cases hpp:(Kg t v == Kg t s) with
      |false=>
       have hnil:QY t o of s [i]=[]:=by rw[h1,hpp,if_neg (by simp)]
       simp -implicitDefEqProofs only[go_sem,KO,upz hv2,upz hs,hpp]
       refine ⟨by omega,by omega,?_⟩
       refine ⟨Jj,i+1,[0,1],by omega,by omega,rfl,?_,?_⟩
       ·rw[hst,hnil,Gq]; simp only[J5,Gc,Gd,go_sem,Ke (Ja (Jc acc)),Jg]
       ·rw[hst,hnil,Gq]; simp[forget,Jy,ren,Jk,Kr,rRw]
      |true=>
       rw[hpp,Gi]at h1
       simp -implicitDefEqProofs only[go_sem,KO,upz hv2,upz hs,hpp]
       refine ⟨by omega,by omega,?_⟩
       refine JO (gok rfl) hL ?_
       cases hl:buL t (upL t (JI t s) t.nodes.length i) false with
       |true=>
        have hnil:QY t o of s [i]=[]:=by rw[h1,hl,if_neg (by simp)]
        simp -implicitDefEqProofs only[go_sem,Gj]
        refine ⟨Jj,i+1,[0,1],by omega,by omega,rfl,?_,?_⟩
        ·rw[hst,hnil,Gq]; simp only[J5,Gc,Gd,go_sem,Ke (Ja (Jc acc)),Jg]
        ·rw[hst,hnil,Gq]; simp[forget,Jy,ren,Jk,Kr,rRw]
       |false=>
        have hone:QY t o of s [i]=[(v:Int)]:=by rw[h1,hl,if_pos (by simp)]
        simp -implicitDefEqProofs only[go_sem,Gl,Jf,Jt]
        refine ⟨⟨by omega,by omega⟩,Jj,i+1,[0,3],by omega,by omega,rfl,?_,?_⟩
        ·rw[hst,hone,Ka,J7]
         simp only[J5,Gc,Gd,go_sem,Ji,Jg]
         simp[Ja (Jc acc),Jy,ren]
        ·rw[hst,hone,Ka,J6]
         simp[forget,Jy,ren,Jk,rRw,tRw,Jf]
  ·have d1:((i:Int) < (t.nodes.length:Int))=False:=Jn
   obtain rfl:i=t.nodes.length:=by omega
   have hcl:=JcZ (t:=t) (o:=o) (of:=of) (s:=s) (Ga t.nodes.length)
   rw[Ho]at hcl
   generalize QY t o of s (Ga t.nodes.length)=acc at hcl ⊢
   cases acc with
   |nil=>
    simp -implicitDefEqProofs only[go_sem,d1,Qi,QI]
    refine JM JeU ?_
    simp -implicitDefEqProofs only[go_sem]
    refine JM JbY ?_
    simp -implicitDefEqProofs only[go_sem]
    rw[show Lib.compact (([]:List Int).mergeSort fun x y=>decide (x≤y))=[] by rw[Lb]; rfl]
    exact .inl .nil
   |cons x xs=>
    simp -implicitDefEqProofs only[go_sem,d1,JV,QV,XI,Jf]
    refine JY (.inl rfl) (JeT (l:=x::xs) (by simp) (by omega) rfl) fun v H' ⟨h1,h2⟩=>?_
    subst h1 h2
    simp -implicitDefEqProofs only[go_sem]
    have hsl:((x::xs).mergeSort fun x y=>decide (x≤y)).length=xs.length+1:=by rw[Hg]; rfl
    generalize ((x::xs).mergeSort fun x y=>decide (x≤y))=S at hsl ⊢
    have hSn:S≠[]:=by rintro rfl; simp at hsl
    rw[← hsl]
    refine JY (.inl rfl) (Jez (l:=S) hSn (by simp only[Gg]at hcl; omega) rfl) fun v H' ⟨h1,h2⟩=>?_
    subst h1 h2
    simp -implicitDefEqProofs only[go_sem]
    have hcn:Lib.compact S≠[]:=by
     obtain ⟨y,hy⟩:=List.exists_mem_of_ne_nil _ hSn
     exact List.ne_nil_of_mem (XR.2 hy)
    refine .inr ⟨1,_,by rw[Jf],rfl,?_,by simpa [iz]using hcn⟩
    rw[Kl,Ll rfl]
end
end
section
def nz (l:List Nat):List Int:=l.map fun x:Nat=>(x:Int)
theorem nz_len {l:List Nat}:(nz l).length=l.length:=by simp[nz]
theorem nz_cons {x:Nat}{l:List Nat}:nz (x::l)=(x:Int)::nz l:=rfl
theorem nz_get {l:List Nat}{i:Nat}(h:i < l.length):(nz l).getD i 0=(l.getD i 0:Nat):=by
 simp[nz,Gm,Gp h]
theorem nzz_get {l:List Nat}{i:Nat}(h:i < l.length):(iz (nz l)).getD i []=[.int .i64 (l.getD i 0:Nat)]:=by rw[JQ (by rw[nz_len]; exact h),nz_get h]
theorem QL {l:List Nat}:(iz (nz l)).length=l.length:=by rw[Jf,nz_len]
section
variable {t:Tr}{o:List Int}(g:GoodT t o) (ht:t.Fit)
include g ht
theorem refWay {top a0:Nat}(htop:top < t.nodes.length) (hb0:blw o a0 top):Fn Gb 168 [t.cv,.int .i64 (top:Int),.int .i64 (a0:Int)] (.rslc 1 (iz (nz (upL t top t.nodes.length a0).reverse)) none):=by
 have hmany:=g.many
 have hup:=up_len g (f:=t.nodes.length) htop hb0 (by omega)
 have hst:=way_start (t:=t) (top:=top) (f:=t.nodes.length) (a:=a0)
 generalize hR:(upL t top t.nodes.length a0).reverse=R at hst ⊢
 have hRl:R.length≤t.nodes.length:=by rw[← hR,La]; omega
 refine QR ?_ rfl rfl
 refine J8 c168_ok fun N=>?_
 simp -implicitDefEqProofs only[c168,go_sem,Tr.cv,Tr.row]
 refine Je (id:=0) (z:=2) (els:=[t.row]) rfl rfl ?_
 simp only[go_sem,JS,Kb,frz,KI,Gc,Gd]
 refine Jv (σ:=Nat×Nat×List Nat×Option Nat) (I:=fun s=>blw o s.2.1 top∧t.nodes.length≤s.2.1+s.1∧R=(upL t top s.1 s.2.1).tail.reverse++s.2.2.1∧s.2.2.1≠[]) (inv:=fun s=>gp [(1,.int .i64 (top:Int)),(0,.int .i64 (s.2.1:Int)),(0,.rptr t.row),(3,.slc 1 0 s.2.2.1.length s.2.2.2)] 13) (hp:=fun s=>[.dead,.arr 1 (iz (nz s.2.2.1))]) (μ:=fun s=>t.nodes.length-s.2.1) (t.nodes.length,a0,[a0],some 1) [0,1] ⟨hb0,by simp only; omega,hst,by simp⟩ rfl ?_ ?_ ?_
 ·simp[forget,Jy,ren,Jk,gp,Tr.row]
 ·simp[J5,Jy,ren,Jk,Jbg,iz,nz]
 ·rintro ⟨f,a,w,cap⟩ ⟨hb,hf,hw,hne⟩
  dsimp only at hb hf hw hne
  have ha:a < t.nodes.length:=by have:=hb.1; omega
  by_cases he:a=top
  ·subst he
   rw[way_end,List.reverse_nil,GA]at hw
   have e1:((a:Int) != (a:Int))=false:=by simp
   simp -implicitDefEqProofs only[go_sem,e1]
   refine .step 1 1 (iz (nz w)) rfl (Jc _) (.done ?_)
   have hx:G9 w.length (iz (nz w))=iz (nz w):=Gv (by rw[QL]; omega)
   simp only[frz,if_true,GM,QL,GR,Gf,hx]
   rw[hw]; exact wk.refl _
  ·have e1:((a:Int) != (top:Int))=true:=bne_iff_ne.2 (by omega)
   obtain ⟨m,f',h1,h2,h3,h4,h5,h6⟩:=way_step g htop hb hf he
   rw[h6]at hw
   have hwl:w.length+1≤R.length:=by rw[hw,Gx,Gg]; omega
   have hP:=JaO g ht ha
   rw[h1]at hP
   obtain ⟨y,ys,rfl⟩:=List.exists_cons_of_ne_nil hne
   simp only[Gg]at hwl
   have htk:G9 (ys.length+1) (([CV.int .i64 (y:Int)])::iz (nz ys))=[CV.int .i64 (y:Int)]::iz (nz ys):=Gv (by simp[QL])
   simp -implicitDefEqProofs only[go_sem,e1,Tr.row]
   refine JM hP ?_
   simp -implicitDefEqProofs only[go_sem,nz_cons,JV,Gg,htk,QL,Jt,Gf]
   refine ⟨⟨by omega,by omega,by omega⟩,(f',m,m::y::ys,none),[0,3],⟨h4,h5,hw,by simp⟩,by simp only; omega,rfl,?_,?_⟩
   ·have hcl:=Ja (ρ:=[0,3]) (Jc (nz ys))
    simp[J5,Jy,ren,Jk,Jbg,nz_cons,JV,hcl]
   ·simp[forget,Jy,ren,Jk,Tr.row]; omega
theorem refLate {a0 s:Nat}(hs:s < t.nodes.length) (hk:(nd t s).k=41) (hb0:blw o a0 (JI t s)):Fn Gb 142 [t.cv,.int .i64 (a0:Int),.int .i64 (s:Int)] (.bool (tdL t (upL t (JI t s) t.nodes.length a0).reverse false)):=by
 have hmany:=g.many
 have hsk:=set_kid g hs hk
 have htl:JI t s < t.nodes.length:=by have:=(KF g hs hsk.1).2; omega
 have hup:=up_len g (f:=t.nodes.length) htl hb0 (by omega)
 have hW:=refWay g ht htl hb0
 have hrng:=up_rng g t.nodes.length a0 (JI t s) htl hb0
 have hkids:=up_kids g t.nodes.length a0 (JI t s) htl hb0
 have hpr:∀ i,i+1 < (upL t (JI t s) t.nodes.length a0).reverse.length→((((upL t (JI t s) t.nodes.length a0).reverse.getD (i+1) 0:Nat):Int)∈(nd t ((upL t (JI t s) t.nodes.length a0).reverse.getD i 0)).kids∧(upL t (JI t s) t.nodes.length a0).reverse.getD i 0 < t.nodes.length):=fun i hi=>pairs_rev hkids hi
 have hrng':∀ x∈(upL t (JI t s) t.nodes.length a0).reverse,x < t.nodes.length:=fun x hx=>hrng x (List.mem_reverse.1 hx)
 have hRl:(upL t (JI t s) t.nodes.length a0).reverse.length≤t.nodes.length:=by rw[La]; omega
 generalize (upL t (JI t s) t.nodes.length a0).reverse=R at hW hpr hrng' hRl ⊢
 refine Jb c142_ok rfl rfl fun N=>?_
 simp -implicitDefEqProofs only[c142,go_sem,Tr.cv,Tr.row]
 refine Je (id:=0) (z:=2) (els:=[t.row]) rfl rfl ?_
 simp only[go_sem,JS,Kb,frz,KI,Gc,Gd]
 refine JK Jz (by decide) ?_
 simp -implicitDefEqProofs only[go_sem,Tr.row]
 refine JO (.inl rfl) (JaZ g ht hs hsk.2) ?_
 simp -implicitDefEqProofs only[go_sem,Tr.row]
 refine JO (.inl rfl) hW ?_
 simp -implicitDefEqProofs only[go_sem]
 generalize hD:tdL t R false=D
 refine Jv (I:=fun i:Nat=>i≤R.length∧D=tdL t (R.drop i) false) (inv:=fun i=>gp [(3,.rptr t.row),(3,.rslc 1 (iz (nz R)) none),(0,.int .i64 (i:Int))] 54) (hp:=fun _=>[.dead]) (μ:=fun i=>R.length-i) 0 [0] ⟨by omega,by rw[Gf,hD]⟩ rfl ?_ rfl ?_
 ·simp[forget,Jy,ren,Jk,gp,Tr.row]
 ·rintro i ⟨hi,hinv⟩
  by_cases hlt:i+1 < R.length
  ·have d1:((i:Int)+1 < (R.length:Int))=True:=Jo
   rw[tdL_drop hlt]at hinv
   obtain ⟨hc,hu⟩:=hpr i hlt
   have hg1:=nzz_get (l:=R) (i:=i) (by omega)
   have hg2:=nzz_get hlt
   have hcn:R.getD (i+1) 0 < t.nodes.length:=hrng' _ (by rw[Gm,Gp hlt]; exact Gy hlt)
   generalize R.getD i 0=u at hinv hc hu hg1
   generalize R.getD (i+1) 0=c at hinv hc hg2 hcn
   have hgu:=Kh hu
   have hgc:=Kh hcn
   have hklen:=Hf hc
   have hi1:((i:Int)+1).toNat=i+1:=by omega
   simp -implicitDefEqProofs only[go_sem,QL,d1]
   refine ⟨Jj,?_⟩
   refine XA [false,false,false,false,false,false,false,false,true,true] Jz (by decide +kernel) ?_
   by_cases h4:(nd t u).k=4
   ·have hdd:JfN t u c=some true:=by unfold JfN; rw[if_pos h4]
    rw[hdd]at hinv
    simp -implicitDefEqProofs only[go_sem,Tr.row,Jd,QL,hg1,hgu,Nd.cv,kbE,h4]
    exact ⟨by omega,by omega,by rw[hinv]⟩
   have b4:((nd t u).k == 4)=false:=beq_eq_false_iff_ne.2 h4
   by_cases h46:(nd t u).k=46
   ·have hdd:JfN t u c=some (c == JI t u):=by unfold JfN; rw[if_neg h4,if_pos (.inl h46)]
    have b46:((nd t u).k == 46)=true:=beq_iff_eq.2 h46
    rw[hdd]at hinv
    simp -implicitDefEqProofs only[go_sem,Tr.row,Jd,QL,hg1,hgu,Nd.cv,kbE,b4,b46]
    refine ⟨by omega,by omega,?_⟩
    refine JK Jz (by decide) ?_
    simp -implicitDefEqProofs only[go_sem,QL,hi1,hg1,hg2,Tr.row]
    refine ⟨Jj,by omega,by omega,?_⟩
    refine JO (.inl rfl) (JaZ g ht hu hklen) ?_
    have en:=JbT (JI t u) c
    simp -implicitDefEqProofs only[go_sem,en,hinv]
   have b46:((nd t u).k == 46)=false:=beq_eq_false_iff_ne.2 h46
   by_cases h47:(nd t u).k=47
   ·have hdd:JfN t u c=some (c == JI t u):=by unfold JfN; rw[if_neg h4,if_pos (.inr h47)]
    have b47:((nd t u).k == 47)=true:=beq_iff_eq.2 h47
    rw[hdd]at hinv
    simp -implicitDefEqProofs only[go_sem,Tr.row,Jd,QL,hg1,hgu,Nd.cv,kbE,b4,b46,b47]
    refine ⟨by omega,by omega,?_⟩
    refine JK Jz (by decide) ?_
    simp -implicitDefEqProofs only[go_sem,QL,hi1,hg1,hg2,Tr.row]
    refine ⟨Jj,by omega,by omega,?_⟩
    refine JO (.inl rfl) (JaZ g ht hu hklen) ?_
    have en:=JbT (JI t u) c
    simp -implicitDefEqProofs only[go_sem,en,hinv]
   have b47:((nd t u).k == 47)=false:=beq_eq_false_iff_ne.2 h47
   by_cases h28:(nd t u).k=28
   ·have b28:((nd t u).k == 28)=true:=beq_iff_eq.2 h28
    simp -implicitDefEqProofs only[go_sem,Tr.row,Jd,QL,hg1,hgu,Nd.cv,kbE,b4,b46,b47,b28]
    refine ⟨by omega,by omega,?_⟩
    refine JK Jz (by decide) ?_
    by_cases h43:(nd t c).k=43
    ·have hdd:JfN t u c=none:=by unfold JfN; rw[if_neg h4,if_neg (by omega),if_pos h28,if_pos h43]
     have b43:((nd t c).k == 43)=true:=beq_iff_eq.2 h43
     rw[hdd]at hinv
     simp -implicitDefEqProofs only[go_sem,QL,hi1,hg2,Tr.row,Jd,hgc,Nd.cv,kbN,b43,Gj]
     refine ⟨Jj,by omega,by omega,Jj,i+1,[0],⟨by omega,hinv⟩,by omega,rfl,rfl,?_⟩
     simp[forget,Jy,ren,Jk,Tr.row]
    ·have hdd:JfN t u c=some false:=by unfold JfN; rw[if_neg h4,if_neg (by omega),if_pos h28,if_neg h43]
     have b43:((nd t c).k == 43)=false:=beq_eq_false_iff_ne.2 h43
     rw[hdd]at hinv
     simp -implicitDefEqProofs only[go_sem,QL,hi1,hg2,Tr.row,Jd,hgc,Nd.cv,kbN,b43,Gl]
     exact ⟨Jj,by omega,by omega,by rw[hinv]⟩
   have b28:((nd t u).k == 28)=false:=beq_eq_false_iff_ne.2 h28
   have hdd:JfN t u c=none:=by unfold JfN; rw[if_neg h4,if_neg (by omega),if_neg h28]
   rw[hdd]at hinv
   simp -implicitDefEqProofs only[go_sem,Tr.row,Jd,QL,hg1,hgu,Nd.cv,kbE,b4,b46,b47,b28]
   refine ⟨by omega,by omega,Jj,i+1,[0],⟨by omega,hinv⟩,by omega,rfl,rfl,?_⟩
   simp[forget,Jy,ren,Jk,Tr.row]
  ·have d1:((i:Int)+1 < (R.length:Int))=False:=Jn
   rw[tdL_end (by omega)]at hinv
   simp -implicitDefEqProofs only[go_sem,QL,d1,hinv]
   exact Jj
end
end
section
theorem indexO {E:Env}{H:List CObj}{id:Nat}{l:List Int}{x:Int}(hl:l.length≤1000000) (hH:H[id]? = some (.arr 1 (iz l))):CallsC Gb E 104 [.slc id 0 l.length none,.int .i64 x] H fun v H'=>v=.int .i64 (QE (fun y=>x == y) l 0)∧H'=H:=by
 have hil:(iz l).length=l.length:=Jf
 refine J8 c104_ok fun N=>?_
 simp -implicitDefEqProofs only[c104,go_sem]
 refine JA (I:=fun i:Nat=>i≤l.length∧QE (fun y=>x == y) l 0=QE (fun y=>x == y) (l.drop i) i) (inv:=fun i=>gp [(0,.slc id 0 l.length none),(0,.int .i64 x),(5,.int .i64 (l.length:Int)),(0,.int .i64 (i:Int))] 10) (hp:=fun _=>H) (μ:=fun i=>l.length-i) 0 ⟨by omega,rfl⟩ ?_ rfl ?_
 ·simp[forget,gp]
 ·rintro i ⟨hi,hinv⟩
  by_cases hlt:i < l.length
  ·have d1:((i:Int) < (l.length:Int))=True:=Jo
   have hgi:=JQ hlt
   have hge:l[i]? = some (l.getD i 0):=by rw[Gm,Gp hlt]; rfl
   rw[Qr hge]at hinv
   simp -implicitDefEqProofs only[go_sem,d1,hH,hil,hgi]
   generalize l.getD i 0=y at hinv hgi ⊢
   refine ⟨by omega,by omega,?_⟩
   cases he:(x == y) with
   |true=>
    rw[he,if_pos rfl]at hinv
    simp -implicitDefEqProofs only[go_sem,hinv]
   |false=>
    rw[he]at hinv
    simp -implicitDefEqProofs only[go_sem]
    refine ⟨Jj,i+1,⟨by omega,by simpa using hinv⟩,by omega,?_⟩
    simp[forget]
  ·have d1:((i:Int) < (l.length:Int))=False:=Jn
   rw[Gs (by omega)]at hinv
   simp -implicitDefEqProofs only[go_sem,d1,hinv,QE]
theorem containsO {E:Env}{H:List CObj}{id:Nat}{l:List Int}{x:Int}(hl:l.length≤100000) (hH:H[id]? = some (Qm 1 (iz l))):CallsC Gb E 78 [K5 id (iz l),.int .i64 x] H fun v H'=>v=.bool (l.contains x)∧H'=H:=by
 cases l with
 |nil=>exact (containsI [] x (by simp)).args (args':=[.nils,.int .i64 x]) ⟨wk.nils,wk.refl _,trivial⟩ E H
 |cons y l=>
  rw[JV,XI,← JV]at hH
  have hc:=indexO (E:=E) (x:=x) (l:=y::l) (by omega) hH
  rw[show K5 id (iz (y::l))=.slc id 0 (y::l).length none by rw[JV,QV,Jf]; rfl]
  generalize y::l=L at *
  refine J8 c78_ok fun N=>?_
  simp -implicitDefEqProofs only[c78,go_sem]
  refine JY (.inl rfl) hc fun v H' ⟨h1,h2⟩=>?_
  subst h1 h2
  have e:decide (0≤QE (fun y=>x == y) L 0)=L.contains x:=by rw[Jaz,He]
  simp -implicitDefEqProofs only[go_sem,e]
theorem Y9 {l:List Int}{n:Nat}:(iz l).drop n=iz (l.drop n):=by simp[iz]
def todoV (els:List Int) (off:Nat):CV:=match els with
 |[]=>.nils
 |_::_=>.slc 2 off (els.length-off) none
theorem JdT {els:List Int}:todoV els 0=K5 2 (iz els):=by cases els <;> simp[todoV,iz,K5]
theorem JeO {els:List Int}{off:Nat}(h:els≠[]):todoV els off=.slc 2 off (els.length-off) none:=by cases els <;> simp_all [todoV]
theorem YF:∀ {l out:List Int},QN l out≤l.length
 |[],_=>GR _
 |y::l,out=>by
  have:=YF (l:=l) (out:=out)
  simp only[QN,Gg]
  split <;> omega
theorem needN_ok {t:Tr}{o of:List Int}:∀ x∈Ku t,(∀ y∈KW t o of x.toNat,y∈Ku t)∧(KW t o of x.toNat).length≤(Ku t).length:=
 fun x _=>⟨fun y hy=>(GI.1 hy).1,Gw _ _⟩
section
variable {t:Tr}{o:List Int}(g:GoodT t o) (ht:t.Fit)
include g ht
theorem nAll {of:List Int}(ho:OfOk t of) {s:Nat}(hs:s < t.nodes.length) (hk:(nd t s).k=41):Jb2 Gb 97 [.agg (rRw t of),.int .i64 (s:Int)] 1 (iz (bfs (fun x=>KW t o of x.toNat) (Ku t) (KW t o of s) [])):=by
 have hmany:=g.many
 have hal:(Ku t).length=t.nodes.length:=by simp[Ku]
 refine Jbu (J8 c97_ok fun N=>?_) rfl (Jc _)
 simp -implicitDefEqProofs only[c97,go_sem,rRw]
 refine Je (id:=0) (z:=2) (els:=[rRw t of]) rfl rfl ?_
 simp only[go_sem,JS,Kb,frz,KI,Gf]
 refine Xh ?_
 simp only[go_sem,GY,GA]
 refine JdR (.inl rfl) (nNeeds g ht ho hs hk) ?_
 simp -implicitDefEqProofs only[go_sem]
 have hset:∀ s':Nat,∀ x∈KW t o of s',0≤x∧x < t.nodes.length∧(nd t x.toNat).k=41:=fun s' x hx=>Jbn g hx
 generalize hN:(fun x:Int=>KW t o of x.toNat)=Nf
 have hNok:∀ x∈Ku t,(∀ y∈Nf x,y∈Ku t)∧(Nf x).length≤(Ku t).length:=by rw[← hN]; exact needN_ok
 have hset':∀ x,∀ y∈Nf x,0≤y∧y < t.nodes.length∧(nd t y.toNat).k=41:=fun x y hy=>by rw[← hN]at hy; exact hset _ y hy
 have h0:=hset s
 have hlen0:(KW t o of s).length≤t.nodes.length:=by rw[← hal]; exact Gw _ _
 generalize KW t o of s=T0 at h0 hlen0 ⊢
 generalize hR:bfs Nf (Ku t) T0 []=R
 have hst:QN (Ku t) []*((Ku t).length+1)≤700*701:=Hy (GN YF (by omega)) (by omega)
 refine Jv (σ:=List Int×Nat×List Int) (I:=fun s'=>s'.2.1≤s'.1.length∧(∀ x∈s'.1,0≤x∧x < t.nodes.length∧(nd t x.toNat).k=41)∧bfs Nf (Ku t) (s'.1.drop s'.2.1) s'.2.2=R∧muB (Ku t) (s'.1.drop s'.2.1) s'.2.2≤1000000∧s'.2.2.length+QN (Ku t) s'.2.2≤700)
  (inv:=fun s'=>gp [(2,.rptr (rRw t of)),(1,K5 1 (iz s'.2.2)),(0,todoV s'.1 s'.2.1)] 26) (hp:=fun s'=>[.dead,Qm 1 (iz s'.2.2),Qm 1 (iz s'.1)]) (μ:=fun s'=>muB (Ku t) (s'.1.drop s'.2.1) s'.2.2) (T0,0,[]) [0,1,2] ⟨by simp,h0,by simpa using hR,by simp only[Gf,muB]; omega,by have:=YF (l:=Ku t) (out:=[]); simp only[Gt]; omega⟩ rfl ?_ ?_ ?_
 ·simp[forget,Jy,ren,Jk,gp,rRw,JdT,Kr,QI,Qi]
 ·simp only[J5,Gc,Gd,go_sem,Ke (Ja (Jc T0)),Jg,Qi,X7]
 ·rintro ⟨els,off,out⟩ ⟨hoff,hP,hB,hmu,hout⟩
  dsimp only at hoff hP hB hmu hout
  by_cases hne:els=[]
  ·subst hne
   rw[List.drop_nil,Jdt]at hB
   have d1:((0:Int) > 0)=False:=Jn
   have d2:((0:Int) < 0)=False:=Jn
   simp -implicitDefEqProofs only[go_sem,todoV,d1,d2]
   rw[← hB]
   exact .row (id:=1) rfl rfl
  ·have hrO:Qm 1 (iz els)=.arr 1 (iz els):=QC (by simpa [iz]using hne)
   have hel:(iz els).length=els.length:=Jf
   rw[hrO,JeO hne]
   by_cases hlt:off < els.length
   ·have d1:((0:Int) < ((els.length-off:Nat):Int))=True:=Jo
    have d2:(((els.length-off:Nat):Int) > 0)=True:=Jo
    have hgi:=JQ hlt
    have hdr:els.drop off=els.getD off 0::els.drop (off+1):=by
     rw[GH hlt,Gm,Gp hlt]; rfl
    have hmem:els.getD off 0∈els:=by rw[Gm,Gp hlt]; exact Gy hlt
    have hPx:=hP _ hmem
    have hall:∀ y∈els.drop off,y∈Ku t:=fun y hy=>by
     have:=hP y (G7 hy)
     exact K7.2 ⟨this.1,this.2.1⟩
    rw[hdr]at hB hall hmu ⊢
    have hmu':=hmu
    simp only[muB,Gg]at hmu'
    generalize hx:els.getD off 0=x at hgi hPx hB hall hmu ⊢
    have hlen1:(((els.length-off:Nat):Int)).toNat-(1:Int).toNat=els.length-(off+1):=by omega
    simp -implicitDefEqProofs only[go_sem,d1,d2,hel,hgi,Hz]
    refine ⟨by omega,⟨by omega,GL _⟩,?_⟩
    have hxm:x∈Ku t:=hall x (by simp)
    have hol:out.length≤700:=by omega
    refine JY (.inl rfl) (containsO (id:=1) (l:=out) (x:=x) (by omega) rfl) fun v H' ⟨h1,h2⟩=>?_
    subst h1 h2
    cases hc:out.contains x with
    |true=>
     rw[JfI hNok hall hc]at hB
     simp -implicitDefEqProofs only[go_sem,Gj]
     refine ⟨(els,off+1,out),[0,1,2],⟨by simp only; omega,hP,hB,by simp only[muB]; omega,hout⟩,by simp only[muB,Gg]; omega,rfl,?_,?_⟩
     ·simp only[J5,Gc,Gd,go_sem,Ke (Ja (Jc out)),Ji,Ja (Jc els),Jg,hrO]
     ·simp[forget,Jy,ren,Jk,Kr,rRw,JeO hne]; omega
    |false=>
     rw[JfJ hNok hall hc]at hB
     have hll:=Q0 hxm hc
     have hlr:=LA ((Ku t).length+1) (show QN (Ku t) (out++[x])+1≤QN (Ku t) out from hll)
     rw[HY,HV]at hlr
     have hnx:=(hNok x hxm).2
     obtain ⟨xn,rfl⟩:∃ x':Nat,x=x':=⟨x.toNat,by omega⟩
     have hPx3:=hPx.2.2
     rw[Gh]at hPx3
     have hNx:KW t o of xn=Nf (xn:Int):=by rw[← hN]; simp only[Gh]
     have hsx:=hset' (xn:Int)
     have hNf:=(nNeeds g ht ho (show xn < t.nodes.length by omega) hPx3).fn rfl (Jc _)
     rw[hNx]at hNf
     simp -implicitDefEqProofs only[go_sem,Gl,Jf,Jt,rRw]
     refine ⟨⟨by omega,by omega⟩,?_⟩
     refine JM hNf ?_
     generalize Nf (xn:Int)=M at hnx hsx hB ⊢
     have hel2:off+1+(els.length-off-1)=els.length:=by omega
     have hel3:(off+1+(els.length-off-1)=els.length)=True:=eq_true hel2
     have hd:=Lh (i:=off+1) (l:=els)
     cases M with
     |nil=>
      simp -implicitDefEqProofs only[go_sem,Qi]
      rw[Gq]at hB
      refine ⟨(els,off+1,out++[(xn:Int)]),[0,4,2],⟨by simp only; omega,hP,hB,by simp only[muB]; omega,by simp only[Gx,Gg,Gt]; omega⟩,by simp only[muB,Gg]; omega,rfl,?_,?_⟩
      ·rw[hrO,Ka,J7]
       simp only[J5,Gc,Gd,go_sem,Ji,Ja (Jc els),Jg]
       simp[Ja (Jc out),Jy,ren]
      ·rw[JeO hne,Ka,J6]
       simp[forget,Jy,ren,Jk,Jf]; omega
     |cons y ys=>
      simp -implicitDefEqProofs only[go_sem,JV,hel,hel3,Jf,Jt]
      simp only[Gg]at hnx
      refine ⟨⟨by omega,by omega⟩,(els.drop (off+1)++y::ys,0,out++[(xn:Int)]),[0,4,5],⟨by simp,fun z hz=>?_,by simpa using hB,by simp only[Gf,muB,Gx,Gg]; omega,by simp only[Gx,Gg,Gt]; omega⟩,by simp only[Gf,muB,Gx,Gg]; omega,rfl,?_,?_⟩
      ·rcases Hr.1 hz with h | h
       ·exact hP z (G7 h)
       ·exact hsx z h
      ·rw[Ka,J7,Kl,JV,J7,← Y9]
       simp only[J5,Gc,Gd,go_sem,Ji,Jg]
       rw[Y9]
       simp[Ja (Jc out),Ja (Jc (els.drop (off+1))),Ja (Jc ys),Jy,ren]
      ·rw[JdT,Ka,J6,Kl,JV,J6]
       simp[forget,Jy,ren,Jk,Jf]; omega
   ·obtain rfl:off=els.length:=by omega
    rw[Lj,Jdt]at hB
    have d1:((0:Int) < ((els.length-els.length:Nat):Int))=False:=Jn
    have d2:(((els.length-els.length:Nat):Int) > 0)=False:=Jn
    simp -implicitDefEqProofs only[go_sem,d1,d2]
    rw[← hB]
    exact .row (id:=1) rfl rfl
end
end
section
def q2Ok (l:List IOper) (es:List (List Nat)) (bs bs2:List Bool) (i j:Nat) (p q:List Nat):Bool:=
 (!(i == j) && decide (i < es.length) && decide (j < es.length)) && (Jcb l.length p q &&
 ((l.length == bs.length && (Jal l.length (Yy es j i) (clo (Yy es j i)) && KT l (clo (Yy es j i)) (bs.map Qj))) &&
 ((prl p l).length == bs2.length && (Jal (prl p l).length (pre p q (Yy es i j)) (clo (pre p q (Yy es i j))) && KT (prl p l) (clo (pre p q (Yy es i j))) (bs2.map Qj)))))
theorem vr_dregQ {P:Program}{E:Env}{n0:Nat}{N:Fr}{Q:Exit→List CV→List CObj→Prop}{H:List CObj}{T:List CV}{k:List KItem}{l:List IOper}{es:List (List Nat)}(i j:Nat) (p q:List Nat) (bs bs2:List Bool) (T':List CV) (H':List CObj) (hm:P.follows .mixedOrders=true) (hord:q2Ok l es bs bs2 i j p q=true)
  (h1:vdk P E (leads P E n0 N Q T' H') l bs T H) (h2:vdk P E (leads P E n0 N Q T' H') (prl p l) bs2 T H) (hfin:Kk P E n0 N Q k T' H'):Ok P E n0 N Q (.code (.dreg l es)::k) T H:=by
 unfold q2Ok at hord
 obtain ⟨g0,r1⟩:=Ha.1 hord
 obtain ⟨g1,r2⟩:=Ha.1 r1
 obtain ⟨g2,g3⟩:=Ha.1 r2
 exact JeK hm (Jby i j g0 (Xn bs T' H' g2 (JE _ _ _ hfin) h1) (Jbx p q g1 (Xn bs2 T' H' g3 (JE _ _ _ hfin) h2)))
theorem nOpenE (t:Tr) (ht:t.Fit) (h:chk t≠0):Fn Gb 94 [t.cv] (.tup [.nilp,.int .i64 (chk t)]):=by
 have e:(chk t != 0)=true:=by simpa using h
 refine Jb c94_ok rfl rfl fun N=>?_
 simp -implicitDefEqProofs only[c94,go_sem,Tr.cv,Tr.row]
 refine JM (Jea t ht) ?_
 simp -implicitDefEqProofs only[go_sem,e]
theorem iz_set {l:List Int}{i:Nat}{v:Int}:(iz l).set i [.int .i64 v]=iz (l.set i v):=by simp[iz,Lu]
def oT (t:Tr):List CV:=[.rslc 5 (ndz t.nodes) none,.rslc 1 (iz t.items) none,.slc 1 0 t.nodes.length none,.slc 2 0 t.nodes.length (some t.nodes.length)]
section
variable {t:Tr}{o:List Int}(g:GoodT t o) (ht:t.Fit)
include g ht
theorem nOpen:Fn Gb 94 [t.cv] (.tup [.rptr (tRw t),.int .i64 0]):=by
 have hmany:=g.many
 have hitm:=g.items
 have hc:chk t=0:=(Jcw t).2 ⟨o,g⟩
 have e:(chk t != 0)=false:=by simp[hc]
 refine QR ?_ rfl rfl
 refine J8 c94_ok fun N=>?_
 simp -implicitDefEqProofs only[c94,go_sem,Tr.cv,Tr.row]
 refine Je (id:=0) (z:=2) (els:=[t.row]) rfl rfl ?_
 simp only[go_sem,JS,Kb,frz,KI,Tr.row]
 refine JM (Jea t ht) ?_
 simp -implicitDefEqProofs only[go_sem,e]
 have hz:GZ t.nodes.length [CV.int .i64 0]=iz (Xk t 0):=by rw[itemTo_zero]; simp[iz]
 have hR:=repeatO (-1) t.nodes.length (by omega)
 rw[← upTo_zero g]at hR
 have hni:=Ja (ρ:=[0,2,1,3]) (Jc (Xk t 0))
 have hnu:=Ja (ρ:=[0,2,1,3]) (Jc (upTo t 0))
 refine vr_dregQ 5 9 [0,1,2,3,4,6,7,8,9,5,10,11,12] [0,1,2,3,4,9,5,6,7,8,10,11,12] [false,false,false,false,false,true,false,false,false,true,false,true,false] [false,false,false,false,false,false,false,false,true,true,false,true,false] (gp [(1,.rptr t.row),(3,.ptr 3 0 0)] 71) [.dead,.arr 1 (iz (upTo t 0)),.arr 1 (iz (Xk t 0)),.arr 4 [oT t]] Jz (by decide +kernel) ?_ ?_ ?_
 ·simp -implicitDefEqProofs only[go_sem,Tr.row]
  refine ⟨_,_,hs_row (iz [-1]) rfl rfl rfl rfl,?_⟩
  simp -implicitDefEqProofs only[go_sem,Jd]
  refine ⟨_,_,Jfj (.inl rfl) (hR _ _),?_⟩
  simp -implicitDefEqProofs only[go_sem,Jd,hz]
  exact ⟨⟨by omega,GL _,by omega,by omega⟩,Jm (by simp[forget,Tr.row])⟩
 ·simp -implicitDefEqProofs only[prl,QD,Gg,Gt,Gc,Gd,List.getD_cons_zero,List.getD_cons_succ,go_sem,Tr.row]
  refine ⟨_,_,hs_row (iz [-1]) rfl rfl rfl rfl,?_⟩
  simp -implicitDefEqProofs only[go_sem,Jd,hz]
  refine ⟨⟨by omega,GL _,by omega,by omega⟩,?_⟩
  refine ⟨_,_,Jfj (.inl rfl) (hR _ _),?_⟩
  simp -implicitDefEqProofs only[go_sem]
  refine Jff [0,2,1,3] rfl (by simp[forget,Jy,ren,Jk,Tr.row]) ?_
  simp only[J5,Gc,Gd,go_sem,Ji,Jg,hni,hnu]
  simp[Jy,ren,Jk,oT]
 ·simp only[gp,GZ]
  simp -implicitDefEqProofs only[go_sem,Tr.row,Jd]
  refine Jv (I:=fun i:Nat=>i≤t.nodes.length) (inv:=fun i=>gp [(1,.rptr t.row),(3,.ptr 3 0 0),(24,.rslc 5 (ndz t.nodes) none),(0,.int .i64 (t.nodes.length:Int)),(0,.int .i64 (i:Int))] 44) (hp:=fun i=>[.dead,.arr 1 (iz (upTo t i)),.arr 1 (iz (Xk t 0)),.arr 4 [oT t]]) (μ:=fun i=>t.nodes.length-i) 0 [0,1,2,3] (by omega) rfl ?_ ?_ ?_
  ·simp[forget,Jy,ren,Jk,gp,Tr.row]
  ·simp only[J5,Gc,Gd,go_sem,Ji,Jg,Ja (Jc _)]
   simp[Jy,ren,Jk,oT]
  ·intro i hi
   by_cases hlt:i < t.nodes.length
   ·have d1:((i:Int) < (t.nodes.length:Int))=True:=Jo
    have hg:=Kh hlt
    have hkl:(iz (nd t i).kids).length=(nd t i).kids.length:=Jf
    have hkn:=(fitN ht hlt).kidn
    have hus:=upTo_succ g hlt
    simp -implicitDefEqProofs only[go_sem,d1,Jd,hg,Nd.cv,hkl]
    refine ⟨by omega,?_⟩
    refine Je (id:=4) (z:=5) (els:=[(nd t i).cv]) rfl rfl ?_
    simp only[go_sem,JS,Kb,frz,KI,oT,Gf,KG (Jc _),Gc,Gd]
    refine JA (I:=fun k:Nat=>k≤(nd t i).kids.length) (inv:=fun k=>gp [(1,.rptr t.row),(3,.ptr 3 0 0),(0,.int .i64 (i:Int)),(23,.rslc 5 (ndz t.nodes) none),(0,.int .i64 (t.nodes.length:Int)),(0,.int .i64 (i:Int)),(5,.rslc 1 (iz (nd t i).kids) none),(0,.int .i64 ((nd t i).kids.length:Int)),(0,.int .i64 (k:Int))] 36) (hp:=fun k=>[.dead,.arr 1 (iz (X4 i (upTo t i) ((nd t i).kids.take k))),.arr 1 (iz (Xk t 0)),.arr 4 [oT t],.dead]) (μ:=fun k=>(nd t i).kids.length-k) 0 (by omega) ?_ rfl ?_
    ·simp[forget,gp,Tr.row]
    ·intro k hk
     by_cases hlk:k < (nd t i).kids.length
     ·have d2:((k:Int) < ((nd t i).kids.length:Int))=True:=Jo
      have hgk:=JQ hlk
      have hmem:(nd t i).kids.getD k 0∈(nd t i).kids:=by rw[Gm,Gp hlk]; exact Gy hlk
      have hr:=g.kid hlt hmem
      have hsn:X4 (i:Int) (upTo t i) ((nd t i).kids.take (k+1))=(X4 (i:Int) (upTo t i) ((nd t i).kids.take k)).set ((nd t i).kids.getD k 0).toNat i:=by
       rw[G5 hlk,JcI,Gm,Gp hlk]; rfl
      have hsl:(X4 (i:Int) (upTo t i) ((nd t i).kids.take k)).length=t.nodes.length:=by rw[Jd1,Jas]
      generalize (nd t i).kids.getD k 0=c at hgk hr hsn
      obtain ⟨c,rfl⟩:∃ c':Nat,c=c':=⟨c.toNat,by omega⟩
      rw[Gh]at hsn
      generalize X4 (i:Int) (upTo t i) ((nd t i).kids.take k)=r at hsn hsl ⊢
      have hrl:(iz r).length=t.nodes.length:=by rw[Jf,hsl]
      have hgr:=JQ (l:=r) (i:=c) (by omega)
      simp -implicitDefEqProofs only[go_sem,d2,hkl,hgk,oT,hrl,hgr,Gg,Gt,GU,Gf,iz_set]
      refine ⟨by omega,by omega,by omega,Jj,k+1,by omega,by omega,?_,?_⟩
      ·rw[hsn]
      ·simp[forget,Tr.row]
     ·have d2:((k:Int) < ((nd t i).kids.length:Int))=False:=Jn
      rw[Gv (by omega),← hus]
      simp -implicitDefEqProofs only[go_sem,d2]
      refine ⟨Jj,i+1,[0,1,2,3],by omega,by omega,rfl,?_,?_⟩
      ·simp only[J5,Gc,Gd,go_sem,Ji,Jg,Ja (Jc _)]
       simp[Jy,ren,Jk,oT]
      ·simp[forget,Jy,ren,Jk,Tr.row]
   ·have d1:((i:Int) < (t.nodes.length:Int))=False:=Jn
    obtain rfl:i=t.nodes.length:=by omega
    rw[upTo_all g]
    simp -implicitDefEqProofs only[go_sem,d1,Tr.row,Jd]
    refine Jv (I:=fun i:Nat=>i≤t.nodes.length∧(i=0∨i≤t.nodes.length)∧KE t i≤t.items.length) (inv:=fun i=>gp [(1,.rptr t.row),(3,.ptr 3 0 0),(4,.int .i64 (KE t i:Int)),(44,.int .i64 (t.nodes.length:Int)),(0,.int .i64 (i:Int))] 20) (hp:=fun i=>[.dead,.arr 1 (iz (upT t)),.arr 1 (iz (Xk t i)),.arr 4 [oT t]]) (μ:=fun i=>t.nodes.length-i) 0 [0,1,2,3] ⟨by omega,.inl rfl,by rw[Jem g]; omega⟩ rfl ?_ ?_ ?_
    ·simp[forget,Jy,ren,Jk,gp,Tr.row,Jem g]
    ·simp only[J5,Gc,Gd,go_sem,Ji,Jg,Ja (Jc _)]
     simp[Jy,ren,Jk,oT]
    ·rintro i ⟨hi,_,hin⟩
     by_cases hlt:i < t.nodes.length
     ·have d1:((i:Int) < (t.nodes.length:Int))=True:=Jo
      obtain ⟨L,h1,h2,h3,h4,h5⟩:=itemN_step g hlt
      have hsu:=itemTo_succ hlt
      have hrl:(iz (Xk t i)).length=t.nodes.length:=by rw[Jf,Jel (by omega)]
      have hgr:=JQ (l:=Xk t i) (i:=i) (by rw[Jel (by omega)]; exact hlt)
      have hgi:=JQ (l:=t.items) h1
      rw[h2]at hgi
      have hil:(iz t.items).length=t.items.length:=Jf
      by_cases he:i=L
      ·have e1:((i:Int) == (L:Int))=true:=by simp[he]
       rw[if_pos he]at h5
       simp -implicitDefEqProofs only[go_sem,d1,Tr.row,oT,hrl,hgr,hil,hgi,e1,Gg,Gt,GU,Gf,iz_set]
       refine ⟨by omega,by omega,by omega,Jj,Jj,i+1,[0,1,2,3],⟨by omega,.inr (by omega),by omega⟩,by omega,rfl,?_,?_⟩
       ·rw[← hsu]
        simp only[J5,Gc,Gd,go_sem,Ji,Jg,Ja (Jc _)]
        simp[Jy,ren,Jk]
       ·rw[h5]; simp[forget,Jy,ren,Jk]
      ·have e1:((i:Int) == (L:Int))=false:=beq_eq_false_iff_ne.2 (by omega)
       rw[if_neg he]at h5
       simp -implicitDefEqProofs only[go_sem,d1,Tr.row,oT,hrl,hgr,hil,hgi,e1,Gg,Gt,GU,Gf,iz_set]
       refine ⟨by omega,by omega,by omega,Jj,i+1,[0,1,2,3],⟨by omega,.inr (by omega),by omega⟩,by omega,rfl,?_,?_⟩
       ·rw[← hsu]
        simp only[J5,Gc,Gd,go_sem,Ji,Jg,Ja (Jc _)]
        simp[Jy,ren,Jk]
       ·rw[h5]; simp[forget,Jy,ren,Jk]
     ·have d1:((i:Int) < (t.nodes.length:Int))=False:=Jn
      obtain rfl:i=t.nodes.length:=by omega
      rw[itemTo_all]
      simp -implicitDefEqProofs only[go_sem,d1]
      refine .step 1 1 (iz (upT t)) rfl (Jc _) (.step 2 1 (iz (Jcj t)) ?_ (Jc _) (.step 3 4 [tRw t] ?_ rfl (.done ?_)))
      ·simp only[Kb,KI,JS,frz,oT,Gc,Gd,GX,GV,List.getElem?_cons_succ,List.getElem?_cons_zero,KG (Jc _)]
      ·have q1:(iz (upT t)).take t.nodes.length=iz (upT t):=Gv (by rw[Jf,JcD]; omega)
       have q2:(iz (Jcj t)).take t.nodes.length=iz (Jcj t):=Gv (by rw[Jf,Jbp]; omega)
       simp[Kb,KI,JS,frz,oT,tRw,Jf,JcD,Jbp,q1,q2]
      ·simp[frz,JS]
       exact wk.refl _
end
end
section
theorem Jft {n:Nat}{l:List Int}{q:Int→Bool}(h:∀ x∈l,0≤x∧x < n) : -1≤(match l.find? q with | some d=>d | none=>-1)∧(match l.find? q with | some d=>d | none=>-1) < (n:Int):=by
 cases hf:l.find? q with
 |none=>simp; omega
 |some d=>
  have:=h d (List.mem_of_find?_eq_some hf)
  simp only; omega
theorem mean_rng {t:Tr}{o:List Int}{i:Nat} : -1≤KX t o i∧KX t o i < t.nodes.length:=by
 unfold KX Jei Jce Jc1
 have h:∀ x∈Ku t,0≤x∧x < (t.nodes.length:Int):=fun x hx=>K7.1 hx
 split
 ·exact Jft h
 ·split
  ·exact Jft h
  ·split
   ·exact Jft h
   ·omega
theorem XK {t:Tr}{o:List Int}:(ofL t o).length=t.nodes.length:=by simp[ofL]
theorem JcX {t:Tr}{o:List Int}{i:Nat}(h:i < t.nodes.length):(ofL t o).getD i 0=KX t o i:=by
 simp[ofL,Gm,h]
theorem ofL_take {t:Tr}{o:List Int}{i:Nat}(h:i < t.nodes.length):(ofL t o).take (i+1)=(ofL t o).take i++[KX t o i]:=by
 rw[G5 (by rw[XK]; exact h)]
 simp[ofL]
theorem Jcd {t:Tr}{o:List Int}:OfOk t (ofL t o):=⟨XK,fun i hi=>by rw[XK]at hi; rw[JcX hi]; exact mean_rng⟩
def resV (t:Tr) (o:List Int):CV:=match Xi t o 6 10 (Ga t.nodes.length) with
 |some r=>.tup [.agg [.rptr (tRw t),.rslc 1 (iz ((ofL t o).take r.1)) none],.int .i64 (r.1:Int),.int .i64 r.2]
 |none=>match (Ga t.nodes.length).find? (stN t o) with
  |some i=>.tup [.agg (rRw t (ofL t o)),.int .i64 (i:Int),.int .i64 9]
  |none=>.tup [.agg (rRw t (ofL t o)),.int .i64 0,.int .i64 0]
theorem resV_closed {t:Tr}{o:List Int}:(resV t o).closed=true:=by
 unfold resV
 split
 ·rfl
 ·split <;> rfl
theorem frzs_row {H:List CObj}{id:Nat}{l:List Int}{x:CV}{ys:List CV}(hx:x.closed=true) (hy:Jr ys=true) (h:H[id]? = some (Qm 1 (iz l))):Frzs (.tup (.agg [x,.rslc 1 (iz l) none]::ys)) (.tup (.agg [x,K5 id (iz l)]::ys)) H:=by
 cases l with
 |nil=>exact .done (JdP ⟨Jcx ⟨wk.refl _,wk.nils,trivial⟩,wks.refl _⟩)
 |cons a l=>
  refine .step id 1 (iz (a::l)) h (Jc _) (.done ?_)
  have e:frz id 1 (iz (a::l)) (K5 id (iz (a::l)))=.rslc 1 (iz (a::l)) none:=by
   rw[JV,QV]
   simp[frz]
  simp only[frz,JS,e,Xb x hx,KY ys hy]
  exact wk.refl _
theorem bfs_len {N:Int→List Int}{l:List Int}(hN:∀ x∈l,∀ y∈N x,y∈l):∀ (f:Nat) (todo out:List Int),(∀ x∈todo,x∈l)→(JdD N f todo out).length≤out.length+QN l out
 |0,_,out,_=>LB _ _
 |f+1,[],out,_=>LB _ _
 |f+1,x::todo,out,h=>by
  rw[JdD]
  cases hc:out.contains x with
  |true=>rw[if_pos rfl]; exact bfs_len hN f todo out fun y hy=>h y (by simp[hy])
  |false=>
   rw[if_neg (by simp)]
   have hx:=h x (by simp)
   have h1:=bfs_len hN f (todo++N x) (out++[x]) fun y hy=>by
    rcases Hr.1 hy with h2 | h2
    ·exact h y (by simp[h2])
    ·exact hN x hx y h2
   have h2:=Q0 hx hc
   simp only[Gx,Gg,Gt]at h1
   omega
theorem nResolveE0 (t:Tr) (ht:t.Fit) (h:chk t≠0):Fn Gb 41 [t.cv] (.tup [.agg [.nilp,.nils],.int .i64 0,.int .i64 (chk t)]):=by
 have e:(chk t != 0)=true:=by simpa using h
 refine Jb c41_ok rfl rfl fun N=>?_
 simp -implicitDefEqProofs only[c41,go_sem,Tr.cv,Tr.row]
 refine JM (nOpenE t ht h) ?_
 simp -implicitDefEqProofs only[go_sem,e]
section
variable {t:Tr}{o:List Int}(g:GoodT t o) (ht:t.Fit)
include g ht
theorem nResolve0:Fn Gb 41 [t.cv] (resV t o):=by
 have hmany:=g.many
 refine QR ?_ rfl resV_closed
 refine J8 c41_ok fun N=>?_
 simp -implicitDefEqProofs only[c41,go_sem,Tr.cv,Tr.row]
 refine Je (id:=0) (z:=2) (els:=[t.row]) rfl rfl ?_
 simp only[go_sem,JS,Kb,frz,KI,Tr.row]
 refine JM (nOpen g ht) ?_
 simp -implicitDefEqProofs only[go_sem,tRw,Jd]
 refine Xh ?_
 simp only[go_sem,GY,GA]
 refine Jv (I:=fun i:Nat=>i≤t.nodes.length∧Xi t o 6 10 (Ga t.nodes.length)=Xi t o 6 10 ((Ga t.nodes.length).drop i)) (inv:=fun i=>gp [(2,.ptr 1 0 0),(2,.rptr (tRw t)),(20,.int .i64 (t.nodes.length:Int)),(0,.int .i64 (i:Int))] 53) (hp:=fun i=>[.dead,.arr 2 [[.rptr (tRw t),K5 2 (iz ((ofL t o).take i))]],Qm 1 (iz ((ofL t o).take i))]) (μ:=fun i=>t.nodes.length-i) 0 [0,1,2] ⟨by omega,by rw[Gf]⟩ rfl ?_ ?_ ?_
 ·simp[forget,Jy,ren,Jk,gp,tRw]
 ·simp[J5,Jy,ren,Jk,Jbg,K5,Qm,iz,tRw]
 ·rintro i ⟨hi,hinv⟩
  have hacc:((ofL t o).take i).length=i:=by rw[G8,XK]; omega
  by_cases hlt:i < t.nodes.length
  ·have d1:((i:Int) < (t.nodes.length:Int))=True:=Jo
   have hot:=ofL_take (o:=o) hlt
   rw[Qa hlt,Xi]at hinv
   have hrs:∀ a:Int,Xi t o 6 10 (Ga t.nodes.length)=some (i,a)→resV t o=.tup [.agg [.rptr (tRw t),.rslc 1 (iz ((ofL t o).take i)) none],.int .i64 (i:Int),.int .i64 a]:=fun a h=>by unfold resV; rw[h]
   generalize (ofL t o).take i=acc at hacc hot hrs ⊢
   simp -implicitDefEqProofs only[go_sem,d1]
   refine JM (nMeaning g ht hlt) ?_
   simp -implicitDefEqProofs only[go_sem]
   refine JM (nTwice (by omega) hlt) ?_
   cases htw:twN t i with
   |true=>
    rw[htw,if_pos rfl]at hinv
    rw[hrs 6 hinv]
    simp -implicitDefEqProofs only[go_sem]
    exact frzs_row rfl rfl rfl
   |false=>
    rw[htw]at hinv
    cases hsh:K8 t i with
    |false=>
     rw[if_neg (by simp),if_neg (by rw[hsh]; simp)]at hinv
     simp -implicitDefEqProofs only[go_sem,Jf,Jt]
     refine ⟨⟨by omega,by omega⟩,Jj,i+1,[0,1,4],⟨by omega,hinv⟩,by omega,rfl,?_,?_⟩
     ·rw[hot,Ka,J7,J6]
      simp only[J5,Gc,Gd,go_sem,Ji,Jg]
      simp[Ja (Jc acc),Jy,ren,Jk,Jf]
     ·simp[forget,Jy,ren,Jk]
    |true=>
     cases hme:(KX t o i == -1) with
     |true=>
      rw[if_neg (by simp),if_pos (by rw[hsh,hme]; rfl)]at hinv
      rw[hrs 10 hinv]
      simp -implicitDefEqProofs only[go_sem,hme]
      exact frzs_row rfl rfl rfl
     |false=>
      rw[if_neg (by simp),if_neg (by rw[hsh,hme]; simp)]at hinv
      simp -implicitDefEqProofs only[go_sem,hme,Jf,Jt]
      refine ⟨⟨by omega,by omega⟩,Jj,i+1,[0,1,4],⟨by omega,hinv⟩,by omega,rfl,?_,?_⟩
      ·rw[hot,Ka,J7,J6]
       simp only[J5,Gc,Gd,go_sem,Ji,Jg]
       simp[Ja (Jc acc),Jy,ren,Jk,Jf]
      ·simp[forget,Jy,ren,Jk]
  ·have d1:((i:Int) < (t.nodes.length:Int))=False:=Jn
   obtain rfl:i=t.nodes.length:=by omega
   rw[show (Ga t.nodes.length).drop t.nodes.length=[] from Gs (by simp),Xi]at hinv
   have hrs:resV t o=match (Ga t.nodes.length).find? (stN t o) with | some i=>.tup [.agg (rRw t (ofL t o)),.int .i64 (i:Int),.int .i64 9] | none=>.tup [.agg (rRw t (ofL t o)),.int .i64 0,.int .i64 0]:=by unfold resV; rw[hinv]
   rw[hrs,Gv (by rw[XK]; omega)]
   by_cases h0:t.nodes.length=0
   ·have hof:ofL t o=[]:=List.length_eq_zero_iff.1 (by rw[XK]; exact h0)
    have d2:((0:Int) < (t.nodes.length:Int))=False:=Jn
    have hr0:Ga t.nodes.length=[]:=by rw[h0]; rfl
    rw[hof,Qi,QI,X7,hr0,GK]
    simp -implicitDefEqProofs only[go_sem,d1,d2,tRw,Jd]
    refine JA (σ:=Unit) (I:=fun _=>True) (inv:=fun _=>gp [(2,.ptr 1 0 0),(2,.rptr (tRw t)),(56,.int .i64 (t.nodes.length:Int)),(0,.int .i64 0)] 17) (hp:=fun _=>[.dead,.arr 2 [[.rptr (tRw t),.nils]],.dead]) (μ:=fun _=>0) () trivial ?_ rfl ?_
    ·simp[forget,gp,tRw]
    ·intro _ _
     simp -implicitDefEqProofs only[go_sem,d2]
     exact .done (JdP ⟨Jcx ⟨wk.refl _,wk.nils,trivial⟩,wks.refl _⟩)
   ·have hofn:iz (ofL t o)≠[]:=by
     intro e
     have:=congrArg Lv e
     rw[Jf,XK]at this
     exact h0 (by simpa using this)
    have hofl:=XK (t:=t) (o:=o)
    rw[QU hofn,QC hofn,Jf,hofl]
    simp -implicitDefEqProofs only[go_sem,d1,tRw,Jd]
    refine Je (id:=2) (z:=1) (els:=iz (ofL t o)) rfl (Jc _) ?_
    have hft:G9 t.nodes.length (iz (ofL t o))=iz (ofL t o):=Gv (by rw[Jf,hofl]; omega)
    simp only[go_sem,JS,Kb,frz,KI,Gc,Gd,Gf,GM,if_true,Jf,hofl,GR,hft,GX,GV]
    refine Jv (I:=fun i:Nat=>i≤t.nodes.length∧(Ga t.nodes.length).find? (stN t o)=((Ga t.nodes.length).drop i).find? (stN t o)) (inv:=fun i=>gp [(2,.ptr 1 0 0),(2,.rptr (tRw t)),(56,.int .i64 (t.nodes.length:Int)),(0,.int .i64 (i:Int))] 17) (hp:=fun _=>[.dead,.arr 2 [rRw t (ofL t o)],.dead]) (μ:=fun i=>t.nodes.length-i) 0 [0,1,2] ⟨by omega,by rw[Gf]⟩ rfl ?_ ?_ ?_
    ·simp[forget,Jy,ren,Jk,gp,tRw]
    ·simp[J5,Jy,ren,Jk,Jbg,rRw,tRw]
    ·rintro i ⟨hi,hinv⟩
     by_cases hlt:i < t.nodes.length
     ·have d1:((i:Int) < (t.nodes.length:Int))=True:=Jo
      rw[Qa hlt,GJ]at hinv
      simp -implicitDefEqProofs only[go_sem,d1]
      refine JM (YS t hlt) ?_
      cases hk:((nd t i).k == 41) with
      |false=>
       have hst:stN t o i=false:=by unfold stN; rw[hk]; rfl
       rw[hst]at hinv
       simp -implicitDefEqProofs only[go_sem,kbE,hk]
       refine ⟨Jj,i+1,[0,1,2],⟨by omega,hinv⟩,by omega,rfl,?_,?_⟩
       ·simp[J5,Jy,ren,Jk,Jbg,rRw]
       ·simp[forget,Jy,ren,Jk]
      |true=>
       have hst:stN t o i=(bfs (fun x=>KW t o (ofL t o) x.toNat) (Ku t) (KW t o (ofL t o) i) []).contains (i:Int):=by unfold stN; rw[hk,Gi]
       have hA:=(nAll g ht (Jcd (o:=o)) hlt (beq_iff_eq.1 hk)).fn rfl (Jc _)
       have hbl:(bfs (fun x=>KW t o (ofL t o) x.toNat) (Ku t) (KW t o (ofL t o) i) []).length≤100000:=by
        have h1:=bfs_len (N:=fun x=>KW t o (ofL t o) x.toNat) (l:=Ku t) (fun x hx=>(needN_ok x hx).1) (muB (Ku t) (KW t o (ofL t o) i) []+1) (KW t o (ofL t o) i) [] (fun x hx=>(GI.1 hx).1)
        have h2:=YF (l:=Ku t) (out:=[])
        have h3:(Ku t).length=t.nodes.length:=by simp[Ku]
        simp only[Gt]at h1
        show (JdD _ _ _ _).length≤_
        omega
       generalize bfs (fun x=>KW t o (ofL t o) x.toNat) (Ku t) (KW t o (ofL t o) i) []=B at hst hA hbl
       simp -implicitDefEqProofs only[go_sem,kbE,hk,rRw]
       refine JP (gok rfl) hA ?_
       simp -implicitDefEqProofs only[go_sem]
       refine JP (gok rfl) (containsI B (i:Int) hbl) ?_
       cases hc:B.contains (i:Int) with
       |false=>
        rw[hst,hc]at hinv
        simp -implicitDefEqProofs only[go_sem]
        refine ⟨Jj,i+1,[0,1,2],⟨by omega,hinv⟩,by omega,rfl,?_,?_⟩
        ·simp[J5,Jy,ren,Jk,Jbg]
        ·simp[forget,Jy,ren,Jk]
       |true=>
        rw[hst,hc]at hinv
        rw[hinv]
        simp -implicitDefEqProofs only[go_sem]
        exact .done (wk.refl _)
     ·have d1:((i:Int) < (t.nodes.length:Int))=False:=Jn
      rw[show (Ga t.nodes.length).drop i=[] from Gs (by simp; omega),GK]at hinv
      rw[hinv]
      simp -implicitDefEqProofs only[go_sem,d1,rRw]
      exact .done (wk.refl _)
theorem nResolve:Fn Gb 9 [t.cv] (if (QF t o).2=0 then .tup [.agg [.rslc 1 (iz (ofL t o)) none],.int .i64 0,.int .i64 0] else .tup [.agg [.nils],.int .i64 ((QF t o).1:Int),.int .i64 (QF t o).2]):=by
 have hV:=nResolve0 g ht
 refine Jb c9_ok rfl (by split <;> rfl) fun N=>?_
 simp -implicitDefEqProofs only[c9,go_sem,Tr.cv,Tr.row]
 refine JM hV ?_
 unfold QF resV
 cases hs:Xi t o 6 10 (Ga t.nodes.length) with
 |some r=>
  have hr:∀ l:List Nat,Xi t o 6 10 l=some r→r.2=6∨r.2=10:=by
   intro l
   induction l with
   |nil=>intro h; cases h
   |cons x l ih=>
    intro h
    rw[Xi]at h
    split at h
    ·cases h; exact .inl rfl
    ·split at h
     ·cases h; exact .inr rfl
     ·exact ih h
  have h2:=hr _ hs
  have e1:(r.2 != 0)=true:=bne_iff_ne.2 (by omega)
  simp only
  rw[if_neg (by omega)]
  simp -implicitDefEqProofs only[go_sem,e1]
 |none=>
  simp only
  cases hf:(Ga t.nodes.length).find? (stN t o) with
  |some i=>
   simp only
   rw[if_neg (by decide)]
   simp -implicitDefEqProofs only[go_sem,rRw]
  |none=>
   simp only[if_true]
   simp -implicitDefEqProofs only[go_sem,rRw]
end
end
section
def rE (t:Tr) (o:List Int):List CV:=match Xi t o 6 10 (Ga t.nodes.length) with
 |some r=>[.rptr (tRw t),.rslc 1 (iz ((ofL t o).take r.1)) none]
 |none=>rRw t (ofL t o)
theorem resV_eq {t:Tr}{o:List Int}:resV t o=.tup [.agg (rE t o),.int .i64 ((QF t o).1:Int),.int .i64 (QF t o).2]:=by
 unfold resV QF rE
 cases Xi t o 6 10 (Ga t.nodes.length) with
 |some r=>rfl
 |none=>cases (Ga t.nodes.length).find? (stN t o) <;> rfl
theorem rE_ok {t:Tr}{o:List Int}(h:(QF t o).2=0):rE t o=rRw t (ofL t o):=by
 unfold rE
 unfold QF at h
 cases hs:Xi t o 6 10 (Ga t.nodes.length) with
 |some r=>
  rw[hs]at h
  have hr:∀ l:List Nat,Xi t o 6 10 l=some r→r.2=6∨r.2=10:=by
   intro l
   induction l with
   |nil=>intro h; cases h
   |cons x l ih=>
    intro h
    rw[Xi]at h
    split at h
    ·cases h; exact .inl rfl
    ·split at h
     ·cases h; exact .inr rfl
     ·exact ih h
  have:=hr _ hs
  simp only at h
  omega
 |none=>rfl
theorem rE_closed {t:Tr}{o:List Int}:Jr (rE t o)=true:=by unfold rE; split <;> rfl
theorem Je7 {t:Tr}{o:List Int}:∃ l,rE t o=[.rptr (tRw t),.rslc 1 (iz l) none]:=by unfold rE rRw; split <;> exact ⟨_,rfl⟩
theorem nFindE (t:Tr) (ht:t.Fit) (ns:List Int) (h:chk t≠0):Fn Gb 48 [t.cv,.rslc 1 (iz ns) none] (.tup [.agg [.nilp,.nils],.int .i64 (chk t)]):=by
 have e:(chk t != 0)=true:=by simpa using h
 refine Jb c48_ok rfl rfl fun N=>?_
 simp -implicitDefEqProofs only[c48,go_sem,Tr.cv,Tr.row]
 refine JM (nResolveE0 t ht h) ?_
 simp -implicitDefEqProofs only[go_sem,e]
section
variable {t:Tr}{o:List Int}(g:GoodT t o) (ht:t.Fit)
include g ht
theorem nFind (ns:List Int) (hns:ns.length≤100):Fn Gb 48 [t.cv,.rslc 1 (iz ns) none] (.tup [.agg (rE t o),.int .i64 (if (QF t o).2≠0 then (QF t o).2 else if ns.all (inT t)=true then 0 else 7)]):=by
 have hmany:=g.many
 have hV:=nResolve0 g ht
 rw[resV_eq]at hV
 have hil:(iz ns).length=ns.length:=Jf
 obtain ⟨x,hx⟩:=Je7 (t:=t) (o:=o)
 refine Jb c48_ok rfl (by simp[CV.closed,Jr,rE_closed]) fun N=>?_
 rw[hx]at hV ⊢
 simp -implicitDefEqProofs only[c48,go_sem,Tr.cv,Tr.row]
 refine JM hV ?_
 by_cases he:(QF t o).2=0
 ·have e1:((QF t o).2 != 0)=false:=by simp[he]
  rw[if_neg (by simpa using he)]
  simp -implicitDefEqProofs only[go_sem,e1,hil]
  refine Je (id:=2) (z:=2) (els:=[[.rptr (tRw t),.rslc 1 (iz x) none]]) rfl rfl ?_
  simp only[go_sem,JS,Kb,frz,KI,Gc,Gd,Gf]
  refine JA (I:=fun i:Nat=>i≤ns.length∧ns.all (inT t)=(ns.drop i).all (inT t)) (inv:=fun i=>gp [(4,.ptr 1 0 0),(1,.rptr [.rptr (tRw t),.rslc 1 (iz x) none]),(14,.rslc 1 (iz ns) none),(0,.int .i64 (ns.length:Int)),(0,.int .i64 (i:Int))] 19) (hp:=fun _=>[.arr 2 [t.row],.arr 2 [[.nilp,.nils]],.dead]) (μ:=fun i=>ns.length-i) 0 ⟨by omega,by rw[Gf]⟩ ?_ rfl ?_
  ·simp[forget,gp]
  ·rintro i ⟨hi,hinv⟩
   by_cases hlt:i < ns.length
   ·have d1:((i:Int) < (ns.length:Int))=True:=Jo
    have hgi:=JQ hlt
    rw[GH hlt,Hu,show ns[i]=ns.getD i 0 by rw[Gm,Gp hlt]; rfl]at hinv
    generalize ns.getD i 0=y at hinv hgi
    cases hy:inT t y with
    |true=>
     have hr:=XP.1 hy
     rw[hy,Gi]at hinv
     have e2:decide (y < 0)=false:=decide_eq_false (by omega)
     have e3:decide ((t.nodes.length:Int)≤y)=false:=decide_eq_false (by omega)
     simp -implicitDefEqProofs only[go_sem,d1,hil,hgi,e2,e3,tRw,Jd]
     refine ⟨by omega,Jj,i+1,⟨by omega,hinv⟩,by omega,?_⟩
     simp[forget,tRw]
    |false=>
     have hr:¬ (0≤y∧y < t.nodes.length):=fun h=>by rw[XP.2 h]at hy; cases hy
     rw[hy,Gn]at hinv
     rw[hinv]
     by_cases hn:y < 0
     ·have e2:decide (y < 0)=true:=decide_eq_true hn
      simp -implicitDefEqProofs only[go_sem,d1,hil,hgi,e2,if_false,Hd]
      omega
     ·have e2:decide (y < 0)=false:=decide_eq_false hn
      have e3:decide ((t.nodes.length:Int)≤y)=true:=decide_eq_true (by omega)
      simp -implicitDefEqProofs only[go_sem,d1,hil,hgi,e2,e3,tRw,Jd,if_false,Hd]
      omega
   ·have d1:((i:Int) < (ns.length:Int))=False:=Jn
    rw[Gs (by omega),Hw]at hinv
    rw[hinv,if_pos rfl]
    simp -implicitDefEqProofs only[go_sem,d1]
 ·have e1:((QF t o).2 != 0)=true:=by simpa using he
  rw[if_pos he]
  simp -implicitDefEqProofs only[go_sem,e1]
theorem nNeedsF (hE:(QF t o).2=0) (s:Nat) (hs:s < t.nodes.length) (hk:(nd t s).k=41):Fn Gb 14 [t.cv,.int .i64 (s:Int)] (.tup [.rslc 1 (iz (KW t o (ofL t o) s)) none,.int .i64 0]):=by
 have hmany:=g.many
 have hF:=nFind g ht [(s:Int)] (by simp)
 have hin:[(s:Int)].all (inT t)=true:=by simp only[Hu,Hw,H5]; exact XP.2 ⟨by omega,by omega⟩
 rw[if_neg (by simp[hE]),if_pos hin,rE_ok hE]at hF
 refine Jb c14_ok rfl rfl fun N=>?_
 simp -implicitDefEqProofs only[c14,go_sem,Tr.cv,Tr.row]
 refine Je (id:=1) (z:=1) (els:=iz [(s:Int)]) rfl rfl ?_
 simp only[go_sem,JS,Kb,frz,KI,JV,Qi,Gc,Gd,Gg,Gt,Gf,Hm,Ht]
 refine JM hF ?_
 simp -implicitDefEqProofs only[go_sem,rRw]
 refine JM (YS t hs) ?_
 simp -implicitDefEqProofs only[go_sem,kbN,hk]
 refine JM ((nNeeds g ht (Jcd (o:=o)) hs hk).fn rfl (Jc _)) ?_
 simp -implicitDefEqProofs only[go_sem]
end
end
section
section
variable {E:Env}{H:List CObj}
theorem vr_pc {P:Program}{n0:Nat}{N:Fr}{Q:Exit→List CV→List CObj→Prop}{T:List CV}{k:List KItem}{d:Option Nat}{g:Option (Nat×Bool)}{f:Nat}{xa:List IArg}{l:List IOper}{v:CV}(hg:GOk T g) (hcall:Pure P E f (xa.map (J9 T)) H v) (h:Kk P E n0 N Q (.ops l::k) (put T d v) H):Ok P E n0 N Q (.ops (⟨d,.call f xa,g⟩::l)::k) T H:=
 JY hg hcall fun v' H' ⟨h1,h2⟩=>by rw[h1,h2]; exact h
theorem order1 {b r:Nat}{left:List Int}{x:Int}(hb:H[b]? = some (.arr 1 [[K5 r (iz left)]])) (hr:H[r]? = some (Qm 1 (iz left))) (hl:left.length≤100000):Pure Gb E 77 [.int .i64 x,.ptr b 0 0] H (.bool (left.contains x)):=by
 refine J8 c77_ok fun N=>?_
 simp -implicitDefEqProofs only[c77,go_sem,hb]
 refine vr_pc (.inl rfl) (containsO (id:=r) hl hr) ?_
 simp -implicitDefEqProofs only[go_sem]
theorem indexFP {f:Nat}{l1 l2:List CV}{F:IFunc}(l:List Int) (q:Int→Bool) (hF:Jh Gb f=some F)
  (hq:∀ p∈l,Pure Gb E f (l1++[.int .i64 p]++l2) H (.bool (q p))) (hlen:l.length≤1000000):Pure Gb E 81 [.rslc 1 (iz l) none,.fn f l1 l2] H (.int .i64 (QE q l 0)):=by
 have hil:(iz l).length=l.length:=Jf
 refine J8 c81_ok fun N=>?_
 simp -implicitDefEqProofs only[c81,go_sem,hil]
 refine JA (I:=fun i:Nat=>i≤l.length∧QE q l 0=QE q (l.drop i) i) (inv:=fun i=>gp [(0,.rslc 1 (iz l) none),(0,.fn f l1 l2),(5,.int .i64 l.length),(0,.int .i64 i)] 10) (hp:=fun _=>H) (μ:=fun i=>l.length-i) 0 ⟨by omega,rfl⟩ ?_ rfl ?_
 ·simp[forget,gp]
 ·rintro i ⟨hi,hinv⟩
  by_cases hlt:i < l.length
  ·have d1:((i:Int) < (l.length:Int))=True:=Jo
   have hgi:=JQ hlt
   have hge:l[i]? = some (l.getD i 0):=by rw[Gm,Gp hlt]; rfl
   have hm:l.getD i 0∈l:=Hl hge
   rw[Qr hge]at hinv
   simp -implicitDefEqProofs only[go_sem,hil,d1,hgi]
   refine ⟨by omega,?_⟩
   refine JcA (.inl rfl) rfl hF (Jax Jeb _) (hq _ hm) ?_
   cases hb:q (l.getD i 0) with
   |true=>
    rw[hb,if_pos rfl]at hinv
    simp -implicitDefEqProofs only[go_sem,hinv]
   |false=>
    rw[hb]at hinv
    simp -implicitDefEqProofs only[go_sem]
    refine ⟨Jj,i+1,⟨by omega,by simpa using hinv⟩,by omega,?_⟩
    simp[forget]
  ·have d1:((i:Int) < (l.length:Int))=False:=Jn
   rw[Gs (by omega)]at hinv
   simp -implicitDefEqProofs only[go_sem,hil,d1,hinv,QE]
theorem indexFO {f id:Nat}{l1 l2:List CV}{F:IFunc}(l:List Int) (q:Int→Bool) (hF:Jh Gb f=some F) (hH:H[id]? = some (.arr 1 (iz l)))
  (hq:∀ p∈l,Pure Gb E f (l1++[.int .i64 p]++l2) H (.bool (q p))) (hlen:l.length≤1000000):Pure Gb E 81 [.slc id 0 l.length none,.fn f l1 l2] H (.int .i64 (QE q l 0)):=by
 have hil:(iz l).length=l.length:=Jf
 refine J8 c81_ok fun N=>?_
 simp -implicitDefEqProofs only[c81,go_sem]
 refine JA (I:=fun i:Nat=>i≤l.length∧QE q l 0=QE q (l.drop i) i) (inv:=fun i=>gp [(0,.slc id 0 l.length none),(0,.fn f l1 l2),(5,.int .i64 l.length),(0,.int .i64 i)] 10) (hp:=fun _=>H) (μ:=fun i=>l.length-i) 0 ⟨by omega,rfl⟩ ?_ rfl ?_
 ·simp[forget,gp]
 ·rintro i ⟨hi,hinv⟩
  by_cases hlt:i < l.length
  ·have d1:((i:Int) < (l.length:Int))=True:=Jo
   have hgi:=JQ hlt
   have hge:l[i]? = some (l.getD i 0):=by rw[Gm,Gp hlt]; rfl
   have hm:l.getD i 0∈l:=Hl hge
   rw[Qr hge]at hinv
   simp -implicitDefEqProofs only[go_sem,d1,hH,hil,hgi]
   refine ⟨by omega,by omega,?_⟩
   refine JcA (.inl rfl) rfl hF (Jax Jeb _) (hq _ hm) ?_
   cases hb:q (l.getD i 0) with
   |true=>
    rw[hb,if_pos rfl]at hinv
    simp -implicitDefEqProofs only[go_sem,hinv]
   |false=>
    rw[hb]at hinv
    simp -implicitDefEqProofs only[go_sem]
    refine ⟨Jj,i+1,⟨by omega,by simpa using hinv⟩,by omega,?_⟩
    simp[forget]
  ·have d1:((i:Int) < (l.length:Int))=False:=Jn
   rw[Gs (by omega)]at hinv
   simp -implicitDefEqProofs only[go_sem,d1,hinv,QE]
theorem containsFP {f:Nat}{l1 l2:List CV}{F:IFunc}(l:List Int) (q:Int→Bool) (hF:Jh Gb f=some F)
  (hq:∀ p∈l,Pure Gb E f (l1++[.int .i64 p]++l2) H (.bool (q p))) (hlen:l.length≤1000000):Pure Gb E 80 [.rslc 1 (iz l) none,.fn f l1 l2] H (.bool (l.any q)):=by
 refine J8 c80_ok fun N=>?_
 simp -implicitDefEqProofs only[c80,go_sem]
 refine vr_pc (.inl rfl) (indexFP l q hF hq hlen) ?_
 simp -implicitDefEqProofs only[go_sem,Jaz]
end
theorem Jbq {H:List CObj}{id:Nat}{l:List Int}{ys:List CV}(hy:Jr ys=true) (h:H[id]? = some (Qm 1 (iz l))):Frzs (.tup (.rslc 1 (iz l) none::ys)) (.tup (K5 id (iz l)::ys)) H:=by
 cases l with
 |nil=>exact .done (JdP ⟨wk.nils,wks.refl _⟩)
 |cons a l=>
  refine .step id 1 (iz (a::l)) h (Jc _) (.done ?_)
  have e:frz id 1 (iz (a::l)) (K5 id (iz (a::l)))=.rslc 1 (iz (a::l)) none:=by
   rw[JV,QV]
   simp[frz]
  simp only[frz,JS,e,KY ys hy]
  exact wk.refl _
theorem deleteRowT {E:Env}{H:List CObj}{id k:Nat}{l:List Int}(hk:k < l.length) (hH:H[id]? = some (.arr 1 (iz l))):CallsC Gb E 82 [.slc id 0 l.length none,.int .i64 (k:Int),.int .i64 ((k:Int)+1)] H fun v' H'=>v'=.slc id 0 (l.length-1) none∧H'=H.set id (.arr 1 (iz (l.eraseIdx k))):=by
 have h:=deleteRow (E:=E) (cap:=none) hk hH
 rw[show (((k+1:Nat)):Int)=(k:Int)+1 from rfl]at h
 refine h.trunc (id:=0) (z:=0) (j:=0) (els:=[]) (v:=.un) fun v H' ⟨h1,h2⟩=>.inr ⟨id,1,iz (l.take k++l.drop (k+1)++[0]),l.length-1,by rw[h2,H9 (H8.1 hH).1],h1,?_⟩
 rw[h2,List.set_set,List.eraseIdx_eq_take_drop_succ]
 congr 2
 unfold iz
 rw[← List.map_take,Ll (by simp; omega)]
def JdL (N:Int→List Int) (left:List Int) (s:Int):Bool:=!(N s).any fun y=>left.contains y
def ordG (N:Int→List Int):Nat→List Int→List Int
 |0,_=>[]
 |f+1,left=>if left=[] then [] else left.getD (QE (JdL N left) left 0).toNat 0::ordG N f (left.eraseIdx (QE (JdL N left) left 0).toNat)
def ordL (t:Tr) (o of:List Int) (b:Nat):List Int:=ordG (fun x=>KW t o of x.toNat) (Qq t b 41).length (Qq t b 41)
section
variable {t:Tr}{o:List Int}(g:GoodT t o) (ht:t.Fit)
include g ht
theorem order2 {E:Env}{H:List CObj}{of:List Int}(ho:OfOk t of) {b c r:Nat}{left:List Int}{s:Nat}(hs:s < t.nodes.length) (hk:(nd t s).k=41) (hc:H[c]? = some (.arr 1 [[.fn 77 [] [.ptr b 0 0]]])) (hb:H[b]? = some (.arr 1 [[K5 r (iz left)]])) (hr:H[r]? = some (Qm 1 (iz left))) (hl:left.length≤100000):Pure Gb E 79 [.int .i64 (s:Int),.rptr (rRw t of),.ptr c 0 0] H (.bool (JdL (fun x=>KW t o of x.toNat) left (s:Int))):=by
 have hmany:=g.many
 have hN:=(nNeeds g ht ho hs hk).fn rfl (Jc _)
 have hnl:(KW t o of s).length≤1000000:=by
  have h1:(KW t o of s).length≤(Ku t).length:=Gw _ _
  have h2:(Ku t).length=t.nodes.length:=by simp[Ku]
  omega
 have hF:JdL (fun x=>KW t o of x.toNat) left (s:Int) = !(KW t o of s).any fun y=>left.contains y:=by unfold JdL; simp only[Gh]
 rw[hF]
 generalize KW t o of s=M at hN hnl
 refine J8 c79_ok fun N=>?_
 simp -implicitDefEqProofs only[c79,go_sem]
 refine XA [false,false,false,true,true,false,false] Jz (by decide +kernel) ?_
 simp -implicitDefEqProofs only[go_sem,rRw]
 refine vh_f hN ?_
 simp -implicitDefEqProofs only[go_sem,hc]
 refine ⟨_,_,Jfj (.inl rfl) (containsFP M (fun y=>left.contains y) c77_ok (fun p _=>order1 hb hr hl) hnl),?_⟩
 simp -implicitDefEqProofs only[go_sem]
omit g ht in
theorem res_st (hE:(QF t o).2=0) {i:Nat}(hi:i < t.nodes.length):stN t o i=false:=by
 unfold QF at hE
 cases hs:Xi t o 6 10 (Ga t.nodes.length) with
 |some r=>
  have h1:=rE_ok (t:=t) (o:=o) (by unfold QF; exact hE)
  rw[hs]at hE
  unfold rE rRw at h1
  rw[hs]at h1
  simp only[List.cons.injEq,CV.rslc.injEq,true_and,and_true]at h1
  have hr:∀ l:List Nat,Xi t o 6 10 l=some r→r.2=6∨r.2=10:=by
   intro l
   induction l with
   |nil=>intro h; cases h
   |cons x l ih=>
    intro h
    rw[Xi]at h
    split at h
    ·cases h; exact .inl rfl
    ·split at h
     ·cases h; exact .inr rfl
     ·exact ih h
  have:=hr _ hs
  simp only at hE
  omega
 |none=>
  rw[hs]at hE
  simp only at hE
  cases hf:(Ga t.nodes.length).find? (stN t o) with
  |some k=>rw[hf]at hE; simp only at hE; omega
  |none=>
   have:=Lc.1 hf i (Lt.2 hi)
   simpa using this
omit ht in
theorem order_free (hE:(QF t o).2=0) {left:List Int}(hl:∀ x∈left,0≤x∧x < t.nodes.length∧(nd t x.toNat).k=41) (hne:left≠[]):∃ k,QE (JdL (fun x=>KW t o (ofL t o) x.toNat) left) left 0=((k:Nat):Int)∧k < left.length:=by
 generalize hN:(fun x:Int=>KW t o (ofL t o) x.toNat)=Nf
 have hset:∀ x,∀ y∈Nf x,0≤y∧y < t.nodes.length∧(nd t y.toNat).k=41:=fun x y hy=>by rw[← hN]at hy; exact Jbn g hy
 have hmem:∀ x,x∈(Ku t).filter (fun x=>(nd t x.toNat).k == 41)↔0≤x∧x < t.nodes.length∧(nd t x.toNat).k=41:=fun x=>by
  rw[GI,K7,beq_iff_eq]; exact ⟨fun ⟨⟨a,b⟩,c⟩=>⟨a,b,c⟩,fun ⟨a,b,c⟩=>⟨⟨a,b⟩,c⟩⟩
 have hNl:∀ x∈(Ku t).filter (fun x=>(nd t x.toNat).k == 41),(∀ y∈Nf x,y∈(Ku t).filter (fun x=>(nd t x.toNat).k == 41))∧(Nf x).length≤((Ku t).filter (fun x=>(nd t x.toNat).k == 41)).length:=by
  intro x _
  refine ⟨fun y hy=>(hmem y).2 (hset x y hy),?_⟩
  have hsub:Nf x=((Ku t).filter fun x=>(nd t x.toNat).k == 41).filter fun y=>(Nf x).contains y:=by
   rw[List.filter_filter]
   have:Nf x=(Ku t).filter fun y=>(Nf x).contains y:=by
    refine Jdy (by rw[← hN]; exact JaH.filter _) (JaH.filter _) fun y=>?_
    rw[GI,K7,G6]
    exact ⟨fun h=>⟨⟨(hset x y h).1,(hset x y h).2.1⟩,h⟩,fun h=>h.2⟩
   conv=>lhs; rw[this]
   refine List.filter_congr fun y _=>?_
   cases hc:(Nf x).contains y with
   |false=>rw[Gn]
   |true=>
    have:=(hset x y (G6.1 hc)).2.2
    rw[Gi,this]; rfl
  rw[hsub]
  exact Gw _ _
 have hno:∀ x∈(Ku t).filter (fun x=>(nd t x.toNat).k == 41),x∉bfs Nf ((Ku t).filter (fun x=>(nd t x.toNat).k == 41)) (Nf x) []:=by
  intro x hx hin
  have hb:=(hmem x).1 hx
  obtain ⟨xn,rfl⟩:∃ x':Nat,x=x':=⟨x.toNat,by omega⟩
  have hst:=res_st hE (i:=xn) (by omega)
  have hk:=hb.2.2
  rw[Gh]at hk
  unfold stN at hst
  rw[hN,show KW t o (ofL t o) xn=Nf (xn:Int) by rw[← hN]; simp only[Gh],hk]at hst
  have hf:bfs Nf (Ku t) (Nf (xn:Int)) []=bfs Nf ((Ku t).filter (fun x=>(nd t x.toNat).k == 41)) (Nf (xn:Int)) []:=by
   refine JbD hNl _ _ _ _ (hNl _ hx).1 ?_ (Nat.lt_succ_self _)
   have a1:∀ l:List Int,QN l []=l.length:=by
    intro l
    induction l with
    |nil=>rfl
    |cons y l ih=>rw[QN,ih]; simp; omega
   have a2:=Gw (fun x=>(nd t x.toNat).k == 41) (Ku t)
   unfold muB
   rw[a1,a1]
   have:=Hy a2 (Nat.add_le_add_right a2 1)
   omega
  rw[hf]at hst
  rw[G6.2 hin]at hst
  simp at hst
 obtain ⟨x,hx,hfr⟩:=free_one hNl hno (left:=left) (fun x hx=>(hmem x).2 (hl x hx)) hne
 have hfx:JdL Nf left x=true:=by
  unfold JdL
  rw[Bool.not_eq_true',Lg]
  intro y hy
  simpa using hfr y hy
 rcases Jbv (q:=JdL Nf left) left 0 with ⟨h1,h2⟩ | ⟨j,h1,h2,_⟩
 ·have:=Lc.1 h2 x hx
  exact absurd hfx this
 ·exact ⟨j,by rw[h2,GM],h1⟩
theorem nOrderF (hE:(QF t o).2=0) {b:Nat}(hb:b < t.nodes.length) (hk:(nd t b).k=40∨(nd t b).k=28):Fn Gb 35 [t.cv,.int .i64 (b:Int)] (.tup [.rslc 1 (iz (ordL t o (ofL t o) b)) none,.int .i64 0]):=by
 have hmany:=g.many
 have hF:=nFind g ht [(b:Int)] (by simp)
 have hin:[(b:Int)].all (inT t)=true:=by simp only[Hu,Hw,H5]; exact XP.2 ⟨by omega,by omega⟩
 rw[if_neg (by simp[hE]),if_pos hin,rE_ok hE]at hF
 have hKl:=X8 ht (x:=(b:Int)) (k:=41)
 rw[Gh]at hKl
 have hKm:∀ x∈Qq t b 41,0≤x∧x < t.nodes.length∧(nd t x.toNat).k=41:=fun x hx=>by
  have h1:=Jc6 g hb hx
  have h2:=(KN.1 hx).2
  exact ⟨h1.1,h1.2,h2⟩
 unfold ordL
 have hRow:=Jeh g ht hb 41
 refine QR ?_ rfl rfl
 refine J8 c35_ok fun N=>?_
 simp -implicitDefEqProofs only[c35,go_sem,Tr.cv,Tr.row]
 refine Je (id:=1) (z:=1) (els:=iz [(b:Int)]) rfl rfl ?_
 simp only[go_sem,JS,Kb,frz,KI,JV,Qi,Gc,Gd,Gg,Gt,Gf,Hm,Ht]
 refine JM hF ?_
 simp -implicitDefEqProofs only[go_sem,rRw]
 refine JM (YS t hb) ?_
 generalize hN:(fun x:Int=>KW t o (ofL t o) x.toNat)=Nf
 generalize Qq t b 41=K at hKl hKm hRow
 by_cases hK0:K=[]
 ·subst hK0
  have hRf:=hRow.fn rfl (Jc _)
  rcases hk with hk | hk <;> simp -implicitDefEqProofs only[go_sem,kbN,hk]
  case' inr=>
   refine JP (gok rfl) (YS t hb) ?_
   simp -implicitDefEqProofs only[go_sem,kbN,hk]
  all_goals
   refine JM hRf ?_
   simp -implicitDefEqProofs only[go_sem,Qi]
   refine JA (σ:=Unit) (I:=fun _=>True) (inv:=fun _=>gp [(4,.nils),(1,.ptr 2 0 0),(0,.ptr 3 0 0)] 52) (hp:=fun _=>[.arr 2 [t.row],.dead,.arr 2 [rRw t (ofL t o)],.arr 1 [[.rslc 1 [] none]]]) (μ:=fun _=>0) () trivial ?_ rfl ?_
   ·simp[forget,gp]
   ·intro _ _
    have d1:((0:Int) < 0)=False:=Jn
    have d2:((0:Int) > 0)=False:=Jn
    simp -implicitDefEqProofs only[go_sem,d1,d2]
    exact .done (JdP ⟨wk.nils,wks.refl _⟩)
 have hRow':∀ E H,CallsC Gb E 76 [.rptr (tRw t),.int .i64 (b:Int),.int .u8 (41:Int)] H fun v H'=>v=.slc H.length 0 K.length none∧H'=H++[.arr 1 (iz K)]:=fun E H=>by
  have h:=hRow E H
  rw[QU (by simpa [iz]using hK0),Jf,QC (by simpa [iz]using hK0)]at h
  exact h
 rcases hk with hk | hk <;> simp -implicitDefEqProofs only[go_sem,kbN,hk]
 case' inr=>
  refine JP (gok rfl) (YS t hb) ?_
  simp -implicitDefEqProofs only[go_sem,kbN,hk]
 all_goals
  refine JY (.inl rfl) (hRow' _ _) fun v' H' ⟨h1,h2⟩=>?_
  subst h1 h2
  simp -implicitDefEqProofs only[go_sem]
  refine Je (id:=2) (z:=2) (els:=[rRw t (ofL t o)]) rfl rfl ?_
  simp only[go_sem,JS,Kb,frz,KI,Gc,Gd,Gf,KG (Jc K)]
  refine Xh ?_
  simp only[go_sem,GY,GA]
  refine Jv (σ:=List Int×List Int×CV×CObj) (I:=fun s=>(∀ x∈s.1,0≤x∧x < t.nodes.length∧(nd t x.toNat).k=41)∧s.1.length+s.2.1.length≤30∧ordG Nf K.length K=s.2.1++ordG Nf s.1.length s.1∧((s.1≠[]∧s.2.2.1=.slc 3 0 s.1.length none∧s.2.2.2=.arr 1 (iz s.1))∨(s.1=[]∧((s.2.2.1=.nils∧s.2.2.2=.dead)∨(s.2.2.1=.slc 3 0 0 none∧s.2.2.2=.arr 1 []))))) (inv:=fun s=>gp [(4,K5 5 (iz s.2.1)),(1,.rptr (rRw t (ofL t o))),(0,.ptr 4 0 0)] 52) (hp:=fun s=>[.arr 2 [t.row],.dead,.dead,s.2.2.2,.arr 1 [[s.2.2.1]],Qm 1 (iz s.2.1)]) (μ:=fun s=>s.1.length) (K,[],.slc 3 0 K.length none,.arr 1 (iz K)) [0,1,2,3,4,5] ⟨hKm,by simpa using hKl,by simp,?_⟩ rfl ?_ ?_ ?_
  ·exact .inl ⟨hK0,rfl,rfl⟩
  ·simp[forget,Jy,ren,Jk,gp,rRw,QI,Qi]
  ·simp only[J5,Gc,Gd,go_sem,Ji,Jg,Ja (Jc K),Qi,X7]
   simp[Jy,ren,Jk,Tr.row]
  ·rintro ⟨left,out,v,ob⟩ ⟨hm,hlen,hord,hv⟩
   dsimp only at hm hlen hord hv
   rcases hv with ⟨hne,rfl,rfl⟩ | ⟨rfl,hv⟩
   ·have hlp:=List.length_pos_iff.2 hne
    have d1:((0:Int) < (left.length:Int))=True:=Jo
    have d2:((left.length:Int) > 0)=True:=Jo
    obtain ⟨k,hk1,hk2⟩:=order_free g hE hm hne
    rw[hN]at hk1
    have hgk:=JQ hk2
    have hil:(iz left).length=left.length:=Jf
    have hrv:K5 3 (iz left)=.slc 3 0 left.length none:=by rw[QU (by simpa [iz]using hne),Jf]
    have hro:Qm 1 (iz left)=.arr 1 (iz left):=QC (by simpa [iz]using hne)
    have hog:ordG Nf left.length left=left.getD k 0::ordG Nf (left.eraseIdx k).length (left.eraseIdx k):=by
     rw[H7 hk2]
     obtain ⟨m,hm⟩:∃ m,left.length=m+1:=⟨left.length-1,by omega⟩
     rw[hm,ordG,if_neg hne,hk1,Gh]; rfl
    have hel:=H7 hk2
    simp -implicitDefEqProofs only[go_sem,d1,d2]
    refine vr_pc (.inl rfl) (indexFO (id:=3) left (JdL Nf left) c79_ok rfl (fun p hp=>?_) (by omega)) ?_
    ·have hb:=hm p hp
     obtain ⟨p,rfl⟩:∃ p':Nat,p=p':=⟨p.toNat,by omega⟩
     have hk4:=hb.2.2
     rw[Gh]at hk4
     rw[← hN]
     exact order2 g ht (Jcd (o:=o)) (b:=4) (c:=6) (r:=3) (by omega) hk4 rfl (by rw[hrv]; rfl) (by rw[hro]; rfl) (by omega)
    ·simp -implicitDefEqProofs only[go_sem,hk1,hil,hgk,Jf,Jt]
     refine ⟨by omega,by omega,⟨by omega,by omega⟩,Jj,?_⟩
     refine JY (.inl rfl) (deleteRowT (id:=3) (k:=k) hk2 rfl) fun v' H' ⟨h1,h2⟩=>?_
     subst h1 h2
     simp -implicitDefEqProofs only[go_sem]
     refine ⟨(left.eraseIdx k,out++[left.getD k 0],.slc 3 0 (left.length-1) none,.arr 1 (iz (left.eraseIdx k))),[0,1,2,3,4,8],⟨fun x hx=>hm x (List.mem_of_mem_eraseIdx hx),by simp only[Gx,Gg,Gt]; omega,by rw[hord,hog]; simp,?_⟩,by simp only; omega,rfl,?_,?_⟩
     ·by_cases h0:left.eraseIdx k=[]
      ·refine .inr ⟨h0,.inr ⟨?_,by rw[h0]; rfl⟩⟩
       rw[h0]at hel
       rw[← hel]; rfl
      ·exact .inl ⟨h0,by rw[hel],rfl⟩
     ·rw[Ka,J7]
      simp only[J5,Gc,Gd,go_sem,Ji,Jg,Ja (Jc _)]
      simp[Jy,ren,Jk,Tr.row,Ja (Jc out)]
     ·rw[Ka,J6]
      simp[forget,Jy,ren,Jk,Jf,rRw]
   ·have d1:((0:Int) < 0)=False:=Jn
    have d2:((0:Int) > 0)=False:=Jn
    rw[show ordG Nf ([]:List Int).length []=[] from rfl,Gq]at hord
    rw[hord]
    rcases hv with ⟨rfl,rfl⟩ | ⟨rfl,rfl⟩
    ·simp -implicitDefEqProofs only[go_sem,d1,d2]
     exact Jbq rfl rfl
    ·simp -implicitDefEqProofs only[go_sem,d1,d2,Int.ofNat_zero]
     exact Jbq rfl rfl
end
end
section
def bb (l:List Bool):List (List CV):=l.map fun b=>[.bool b]
theorem YQ {l:List Bool}:(bb l).length=l.length:=by simp[bb]
theorem Jdw {l:List Bool}{i:Nat}(h:i < l.length):(bb l).getD i []=[.bool (l.getD i false)]:=by
 simp[bb,Gm,Gp h]
theorem JW:∀ (l:List Bool),Jw (bb l)=true
 |[]=>rfl
 |x::l=>by simp[bb,Jw,Jr,CV.closed]; exact JW l
theorem JeC {l:List Bool}{i:Nat}{b:Bool}:(bb l).set i [.bool b]=bb (l.set i b):=by simp[bb,Lu]
theorem bb_rep {n:Nat}:GZ n [CV.bool false]=bb (GZ n false):=by simp[bb]
def Jch (l:List Bool) (i:Nat):List Int:=((Ga i).filter fun j=>l.getD j false).map fun j:Nat=>(j:Int)
theorem setTo_succ {l:List Bool}{i:Nat}:Jch l (i+1)=Jch l i++if l.getD i false=true then [(i:Int)] else []:=by
 unfold Jch
 rw[Hq,Ld,Lm,Li,Lr]
 split <;> rfl
theorem setTo_len {l:List Bool}{i:Nat}:(Jch l i).length≤i:=by
 unfold Jch
 rw[Lp]
 exact GN (Gw _ _) (by simp)
theorem refSet (l:List Bool) (hl:l.length≤100000):JaT Gb 52 [.rslc 1 (bb l) none] 1 (iz (setL l)):=by
 have hbl:(bb l).length=l.length:=YQ
 refine Yu (J8 c52_ok fun N=>?_) rfl (Jc _)
 simp -implicitDefEqProofs only[c52,go_sem]
 refine Jv (I:=fun i:Nat=>i≤l.length) (inv:=fun i=>gp [(0,.rslc 1 (bb l) none),(2,.slc 0 0 (iz (Jch l i)).length (JeB (iz (Jch l i)))),(0,.int .i64 (i:Int))] 16) (hp:=fun i=>[.arr 1 (iz (Jch l i))]) (μ:=fun i=>l.length-i) 0 [0] (by omega) rfl ?_ ?_ ?_
 ·simp[forget,Jy,ren,Jk,gp,Jch,iz,JeB]
 ·simp[J5,Jbg,Jch,iz]
 ·intro i hi
  by_cases hlt:i < l.length
  ·have d1:((i:Int) < (l.length:Int))=True:=Jo
   have hgi:=Jdw hlt
   have hst:=setTo_succ (l:=l) (i:=i)
   have hsl:=setTo_len (l:=l) (i:=i)
   have hcl:=Ja (ρ:=[0]) (Jc (Jch l i))
   have hcl2:=Ja (ρ:=[2]) (Jc (Jch l i))
   cases hb:l.getD i false with
   |false=>
    rw[hb,if_neg (by simp),Gq]at hst
    rw[hb]at hgi
    simp -implicitDefEqProofs only[go_sem,hbl,d1,hgi]
    refine ⟨by omega,Jj,i+1,[0],by omega,by omega,rfl,?_,?_⟩
    ·rw[hst]; simp only[J5,Gc,Gd,go_sem,Ji,hcl]
    ·rw[hst]; simp[forget,Jy,ren,Jk]
   |true=>
    rw[hb,if_pos rfl]at hst
    rw[hb]at hgi
    simp -implicitDefEqProofs only[go_sem,hbl,d1,hgi,Jt,Jf]
    refine ⟨by omega,⟨by omega,by omega⟩,Jj,i+1,[2],by omega,by omega,rfl,?_,?_⟩
    ·rw[hst,Ka]
     simp only[J5,Gc,Gd,go_sem,Ji]
     simp[hcl2,Jy,ren]
    ·rw[hst,Ka,JaB]
     simp[forget,Jy,ren,Jk,Jf]
  ·have d1:((i:Int) < (l.length:Int))=False:=Jn
   obtain rfl:i=l.length:=by omega
   simp -implicitDefEqProofs only[go_sem,hbl,d1]
   exact ⟨0,rfl,rfl⟩
theorem refHas3 (l:List Int) (x:Int) (hl:l.length≤100000):Fn Gb 31 [.rslc 1 (iz l) none,.int .i64 x] (.bool (l.contains x)):=by
 have hil:(iz l).length=l.length:=Jf
 refine Jb c31_ok rfl rfl fun N=>?_
 simp -implicitDefEqProofs only[c31,go_sem]
 refine JA (I:=fun i:Nat=>i≤l.length∧l.contains x=(l.drop i).contains x) (inv:=fun i=>gp [(0,.rslc 1 (iz l) none),(0,.int .i64 x),(3,.int .i64 (i:Int))] 12) (hp:=fun _=>[]) (μ:=fun i=>l.length-i) 0 ⟨by omega,rfl⟩ ?_ rfl ?_
 ·simp[forget,gp]
 ·rintro i ⟨hi,hinv⟩
  by_cases hlt:i < l.length
  ·have d1:((i:Int) < (l.length:Int))=True:=Jo
   have hgi:=JQ hlt
   rw[GH hlt,Le,show l[i]=l.getD i 0 by rw[Gm,Gp hlt]; rfl]at hinv
   generalize l.getD i 0=y at hinv hgi
   have hc:(x == y)=(y == x):=by rw[HZ,beq_iff_eq,beq_iff_eq]; exact ⟨Eq.symm,Eq.symm⟩
   rw[hc]at hinv
   cases he:(y == x) with
   |true=>
    rw[he,Gu]at hinv
    simp -implicitDefEqProofs only[go_sem,hil,d1,hgi,he,hinv]
    omega
   |false=>
    rw[he,Gr]at hinv
    simp -implicitDefEqProofs only[go_sem,hil,d1,hgi,he]
    refine ⟨by omega,Jj,i+1,⟨by omega,hinv⟩,by omega,?_⟩
    simp[forget]
  ·have d1:((i:Int) < (l.length:Int))=False:=Jn
   rw[show l.drop i=[] from Gs (by omega),Lf]at hinv
   simp -implicitDefEqProofs only[go_sem,hil,d1,hinv]
section
variable {t:Tr}{o:List Int}(g:GoodT t o) (ht:t.Fit)
include g ht
theorem refNeeds {of:List Int}(ho:OfOk t of) {s:Nat}(hs:s < t.nodes.length) (hk:(nd t s).k=41):JaT Gb 108 [t.cv,.rslc 1 (iz of) none,.int .i64 (s:Int)] 1 (iz (XZ t o of s)):=by
 have hmany:=g.many
 have hol:(iz of).length=t.nodes.length:=by rw[Jf,ho.len]
 have hsk:=set_kid g hs hk
 have htl:JI t s < t.nodes.length:=by have:=(KF g hs hsk.1).2; omega
 rw[needR_eq]
 refine Yu (J8 c108_ok fun N=>?_) rfl (Jc _)
 simp -implicitDefEqProofs only[c108,go_sem,Tr.cv,Tr.row]
 refine Je (id:=0) (z:=2) (els:=[t.row]) rfl rfl ?_
 simp only[go_sem,JS,Kb,frz,KI,Gc,Gd]
 refine XA [false,false,false,true,false,false,false,false,false] Jz (by decide +kernel) ?_
 simp -implicitDefEqProofs only[go_sem,Tr.row,Jd]
 refine ⟨⟨by omega,GL _,by omega,by omega⟩,?_⟩
 refine vh_f (JaO g ht hs) ?_
 simp -implicitDefEqProofs only[go_sem,Tr.row,Jd]
 rw[bb_rep,← Yb]
 have hany:∀ (i:Nat) (p:Nat→Bool),(Ga (i+1)).any p=((Ga i).any p || p i):=fun i p=>by
  rw[Hq,Ls,Gz,GD,GQ]
 refine Jv (I:=fun i:Nat=>i≤t.nodes.length) (inv:=fun i=>gp [(1,.rslc 1 (iz of) none),(0,.int .i64 (s:Int)),(0,.rptr t.row),(3,.slc 1 0 t.nodes.length (some t.nodes.length)),(0,.int .i64 (Kg t s)),(0,.int .i64 (i:Int))] 73) (hp:=fun i=>[.dead,.arr 1 (bb (JN t.nodes.length fun x=>(Ga i).any (JaK t o of s x)))]) (μ:=fun i=>t.nodes.length-i) 0 [0,1] (by omega) rfl ?_ ?_ ?_
 ·simp[forget,Jy,ren,Jk,gp,Tr.row]
 ·simp only[J5,Gc,Gd,go_sem,Ji,Jg,Ja (JW _)]
  rfl
 ·intro i hi
  have hcl:=Ja (ρ:=[0,1]) (JW (JN t.nodes.length fun x=>(Ga i).any (JaK t o of s x)))
  by_cases hlt:i < t.nodes.length
  ·have d1:((i:Int) < (t.nodes.length:Int))=True:=Jo
   have hgi:=JQ (l:=of) (i:=i) (by rw[ho.len]; exact hlt)
   have hgn:=Kh hlt
   have hrg:=ho.rng i (by rw[ho.len]; exact hlt)
   have hdf:=ho.dft (i:=i) (by rw[ho.len]; exact hlt)
   have hQ:∀ x,JaK t o of s x i=((nd t i).k == 3 && (decide (0≤of.getD i 0) && (XF o i (JI t s) && ((nd t (of.getD i 0).toNat).k == 42 && (Kg t (of.getD i 0).toNat == x && (Kg t x.toNat == Kg t s && !tdL t (upL t (JI t s) t.nodes.length i).reverse false)))))):=fun x=>by unfold JaK; rw[hdf]
   have hno:(∀ x,JaK t o of s x i=false)→(JN t.nodes.length fun x=>(Ga (i+1)).any (JaK t o of s x))=JN t.nodes.length fun x=>(Ga i).any (JaK t o of s x):=fun h=>Yc fun j hj=>by rw[hany,h,GQ]
   generalize of.getD i 0=m at hgi hrg hQ
   simp -implicitDefEqProofs only[go_sem,d1,Tr.row,Jd]
   refine JK Jz (by decide) ?_
   cases h3:((nd t i).k == 3) with
   |false=>
    have hnil:=hno fun x=>by rw[hQ,h3,Gn]
    simp -implicitDefEqProofs only[go_sem,Jd,hgn,Nd.cv,kbN,h3,Gl]
    refine ⟨by omega,Jj,i+1,[0,1],by omega,by omega,rfl,?_,?_⟩
    ·rw[hnil]; simp only[J5,Gc,Gd,go_sem,Ji,hcl,Jg]
    ·simp[forget,Jy,ren,Jk,Tr.row]
   |true=>
    rcases Lx m 0 with hm0 | hm0
    ·have e1:decide (m < 0)=true:=decide_eq_true hm0
     have hnil:=hno fun x=>by rw[hQ,decide_eq_false (by omega),Gn,GG]
     simp -implicitDefEqProofs only[go_sem,Jd,hgn,Nd.cv,kbN,h3,Gj,hol,hgi,e1]
     refine ⟨by omega,by omega,Jj,i+1,[0,1],by omega,by omega,rfl,?_,?_⟩
     ·rw[hnil]; simp only[J5,Gc,Gd,go_sem,Ji,hcl,Jg]
     ·simp[forget,Jy,ren,Jk,Tr.row]
    ·have e1:decide (m < 0)=false:=decide_eq_false (by omega)
     obtain ⟨m,rfl⟩:∃ m':Nat,m=m':=⟨m.toNat,by omega⟩
     have hmn:m < t.nodes.length:=by omega
     have hgm:=Kh hmn
     simp -implicitDefEqProofs only[go_sem,Jd,hgn,Nd.cv,kbN,h3,Gj,hol,hgi,e1]
     refine ⟨by omega,by omega,?_⟩
     refine JO (gok rfl) (JaZ g ht hs hsk.2) ?_
     simp -implicitDefEqProofs only[go_sem]
     refine JO (gok rfl) (QG g ht htl) ?_
     cases hb:XF o i (JI t s) with
     |false=>
      have hnil:=hno fun x=>by rw[hQ,hb,Gn,GG,GG]
      simp -implicitDefEqProofs only[go_sem,Gl]
      refine ⟨Jj,i+1,[0,1],by omega,by omega,rfl,?_,?_⟩
      ·rw[hnil]; simp only[J5,Gc,Gd,go_sem,Ji,hcl,Jg]
      ·simp[forget,Jy,ren,Jk,Tr.row]
     |true=>
      cases h42:((nd t m).k == 42) with
      |false=>
       have hnil:=hno fun x=>by rw[hQ,Gh,h42,Gn,GG,GG,GG]
       simp -implicitDefEqProofs only[go_sem,Gj,Jd,hol,hgi,hgm,Nd.cv,kbN,h42,Gl]
       refine ⟨by omega,by omega,Jj,i+1,[0,1],by omega,by omega,rfl,?_,?_⟩
       ·rw[hnil]; simp only[J5,Gc,Gd,go_sem,Ji,hcl,Jg]
       ·simp[forget,Jy,ren,Jk,Tr.row]
      |true=>
       have k42:(nd t m).k=42:=beq_iff_eq.1 h42
       obtain ⟨v,hv1,hv2,_,_⟩:=Xt g hmn (by omega)
       have hPm:=JaO g ht hmn
       rw[hv1]at hPm
       have hQ2:∀ x,JaK t o of s x i=(((v:Int) == x) && (Kg t x.toNat == Kg t s && !tdL t (upL t (JI t s) t.nodes.length i).reverse false)):=fun x=>by
        rw[hQ,h3,hb,Gh,h42,hv1,decide_eq_true (by omega)]; rfl
       simp -implicitDefEqProofs only[go_sem,Gj,Jd,hol,hgi,hgm,Nd.cv,kbN,h42]
       refine ⟨by omega,by omega,?_⟩
       refine JK Jz (by decide) ?_
       simp -implicitDefEqProofs only[go_sem,hol,hgi,Tr.row]
       refine ⟨by omega,?_⟩
       refine JO (.inl rfl) hPm ?_
       simp -implicitDefEqProofs only[go_sem,Tr.row]
       refine JM (JaO g ht hv2) ?_
       cases hpp:(Kg t v == Kg t s) with
       |false=>
        have hnil:=hno fun x=>by
         rw[hQ2]
         cases hx:((v:Int) == x) with
         |false=>rfl
         |true=>
          have:=beq_iff_eq.1 hx
          rw[← this,Gh,hpp]; rfl
        simp -implicitDefEqProofs only[go_sem,hpp]
        refine ⟨Jj,i+1,[0,1],by omega,by omega,rfl,?_,?_⟩
        ·rw[hnil]; simp only[J5,Gc,Gd,go_sem,Ji,hcl,Jg]
        ·simp[forget,Jy,ren,Jk,Tr.row]
       |true=>
        simp -implicitDefEqProofs only[go_sem,hpp,Tr.row]
        refine JP (gok rfl) (refLate g ht hs hk (Kj.1 hb)) ?_
        cases hl:tdL t (upL t (JI t s) t.nodes.length i).reverse false with
        |true=>
         have hnil:=hno fun x=>by rw[hQ2,hl]; simp
         simp -implicitDefEqProofs only[go_sem,Gj]
         refine ⟨Jj,i+1,[0,1],by omega,by omega,rfl,?_,?_⟩
         ·rw[hnil]; simp only[J5,Gc,Gd,go_sem,Ji,hcl,Jg]
         ·simp[forget,Jy,ren,Jk,Tr.row]
        |false=>
         have hset:(JN t.nodes.length fun x=>(Ga i).any (JaK t o of s x)).set v true=JN t.nodes.length fun x=>(Ga (i+1)).any (JaK t o of s x):=by
          refine JbZ hv2 (fun j hj hne=>?_) ?_
          ·rw[hany,hQ2,beq_eq_false_iff_ne.2 (show (v:Int)≠(j:Int) by omega),Gn,GQ]
          ·rw[hany,hQ2,Gh,hpp,hl]; simp
         have hbl:(bb (JN t.nodes.length fun x=>(Ga i).any (JaK t o of s x))).length=t.nodes.length:=by rw[YQ,J4]
         have hbg:=Jdw (l:=JN t.nodes.length fun x=>(Ga i).any (JaK t o of s x)) (i:=v) (by rw[J4]; exact hv2)
         simp -implicitDefEqProofs only[go_sem,Gl,hbl,hbg,Gg,Gt,GU,Gf,JeC,hset]
         refine ⟨by omega,by omega,Jj,i+1,[0,1],by omega,by omega,rfl,?_,?_⟩
         ·simp only[J5,Gc,Gd,go_sem,Ji,Ja (JW _),Jg]
         ·simp[forget,Jy,ren,Jk,Tr.row]
  ·have d1:((i:Int) < (t.nodes.length:Int))=False:=Jn
   obtain rfl:i=t.nodes.length:=by omega
   have hbl:(bb (JN t.nodes.length fun x=>(Ga t.nodes.length).any (JaK t o of s x))).length=t.nodes.length:=by rw[YQ,J4]
   simp -implicitDefEqProofs only[go_sem,d1,Tr.row,Jd]
   refine Je (id:=1) (z:=1) (els:=bb (JN t.nodes.length fun x=>(Ga t.nodes.length).any (JaK t o of s x))) rfl (JW _) ?_
   have hft:=Gv (l:=bb (JN t.nodes.length fun x=>(Ga t.nodes.length).any (JaK t o of s x))) (i:=t.nodes.length) (by rw[hbl]; omega)
   simp only[go_sem,JS,Kb,frz,KI,Gc,Gd,Gf,GM,if_true,hbl,GR,hft,GX,GV]
   refine JbI (.inl rfl) (refSet _ (by rw[J4]; omega)) ?_
   simp -implicitDefEqProofs only[go_sem]
   exact ⟨2,rfl,rfl⟩
end
end
section
theorem needR_ok {t:Tr}{o of:List Int}:∀ x∈Ku t,(∀ y∈XZ t o of x.toNat,y∈Ku t)∧(XZ t o of x.toNat).length≤(Ku t).length:=
 fun x _=>⟨fun y hy=>(GI.1 hy).1,Gw _ _⟩
def JdF (els:List Int) (off:Nat):CV:=.slc 2 off (els.length-off) (JeB (iz els))
theorem Yj {els:List Int}(h:els≠[]):JeB (iz els)=none:=by cases els with
 |nil=>exact absurd rfl h
 |cons x l=>rfl
section
variable {t:Tr}{o:List Int}(g:GoodT t o) (ht:t.Fit)
include g ht
theorem refReached {of:List Int}(ho:OfOk t of) {s:Nat}(hs:s < t.nodes.length) (hk:(nd t s).k=41):JaT Gb 62 [t.cv,.rslc 1 (iz of) none,.int .i64 (s:Int)] 1 (iz ((Ku t).filter fun x=>(bfs (fun x=>XZ t o of x.toNat) (Ku t) (XZ t o of s) []).contains x)):=by
 have hmany:=g.many
 have hal:(Ku t).length=t.nodes.length:=by simp[Ku]
 refine Yu (J8 c62_ok fun N=>?_) rfl (Jc _)
 simp -implicitDefEqProofs only[c62,go_sem,Tr.cv,Tr.row,Jd]
 refine ⟨⟨by omega,GL _,by omega,by omega⟩,?_⟩
 refine Je (id:=0) (z:=2) (els:=[t.row]) rfl rfl ?_
 simp only[go_sem,JS,Kb,frz,KI,Gc,Gd,List.map_replicate,Tr.row]
 refine JbI (.inl rfl) (refNeeds g ht ho hs hk) ?_
 simp -implicitDefEqProofs only[go_sem]
 have hset:∀ s':Nat,s' < t.nodes.length→(nd t s').k=41→∀ x∈XZ t o of s',0≤x∧x < t.nodes.length∧(nd t x.toNat).k=41:=fun s' h1 h2 x hx=>by
  rw[← need_eq g h1 h2]at hx; exact Jbn g hx
 generalize hN:(fun x:Int=>XZ t o of x.toNat)=Nf
 have hNok:∀ x∈Ku t,(∀ y∈Nf x,y∈Ku t)∧(Nf x).length≤(Ku t).length:=by rw[← hN]; exact needR_ok
 have hset':∀ x:Nat,x < t.nodes.length→(nd t x).k=41→∀ y∈Nf x,0≤y∧y < t.nodes.length∧(nd t y.toNat).k=41:=fun x h1 h2 y hy=>by
  rw[← hN]at hy; simp only[Gh]at hy; exact hset x h1 h2 y hy
 have h0:=hset s hs hk
 have hlen0:(XZ t o of s).length≤t.nodes.length:=by rw[← hal]; exact Gw _ _
 generalize XZ t o of s=T0 at h0 hlen0 ⊢
 generalize hR:bfs Nf (Ku t) T0 []=R
 have hst:QN (Ku t) []*((Ku t).length+1)≤700*701:=Hy (GN YF (by omega)) (by omega)
 have hbf:(JN t.nodes.length fun x=>([]:List Int).contains x)=GZ t.nodes.length false:=by rw[← Yb]; rfl
 rw[bb_rep,← hbf]
 refine Jv (σ:=List Int×Nat×List Int) (I:=fun s'=>s'.2.1≤s'.1.length∧(∀ x∈s'.1,0≤x∧x < t.nodes.length∧(nd t x.toNat).k=41)∧bfs Nf (Ku t) (s'.1.drop s'.2.1) s'.2.2=R∧muB (Ku t) (s'.1.drop s'.2.1) s'.2.2≤1000000)
  (inv:=fun s'=>gp [(1,.rslc 1 (iz of) none),(1,.rptr t.row),(3,.slc 1 0 t.nodes.length (some t.nodes.length)),(0,JdF s'.1 s'.2.1)] 33) (hp:=fun s'=>[.dead,.arr 1 (bb (JN t.nodes.length fun x=>s'.2.2.contains x)),.arr 1 (iz s'.1)]) (μ:=fun s'=>muB (Ku t) (s'.1.drop s'.2.1) s'.2.2) (T0,0,[]) [0,1,2] ⟨by simp,h0,by simpa using hR,by simp only[Gf,muB]; omega⟩ rfl ?_ ?_ ?_
 ·simp[forget,Jy,ren,Jk,gp,JdF,rowW,Tr.row,Jf]
 ·simp only[J5,Gc,Gd,go_sem,Ji,Ja (Jc T0),Ja (JW _),Jg]
 ·rintro ⟨els,off,out⟩ ⟨hoff,hP,hB,hmu⟩
  dsimp only at hoff hP hB hmu
  have hel:(iz els).length=els.length:=Jf
  by_cases hlt:off < els.length
  ·have hne:els≠[]:=by rintro rfl; simp at hlt
   have d1:((0:Int) < ((els.length-off:Nat):Int))=True:=Jo
   have d2:(((els.length-off:Nat):Int) > 0)=True:=Jo
   have hgi:=JQ hlt
   have hdr:els.drop off=els.getD off 0::els.drop (off+1):=by
    rw[GH hlt,Gm,Gp hlt]; rfl
   have hmem:els.getD off 0∈els:=by rw[Gm,Gp hlt]; exact Gy hlt
   have hPx:=hP _ hmem
   have hall:∀ y∈els.drop off,y∈Ku t:=fun y hy=>by
    have:=hP y (G7 hy)
    exact K7.2 ⟨this.1,this.2.1⟩
   rw[hdr]at hB hall hmu ⊢
   have hmu':=hmu
   simp only[muB,Gg]at hmu'
   generalize hx:els.getD off 0=x at hgi hPx hB hall hmu ⊢
   obtain ⟨xn,rfl⟩:∃ x':Nat,x=x':=⟨x.toNat,by omega⟩
   have hxm:(xn:Int)∈Ku t:=hall xn (by simp)
   have hPx3:=hPx.2.2
   rw[Gh]at hPx3
   have hxn:xn < t.nodes.length:=by omega
   have hbl:(bb (JN t.nodes.length fun x=>out.contains x)).length=t.nodes.length:=by rw[YQ,J4]
   have hbg:=Jdw (l:=JN t.nodes.length fun x=>out.contains x) (i:=xn) (by rw[J4]; exact hxn)
   rw[JaC hxn]at hbg
   cases hc:out.contains (xn:Int) with
   |true=>
    rw[hc]at hbg
    rw[JfI hNok hall hc]at hB
    simp -implicitDefEqProofs only[go_sem,JdF,Yj hne,d1,d2,hel,hgi,Hz,hbl,hbg,Gj]
    refine ⟨by omega,⟨by omega,GL _⟩,by omega,by omega,(els,off+1,out),[0,1,2],⟨by simp only; omega,hP,hB,by simp only[muB]; omega⟩,by simp only[muB,Gg]; omega,rfl,?_,?_⟩
    ·simp only[J5,Gc,Gd,go_sem,Ji,Ja (Jc els),Ja (JW _),Jg]
    ·simp[forget,Jy,ren,Jk,Yj hne]; omega
   |false=>
    rw[hc]at hbg
    rw[JfJ hNok hall hc]at hB
    have hll:=Q0 hxm hc
    have hlr:=LA ((Ku t).length+1) (show QN (Ku t) (out++[(xn:Int)])+1≤QN (Ku t) out from hll)
    rw[HY,HV]at hlr
    have hnx:=(hNok xn hxm).2
    have hNx:XZ t o of xn=Nf (xn:Int):=by rw[← hN]; simp only[Gh]
    have hsx:=hset' xn hxn hPx3
    have hNf:=(refNeeds g ht ho hxn hPx3).fn rfl (Jc _)
    rw[hNx]at hNf
    have hset2:(JN t.nodes.length fun x=>out.contains x).set xn true=JN t.nodes.length fun x=>(out++[(xn:Int)]).contains x:=by
     refine JbZ hxn (fun j hj hne=>?_) (by simp)
     have:((j:Int) == (xn:Int))=false:=beq_eq_false_iff_ne.2 (by omega)
     simp[He,Ls,this]
     omega
    simp -implicitDefEqProofs only[go_sem,JdF,Yj hne,d1,d2,hel,hgi,Hz,hbl,hbg,Gl,Gg,Gt,GU,Gf,JeC,hset2,Tr.row]
    refine ⟨by omega,⟨by omega,GL _⟩,by omega,by omega,by omega,by omega,?_⟩
    refine JM hNf ?_
    generalize Nf (xn:Int)=M at hnx hsx hB ⊢
    have hel2:off+1+(els.length-off-1)=els.length:=by omega
    have hel3:(off+1+(els.length-off-1)=els.length)=True:=eq_true hel2
    have hd:=Lh (i:=off+1) (l:=els)
    cases M with
    |nil=>
     simp -implicitDefEqProofs only[go_sem,Qi]
     rw[Gq]at hB
     refine ⟨(els,off+1,out++[(xn:Int)]),[0,1,2],⟨by simp only; omega,hP,hB,by simp only[muB]; omega⟩,by simp only[muB,Gg]; omega,rfl,?_,?_⟩
     ·simp only[J5,Gc,Gd,go_sem,Ji,Ja (Jc els),Ja (JW _),Jg]
     ·simp[forget,Jy,ren,Jk,Yj hne]; omega
    |cons y ys=>
     simp -implicitDefEqProofs only[go_sem,JV,hel,hel3,Jf,Jt]
     simp only[Gg]at hnx
     refine ⟨⟨by omega,by omega⟩,(els.drop (off+1)++y::ys,0,out++[(xn:Int)]),[0,1,3],⟨by simp,fun z hz=>?_,by simpa using hB,by simp only[Gf,muB,Gx,Gg]; omega⟩,by simp only[Gf,muB,Gx,Gg]; omega,rfl,?_,?_⟩
     ·rcases Hr.1 hz with h | h
      ·exact hP z (G7 h)
      ·exact hsx z h
     ·rw[Kl,JV,← Y9]
      simp only[J5,Gc,Gd,go_sem,Ji,Jg,Ja (JW _)]
      rw[Y9]
      simp[Ja (Jc (els.drop (off+1))),Ja (Jc ys),Jy,ren]
     ·rw[Yj (show els.drop (off+1)++y::ys≠[] by simp)]
      simp[forget,Jy,ren,Jk,Jf]; omega
  ·obtain rfl:off=els.length:=by omega
   rw[Lj,Jdt]at hB
   have hbl:(bb (JN t.nodes.length fun x=>out.contains x)).length=t.nodes.length:=by rw[YQ,J4]
   have d1:((0:Int) < ((els.length-els.length:Nat):Int))=False:=Jn
   have d2:(((els.length-els.length:Nat):Int) > 0)=False:=Jn
   simp -implicitDefEqProofs only[go_sem,JdF,d1,d2]
   refine Je (id:=1) (z:=1) (els:=bb (JN t.nodes.length fun x=>out.contains x)) rfl (JW _) ?_
   have hft:=Gv (l:=bb (JN t.nodes.length fun x=>out.contains x)) (i:=t.nodes.length) (by rw[hbl]; omega)
   simp only[go_sem,JS,Kb,frz,KI,Gc,Gd,Gf,GM,if_true,hbl,GR,hft,GX,GV,KG (Jc _)]
   refine JbI (.inl rfl) (refSet _ (by rw[J4]; omega)) ?_
   rw[← hB,← Jd0 (t:=t) (f:=fun x=>out.contains x)]
   simp -implicitDefEqProofs only[go_sem]
   exact ⟨3,rfl,rfl⟩
theorem refResolve:Fn Gb 21 [t.cv] (if (resR t o).2=0 then .tup [.rslc 1 (iz (ofL t o)) none,.int .i64 0,.int .i64 0] else .tup [.rslc 1 [] none,.int .i64 ((resR t o).1:Int),.int .i64 (resR t o).2]):=by
 have hmany:=g.many
 have hchk:chk t=0:=(Jcw t).2 ⟨o,g⟩
 have e0:(chk t != 0)=false:=by simp[hchk]
 refine QR ?_ rfl (by split <;> rfl)
 refine J8 c21_ok fun N=>?_
 simp -implicitDefEqProofs only[c21,go_sem,Tr.cv,Tr.row]
 refine Je (id:=0) (z:=2) (els:=[t.row]) rfl rfl ?_
 simp only[go_sem,JS,Kb,frz,KI,Gc,Gd,Tr.row]
 refine JM (refCheck t ht) ?_
 simp -implicitDefEqProofs only[go_sem,e0]
 have hrow:∀ {k:Nat} {y:List CV} {H:List CObj},H[k]? = some (.arr 1 [])→Jr y=true→Frzs (.tup (.rslc 1 [] none::y)) (.tup (.slc k 0 0 (some 0)::y)) H:=fun h hy=>.step _ 1 [] h rfl (.done (by
  simp only[frz,JS,if_true,KY _ hy]
  exact wk.refl _))
 have hres:∀ (i:Nat) (a:Int),a≠0→resR t o=(i,a)→(if (resR t o).2=0 then CV.tup [.rslc 1 (iz (ofL t o)) none,.int .i64 0,.int .i64 0] else .tup [.rslc 1 [] none,.int .i64 ((resR t o).1:Int),.int .i64 (resR t o).2])=.tup [.rslc 1 [] none,.int .i64 (i:Int),.int .i64 a]:=fun i a ha h=>by rw[h,if_neg ha]
 refine Jv (I:=fun i:Nat=>i≤t.nodes.length∧JeY t o 6 10 (Ga t.nodes.length)=JeY t o 6 10 ((Ga t.nodes.length).drop i)) (inv:=fun i=>gp [(1,.rptr t.row),(4,.slc 1 0 (iz ((ofL t o).take i)).length (JeB (iz ((ofL t o).take i)))),(0,.int .i64 (i:Int))] 64) (hp:=fun i=>[.dead,.arr 1 (iz ((ofL t o).take i))]) (μ:=fun i=>t.nodes.length-i) 0 [0,1] ⟨by omega,by rw[Gf]⟩ rfl ?_ ?_ ?_
 ·simp[forget,Jy,ren,Jk,gp,Tr.row,iz,JeB]
 ·simp[J5,Jbg,iz]
 ·rintro i ⟨hi,hinv⟩
  have hacc:((ofL t o).take i).length=i:=by rw[G8,XK]; omega
  by_cases hlt:i < t.nodes.length
  ·have d1:((i:Int) < (t.nodes.length:Int))=True:=Jo
   have hgi:=Kh hlt
   have hot:=ofL_take (o:=o) hlt
   rw[Qa hlt,JeY]at hinv
   have hrs:∀ a:Int,JeY t o 6 10 (Ga t.nodes.length)=some (i,a)→resR t o=(i,a):=fun a h=>by unfold resR; rw[h]
   have hcl:=Ja (ρ:=[0,3]) (Jc ((ofL t o).take i))
   generalize (ofL t o).take i=acc at hacc hot hcl ⊢
   simp -implicitDefEqProofs only[go_sem,d1,Tr.row,Jd,hgi,Nd.cv]
   refine ⟨by omega,?_⟩
   refine JM (Je5 _) ?_
   have hsh:((nd t i).k == 3 || (nd t i).k == 26 || (nd t i).k == 44)=K8 t i:=rfl
   rw[hsh]
   cases hs:K8 t i with
   |true=>
    simp -implicitDefEqProofs only[go_sem,Tr.row]
    refine JM (refMeans g ht hlt hs) ?_
    by_cases hm:KX t o i < 0
    ·have e1:(KX t o i < 0)=True:=eq_true hm
     rw[hs,decide_eq_true hm,Gi,if_pos rfl]at hinv
     rw[hres i 10 (by decide) (hrs 10 hinv)]
     simp -implicitDefEqProofs only[go_sem,e1]
     exact hrow (k:=2) rfl rfl
    ·have e1:(KX t o i < 0)=False:=eq_false hm
     rw[hs,decide_eq_false hm,GG,if_neg (by simp)]at hinv
     simp -implicitDefEqProofs only[go_sem,e1,Tr.row]
     refine JM (refTwice g ht hlt) ?_
     cases htw:twR t o i with
     |true=>
      rw[htw,if_pos rfl]at hinv
      rw[hres i 6 (by decide) (hrs 6 hinv)]
      simp -implicitDefEqProofs only[go_sem]
      exact hrow (k:=2) rfl rfl
     |false=>
      rw[htw,if_neg (by simp)]at hinv
      simp -implicitDefEqProofs only[go_sem,Jt,Jf]
      refine ⟨⟨by omega,by omega⟩,Jj,i+1,[0,3],⟨by omega,hinv⟩,by omega,rfl,?_,?_⟩
      ·rw[hot,Ka]
       simp only[J5,Gc,Gd,go_sem,Ji,Jg]
       simp[hcl,Jy,ren]
      ·rw[hot,Ka,JaB]
       simp[forget,Jy,ren,Jk,Jf,Tr.row]
   |false=>
    have hm1:KX t o i = -1:=by
     unfold K8 at hs
     simp only[Bool.or_eq_false_iff,beq_eq_false_iff_ne]at hs
     unfold KX
     rw[if_neg hs.1.1,if_neg hs.1.2,if_neg hs.2]
    rw[hs,Gn,if_neg (by simp)]at hinv
    rw[hm1]at hot
    simp -implicitDefEqProofs only[go_sem,Tr.row]
    refine JM (refTwice g ht hlt) ?_
    cases htw:twR t o i with
    |true=>
     rw[htw,if_pos rfl]at hinv
     rw[hres i 6 (by decide) (hrs 6 hinv)]
     simp -implicitDefEqProofs only[go_sem]
     exact hrow (k:=2) rfl rfl
    |false=>
     rw[htw,if_neg (by simp)]at hinv
     simp -implicitDefEqProofs only[go_sem,Jt,Jf]
     refine ⟨⟨by omega,by omega⟩,Jj,i+1,[0,3],⟨by omega,hinv⟩,by omega,rfl,?_,?_⟩
     ·rw[hot,Ka]
      simp only[J5,Gc,Gd,go_sem,Ji,Jg]
      simp[hcl,Jy,ren]
     ·rw[hot,Ka,JaB]
      simp[forget,Jy,ren,Jk,Jf,Tr.row]
  ·have d1:((i:Int) < (t.nodes.length:Int))=False:=Jn
   obtain rfl:i=t.nodes.length:=by omega
   rw[show (Ga t.nodes.length).drop t.nodes.length=[] from Gs (by simp),JeY]at hinv
   have hrs:resR t o=match (Ga t.nodes.length).find? (stR t o) with | some i=>(i,9) | none=>(0,0):=by unfold resR; simp only[hinv]; cases (Ga t.nodes.length).find? (stR t o) <;> rfl
   rw[Gv (by rw[XK]; omega)]
   simp -implicitDefEqProofs only[go_sem,d1,Tr.row,Jd]
   refine Je (id:=1) (z:=1) (els:=iz (ofL t o)) rfl (Jc _) ?_
   have hofl:=XK (t:=t) (o:=o)
   have hft:G9 t.nodes.length (iz (ofL t o))=iz (ofL t o):=Gv (by rw[Jf,hofl]; omega)
   simp only[go_sem,JS,Kb,frz,KI,Gc,Gd,Gf,GM,if_true,Jf,hofl,GR,hft,GX,GV]
   refine Jv (I:=fun i:Nat=>i≤t.nodes.length∧(Ga t.nodes.length).find? (stR t o)=((Ga t.nodes.length).drop i).find? (stR t o)) (inv:=fun i=>gp [(1,.rptr t.row),(4,.rslc 1 (iz (ofL t o)) none),(2,.int .i64 (i:Int))] 62) (hp:=fun _=>[.dead,.dead]) (μ:=fun i=>t.nodes.length-i) 0 [0,1] ⟨by omega,by rw[Gf]⟩ rfl ?_ rfl ?_
   ·simp[forget,Jy,ren,Jk,gp,Tr.row]
   ·rintro i ⟨hi,hinv⟩
    by_cases hlt:i < t.nodes.length
    ·have d1:((i:Int) < (t.nodes.length:Int))=True:=Jo
     have hgi:=Kh hlt
     rw[Qa hlt,GJ]at hinv
     cases hk:((nd t i).k == 41) with
     |false=>
      have hst:stR t o i=false:=by unfold stR; rw[hk]; rfl
      rw[hst]at hinv
      simp -implicitDefEqProofs only[go_sem,d1,Tr.row,Jd,hgi,Nd.cv,kbE,hk]
      refine ⟨by omega,Jj,i+1,[0,1],⟨by omega,hinv⟩,by omega,rfl,rfl,?_⟩
      simp[forget,Jy,ren,Jk,Tr.row]
     |true=>
      have hst:stR t o i=((Ku t).filter fun x=>(bfs (fun x=>XZ t o (ofL t o) x.toNat) (Ku t) (XZ t o (ofL t o) i) []).contains x).contains (i:Int):=by unfold stR; rw[hk,Gi]
      have hA:=(refReached g ht (Jcd (o:=o)) hlt (beq_iff_eq.1 hk)).fn rfl (Jc _)
      have hbl:((Ku t).filter fun x=>(bfs (fun x=>XZ t o (ofL t o) x.toNat) (Ku t) (XZ t o (ofL t o) i) []).contains x).length≤100000:=by
       refine GN (Gw _ _) ?_
       simp only[Ku,Lp,Ho]; omega
      generalize (Ku t).filter (fun x=>(bfs (fun x=>XZ t o (ofL t o) x.toNat) (Ku t) (XZ t o (ofL t o) i) []).contains x)=B at hst hA hbl
      simp -implicitDefEqProofs only[go_sem,d1,Tr.row,Jd,hgi,Nd.cv,kbE,hk]
      refine ⟨by omega,?_⟩
      refine JP (gok rfl) hA ?_
      simp -implicitDefEqProofs only[go_sem]
      refine JP (gok rfl) (refHas3 B (i:Int) hbl) ?_
      cases hc:B.contains (i:Int) with
      |false=>
       rw[hst,hc]at hinv
       simp -implicitDefEqProofs only[go_sem]
       refine ⟨Jj,i+1,[0,1],⟨by omega,hinv⟩,by omega,rfl,rfl,?_⟩
       simp[forget,Jy,ren,Jk,Tr.row]
      |true=>
       rw[hst,hc]at hinv
       rw[hinv]at hrs
       rw[hres i 9 (by decide) hrs]
       simp -implicitDefEqProofs only[go_sem]
       exact hrow (k:=2) rfl rfl
    ·have d1:((i:Int) < (t.nodes.length:Int))=False:=Jn
     rw[show (Ga t.nodes.length).drop i=[] from Gs (by simp; omega),GK]at hinv
     rw[hinv]at hrs
     rw[hrs,if_pos rfl]
     simp -implicitDefEqProofs only[go_sem,d1,Tr.row,Jd]
     exact .done (wk.refl _)
end
theorem refResolveE (t:Tr) (ht:t.Fit) (h:chk t≠0):Fn Gb 21 [t.cv] (.tup [.rslc 1 [] none,.int .i64 0,.int .i64 (chk t)]):=by
 have e:(chk t != 0)=true:=by simpa using h
 refine QR ?_ rfl rfl
 refine J8 c21_ok fun N=>?_
 simp -implicitDefEqProofs only[c21,go_sem,Tr.cv,Tr.row]
 refine JM (refCheck t ht) ?_
 simp -implicitDefEqProofs only[go_sem,e]
 refine .step 1 1 [] rfl rfl (.done ?_)
 simp only[frz,JS,if_true]
 exact wk.refl _
end
end Go.Cm
end
end
