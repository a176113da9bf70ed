/-
  A part of the proof. Conditions: none.
-/
import Derived.Test.YtebakpoggommpaaGreatDoorPP40
set_option linter.unusedSimpArgs false
set_option linter.unusedVariables false
open List renaming getD_eq_getElem?_getD→Gh,map_cons→Gb,getElem?_eq_getElem→Gl,length_cons→Gg,map_nil→Gc,drop_zero→Gf,range→Gd,append_nil→Gi,drop_eq_nil_of_le→Gp,length_nil→Gm,length_filter_le→Gq,length_append→Gr,take_of_length_le→Gv,take_succ_eq_append_getElem→GG,nil_append→Gt,getElem_mem→Gx,mem_filter→Gy,contains_iff_mem→GH,cons_append→Gz,drop_eq_getElem_cons→GK,length_mergeSort→GL,mem_of_getElem?→GM,replicate→GI,take_succ_cons→GN,drop_succ_cons→GQ,length_take→GR,length_eraseIdx_of_lt→G7,take_zero→GU,getElem?_eq_some_iff→G8,contains_eq_any_beq→G9,all_cons→GV,getElem?_set_self→Ha,all_nil→GX,mem_of_mem_drop→Hd,set_cons_zero→He,set_cons_succ→Hf,mergeSort_nil→Hg,find?_eq_none→Hl,filter_append→Hm,length_range→Ho,filter_cons→Hq,take_left'→Hr,range_succ→Ht,mem_append→Hu,map_append→Hw,find?_cons→Hy,filter_nil→Hz,find?_nil→HV,any_cons→HY,map_set→HZ,any_nil→H5,length→H6
open Go.Proofs.Tryz renaming prog→Ga
open Bool renaming true_and→Gn,not_true→Gs,not_false→Gu,false_and→Gw,true_or→GA,and_eq_true_iff→GY,false_or→GJ,false_eq_true→GZ,and_true→H7
open Int renaming toNat_natCast→Gj,le_refl→G5
open Nat renaming le_trans→GD,zero_add→G6,le_add_right→H8,mul_le_mul→H9
noncomputable section
section
set_option maxRecDepth 100000
set_option maxHeartbeats 4000000
open Go.Proofs
namespace Go.Cm
section
theorem kbE {k m:Nat}:((k:Int) == no_index (@OfNat.ofNat Int m _))=(k == m):=by
 rw[Bool.eq_iff_iff,beq_iff_eq,beq_iff_eq]; exact Int.ofNat_inj
theorem kbN {k m:Nat}:((k:Int) != no_index (@OfNat.ofNat Int m _)) = !(k == m):=by rw[bne,kbE]
def tRw (t:Tr):List CV:=[.rslc 5 (ndz t.nodes) none,.rslc 1 (iz t.items) none,.rslc 1 (iz (upT t)) none,.rslc 1 (iz (Jcu t)) none]
theorem fitN {t:Tr}(ht:t.Fit) {i:Nat}(hi:i < t.nodes.length):(nd t i).Fit:=ht.nodes _ (by unfold nd; rw[Gh,Gl hi]; exact Gx hi)
theorem YT {t:Tr}{i:Nat}(h:i < t.nodes.length):(ndz t.nodes).getD i []=(nd t i).cv:=QL h
theorem upz {t:Tr}{i:Nat}(h:i < t.nodes.length):(iz (upT t)).getD i []=[.int .i64 (KG t i)]:=by rw[JN (by rw[JcR]; exact h),upT_get h]
theorem itz {t:Tr}{i:Nat}(h:i < t.nodes.length):(iz (Jcu t)).getD i []=[.int .i64 (Qi t i)]:=by rw[JN (by rw[JbB]; exact h),itemT_get h]
theorem KW {t:Tr}:(iz (upT t)).length=t.nodes.length:=by rw[Jd,JcR]
theorem itz_len {t:Tr}:(iz (Jcu t)).length=t.nodes.length:=by rw[Jd,JbB]
theorem YV (t:Tr) {i:Nat}(hi:i < t.nodes.length):Fn Ga 49 [.rptr (tRw t),.int .i64 (i:Int)] (.int .u8 ((nd t i).k:Int)):=by
 have hg:=YT hi
 refine Jc c49_ok rfl rfl fun N=>?_
 simp -implicitDefEqProofs only[c49,go_sem,tRw,Jf,hg,Nd.cv]
 omega
theorem nInside (t:Tr) {i:Nat}(hi:i < t.nodes.length):Fn Ga 101 [.rptr (tRw t),.int .i64 (i:Int)] (.bool (!((nd t i).k == 43))):=by
 refine Jc c101_ok rfl rfl fun N=>?_
 simp -implicitDefEqProofs only[c101,go_sem]
 refine JX (YV t hi) ?_
 simp -implicitDefEqProofs only[go_sem,kbN]
def Jcw (k:Nat):Bool:=decide (1≤k) && decide (k≤29)
theorem nIsExpr (t:Tr) {i:Nat}(hi:i < t.nodes.length):Fn Ga 53 [.rptr (tRw t),.int .i64 (i:Int)] (.bool (Jcw (nd t i).k)):=by
 have e2:decide (((nd t i).k:Int)≤29)=decide ((nd t i).k≤29):=decide_eq_decide.2 (by omega)
 refine Jc c53_ok rfl rfl fun N=>?_
 simp -implicitDefEqProofs only[c53,go_sem]
 refine JX (YV t hi) ?_
 by_cases h1:1≤(nd t i).k
 ·have e1:decide ((1:Int)≤((nd t i).k:Int))=true:=decide_eq_true (by omega)
  have e3:Jcw (nd t i).k=decide ((nd t i).k≤29):=by unfold Jcw; rw[decide_eq_true h1,Gn]
  simp -implicitDefEqProofs only[go_sem,e1,e2,e3]
 ·have e1:decide ((1:Int)≤((nd t i).k:Int))=false:=decide_eq_false (by omega)
  have e3:Jcw (nd t i).k=false:=by unfold Jcw; rw[decide_eq_false h1,Gw]
  simp -implicitDefEqProofs only[go_sem,e1,e3]
def bz (l:List Nat):List (List CV):=l.map fun i:Nat=>[.int .u8 (i:Int)]
theorem bz_len {l:List Nat}:(bz l).length=l.length:=by simp[bz]
theorem bz_get {l:List Nat}{i:Nat}(h:i < l.length):(bz l).getD i []=[.int .u8 (l.getD i 0:Nat)]:=by
 simp[bz,Gh,Gl h]
theorem bz_closed:∀ (l:List Nat),Jo (bz l)=true
 |[]=>rfl
 |x::l=>by simp[bz,Jo,Jr,CV.closed]; exact bz_closed l
theorem indexB (l:List Nat) (x:Nat) (hl:l.length≤100000):Fn Ga 143 [.rslc 1 (bz l) none,.int .u8 (x:Int)] (.int .i64 (Xv (fun y=>x == y) l 0)):=by
 have hil:(bz l).length=l.length:=bz_len
 have hbc:=bz_closed l
 refine Jc c143_ok rfl rfl fun N=>?_
 simp -implicitDefEqProofs only[c143,go_sem,hil]
 refine JE (I:=fun i:Nat=>i≤l.length∧Xv (fun y=>x == y) l 0=Xv (fun y=>x == y) (l.drop i) i) (inv:=fun i=>gp [(0,.rslc 1 (bz l) none),(0,.int .u8 x),(5,.int .i64 (l.length:Int)),(0,.int .i64 (i:Int))] 10) (hp:=fun _=>[]) (μ:=fun i=>l.length-i) 0 ⟨by omega,rfl⟩ ?_ rfl ?_
 ·simp[forget,gp]
 ·rintro i ⟨hi,hinv⟩
  by_cases hlt:i < l.length
  ·have d1:((i:Int) < (l.length:Int))=True:=Ju
   have hgi:=bz_get hlt
   have hge:l[i]? = some (l.getD i 0):=by rw[Gh,Gl hlt]; rfl
   rw[Xr hge]at hinv
   have en:=Jd1 (l.getD i 0) x
   simp -implicitDefEqProofs only[go_sem,hil,d1,hgi,en]
   generalize l.getD i 0=y at hinv ⊢
   refine ⟨by omega,?_⟩
   cases he:(x == y) with
   |true=>
    rw[he,if_pos rfl]at hinv
    simp -implicitDefEqProofs only[go_sem,hinv]
   |false=>
    rw[he]at hinv
    simp -implicitDefEqProofs only[go_sem]
    refine ⟨Jl,i+1,⟨by omega,by simpa using hinv⟩,by omega,?_⟩
    simp[forget]
  ·have d1:((i:Int) < (l.length:Int))=False:=Jq
   rw[Gp (by omega)]at hinv
   simp -implicitDefEqProofs only[go_sem,d1,hinv,Xv]
theorem containsB (l:List Nat) (x:Nat) (hl:l.length≤100000):Fn Ga 111 [.rslc 1 (bz l) none,.int .u8 (x:Int)] (.bool (l.contains x)):=by
 refine Jc c111_ok rfl rfl fun N=>?_
 simp -implicitDefEqProofs only[c111,go_sem]
 refine JX (indexB l x hl) ?_
 have e:decide (0≤Xv (fun y=>x == y) l 0)=l.contains x:=by rw[JaJ,G9]
 simp -implicitDefEqProofs only[go_sem,e]
theorem nIsDecl (t:Tr) {i:Nat}(hi:i < t.nodes.length):Fn Ga 69 [.rptr (tRw t),.int .i64 (i:Int)] (.bool (QN (nd t i).k)):=by
 have e:[65,64,42,43,47].contains (nd t i).k=QN (nd t i).k:=by
  simp only[List.contains_cons,List.contains_nil,Bool.or_false,QN,Bool.or_assoc]
 refine Jc c69_ok rfl rfl fun N=>?_
 simp -implicitDefEqProofs only[c69,go_sem]
 refine Je (id:=0) (z:=1) (els:=bz [65,64,42,43,47]) rfl rfl ?_
 simp only[go_sem,J4,Ky,frz,Qy,bz,Gb,Gc,Gg,Gm,Gf,GN,GU]
 refine JX (YV t hi) ?_
 simp -implicitDefEqProofs only[go_sem]
 refine JX (containsB [65,64,42,43,47] _ (by simp)) ?_
 simp -implicitDefEqProofs only[go_sem,e]
section
variable {t:Tr}{o:List Int}(g:GoodT t o)
include g
theorem nBelow {j0 a:Nat}(hj0:j0 < t.nodes.length) (ha:a < t.nodes.length):Fn Ga 55 [.rptr (tRw t),.int .i64 (j0:Int),.int .i64 (a:Int)] (.bool (Jbi o j0 a)):=by
 refine Jc c55_ok rfl rfl fun N=>?_
 simp -implicitDefEqProofs only[c55,go_sem]
 refine JE (σ:=Int) (I:=fun v=>(v = -1∧Jbi o j0 a=false)∨∃ j:Nat,v=j∧j < t.nodes.length∧Jbi o j0 a=Jbi o j a) (inv:=fun v=>gp [(0,.rptr (tRw t)),(0,.int .i64 v),(0,.int .i64 (a:Int))] 21) (hp:=fun _=>[]) (μ:=fun v=>if v < 0 then 0 else t.nodes.length-v.toNat+1) (j0:Int) (.inr ⟨j0,rfl,hj0,rfl⟩) ?_ rfl ?_
 ·simp[forget,gp]
 ·rintro v (⟨rfl,hb⟩ | ⟨j,rfl,hj,hb⟩)
  ·have e1:(((-1:Int)) != -1)=false:=by decide
   have e2:((-1:Int) == (a:Int))=false:=beq_eq_false_iff_ne.2 (by omega)
   simp -implicitDefEqProofs only[go_sem,e1,e2,hb]
  ·have e1:((j:Int) != -1)=true:=bne_iff_ne.2 (by omega)
   by_cases he:j=a
   ·subst he
    have e2:((j:Int) != (j:Int))=false:=by simp
    have e3:((j:Int) == (j:Int))=true:=by simp
    have e4:=JP.2 (QH g hj)
    simp -implicitDefEqProofs only[go_sem,e1,e2,e3,hb,e4]
   ·have e2:((j:Int) != (a:Int))=true:=bne_iff_ne.2 (by omega)
    have hp:=par_rng g hj
    have hu:=blw_up g hj ha he
    simp -implicitDefEqProofs only[go_sem,e1,e2,tRw,KW,upz hj]
    refine ⟨by omega,KG t j,?_,?_,?_⟩
    ·rcases Qp g hj with ⟨h,_⟩ | ⟨m,h,h1,h2,_⟩
     ·rw[h,if_pos (by decide)]at hu
      exact .inl ⟨h,by rw[hb,hu]⟩
     ·rw[h,if_neg (by omega),Gj]at hu
      exact .inr ⟨m,h,h2,by rw[hb,hu]⟩
    ·rcases Qp g hj with ⟨h,_⟩ | ⟨m,h,h1,h2,_⟩
     ·show (if KG t j < 0 then 0 else _) < (if (j:Int) < 0 then 0 else _)
      rw[h,if_pos (by decide),if_neg (by omega)]; omega
     ·rw[h,if_neg (by omega),if_neg (by omega)]; omega
    ·simp[forget,tRw]
theorem lastz {m:Nat}(hm:m < t.nodes.length) (hlen:0 < (nd t m).kids.length):(iz (nd t m).kids).getD ((nd t m).kids.length-1) []=[.int .i64 (J8 t m:Int)]:=by
 rw[JN (by omega)]
 have h4:(nd t m).kids.getD ((nd t m).kids.length-1) 0∈(nd t m).kids:=by
  rw[Gh,Gl (by omega)]; exact Gx _
 have h5:=(g.kid hm h4).1
 have:((J8 t m:Nat):Int)=(nd t m).kids.getD ((nd t m).kids.length-1) 0:=by unfold J8; omega
 rw[this]
theorem nLate (ht:t.Fit) {a0 s:Nat}(hs:s < t.nodes.length) (hk:(nd t s).k=41) (hb0:blw o a0 (J8 t s)):Fn Ga 100 [.rptr (tRw t),.int .i64 (a0:Int),.int .i64 (s:Int)] (.bool (buL t (upL t (J8 t s) t.nodes.length a0) false)):=by
 have htop:=(set_kid g hs hk).1
 have htl:J8 t s < t.nodes.length:=by have:=(JJ g hs htop).2; omega
 generalize hR:buL t (upL t (J8 t s) t.nodes.length a0) false=R
 refine Jc c100_ok rfl rfl fun N=>?_
 simp -implicitDefEqProofs only[c100,go_sem]
 refine JE (σ:=Nat×Bool) (I:=fun s'=>blw o s'.1 (J8 t s)∧∃ f,t.nodes.length≤s'.1+f∧R=buL t (upL t (J8 t s) f s'.1) s'.2) (inv:=fun s'=>gp [(0,.rptr (tRw t)),(1,.int .i64 (s:Int)),(4,.bool s'.2),(0,.int .i64 (s'.1:Int))] 64) (hp:=fun _=>[]) (μ:=fun s'=>t.nodes.length-s'.1) (a0,false) ⟨hb0,t.nodes.length,by omega,hR.symm⟩ ?_ rfl ?_
 ·simp[forget,gp]
 ·rintro ⟨a,late⟩ ⟨hb,f,hf,hinv⟩
  dsimp only at hb hf hinv
  have ha:a < t.nodes.length:=by have:=hb.1; omega
  rcases late_step g (late:=late) hs htop hb hf with ⟨he,hp⟩ | ⟨hne,m,f',hp,hms,ham,hm,hbm,hkid,hf',hstep⟩
  ·have e1:((s:Int) != (s:Int))=false:=by simp
   subst he
   rw[late_end]at hinv
   simp -implicitDefEqProofs only[go_sem,tRw,KW,upz ha,hp,e1,hinv]
   omega
  ·have e1:((m:Int) != (s:Int))=true:=bne_iff_ne.2 (by omega)
   have hg:=YT hm
   rw[hstep]at hinv
   have hlen:0 < (nd t m).kids.length:=List.length_pos_of_mem hkid
   have hkl:(iz (nd t m).kids).length=(nd t m).kids.length:=Jd
   have hgl:=lastz g hm hlen
   have hkn:(nd t m).kids.length < 9223372036854775807:=by have:=(fitN ht hm).kidn; omega
   simp -implicitDefEqProofs only[go_sem,tRw,KW,upz ha,hp,e1,Jf,hg,Nd.cv]
   refine ⟨by omega,by omega,by omega,?_⟩
   refine JX (YV t hm) ?_
   have fin:∀ late',late'=Ja3 t m a late→(blw o m (J8 t s)∧∃ f,t.nodes.length≤m+f∧R=buL t (upL t (J8 t s) f m) late'):=fun late' h=>⟨hbm,f',hf',by rw[h]; exact hinv⟩
   have en:=Jd1 (J8 t m) a
   by_cases h4:(nd t m).k=4
   ·have hst:Ja3 t m a late=true:=by unfold Ja3; rw[if_pos h4]
    simp -implicitDefEqProofs only[go_sem,kbE,h4,tRw,KW,upz ha,hp]
    refine ⟨by omega,(m,true),fin true hst.symm,by simp only; omega,?_⟩
    simp[forget,tRw]
   ·have b4:((nd t m).k == 4)=false:=beq_eq_false_iff_ne.2 h4
    by_cases h5:(nd t m).k=46∨(nd t m).k=47
    ·have hst:Ja3 t m a late=(late || a == J8 t m):=by unfold Ja3; rw[if_neg h4,if_pos h5]
     have b5:((nd t m).k == 46)=true∨((nd t m).k == 46)=false∧((nd t m).k == 47)=true:=by
      rcases h5 with h | h <;> simp[h]
     rcases b5 with b5 | ⟨b5,b6⟩
     ·cases late with
      |true=>
       simp -implicitDefEqProofs only[go_sem,kbE,b4,b5,tRw,KW,upz ha,hp]
       refine ⟨by omega,(m,true),fin true (by rw[hst]; rfl),by simp only; omega,?_⟩
       simp[forget,tRw]
      |false=>
       simp -implicitDefEqProofs only[go_sem,kbE,b4,b5,tRw,KW,upz ha,hp,hkl,hgl,en]
       refine ⟨Jl,by omega,by omega,(m,a == J8 t m),fin _ (by rw[hst]; rfl),by simp only; omega,?_⟩
       simp[forget,tRw]
     ·cases late with
      |true=>
       simp -implicitDefEqProofs only[go_sem,kbE,b4,b5,b6,tRw,KW,upz ha,hp]
       refine ⟨by omega,(m,true),fin true (by rw[hst]; rfl),by simp only; omega,?_⟩
       simp[forget,tRw]
      |false=>
       simp -implicitDefEqProofs only[go_sem,kbE,b4,b5,b6,tRw,KW,upz ha,hp,hkl,hgl,en]
       refine ⟨Jl,by omega,by omega,(m,a == J8 t m),fin _ (by rw[hst]; rfl),by simp only; omega,?_⟩
       simp[forget,tRw]
    ·have b5:((nd t m).k == 46)=false:=beq_eq_false_iff_ne.2 fun h=>h5 (.inl h)
     have b6:((nd t m).k == 47)=false:=beq_eq_false_iff_ne.2 fun h=>h5 (.inr h)
     by_cases h7:(nd t m).k=28
     ·have b7:((nd t m).k == 28)=true:=by simp[h7]
      have hst:Ja3 t m a late=(late && (nd t a).k == 43):=by unfold Ja3; rw[if_neg h4,if_neg h5,if_pos h7]
      cases late with
      |true=>
       simp -implicitDefEqProofs only[go_sem,kbE,b4,b5,b6,b7]
       refine JW (gok rfl) (nInside t ha) ?_
       simp -implicitDefEqProofs only[go_sem,tRw,KW,upz ha,hp,Bool.not_not]
       refine ⟨by omega,(m,(nd t a).k == 43),fin _ (by rw[hst]; rfl),by simp only; omega,?_⟩
       simp[forget,tRw]
      |false=>
       simp -implicitDefEqProofs only[go_sem,kbE,b4,b5,b6,b7,tRw,KW,upz ha,hp]
       refine ⟨by omega,(m,false),fin _ (by rw[hst]; rfl),by simp only; omega,?_⟩
       simp[forget,tRw]
     ·have b7:((nd t m).k == 28)=false:=beq_eq_false_iff_ne.2 h7
      have hst:Ja3 t m a late=late:=by unfold Ja3; rw[if_neg h4,if_neg h5,if_neg h7]
      simp -implicitDefEqProofs only[go_sem,kbE,b4,b5,b6,b7,tRw,KW,upz ha,hp]
      refine ⟨by omega,(m,late),fin _ hst.symm,by simp only; omega,?_⟩
      simp[forget,tRw]
end
end
theorem kidsK_take {t:Tr}{u k i:Nat}(h:i < (nd t u).kids.length):((nd t u).kids.take (i+1)).filter (fun c=>Jn t.nodes c == k)=((nd t u).kids.take i).filter (fun c=>Jn t.nodes c == k)++if Jn t.nodes ((nd t u).kids.getD i 0) == k then [(nd t u).kids.getD i 0] else []:=by
 rw[GG h,Hm,Gh,Gl h,Option.getD_some,Hq,Hz]
theorem kids_len_le {t:Tr}{u k i:Nat}:(((nd t u).kids.take i).filter (fun c=>Jn t.nodes c == k)).length≤(nd t u).kids.length:=
 GD (Gq _ _) (by rw[GR]; omega)
theorem nKids (t:Tr) (ht:t.Fit) {u:Nat}(hu:u < t.nodes.length) (hK:∀ k∈(nd t u).kids,0≤k∧k < t.nodes.length) (k:Nat):Jcy Ga 76 [.rptr (tRw t),.int .i64 (u:Int),.int .u8 (k:Int)] 1 (iz (Qx t u k)):=by
 have hg:=YT hu
 have hkn:=(fitN ht hu).kidn
 have hkl:(iz (nd t u).kids).length=(nd t u).kids.length:=Jd
 refine JfM (Kg c76_ok fun N=>?_) rfl (Jb _)
 simp -implicitDefEqProofs only[c76,go_sem,tRw,Jf,hg,Nd.cv,hkl]
 refine ⟨by omega,?_⟩
 refine Xy ?_
 simp only[go_sem,Gt]
 generalize hF:(fun c=>Jn t.nodes c == k)=F
 refine JG (I:=fun i:Nat=>i≤(nd t u).kids.length) (inv:=fun i=>gp [(0,.rptr (tRw t)),(1,.int .u8 (k:Int)),(3,JV 0 (iz (((nd t u).kids.take i).filter F))),(10,.rslc 1 (iz (nd t u).kids) none),(0,.int .i64 ((nd t u).kids.length:Int)),(0,.int .i64 (i:Int))] 14) (hp:=fun i=>[KP 1 (iz (((nd t u).kids.take i).filter F))]) (μ:=fun i=>(nd t u).kids.length-i) 0 [0] (by omega) rfl ?_ rfl ?_
 ·simp[forget,JL,ren,Jm,gp,tRw,iz,JV]
 ·intro i hi
  by_cases hlt:i < (nd t u).kids.length
  ·have d1:((i:Int) < ((nd t u).kids.length:Int))=True:=Ju
   have hgi:=JN hlt
   have htk:=kidsK_take (k:=k) hlt
   have hle:=kids_len_le (t:=t) (u:=u) (k:=k) (i:=i)
   have hmem:(nd t u).kids.getD i 0∈(nd t u).kids:=by rw[Gh,Gl hlt]; exact Gx hlt
   have hb:=hK _ hmem
   rw[hF]at htk hle
   generalize (nd t u).kids.getD i 0=c at htk hgi hb
   obtain ⟨c,rfl⟩:∃ c':Nat,c=c':=⟨c.toNat,by omega⟩
   generalize ((nd t u).kids.take i).filter F=acc at htk hle
   simp -implicitDefEqProofs only[go_sem,d1,hkl,hgi]
   refine ⟨by omega,?_⟩
   refine JX (YV t (by omega)) ?_
   have en:=Jd1 k (nd t c).k
   have ek:Jn t.nodes (c:Int)=(nd t c).k:=by unfold Jn nd; rw[Gj]
   rw[ek]at htk
   cases hq:(nd t c).k == k with
   |false=>
    rw[hq]at htk en
    simp only[GZ,if_false,Gi]at htk
    simp -implicitDefEqProofs only[go_sem,en]
    refine ⟨Jl,i+1,[0],by omega,by omega,rfl,?_,?_⟩
    ·rw[htk]; simp only[Km,Gb,Gc,go_sem,Jy (Ja (Jb acc))]
    ·rw[htk]; simp[forget,JL,ren,Jm,tRw,JH]
   |true=>
    rw[hq]at htk en
    simp only[if_true]at htk
    simp -implicitDefEqProofs only[go_sem,en,Jd,Jv]
    refine ⟨⟨by omega,by omega⟩,Jl,i+1,[2],by omega,by omega,rfl,?_,?_⟩
    ·rw[htk,Kt,Kc]
     simp only[Km,Gb,Gc,go_sem,Jk]
     simp[Ja (Jb acc),JL,ren]
    ·rw[htk,Kt,Kb]
     simp[forget,JL,ren,Jm,tRw,Jd]
  ·have d1:((i:Int) < ((nd t u).kids.length:Int))=False:=Jq
   rw[Gv (by omega)]
   rw[show (nd t u).kids.filter F=Qx t u k by rw[← hF]; rfl]
   simp -implicitDefEqProofs only[go_sem,d1]
   exact ⟨0,rfl,rfl⟩
section
theorem JdG {z bytes id:Nat}{H:List CObj}{els:List (List CV)}:KI z bytes H (JV id els) []=some (.tt,JV id els,H):=by cases els <;> rfl
attribute [go_sem] JdG
theorem QW:iz []=[]:=rfl
theorem Ko {x:Int}{l:List Int}:iz (x::l)=[.int .i64 x]::iz l:=rfl
theorem KN {a b:List Int}:iz (a++b)=iz a++iz b:=by simp[iz]
theorem JdA {f:Int→List Int}{b:Nat}(h:∀ x,(f x).length≤b):∀ l:List Int,((l.map f).flatten).length≤l.length*b
 |[]=>by simp
 |x::l=>by
  have h1:=h x
  have h2:=JdA h l
  simp only[Gb,List.flatten_cons,Gr,Gg,Nat.add_mul,Nat.one_mul]
  omega
theorem kidsK_len {t:Tr}{u k:Nat}:(Qx t u k).length≤(nd t u).kids.length:=Gq _ _
theorem flat_take {f:Int→List Int}{l:List Int}{i:Nat}(h:i < l.length):((l.take (i+1)).map f).flatten=((l.take i).map f).flatten++f (l.getD i 0):=by
 rw[GG h,Hw,List.flatten_append,Gh,Gl h]
 simp
theorem Jdn {t:Tr}{o:List Int}(g:GoodT t o) {u k:Nat}(hu:u < t.nodes.length) {c:Int}(hc:c∈Qx t u k):0≤c∧c < t.nodes.length:=by
 have:=g.kid hu (KU.1 hc).1; omega
theorem Yc {t:Tr}(ht:t.Fit) {x:Int}{k:Nat}:(Qx t x.toNat k).length≤30:=by
 rcases Nat.lt_or_ge x.toNat t.nodes.length with h | h
 ·exact GD kidsK_len (fitN ht h).kidn
 ·have:nd t x.toNat=default:=by unfold nd; rw[Gh,List.getElem?_eq_none h]; rfl
  refine GD kidsK_len ?_
  rw[this]; exact Nat.zero_le _
theorem binds_le {t:Tr}(ht:t.Fit) {u:Nat}:(YB t u).length≤900:=by
 have h1:=JdA (f:=fun s:Int=>Qx t s.toNat 42) (b:=30) (fun x=>Yc ht) (Qx t u 41)
 have h2:=Yc ht (x:=(u:Int)) (k:=41)
 rw[Gj]at h2
 unfold YB
 omega
section
variable {t:Tr}{o:List Int}(g:GoodT t o) (ht:t.Fit)
include g ht
theorem Jey {u:Nat}(hu:u < t.nodes.length) (k:Nat):Jcy Ga 76 [.rptr (tRw t),.int .i64 (u:Int),.int .u8 (k:Int)] 1 (iz (Qx t u k)):=
 nKids t ht hu (fun c hc=>by have:=g.kid hu hc; omega) k
theorem nKidsF {u:Nat}(hu:u < t.nodes.length) (k:Nat):Fn Ga 76 [.rptr (tRw t),.int .i64 (u:Int),.int .u8 (k:Int)] (.rslc 1 (iz (Qx t u k)) none):=
 (Jey g ht hu k).fn rfl (Jb _)
theorem nBinds {u:Nat}(hu:u < t.nodes.length):Jcy Ga 188 [.rptr (tRw t),.int .i64 (u:Int)] 1 (iz (YB t u)):=by
 have hL:=Yc ht (x:=(u:Int)) (k:=41)
 rw[Gj]at hL
 refine JfM (Kg c188_ok fun N=>?_) rfl (Jb _)
 simp -implicitDefEqProofs only[c188,go_sem]
 refine JX (nKidsF g ht hu 41) ?_
 have hbl:YB t u=((Qx t u 41).map fun s=>Qx t s.toNat 42).flatten:=rfl
 rw[hbl]
 have hr:∀ c∈Qx t u 41,0≤c∧c < t.nodes.length:=fun c hc=>Jdn g hu hc
 generalize Qx t u 41=L at hL hr ⊢
 have hil:(iz L).length=L.length:=Jd
 simp -implicitDefEqProofs only[go_sem,hil]
 refine Xy ?_
 simp only[go_sem,Gt]
 generalize hf:(fun s:Int=>Qx t s.toNat 42)=f
 have hfl:∀ x,(f x).length≤30:=fun x=>by rw[← hf]; exact Yc ht
 refine JG (I:=fun i:Nat=>i≤L.length) (inv:=fun i=>gp [(0,.rptr (tRw t)),(3,JV 0 (iz ((L.take i).map f).flatten)),(4,.rslc 1 (iz L) none),(0,.int .i64 (L.length:Int)),(0,.int .i64 (i:Int))] 10) (hp:=fun i=>[KP 1 (iz ((L.take i).map f).flatten)]) (μ:=fun i=>L.length-i) 0 [0] (by omega) rfl ?_ rfl ?_
 ·simp[forget,JL,ren,Jm,gp,JV,iz]
 ·intro i hi
  by_cases hlt:i < L.length
  ·have d1:((i:Int) < (L.length:Int))=True:=Ju
   have hgi:=JN hlt
   have hmem:L.getD i 0∈L:=by rw[Gh,Gl hlt]; exact Gx hlt
   have hb:=hr _ hmem
   have hft:=flat_take (f:=f) hlt
   have hfx:f (L.getD i 0)=Qx t (L.getD i 0).toNat 42:=by rw[← hf]
   have hflx:=hfl (L.getD i 0)
   have hacc:=JdA hfl (L.take i)
   rw[GR]at hacc
   generalize ((L.take i).map f).flatten=acc at hacc hft ⊢
   generalize f (L.getD i 0)=xs at hfx hflx hft
   generalize L.getD i 0=c at hgi hb hfx
   obtain ⟨c,rfl⟩:∃ c':Nat,c=c':=⟨c.toNat,by omega⟩
   rw[Gj]at hfx
   simp -implicitDefEqProofs only[go_sem,d1,hil,hgi]
   refine ⟨by omega,?_⟩
   refine JX (nKidsF g ht (by omega) 42) ?_
   rw[← hfx]
   cases xs with
   |nil=>
    rw[Gi]at hft
    simp -implicitDefEqProofs only[go_sem,QW]
    refine ⟨Jl,i+1,[0],by omega,by omega,rfl,?_,?_⟩
    ·rw[hft]; simp only[Km,Gb,Gc,go_sem,Jy (Ja (Jb acc))]
    ·rw[hft]; simp[forget,JL,ren,Jm,JH]
   |cons x xs=>
    simp only[Gg]at hflx
    simp -implicitDefEqProofs only[go_sem,Ko,Jd,Jv]
    refine ⟨⟨by omega,by omega⟩,Jl,i+1,[1],by omega,by omega,rfl,?_,?_⟩
    ·rw[hft,KN,Ko,Kc]
     simp only[Km,Gb,Gc,go_sem,Jk]
     simp[Ja (Jb acc),Ja (Jb xs),JL,ren]
    ·rw[hft,KN,Ko,Kb]
     simp[forget,JL,ren,Jm,Jd]
  ·have d1:((i:Int) < (L.length:Int))=False:=Jq
   rw[Gv (by omega)]
   simp -implicitDefEqProofs only[go_sem,d1]
   exact ⟨0,rfl,rfl⟩
end
end
section
section
variable {P:Program}{E:Env}{H:List CObj}
theorem CallsC.pad {f:Nat}{args:List CV}{R R':CV→List CObj→Prop}(h:CallsC P E f args H R) (hR:∀ v H',R v H'→R' v H'∨R' v (H'++[.dead])):CallsC P E f args H R':=by
 intro m w vs hs hv
 refine (h m w vs hs hv).mono ?_
 rintro e w' ⟨r,m',v,H',h1,h2,h3,h4,h5⟩
 rcases hR _ _ h5 with g | g
 ·exact ⟨r,m',v,H',h1,h2,h3,h4,g⟩
 ·obtain ⟨t1,t2,t3⟩:=h3.pad (n0:=H.length)
  exact ⟨r,_,v,_,h1,h2.trans t3,t1,QP t2 (Kj.refl _) _ _ h4,g⟩
def RowR (z:Nat) (els:List (List CV)) (v:CV) (H':List CObj):Prop:=(∃ id,v=JV id els∧H'[id]? = some (KP z els))∨(v=.nils∧els=[])∨∃ id c,v=.slc id 0 els.length (some c)∧H'[id]? = some (.arr z els)∧els≠[]
theorem RowR.row {z id:Nat}{els:List (List CV)}{v:CV}{H':List CObj}(h1:v=JV id els) (h2:H'[id]? = some (KP z els)):RowR z els v H':=.inl ⟨id,h1,h2⟩
theorem RowR.nil {z:Nat}{H':List CObj}:RowR z [] .nils H':=.inr (.inl ⟨rfl,rfl⟩)
theorem RowR.lit {z id c:Nat}{e:List CV}{els:List (List CV)}{H':List CObj}(h2:H'[id]? = some (.arr z (e::els))):RowR z (e::els) (.slc id 0 (els.length+1) (some c)) H':=.inr (.inr ⟨id,c,rfl,h2,by simp⟩)
theorem Jdy {f:Nat}{args:List CV}{z:Nat}{els:List (List CV)}(h:CallsC P Env.none f args [] (RowR z els)) (ha:Jr args=true) (hc:Jo els=true):Jcy P f args z els:=
 JfM ((h.wk (R':=fun v H'=>(∃ id,v=JV id els∧H'[id]? = some (KP z els))∨(v=.nils∧els=[])) fun v H' hv=>by
  rcases hv with hv | hv | ⟨id,c,rfl,h2,h3⟩
  ·exact ⟨v,wk.refl _,.inl hv⟩
  ·exact ⟨v,wk.refl _,.inr hv⟩
  ·exact ⟨_,wk_cap,.inl ⟨id,(Qt h3).symm,by rw[Qo h3]; exact h2⟩⟩).pad fun v H' hv=>by
  rcases hv with hv | ⟨rfl,rfl⟩
  ·exact .inl hv
  ·exact .inr ⟨H'.length,rfl,by simp; rfl⟩) ha hc
end
section
variable {t:Tr}{o:List Int}(g:GoodT t o) (ht:t.Fit)
include g ht
theorem nDeclares {u a:Nat}(hu:u < t.nodes.length) (ha:a < t.nodes.length):Jcy Ga 159 [.rptr (tRw t),.int .i64 (u:Int),.int .i64 (a:Int)] 1 (iz (JaV t u a)):=by
 have hg:=YT hu
 have hkl:(iz (nd t u).kids).length=(nd t u).kids.length:=Jd
 have bu:((u:Int) < (t.nodes.length:Int))=True:=Ju
 refine Jdy (Kg c159_ok fun N=>?_) rfl (Jb _)
 unfold JaV
 by_cases h40:(nd t u).k=40
 ·rw[if_pos h40]
  simp -implicitDefEqProofs only[c159,go_sem,tRw,Jf,hg,Nd.cv,kbE,h40]
  refine ⟨by omega,?_⟩
  refine Jd8 (.inl rfl) (nBinds g ht hu) ?_
  simp -implicitDefEqProofs only[go_sem]
  exact .row (id:=1) rfl rfl
 have b40:((nd t u).k == 40)=false:=beq_eq_false_iff_ne.2 h40
 rw[if_neg h40]
 by_cases h65:(nd t u).k=65
 ·rw[if_pos h65]
  simp -implicitDefEqProofs only[c159,go_sem,tRw,Jf,hg,Nd.cv,kbE,h65]
  refine ⟨by omega,?_⟩
  refine Jd8 (.inl rfl) (Jey g ht hu 64) ?_
  simp -implicitDefEqProofs only[go_sem]
  exact .row (id:=1) rfl rfl
 have b65:((nd t u).k == 65)=false:=beq_eq_false_iff_ne.2 h65
 rw[if_neg h65]
 by_cases h47:(nd t u).k=47
 ·rw[if_pos h47]
  have hlen:(nd t u).kids.length=3:=(Y3 g hu h47).1
  have hg2:=JN (l:=(nd t u).kids) (i:=2) (by omega)
  by_cases he:(a:Int)=(nd t u).kids.getD 2 0
  ·have e1:((a:Int) == (nd t u).kids.getD 2 0)=true:=beq_iff_eq.2 he
   rw[if_pos he]
   simp -implicitDefEqProofs only[c159,go_sem,tRw,Jf,hg,Nd.cv,kbE,h47,hkl,hlen,hg2,e1]
   exact ⟨by omega,by omega,.lit rfl⟩
  ·have e1:((a:Int) == (nd t u).kids.getD 2 0)=false:=beq_eq_false_iff_ne.2 he
   rw[if_neg he]
   simp -implicitDefEqProofs only[c159,go_sem,tRw,Jf,hg,Nd.cv,kbE,h47,hkl,hlen,hg2,e1]
   exact ⟨by omega,by omega,.nil⟩
 have b47:((nd t u).k == 47)=false:=beq_eq_false_iff_ne.2 h47
 rw[if_neg h47]
 by_cases h28:(nd t u).k=28
 ·rw[if_pos h28]
  simp -implicitDefEqProofs only[c159,go_sem,tRw,Jf,hg,Nd.cv,kbE,h28]
  refine ⟨by omega,?_⟩
  refine JX (YV t ha) ?_
  by_cases h43:(nd t a).k=43
  ·rw[if_pos h43]
   simp -implicitDefEqProofs only[go_sem,kbE,h43]
   exact .nil
  have b43:((nd t a).k == 43)=false:=beq_eq_false_iff_ne.2 h43
  rw[if_neg h43]
  by_cases h41:(nd t a).k=41∨(nd t a).k=44
  ·rw[if_pos h41]
   have hK:=Yc ht (x:=(u:Int)) (k:=43)
   rw[Gj]at hK
   have hB:=binds_le ht (u:=u)
   have b41:((nd t a).k == 41)=true∨((nd t a).k == 41)=false∧((nd t a).k == 44)=true:=by
    rcases h41 with h | h <;> simp[h]
   rcases b41 with b41 | ⟨b41,b44⟩
   ·simp -implicitDefEqProofs only[go_sem,kbE,b43,b41]
    refine Jd8 (.inl rfl) (Jey g ht hu 43) ?_
    simp -implicitDefEqProofs only[go_sem]
    refine JX ((nBinds g ht hu).fn rfl (Jb _)) ?_
    generalize Qx t u 43=L at hK ⊢
    generalize YB t u=M at hB ⊢
    cases M with
    |nil=>
     simp -implicitDefEqProofs only[go_sem,QW,Gi]
     exact .row (id:=1) rfl rfl
    |cons x xs=>
     simp only[Gg]at hB
     simp -implicitDefEqProofs only[go_sem,Ko,Jd,Jv]
     refine ⟨⟨by omega,by omega⟩,.row (id:=2) (by rw[KN,Ko,Kb,Jd,Jd]) (by rw[KN,Ko,Kc]; rfl)⟩
   ·simp -implicitDefEqProofs only[go_sem,kbE,b43,b41,b44]
    refine Jd8 (.inl rfl) (Jey g ht hu 43) ?_
    simp -implicitDefEqProofs only[go_sem]
    refine JX ((nBinds g ht hu).fn rfl (Jb _)) ?_
    generalize Qx t u 43=L at hK ⊢
    generalize YB t u=M at hB ⊢
    cases M with
    |nil=>
     simp -implicitDefEqProofs only[go_sem,QW,Gi]
     exact .row (id:=1) rfl rfl
    |cons x xs=>
     simp only[Gg]at hB
     simp -implicitDefEqProofs only[go_sem,Ko,Jd,Jv]
     refine ⟨⟨by omega,by omega⟩,.row (id:=2) (by rw[KN,Ko,Kb,Jd,Jd]) (by rw[KN,Ko,Kc]; rfl)⟩
  ·have b41:((nd t a).k == 41)=false:=beq_eq_false_iff_ne.2 fun h=>h41 (.inl h)
   have b44:((nd t a).k == 44)=false:=beq_eq_false_iff_ne.2 fun h=>h41 (.inr h)
   rw[if_neg h41]
   simp -implicitDefEqProofs only[go_sem,kbE,b43,b41,b44]
   refine Jd8 (.inl rfl) (Jey g ht hu 43) ?_
   simp -implicitDefEqProofs only[go_sem]
   exact .row (id:=1) rfl rfl
 have b28:((nd t u).k == 28)=false:=beq_eq_false_iff_ne.2 h28
 rw[if_neg h28]
 simp -implicitDefEqProofs only[c159,go_sem,tRw,Jf,hg,Nd.cv,kbE,b40,b65,b47,b28]
 exact ⟨by omega,.nil⟩
omit g in
theorem decl_le {u a:Nat}:(JaV t u a).length≤1000:=by
 have hB:=binds_le ht (u:=u)
 have hK:∀ k,(Qx t u k).length≤30:=fun k=>by
  have:=Yc ht (x:=(u:Int)) (k:=k)
  rwa [Gj]at this
 have h1:=hK 64
 have h2:=hK 43
 unfold JaV
 repeat' split
 all_goals first | omega | simp only[Gr,Gg,Gm]; omega
omit ht in
theorem sight_sort {j:Nat}(hj:j < t.nodes.length):(Xu t t.nodes.length j).mergeSort (fun x y=>decide (x≤y))=K7 t j:=by
 refine JbN (sort_strict (climb_nodup g _ _ hj)) (JaQ.filter _) fun x=>?_
 unfold K7
 rw[Je6,Gy,GH]
 constructor
 ·intro h
  have:=climb_who g _ _ _ hj h
  exact ⟨JY.2 ⟨this.1,this.2.1⟩,h⟩
 ·exact fun h=>h.2
theorem nSight {j:Nat}(hj:j < t.nodes.length):Fn Ga 128 [.rptr (tRw t),.int .i64 (j:Int)] (.rslc 1 (iz (K7 t j)) none):=by
 have hmany:=g.many
 rw[← sight_sort g hj]
 refine JeM (Kg c128_ok fun N=>?_) rfl (Jb _)
 simp -implicitDefEqProofs only[c128,go_sem]
 refine Xy ?_
 simp only[go_sem,Gt]
 generalize hC:Xu t t.nodes.length j=C
 refine JG (σ:=Nat×Nat×List Int) (I:=fun s=>s.2.1 < t.nodes.length∧t.nodes.length≤s.2.1+s.1∧s.2.2++Xu t s.1 s.2.1=C∧s.2.2.length+1000*s.1≤1000*t.nodes.length) (inv:=fun s=>gp [(0,.rptr (tRw t)),(3,JV 0 (iz s.2.2)),(0,.int .i64 (s.2.1:Int))] 31) (hp:=fun s=>[KP 1 (iz s.2.2)]) (μ:=fun s=>t.nodes.length-s.2.1) (t.nodes.length,j,[]) [0] ⟨hj,by simp only; omega,by simp[hC],by simp⟩ rfl ?_ rfl ?_
 ·simp[forget,JL,ren,Jm,gp,JV,iz]
 ·rintro ⟨f,a,acc⟩ ⟨ha,hf,hacc,hlen⟩
  dsimp only at ha hf hacc hlen
  obtain ⟨f,rfl⟩:∃ f',f=f' + 1:=⟨f-1,by omega⟩
  rw[Xu]at hacc
  rcases Qp g ha with ⟨hp,_⟩ | ⟨m,hp,ham,hm,_⟩
  ·have e1:((-1:Int) != -1)=false:=by decide
   rw[hp,if_pos (by decide),Gi]at hacc
   simp -implicitDefEqProofs only[go_sem,tRw,KW,upz ha,hp,e1]
   refine ⟨by omega,?_⟩
   cases acc with
   |nil=>
    rw[← hacc]
    simp -implicitDefEqProofs only[go_sem,QW,Q3]
    refine JX sortNil ?_
    simp -implicitDefEqProofs only[go_sem,Hg,QW,Q3,X8]
    exact ⟨0,rfl⟩
   |cons x xs=>
    rw[← hacc]
    simp only[Gg]at hlen
    have hne:(x::xs).mergeSort (fun x y=>decide (x≤y))≠[]:=by
     intro e
     have:=congrArg H6 e
     rw[GL]at this
     simp at this
    have hl2:(iz ((x::xs).mergeSort fun x y=>decide (x≤y)))≠[]:=by simpa [iz]using hne
    simp -implicitDefEqProofs only[go_sem,Ko,Q4,Yo,Jd]
    refine J2 (.inl rfl) (sortRow (l:=x::xs) (by simp) (by simp only[Gg]; omega) rfl) fun v H' ⟨h1,h2⟩=>?_
    subst h1 h2
    simp -implicitDefEqProofs only[go_sem]
    refine ⟨0,by rw[Qt hl2,Jd,GL]; rfl,by rw[Qo hl2]; rfl⟩
  ·have e1:((m:Int) != -1)=true:=bne_iff_ne.2 (by omega)
   rw[hp,if_neg (by omega),Gj,← List.append_assoc]at hacc
   have hdl:=decl_le ht (u:=m) (a:=a)
   simp -implicitDefEqProofs only[go_sem,tRw,KW,upz ha,hp,e1]
   refine ⟨by omega,by omega,?_⟩
   refine JX ((nDeclares g ht hm ha).fn rfl (Jb _)) ?_
   generalize JaV t m a=xs at hacc hdl ⊢
   cases xs with
   |nil=>
    rw[Gi]at hacc
    simp -implicitDefEqProofs only[go_sem,tRw,KW,upz ha,hp,QW]
    refine ⟨by omega,(f,m,acc),[0],⟨hm,by simp only; omega,hacc,by simp only; omega⟩,by simp only; omega,rfl,?_,?_⟩
    ·simp only[Km,Gb,Gc,go_sem,Jy (Ja (Jb acc))]
    ·simp[forget,JL,ren,Jm,JH,tRw]
   |cons x xs=>
    simp only[Gg]at hdl
    simp -implicitDefEqProofs only[go_sem,tRw,KW,upz ha,hp,Ko,Jd,JcR,Jv]
    refine ⟨⟨by omega,by omega⟩,by omega,(f,m,acc++x::xs),[1],⟨hm,by simp only; omega,hacc,by simp only[Gr,Gg]; omega⟩,by simp only; omega,rfl,?_,?_⟩
    ·rw[KN,Ko,Kc]
     simp only[Km,Gb,Gc,go_sem,Jk]
     simp[Ja (Jb acc),Ja (Jb xs),JL,ren]
    ·rw[KN,Ko,Kb]
     simp[forget,JL,ren,Jm,Jd,tRw]
end
end
section
theorem JdD {q:Int→Bool}:∀ (l:List Int) (i:Nat),(Xv q l i = -1∧l.find? q=none)∨∃ j,j < l.length∧Xv q l i=((i+j:Nat):Int)∧l.find? q=some (l.getD j 0)
 |[],i=>.inl ⟨rfl,rfl⟩
 |x::l,i=>by
  rw[Xv,Hy]
  cases hq:q x with
  |true=>exact .inr ⟨0,by simp,by simp,by simp⟩
  |false=>
   rcases JdD l (i+1) with ⟨h1,h2⟩ | ⟨j,h1,h2,h3⟩
   ·exact .inl ⟨by simpa using h1,h2⟩
   ·exact .inr ⟨j+1,by simpa using h1,by simp[h2]; omega,by simpa using h3⟩
theorem indexFI {f:Nat}{l1 l2:List CV}{F:IFunc}(l:List Int) (q:Int→Bool) (cap:Option Nat) (hF:Jg Ga f=some F) (hc1:Jr l1=true) (hc2:Jr l2=true)
  (hq:∀ p∈l,Fn Ga f (l1++[.int .i64 p]++l2) (.bool (q p))) (hlen:l.length≤1000000):Fn Ga 81 [.rslc 1 (iz l) cap,.fn f l1 l2] (.int .i64 (Xv q l 0)):=by
 have hil:(iz l).length=l.length:=Jd
 refine Jc c81_ok (by simp[Jr,CV.closed,hc1,hc2]) rfl fun N=>?_
 simp -implicitDefEqProofs only[c81,go_sem,hil]
 refine JE (I:=fun i:Nat=>i≤l.length∧Xv q l 0=Xv q (l.drop i) i) (inv:=fun i=>gp [(0,.rslc 1 (iz l) cap),(0,.fn f l1 l2),(5,.int .i64 l.length),(0,.int .i64 i)] 10) (hp:=fun _=>[]) (μ:=fun i=>l.length-i) 0 ⟨by omega,rfl⟩ ?_ rfl ?_
 ·simp[forget,gp]
 ·rintro i ⟨hi,hinv⟩
  by_cases hlt:i < l.length
  ·have d1:((i:Int) < (l.length:Int))=True:=Ju
   have hgi:=JN hlt
   have hge:l[i]? = some (l.getD i 0):=by rw[Gh,Gl hlt]; rfl
   have hm:l.getD i 0∈l:=GM hge
   rw[Xr hge]at hinv
   simp -implicitDefEqProofs only[go_sem,hil,d1,hgi]
   refine ⟨by omega,?_⟩
   refine vr_fv (.inl rfl) rfl hF (JaG Jes _) (hq _ hm) ?_
   cases hb:q (l.getD i 0) with
   |true=>
    rw[hb,if_pos rfl]at hinv
    simp -implicitDefEqProofs only[go_sem,hinv]
   |false=>
    rw[hb]at hinv
    simp -implicitDefEqProofs only[go_sem]
    refine ⟨Jl,i+1,⟨by omega,by simpa using hinv⟩,by omega,?_⟩
    simp[forget]
  ·have d1:((i:Int) < (l.length:Int))=False:=Jq
   rw[Gp (by omega)]at hinv
   simp -implicitDefEqProofs only[go_sem,hil,d1,hinv,Xv]
theorem nNamed1 (t:Tr) (s:List UInt8) {i:Nat}(hi:i < t.nodes.length):Fn Ga 158 [.int .i64 (i:Int),.rptr [.rptr (tRw t)],.rptr [S s]] (.bool ((nd t i).text == s)):=by
 have hg:=YT hi
 refine Jc c158_ok rfl rfl fun N=>?_
 simp -implicitDefEqProofs only[c158,go_sem]
 refine Kz JI (by decide) ?_
 simp -implicitDefEqProofs only[go_sem,tRw,Jf,hg,Nd.cv]
 omega
theorem nNamed (t:Tr) (s:List UInt8) (l:List Int) (hl:∀ d∈l,0≤d∧d < t.nodes.length) (hlen:l.length≤1000000):Fn Ga 127 [.rptr (tRw t),.rslc 1 (iz l) none,S s] (.int .i64 (Ya t l s)):=by
 have hil:(iz l).length=l.length:=Jd
 unfold Ya
 generalize hq:(fun d:Int=>(nd t d.toNat).text == s)=q
 refine Jc c127_ok rfl rfl fun N=>?_
 simp -implicitDefEqProofs only[c127,go_sem]
 refine Je (id:=0) (z:=1) (els:=[[.rptr (tRw t)]]) rfl rfl ?_
 simp only[go_sem,J4,Ky,frz,Qy,Gf]
 refine Je (id:=1) (z:=1) (els:=[[S s]]) rfl rfl ?_
 simp only[go_sem,J4,Ky,frz,Qy,Gf]
 refine JX (indexFI l q none c158_ok rfl rfl (fun p hp=>?_) hlen) ?_
 ·have hb:=hl p hp
  obtain ⟨p,rfl⟩:∃ p':Nat,p=p':=⟨p.toNat,by omega⟩
  have h:=nNamed1 t s (i:=p) (by omega)
  rw[← hq]
  simpa only[Gt,Gz,Gj]using h
 ·rcases JdD (q:=q) l 0 with ⟨h1,h2⟩ | ⟨j,h1,h2,h3⟩
  ·have e1:((-1:Int) < 0)=True:=Ju
   simp -implicitDefEqProofs only[go_sem,h1,h2,e1]
  ·rw[G6]at h2
   have e1:((j:Int) < 0)=False:=Jq
   have hgj:=JN h1
   simp -implicitDefEqProofs only[go_sem,h2,h3,e1,hil,hgj]
   omega
section
variable {t:Tr}{o:List Int}(g:GoodT t o) (ht:t.Fit)
include g ht
theorem nMeaning {i:Nat}(hi:i < t.nodes.length):Fn Ga 95 [.rptr (tRw t),.int .i64 (i:Int)] (.tup [.int .i64 (J6 t o i),.bool (Kh t i)]):=by
 have hg:=YT hi
 have hmany:=g.many
 have hitm:=ht.items
 refine Jc c95_ok rfl rfl fun N=>?_
 unfold J6 Kh
 by_cases h3:(nd t i).k=3
 ·have hm:=YH g hi (by omega)
  have hs:∀ d∈K7 t i,0≤d∧d < t.nodes.length:=fun d hd=>JY.1 (Gy.1 hd).1
  have hsl:(K7 t i).length≤1000000:=by
   have:=Gq (fun d=>(Xu t t.nodes.length i).contains d) (QC t)
   unfold K7
   have h2:(QC t).length=t.nodes.length:=by simp[QC]
   omega
  have hN:=nNamed t (nd t i).text (K7 t i) hs hsl
  rw[hm]at hN
  simp -implicitDefEqProofs only[c95,go_sem,tRw,Jf,hg,Nd.cv,kbE,h3]
  refine ⟨by omega,?_⟩
  refine Je (id:=0) (z:=5) (els:=[(nd t i).cv]) (by simp only[Nd.cv,h3]; rfl) rfl ?_
  simp only[go_sem,J4,Ky,frz,Qy,Gf]
  refine Kz JI (by decide) ?_
  simp -implicitDefEqProofs only[go_sem,Nd.cv]
  refine Qn (.inl rfl) (nSight g ht hi) ?_
  simp -implicitDefEqProofs only[go_sem,Nd.cv]
  refine Qn (.inl rfl) hN ?_
  simp -implicitDefEqProofs only[go_sem,if_true,BEq.rfl,GA]
 have b3:((nd t i).k == 3)=false:=beq_eq_false_iff_ne.2 h3
 rw[if_neg h3,b3,GJ]
 by_cases h26:(nd t i).k=26
 ·have hN:=nNamed t (nd t i).text t.items (fun d hd=>by have:=g.itr hd; omega) (by omega)
  rw[call_means g]at hN
  simp -implicitDefEqProofs only[c95,go_sem,tRw,Jf,hg,Nd.cv,kbE,h26]
  refine ⟨by omega,?_⟩
  refine Je (id:=0) (z:=5) (els:=[(nd t i).cv]) (by simp only[Nd.cv,h26]; rfl) rfl ?_
  simp only[go_sem,J4,Ky,frz,Qy,Gf]
  refine Kz JI (by decide) ?_
  simp -implicitDefEqProofs only[go_sem,Nd.cv]
  refine Qn (.inl rfl) hN ?_
  simp -implicitDefEqProofs only[go_sem,if_true,BEq.rfl,GA]
 have b26:((nd t i).k == 26)=false:=beq_eq_false_iff_ne.2 h26
 rw[if_neg h26,b26,GJ]
 by_cases h44:(nd t i).k=44
 ·obtain ⟨u,hu1,hu2,hu3,hu4⟩:=Q8 g hi (by omega)
  have hK:=Yc ht (x:=(u:Int)) (k:=43)
  rw[Gj]at hK
  have hN:=nNamed t (nd t i).text (Qx t u 43) (fun d hd=>Jdn g hu2 hd) (by omega)
  rw[next_means g hu2 hu1]at hN
  simp -implicitDefEqProofs only[c95,go_sem,tRw,Jf,hg,Nd.cv,kbE,h44]
  refine ⟨by omega,?_⟩
  refine Je (id:=0) (z:=5) (els:=[(nd t i).cv]) (by simp only[Nd.cv,h44]; rfl) rfl ?_
  simp only[go_sem,J4,Ky,frz,Qy,Gf]
  refine Kz JI (by decide) ?_
  simp -implicitDefEqProofs only[go_sem,Nd.cv,KW,upz hi,hu1]
  refine ⟨by omega,?_⟩
  refine Qn (.inl rfl) (nKidsF g ht hu2 43) ?_
  simp -implicitDefEqProofs only[go_sem,Nd.cv]
  refine Qn (.inl rfl) hN ?_
  simp -implicitDefEqProofs only[go_sem,if_true,BEq.rfl,GA]
 have b44:((nd t i).k == 44)=false:=beq_eq_false_iff_ne.2 h44
 rw[if_neg h44,b44]
 simp -implicitDefEqProofs only[c95,go_sem,tRw,Jf,hg,Nd.cv,kbE,b3,b26,b44]
 omega
def twQ (t:Tr) (i k:Nat):Bool:=(nd t k).text == (nd t i).text && (if (nd t i).k=44 then (nd t k).k == 44 && KG t k == KG t i else if (nd t i).k=65 then (nd t k).k == 65 else !((nd t k).k == 65) && (QN (nd t k).k && Qi t k == Qi t i))
omit g ht in
theorem nTwice1 {i k:Nat}(hi:i < t.nodes.length) (hk:k < t.nodes.length):Fn Ga 129 [.int .i64 (k:Int),.rptr [.rptr (tRw t)],.rptr (nd t i).cv,.rptr [.int .i64 (i:Int)]] (.bool (twQ t i k)):=by
 have hg:=YT hk
 refine Jc c129_ok rfl rfl fun N=>?_
 unfold twQ
 cases ht:(nd t k).text == (nd t i).text with
 |false=>
  simp -implicitDefEqProofs only[c129,go_sem,tRw,Jf,hg,Nd.cv,ht,Gu,Gw]
  omega
 |true=>
  rw[Gn]
  by_cases h44:(nd t i).k=44
  ·rw[if_pos h44]
   simp -implicitDefEqProofs only[c129,go_sem,tRw,Jf,hg,Nd.cv,ht,kbE,h44,Gs]
   refine ⟨by omega,?_⟩
   refine Je (id:=0) (z:=5) (els:=[(nd t k).cv]) rfl rfl ?_
   simp only[go_sem,J4,Ky,frz,Qy,Gf,Nd.cv]
   refine Kz JI (by decide) ?_
   cases hkk:(nd t k).k == 44 with
   |false=>
    simp -implicitDefEqProofs only[go_sem,kbE,hkk,Gw]
   |true=>
    simp -implicitDefEqProofs only[go_sem,kbE,hkk,KW,upz hi,upz hk,Gn]
    omega
  have b44:((nd t i).k == 44)=false:=beq_eq_false_iff_ne.2 h44
  rw[if_neg h44]
  by_cases h65:(nd t i).k=65
  ·rw[if_pos h65]
   simp -implicitDefEqProofs only[c129,go_sem,tRw,Jf,hg,Nd.cv,ht,kbE,h65,Gs]
   omega
  have b65:((nd t i).k == 65)=false:=beq_eq_false_iff_ne.2 h65
  rw[if_neg h65]
  simp -implicitDefEqProofs only[c129,go_sem,tRw,Jf,hg,Nd.cv,ht,kbE,b44,b65,Gs]
  refine ⟨by omega,?_⟩
  refine Je (id:=0) (z:=5) (els:=[(nd t k).cv]) rfl rfl ?_
  simp only[go_sem,J4,Ky,frz,Qy,Gf,Nd.cv]
  refine Kz JI (by decide) ?_
  cases hkk:(nd t k).k == 65 with
  |true=>
   simp -implicitDefEqProofs only[go_sem,kbN,hkk,Gs,Gw]
  |false=>
   simp -implicitDefEqProofs only[go_sem,kbN,hkk,Gu,Gn]
   refine Qn (gok rfl) (nIsDecl t hk) ?_
   cases hd:QN (nd t k).k with
   |false=>
    simp -implicitDefEqProofs only[go_sem,Gw]
   |true=>
    have en:=Jd1 (Qi t i) (Qi t k)
    simp -implicitDefEqProofs only[go_sem,tRw,itz_len,itz hi,itz hk,en,Gn]
    omega
end
end
section
theorem JaF {n i:Nat}(h:i < n):(Gd n).drop i=i::(Gd n).drop (i+1):=by
 rw[GK (by simpa using h),List.getElem_range]
section
variable {t:Tr}{o:List Int}(g:GoodT t o) (ht:t.Fit)
include g ht
end
end
theorem twN_eq {t:Tr}{i:Nat}:twN t i=if (nd t i).k≠44∧QN (nd t i).k=false then false else (Gd i).any (twQ t i):=rfl
theorem nTwice {t:Tr}{i:Nat}(hmany:t.nodes.length≤100000) (hi:i < t.nodes.length):Fn Ga 96 [.rptr (tRw t),.int .i64 (i:Int)] (.bool (twN t i)):=by
 have hg:=YT hi
 refine Jc c96_ok rfl rfl fun N=>?_
 rw[twN_eq]
 simp -implicitDefEqProofs only[c96,go_sem]
 refine Je (id:=0) (z:=1) (els:=[[.rptr (tRw t)]]) rfl rfl ?_
 simp only[go_sem,J4,Ky,frz,Qy,Gf]
 refine Je (id:=1) (z:=1) (els:=[[.int .i64 (i:Int)]]) rfl rfl ?_
 simp only[go_sem,J4,Ky,frz,Qy,Gf]
 refine Jaw [false,false,false,false,false,false,false,false,true,true] JI (by decide +kernel) ?_
 simp -implicitDefEqProofs only[go_sem]
 refine vh_all (.rptr (tRw t)) (fun _=>rfl) trivial ?_
 by_cases h44:(nd t i).k=44
 ·rw[if_neg (fun h=>h.1 h44)]
  simp -implicitDefEqProofs only[go_sem,tRw,Jf,hg,Nd.cv,kbN,h44]
  refine ⟨by omega,?_⟩
  refine Je (id:=2) (z:=5) (els:=[(nd t i).cv]) (by simp only[Nd.cv,h44]; rfl) rfl ?_
  simp only[go_sem,J4,Ky,frz,Qy,Gf]
  refine JE (I:=fun k:Nat=>k≤i∧(Gd i).any (twQ t i)=((Gd i).drop k).any (twQ t i)) (inv:=fun k=>gp [(6,.fn 129 [] [.rptr [.rptr (tRw t)],.rptr (nd t i).cv,.rptr [.int .i64 (i:Int)]]),(19,.int .i64 (i:Int)),(0,.int .i64 (k:Int))] 6) (hp:=fun _=>[.dead,.dead,.dead]) (μ:=fun k=>i-k) 0 ⟨by omega,rfl⟩ ?_ rfl ?_
  ·simp[forget,gp,tRw]
  ·rintro k ⟨hk,hinv⟩
   by_cases hlt:k < i
   ·have d1:((k:Int) < (i:Int))=True:=Ju
    rw[JaF hlt,HY]at hinv
    simp -implicitDefEqProofs only[go_sem,d1]
    refine vr_fv (.inl rfl) rfl c129_ok (JaG Jes _) (nTwice1 hi (by omega)) ?_
    cases hb:twQ t i k with
    |true=>
     rw[hb,GA]at hinv
     simp -implicitDefEqProofs only[go_sem,hinv]
    |false=>
     rw[hb,GJ]at hinv
     simp -implicitDefEqProofs only[go_sem]
     refine ⟨Jl,k+1,⟨by omega,hinv⟩,by omega,?_⟩
     simp[forget]
   ·have d1:((k:Int) < (i:Int))=False:=Jq
    rw[show (Gd i).drop k=[] from Gp (by simp; omega),H5]at hinv
    simp -implicitDefEqProofs only[go_sem,d1,hinv]
 ·have b44:((nd t i).k == 44)=false:=beq_eq_false_iff_ne.2 h44
  simp -implicitDefEqProofs only[go_sem,tRw,Jf,hg,Nd.cv,kbN,b44,Gu]
  refine ⟨by omega,?_⟩
  refine Je (id:=2) (z:=5) (els:=[(nd t i).cv]) rfl rfl ?_
  simp only[go_sem,J4,Ky,frz,Qy,Gf]
  refine JW (gok rfl) (nIsDecl t hi) ?_
  cases hd:QN (nd t i).k with
  |false=>
   simp -implicitDefEqProofs only[go_sem]
   rw[if_pos h44]
  |true=>
   rw[if_neg (show ¬ ((nd t i).k≠44∧true=false) from fun h=>by cases h.2)]
   simp -implicitDefEqProofs only[go_sem]
   refine JE (I:=fun k:Nat=>k≤i∧(Gd i).any (twQ t i)=((Gd i).drop k).any (twQ t i)) (inv:=fun k=>gp [(6,.fn 129 [] [.rptr [.rptr (tRw t)],.rptr (nd t i).cv,.rptr [.int .i64 (i:Int)]]),(19,.int .i64 (i:Int)),(0,.int .i64 (k:Int))] 6) (hp:=fun _=>[.dead,.dead,.dead]) (μ:=fun k=>i-k) 0 ⟨by omega,rfl⟩ ?_ rfl ?_
   ·simp[forget,gp,tRw]
   ·rintro k ⟨hk,hinv⟩
    by_cases hlt:k < i
    ·have d1:((k:Int) < (i:Int))=True:=Ju
     rw[JaF hlt,HY]at hinv
     simp -implicitDefEqProofs only[go_sem,d1]
     refine vr_fv (.inl rfl) rfl c129_ok (JaG Jes _) (nTwice1 hi (by omega)) ?_
     cases hb:twQ t i k with
     |true=>
      rw[hb,GA]at hinv
      simp -implicitDefEqProofs only[go_sem,hinv]
     |false=>
      rw[hb,GJ]at hinv
      simp -implicitDefEqProofs only[go_sem]
      refine ⟨Jl,k+1,⟨by omega,hinv⟩,by omega,?_⟩
      simp[forget]
    ·have d1:((k:Int) < (i:Int))=False:=Jq
     rw[show (Gd i).drop k=[] from Gp (by simp; omega),H5]at hinv
     simp -implicitDefEqProofs only[go_sem,d1,hinv]
section
section
variable {t:Tr}{o:List Int}(g:GoodT t o) (ht:t.Fit)
include g ht
end
end
section
section
variable {P:Program}{E:Env}{H:List CObj}
def RowC (z:Nat) (els:List (List CV)) (v:CV) (H':List CObj):Prop:=RowR z els v H'∨∃ id es,v=.slc id 0 els.length none∧H'[id]? = some (.arr z es)∧es.take els.length=els∧els≠[]
theorem fnRow_cut {f:Nat}{args:List CV}{z:Nat}{els:List (List CV)}(h:CallsC P Env.none f args [] (RowC z els)) (ha:Jr args=true) (hc:Jo els=true):Jcy P f args z els:=
 Jdy (h.trunc (id:=0) (z:=0) (j:=0) (els:=[]) (v:=.un) fun v H' hv=>by
  rcases hv with hv | ⟨id,es,rfl,h2,h3,h4⟩
  ·exact .inl hv
  ·exact .inr ⟨id,z,es,els.length,h2,.row (id:=id) (Qt h4).symm (by rw[Qo h4,h3,Ha (G8.1 h2).1])⟩) ha hc
end
structure OfOk (t:Tr) (of:List Int):Prop where
 len:of.length=t.nodes.length
 rng:∀ i,i < of.length→-1≤of.getD i 0∧of.getD i 0 < t.nodes.length
theorem OfOk.dft {t:Tr}{of:List Int}(h:OfOk t of) {i:Nat}(hi:i < of.length):of.getD i (-1)=of.getD i 0:=by
 simp[Gh,Gl hi]
def rRw (t:Tr) (of:List Int):List CV:=[.rptr (tRw t),.rslc 1 (iz of) none]
section
variable {t:Tr}{o:List Int}(g:GoodT t o) (ht:t.Fit)
include g ht
theorem nNeeds {of:List Int}(ho:OfOk t of) {s:Nat}(hs:s < t.nodes.length) (hk:(nd t s).k=41):Jcy Ga 50 [.agg (rRw t of),.int .i64 (s:Int)] 1 (iz (Ke t o of s)):=by
 have hmany:=g.many
 have hol:(iz of).length=t.nodes.length:=by rw[Jd,ho.len]
 rw[← need_done g]
 refine fnRow_cut (Kg c50_ok fun N=>?_) rfl (Jb _)
 simp -implicitDefEqProofs only[c50,go_sem,rRw,hol]
 refine Je (id:=0) (z:=2) (els:=[rRw t of]) rfl rfl ?_
 simp only[go_sem,J4,Ky,frz,Qy,Gf]
 refine Xy ?_
 simp only[go_sem,Gz,Gt]
 refine JG (I:=fun i:Nat=>i≤t.nodes.length) (inv:=fun i=>gp [(1,.int .i64 (s:Int)),(0,.rptr (rRw t of)),(1,JV 1 (iz (Q7 t o of s (Gd i)))),(4,.rslc 1 (iz of) none),(0,.int .i64 (t.nodes.length:Int)),(0,.int .i64 (i:Int))] 70) (hp:=fun i=>[.dead,KP 1 (iz (Q7 t o of s (Gd i)))]) (μ:=fun i=>t.nodes.length-i) 0 [0,1] (by omega) rfl ?_ rfl ?_
 ·simp[forget,JL,ren,Jm,gp,rRw,JV,iz,Q7]
 ·intro i hi
  by_cases hlt:i < t.nodes.length
  ·have d1:((i:Int) < (t.nodes.length:Int))=True:=Ju
   have hgi:=JN (l:=of) (i:=i) (by rw[ho.len]; exact hlt)
   have hrg:=ho.rng i (by rw[ho.len]; exact hlt)
   have hst:Q7 t o of s (Gd (i+1))=Q7 t o of s (Gd i)++Q7 t o of s [i]:=by rw[Ht,needC_app]
   have hcl:=Jde (t:=t) (o:=o) (of:=of) (s:=s) (Gd i)
   rw[Ho]at hcl
   have hdf:=ho.dft (i:=i) (by rw[ho.len]; exact hlt)
   have h1:Q7 t o of s [i]=if (decide (0≤of.getD i 0) && ((nd t (of.getD i 0).toNat).k == 42 && ((nd t i).k == 3 && (Jbi o i s && (KG t (KG t (of.getD i 0).toNat).toNat == KG t s && !buL t (upL t (J8 t s) t.nodes.length i) false)))))=true then [KG t (of.getD i 0).toNat] else []:=by
    rw[Q7,hdf]; rfl
   generalize Q7 t o of s (Gd i)=acc at hst hcl ⊢
   generalize of.getD i 0=m at hgi hrg h1
   rcases Int.lt_or_le m 0 with hm0 | hm0
   ·obtain rfl:m = -1:=by omega
    have e1:((-1:Int) == -1)=true:=by decide
    have hnil:Q7 t o of s [i]=[]:=by rw[h1,if_neg (by simp)]
    simp -implicitDefEqProofs only[go_sem,d1,hol,hgi,e1]
    refine ⟨by omega,?_⟩
    refine ⟨Jl,i+1,[0,1],by omega,by omega,rfl,?_,?_⟩
    ·rw[hst,hnil,Gi]; simp only[Km,Gb,Gc,go_sem,Jy (Ja (Jb acc)),Jh]
    ·rw[hst,hnil,Gi]; simp[forget,JL,ren,Jm,JH,rRw]
   obtain ⟨m,rfl⟩:∃ m':Nat,m=m':=⟨m.toNat,by omega⟩
   have hmn:m < t.nodes.length:=by omega
   have e1:((m:Int) == -1)=false:=beq_eq_false_iff_ne.2 (by omega)
   rw[decide_eq_true hm0,Gn,Gj]at h1
   simp -implicitDefEqProofs only[go_sem,d1,hol,hgi,e1,rRw]
   refine ⟨by omega,?_⟩
   refine JW (gok rfl) (YV t hmn) ?_
   cases hk42:(nd t m).k == 42 with
   |false=>
    have hnil:Q7 t o of s [i]=[]:=by rw[h1,hk42,if_neg (by simp)]
    simp -implicitDefEqProofs only[go_sem,kbN,hk42,Gu]
    refine ⟨Jl,i+1,[0,1],by omega,by omega,rfl,?_,?_⟩
    ·rw[hst,hnil,Gi]; simp only[Km,Gb,Gc,go_sem,Jy (Ja (Jb acc)),Jh]
    ·rw[hst,hnil,Gi]; simp[forget,JL,ren,Jm,JH,rRw]
   |true=>
    rw[hk42,Gn]at h1
    simp -implicitDefEqProofs only[go_sem,kbN,hk42,Gs,rRw]
    refine JW (gok rfl) (YV t hlt) ?_
    cases hk3:(nd t i).k == 3 with
    |false=>
     have hnil:Q7 t o of s [i]=[]:=by rw[h1,hk3,if_neg (by simp)]
     simp -implicitDefEqProofs only[go_sem,kbN,hk3,Gu]
     refine ⟨Jl,i+1,[0,1],by omega,by omega,rfl,?_,?_⟩
     ·rw[hst,hnil,Gi]; simp only[Km,Gb,Gc,go_sem,Jy (Ja (Jb acc)),Jh]
     ·rw[hst,hnil,Gi]; simp[forget,JL,ren,Jm,JH,rRw]
    |true=>
     rw[hk3,Gn]at h1
     simp -implicitDefEqProofs only[go_sem,kbN,hk3,Gs,rRw]
     refine JW (gok rfl) (nBelow g hlt hs) ?_
     cases hb:Jbi o i s with
     |false=>
      have hnil:Q7 t o of s [i]=[]:=by rw[h1,hb,if_neg (by simp)]
      simp -implicitDefEqProofs only[go_sem,Gu]
      refine ⟨Jl,i+1,[0,1],by omega,by omega,rfl,?_,?_⟩
      ·rw[hst,hnil,Gi]; simp only[Km,Gb,Gc,go_sem,Jy (Ja (Jb acc)),Jh]
      ·rw[hst,hnil,Gi]; simp[forget,JL,ren,Jm,JH,rRw]
     |true=>
      rw[hb,Gn]at h1
      have h42:(nd t m).k=42:=beq_iff_eq.1 hk42
      have h3:(nd t i).k=3:=beq_iff_eq.1 hk3
      obtain ⟨v,hv1,hv2,_,_⟩:=Q8 g hmn (by omega)
      have hL:=nLate g ht hs hk ((Jfb g hs hk (by omega)).1 (JP.1 hb))
      rw[hv1,Gj]at h1
      simp -implicitDefEqProofs only[go_sem,Gs,rRw,tRw,KW,upz hmn,hv1]
      refine ⟨by omega,?_⟩
      refine Kz JI (by decide) ?_
      cases hpp:(KG t v == KG t s) with
      |false=>
       have hnil:Q7 t o of s [i]=[]:=by rw[h1,hpp,if_neg (by simp)]
       simp -implicitDefEqProofs only[go_sem,KW,upz hv2,upz hs,hpp]
       refine ⟨by omega,by omega,?_⟩
       refine ⟨Jl,i+1,[0,1],by omega,by omega,rfl,?_,?_⟩
       ·rw[hst,hnil,Gi]; simp only[Km,Gb,Gc,go_sem,Jy (Ja (Jb acc)),Jh]
       ·rw[hst,hnil,Gi]; simp[forget,JL,ren,Jm,JH,rRw]
      |true=>
       rw[hpp,Gn]at h1
       simp -implicitDefEqProofs only[go_sem,KW,upz hv2,upz hs,hpp]
       refine ⟨by omega,by omega,?_⟩
       refine Qn (gok rfl) hL ?_
       cases hl:buL t (upL t (J8 t s) t.nodes.length i) false with
       |true=>
        have hnil:Q7 t o of s [i]=[]:=by rw[h1,hl,if_neg (by simp)]
        simp -implicitDefEqProofs only[go_sem,Gs]
        refine ⟨Jl,i+1,[0,1],by omega,by omega,rfl,?_,?_⟩
        ·rw[hst,hnil,Gi]; simp only[Km,Gb,Gc,go_sem,Jy (Ja (Jb acc)),Jh]
        ·rw[hst,hnil,Gi]; simp[forget,JL,ren,Jm,JH,rRw]
       |false=>
        have hone:Q7 t o of s [i]=[(v:Int)]:=by rw[h1,hl,if_pos (by simp)]
        simp -implicitDefEqProofs only[go_sem,Gu,Jd,Jv]
        refine ⟨⟨by omega,by omega⟩,Jl,i+1,[0,3],by omega,by omega,rfl,?_,?_⟩
        ·rw[hst,hone,Kt,Kc]
         simp only[Km,Gb,Gc,go_sem,Jk,Jh]
         simp[Ja (Jb acc),JL,ren]
        ·rw[hst,hone,Kt,Kb]
         simp[forget,JL,ren,Jm,rRw,tRw,Jd]
  ·have d1:((i:Int) < (t.nodes.length:Int))=False:=Jq
   obtain rfl:i=t.nodes.length:=by omega
   have hcl:=Jde (t:=t) (o:=o) (of:=of) (s:=s) (Gd t.nodes.length)
   rw[Ho]at hcl
   generalize Q7 t o of s (Gd t.nodes.length)=acc at hcl ⊢
   cases acc with
   |nil=>
    simp -implicitDefEqProofs only[go_sem,d1,QW,Q3]
    refine JX sortNil ?_
    simp -implicitDefEqProofs only[go_sem]
    refine JX JeS ?_
    simp -implicitDefEqProofs only[go_sem]
    rw[show Lib.compact (([]:List Int).mergeSort fun x y=>decide (x≤y))=[] by rw[Hg]; rfl]
    exact .inl .nil
   |cons x xs=>
    simp -implicitDefEqProofs only[go_sem,d1,Ko,Q4,Yo,Jd]
    refine J2 (.inl rfl) (sortRow (l:=x::xs) (by simp) (by omega) rfl) fun v H' ⟨h1,h2⟩=>?_
    subst h1 h2
    simp -implicitDefEqProofs only[go_sem]
    have hsl:((x::xs).mergeSort fun x y=>decide (x≤y)).length=xs.length+1:=by rw[GL]; rfl
    generalize ((x::xs).mergeSort fun x y=>decide (x≤y))=S at hsl ⊢
    have hSn:S≠[]:=by rintro rfl; simp at hsl
    rw[← hsl]
    refine J2 (.inl rfl) (JeR (l:=S) hSn (by simp only[Gg]at hcl; omega) rfl) fun v H' ⟨h1,h2⟩=>?_
    subst h1 h2
    simp -implicitDefEqProofs only[go_sem]
    have hcn:Lib.compact S≠[]:=by
     obtain ⟨y,hy⟩:=List.exists_mem_of_ne_nil _ hSn
     exact List.ne_nil_of_mem (YP.2 hy)
    refine .inr ⟨1,_,by rw[Jd],rfl,?_,by simpa [iz]using hcn⟩
    rw[KN,Hr rfl]
end
end
section
section
variable {t:Tr}{o:List Int}(g:GoodT t o) (ht:t.Fit)
include g ht
end
end
section
theorem indexO {E:Env}{H:List CObj}{id:Nat}{l:List Int}{x:Int}(hl:l.length≤1000000) (hH:H[id]? = some (.arr 1 (iz l))):CallsC Ga E 104 [.slc id 0 l.length none,.int .i64 x] H fun v H'=>v=.int .i64 (Xv (fun y=>x == y) l 0)∧H'=H:=by
 have hil:(iz l).length=l.length:=Jd
 refine Kg c104_ok fun N=>?_
 simp -implicitDefEqProofs only[c104,go_sem]
 refine JE (I:=fun i:Nat=>i≤l.length∧Xv (fun y=>x == y) l 0=Xv (fun y=>x == y) (l.drop i) i) (inv:=fun i=>gp [(0,.slc id 0 l.length none),(0,.int .i64 x),(5,.int .i64 (l.length:Int)),(0,.int .i64 (i:Int))] 10) (hp:=fun _=>H) (μ:=fun i=>l.length-i) 0 ⟨by omega,rfl⟩ ?_ rfl ?_
 ·simp[forget,gp]
 ·rintro i ⟨hi,hinv⟩
  by_cases hlt:i < l.length
  ·have d1:((i:Int) < (l.length:Int))=True:=Ju
   have hgi:=JN hlt
   have hge:l[i]? = some (l.getD i 0):=by rw[Gh,Gl hlt]; rfl
   rw[Xr hge]at hinv
   simp -implicitDefEqProofs only[go_sem,d1,hH,hil,hgi]
   generalize l.getD i 0=y at hinv hgi ⊢
   refine ⟨by omega,by omega,?_⟩
   cases he:(x == y) with
   |true=>
    rw[he,if_pos rfl]at hinv
    simp -implicitDefEqProofs only[go_sem,hinv]
   |false=>
    rw[he]at hinv
    simp -implicitDefEqProofs only[go_sem]
    refine ⟨Jl,i+1,⟨by omega,by simpa using hinv⟩,by omega,?_⟩
    simp[forget]
  ·have d1:((i:Int) < (l.length:Int))=False:=Jq
   rw[Gp (by omega)]at hinv
   simp -implicitDefEqProofs only[go_sem,d1,hinv,Xv]
theorem containsO {E:Env}{H:List CObj}{id:Nat}{l:List Int}{x:Int}(hl:l.length≤100000) (hH:H[id]? = some (KP 1 (iz l))):CallsC Ga E 78 [JV id (iz l),.int .i64 x] H fun v H'=>v=.bool (l.contains x)∧H'=H:=by
 cases l with
 |nil=>exact (containsI [] x (by simp)).args (args':=[.nils,.int .i64 x]) ⟨wk.nils,wk.refl _,trivial⟩ E H
 |cons y l=>
  rw[Ko,Yo,← Ko]at hH
  have hc:=indexO (E:=E) (x:=x) (l:=y::l) (by omega) hH
  rw[show JV id (iz (y::l))=.slc id 0 (y::l).length none by rw[Ko,Q4,Jd]; rfl]
  generalize y::l=L at *
  refine Kg c78_ok fun N=>?_
  simp -implicitDefEqProofs only[c78,go_sem]
  refine J2 (.inl rfl) hc fun v H' ⟨h1,h2⟩=>?_
  subst h1 h2
  have e:decide (0≤Xv (fun y=>x == y) L 0)=L.contains x:=by rw[JaJ,G9]
  simp -implicitDefEqProofs only[go_sem,e]
theorem iz_drop {l:List Int}{n:Nat}:(iz l).drop n=iz (l.drop n):=by simp[iz]
def todoV (els:List Int) (off:Nat):CV:=match els with
 |[]=>.nils
 |_::_=>.slc 2 off (els.length-off) none
theorem Jea {els:List Int}:todoV els 0=JV 2 (iz els):=by cases els <;> simp[todoV,iz,JV]
theorem Je4 {els:List Int}{off:Nat}(h:els≠[]):todoV els off=.slc 2 off (els.length-off) none:=by cases els <;> simp_all [todoV]
theorem JcH:∀ {l out:List Int},XR l out≤l.length
 |[],_=>Nat.le_refl _
 |y::l,out=>by
  have:=JcH (l:=l) (out:=out)
  simp only[XR,Gg]
  split <;> omega
theorem Jft {t:Tr}{o of:List Int}:∀ x∈QC t,(∀ y∈Ke t o of x.toNat,y∈QC t)∧(Ke t o of x.toNat).length≤(QC t).length:=
 fun x _=>⟨fun y hy=>(Gy.1 hy).1,Gq _ _⟩
section
variable {t:Tr}{o:List Int}(g:GoodT t o) (ht:t.Fit)
include g ht
theorem nAll {of:List Int}(ho:OfOk t of) {s:Nat}(hs:s < t.nodes.length) (hk:(nd t s).k=41):Jcy Ga 97 [.agg (rRw t of),.int .i64 (s:Int)] 1 (iz (bfs (fun x=>Ke t o of x.toNat) (QC t) (Ke t o of s) [])):=by
 have hmany:=g.many
 have hal:(QC t).length=t.nodes.length:=by simp[QC]
 refine Jdy (Kg c97_ok fun N=>?_) rfl (Jb _)
 simp -implicitDefEqProofs only[c97,go_sem,rRw]
 refine Je (id:=0) (z:=2) (els:=[rRw t of]) rfl rfl ?_
 simp only[go_sem,J4,Ky,frz,Qy,Gf]
 refine Xy ?_
 simp only[go_sem,Gz,Gt]
 refine Jd8 (.inl rfl) (nNeeds g ht ho hs hk) ?_
 simp -implicitDefEqProofs only[go_sem]
 have hset:∀ s':Nat,∀ x∈Ke t o of s',0≤x∧x < t.nodes.length∧(nd t x.toNat).k=41:=fun s' x hx=>JaH g hx
 generalize hN:(fun x:Int=>Ke t o of x.toNat)=Nf
 have hNok:∀ x∈QC t,(∀ y∈Nf x,y∈QC t)∧(Nf x).length≤(QC t).length:=by rw[← hN]; exact Jft
 have hset':∀ x,∀ y∈Nf x,0≤y∧y < t.nodes.length∧(nd t y.toNat).k=41:=fun x y hy=>by rw[← hN]at hy; exact hset _ y hy
 have h0:=hset s
 have hlen0:(Ke t o of s).length≤t.nodes.length:=by rw[← hal]; exact Gq _ _
 generalize Ke t o of s=T0 at h0 hlen0 ⊢
 generalize hR:bfs Nf (QC t) T0 []=R
 have hst:XR (QC t) []*((QC t).length+1)≤700*701:=H9 (GD JcH (by omega)) (by omega)
 refine JG (σ:=List Int×Nat×List Int) (I:=fun s'=>s'.2.1≤s'.1.length∧(∀ x∈s'.1,0≤x∧x < t.nodes.length∧(nd t x.toNat).k=41)∧bfs Nf (QC t) (s'.1.drop s'.2.1) s'.2.2=R∧muB (QC t) (s'.1.drop s'.2.1) s'.2.2≤1000000∧s'.2.2.length+XR (QC t) s'.2.2≤700)
  (inv:=fun s'=>gp [(2,.rptr (rRw t of)),(1,JV 1 (iz s'.2.2)),(0,todoV s'.1 s'.2.1)] 26) (hp:=fun s'=>[.dead,KP 1 (iz s'.2.2),KP 1 (iz s'.1)]) (μ:=fun s'=>muB (QC t) (s'.1.drop s'.2.1) s'.2.2) (T0,0,[]) [0,1,2] ⟨by simp,h0,by simpa using hR,by simp only[Gf,muB]; omega,by have:=JcH (l:=QC t) (out:=[]); simp only[Gm]; omega⟩ rfl ?_ ?_ ?_
 ·simp[forget,JL,ren,Jm,gp,rRw,Jea,JH,Q3,QW]
 ·simp only[Km,Gb,Gc,go_sem,Jy (Ja (Jb T0)),Jh,QW,X8]
 ·rintro ⟨els,off,out⟩ ⟨hoff,hP,hB,hmu,hout⟩
  dsimp only at hoff hP hB hmu hout
  by_cases hne:els=[]
  ·subst hne
   rw[List.drop_nil,bfs_nil]at hB
   have d1:((0:Int) > 0)=False:=Jq
   have d2:((0:Int) < 0)=False:=Jq
   simp -implicitDefEqProofs only[go_sem,todoV,d1,d2]
   rw[← hB]
   exact .row (id:=1) rfl rfl
  ·have hrO:KP 1 (iz els)=.arr 1 (iz els):=Qo (by simpa [iz]using hne)
   have hel:(iz els).length=els.length:=Jd
   rw[hrO,Je4 hne]
   by_cases hlt:off < els.length
   ·have d1:((0:Int) < ((els.length-off:Nat):Int))=True:=Ju
    have d2:(((els.length-off:Nat):Int) > 0)=True:=Ju
    have hgi:=JN hlt
    have hdr:els.drop off=els.getD off 0::els.drop (off+1):=by
     rw[GK hlt,Gh,Gl hlt]; rfl
    have hmem:els.getD off 0∈els:=by rw[Gh,Gl hlt]; exact Gx hlt
    have hPx:=hP _ hmem
    have hall:∀ y∈els.drop off,y∈QC t:=fun y hy=>by
     have:=hP y (Hd hy)
     exact JY.2 ⟨this.1,this.2.1⟩
    rw[hdr]at hB hall hmu ⊢
    have hmu':=hmu
    simp only[muB,Gg]at hmu'
    generalize hx:els.getD off 0=x at hgi hPx hB hall hmu ⊢
    have hlen1:(((els.length-off:Nat):Int)).toNat-(1:Int).toNat=els.length-(off+1):=by omega
    simp -implicitDefEqProofs only[go_sem,d1,d2,hel,hgi,Nat.add_zero]
    refine ⟨by omega,⟨by omega,G5 _⟩,?_⟩
    have hxm:x∈QC t:=hall x (by simp)
    have hol:out.length≤700:=by omega
    refine J2 (.inl rfl) (containsO (id:=1) (l:=out) (x:=x) (by omega) rfl) fun v H' ⟨h1,h2⟩=>?_
    subst h1 h2
    cases hc:out.contains x with
    |true=>
     rw[bfs_old hNok hall hc]at hB
     simp -implicitDefEqProofs only[go_sem,Gs]
     refine ⟨(els,off+1,out),[0,1,2],⟨by simp only; omega,hP,hB,by simp only[muB]; omega,hout⟩,by simp only[muB,Gg]; omega,rfl,?_,?_⟩
     ·simp only[Km,Gb,Gc,go_sem,Jy (Ja (Jb out)),Jk,Ja (Jb els),Jh,hrO]
     ·simp[forget,JL,ren,Jm,JH,rRw,Je4 hne]; omega
    |false=>
     rw[bfs_new hNok hall hc]at hB
     have hll:=Yt hxm hc
     have hlr:=Nat.mul_le_mul_right ((QC t).length+1) (show XR (QC t) (out++[x])+1≤XR (QC t) out from hll)
     rw[Nat.add_mul,Nat.one_mul]at hlr
     have hnx:=(hNok x hxm).2
     obtain ⟨xn,rfl⟩:∃ x':Nat,x=x':=⟨x.toNat,by omega⟩
     have hPx3:=hPx.2.2
     rw[Gj]at hPx3
     have hNx:Ke t o of xn=Nf (xn:Int):=by rw[← hN]; simp only[Gj]
     have hsx:=hset' (xn:Int)
     have hNf:=(nNeeds g ht ho (show xn < t.nodes.length by omega) hPx3).fn rfl (Jb _)
     rw[hNx]at hNf
     simp -implicitDefEqProofs only[go_sem,Gu,Jd,Jv,rRw]
     refine ⟨⟨by omega,by omega⟩,?_⟩
     refine JX hNf ?_
     generalize Nf (xn:Int)=M at hnx hsx hB ⊢
     have hel2:off+1+(els.length-off-1)=els.length:=by omega
     have hel3:(off+1+(els.length-off-1)=els.length)=True:=eq_true hel2
     have hd:=List.length_drop (i:=off+1) (l:=els)
     cases M with
     |nil=>
      simp -implicitDefEqProofs only[go_sem,QW]
      rw[Gi]at hB
      refine ⟨(els,off+1,out++[(xn:Int)]),[0,4,2],⟨by simp only; omega,hP,hB,by simp only[muB]; omega,by simp only[Gr,Gg,Gm]; omega⟩,by simp only[muB,Gg]; omega,rfl,?_,?_⟩
      ·rw[hrO,Kt,Kc]
       simp only[Km,Gb,Gc,go_sem,Jk,Ja (Jb els),Jh]
       simp[Ja (Jb out),JL,ren]
      ·rw[Je4 hne,Kt,Kb]
       simp[forget,JL,ren,Jm,Jd]; omega
     |cons y ys=>
      simp -implicitDefEqProofs only[go_sem,Ko,hel,hel3,Jd,Jv]
      simp only[Gg]at hnx
      refine ⟨⟨by omega,by omega⟩,(els.drop (off+1)++y::ys,0,out++[(xn:Int)]),[0,4,5],⟨by simp,fun z hz=>?_,by simpa using hB,by simp only[Gf,muB,Gr,Gg]; omega,by simp only[Gr,Gg,Gm]; omega⟩,by simp only[Gf,muB,Gr,Gg]; omega,rfl,?_,?_⟩
      ·rcases Hu.1 hz with h | h
       ·exact hP z (Hd h)
       ·exact hsx z h
      ·rw[Kt,Kc,KN,Ko,Kc,← iz_drop]
       simp only[Km,Gb,Gc,go_sem,Jk,Jh]
       rw[iz_drop]
       simp[Ja (Jb out),Ja (Jb (els.drop (off+1))),Ja (Jb ys),JL,ren]
      ·rw[Jea,Kt,Kb,KN,Ko,Kb]
       simp[forget,JL,ren,Jm,Jd]; omega
   ·obtain rfl:off=els.length:=by omega
    rw[List.drop_length,bfs_nil]at hB
    have d1:((0:Int) < ((els.length-els.length:Nat):Int))=False:=Jq
    have d2:(((els.length-els.length:Nat):Int) > 0)=False:=Jq
    simp -implicitDefEqProofs only[go_sem,d1,d2]
    rw[← hB]
    exact .row (id:=1) rfl rfl
end
end
section
def q2Ok (l:List IOper) (es:List (List Nat)) (bs bs2:List Bool) (i j:Nat) (p q:List Nat):Bool:=
 (!(i == j) && decide (i < es.length) && decide (j < es.length)) && (Jcl l.length p q &&
 ((l.length == bs.length && (JaW l.length (Jbh es j i) (clo (Jbh es j i)) && Qc l (clo (Jbh es j i)) (bs.map QI))) &&
 ((prl p l).length == bs2.length && (JaW (prl p l).length (pre p q (Jbh es i j)) (clo (pre p q (Jbh es i j))) && Qc (prl p l) (clo (pre p q (Jbh es i j))) (bs2.map QI)))))
theorem vr_dregQ {P:Program}{E:Env}{n0:Nat}{N:Fr}{Q:Exit→List CV→List CObj→Prop}{H:List CObj}{T:List CV}{k:List KItem}{l:List IOper}{es:List (List Nat)}(i j:Nat) (p q:List Nat) (bs bs2:List Bool) (T':List CV) (H':List CObj) (hm:P.follows .mixedOrders=true) (hord:q2Ok l es bs bs2 i j p q=true)
  (h1:vdk P E (leads P E n0 N Q T' H') l bs T H) (h2:vdk P E (leads P E n0 N Q T' H') (prl p l) bs2 T H) (hfin:Kk P E n0 N Q k T' H'):Ok P E n0 N Q (.code (.dreg l es)::k) T H:=by
 unfold q2Ok at hord
 obtain ⟨g0,r1⟩:=GY.1 hord
 obtain ⟨g1,r2⟩:=GY.1 r1
 obtain ⟨g2,g3⟩:=GY.1 r2
 exact JcQ hm (Yy i j g0 (Qz bs T' H' g2 (JB _ _ _ hfin) h1) (Yx p q g1 (Qz bs2 T' H' g3 (JB _ _ _ hfin) h2)))
theorem iz_set {l:List Int}{i:Nat}{v:Int}:(iz l).set i [.int .i64 v]=iz (l.set i v):=by simp[iz,HZ]
def oT (t:Tr):List CV:=[.rslc 5 (ndz t.nodes) none,.rslc 1 (iz t.items) none,.slc 1 0 t.nodes.length none,.slc 2 0 t.nodes.length (some t.nodes.length)]
section
variable {t:Tr}{o:List Int}(g:GoodT t o) (ht:t.Fit)
include g ht
theorem nOpen:Fn Ga 94 [t.cv] (.tup [.rptr (tRw t),.int .i64 0]):=by
 have hmany:=g.many
 have hitm:=g.items
 have hc:chk t=0:=(JbI t).2 ⟨o,g⟩
 have e:(chk t != 0)=false:=by simp[hc]
 refine Yu ?_ rfl rfl
 refine Kg c94_ok fun N=>?_
 simp -implicitDefEqProofs only[c94,go_sem,Tr.cv,Tr.row]
 refine Je (id:=0) (z:=2) (els:=[t.row]) rfl rfl ?_
 simp only[go_sem,J4,Ky,frz,Qy,Tr.row]
 refine JX (parseCheck t ht) ?_
 simp -implicitDefEqProofs only[go_sem,e]
 have hz:GI t.nodes.length [CV.int .i64 0]=iz (Xq t 0):=by rw[itemTo_zero]; simp[iz]
 have hR:=repeatO (-1) t.nodes.length (by omega)
 rw[← upTo_zero g]at hR
 have hni:=Ja (ρ:=[0,2,1,3]) (Jb (Xq t 0))
 have hnu:=Ja (ρ:=[0,2,1,3]) (Jb (upTo t 0))
 refine vr_dregQ 5 9 [0,1,2,3,4,6,7,8,9,5,10,11,12] [0,1,2,3,4,9,5,6,7,8,10,11,12] [false,false,false,false,false,true,false,false,false,true,false,true,false] [false,false,false,false,false,false,false,false,true,true,false,true,false] (gp [(1,.rptr t.row),(3,.ptr 3 0 0)] 71) [.dead,.arr 1 (iz (upTo t 0)),.arr 1 (iz (Xq t 0)),.arr 4 [oT t]] JI (by decide +kernel) ?_ ?_ ?_
 ·simp -implicitDefEqProofs only[go_sem,Tr.row]
  refine ⟨_,_,hs_row (iz [-1]) rfl rfl rfl rfl,?_⟩
  simp -implicitDefEqProofs only[go_sem,Jf]
  refine ⟨_,_,Jdu (.inl rfl) (hR _ _),?_⟩
  simp -implicitDefEqProofs only[go_sem,Jf,hz]
  exact ⟨⟨by omega,G5 _,by omega,by omega⟩,Ji (by simp[forget,Tr.row])⟩
 ·simp -implicitDefEqProofs only[prl,QR,Gg,Gm,Gb,Gc,List.getD_cons_zero,List.getD_cons_succ,go_sem,Tr.row]
  refine ⟨_,_,hs_row (iz [-1]) rfl rfl rfl rfl,?_⟩
  simp -implicitDefEqProofs only[go_sem,Jf,hz]
  refine ⟨⟨by omega,G5 _,by omega,by omega⟩,?_⟩
  refine ⟨_,_,Jdu (.inl rfl) (hR _ _),?_⟩
  simp -implicitDefEqProofs only[go_sem]
  refine YK [0,2,1,3] rfl (by simp[forget,JL,ren,Jm,Tr.row]) ?_
  simp only[Km,Gb,Gc,go_sem,Jk,Jh,hni,hnu]
  simp[JL,ren,Jm,oT]
 ·simp only[gp,GI]
  simp -implicitDefEqProofs only[go_sem,Tr.row,Jf]
  refine JG (I:=fun i:Nat=>i≤t.nodes.length) (inv:=fun i=>gp [(1,.rptr t.row),(3,.ptr 3 0 0),(24,.rslc 5 (ndz t.nodes) none),(0,.int .i64 (t.nodes.length:Int)),(0,.int .i64 (i:Int))] 44) (hp:=fun i=>[.dead,.arr 1 (iz (upTo t i)),.arr 1 (iz (Xq t 0)),.arr 4 [oT t]]) (μ:=fun i=>t.nodes.length-i) 0 [0,1,2,3] (by omega) rfl ?_ ?_ ?_
  ·simp[forget,JL,ren,Jm,gp,Tr.row]
  ·simp only[Km,Gb,Gc,go_sem,Jk,Jh,Ja (Jb _)]
   simp[JL,ren,Jm,oT]
  ·intro i hi
   by_cases hlt:i < t.nodes.length
   ·have d1:((i:Int) < (t.nodes.length:Int))=True:=Ju
    have hg:=YT hlt
    have hkl:(iz (nd t i).kids).length=(nd t i).kids.length:=Jd
    have hkn:=(fitN ht hlt).kidn
    have hus:=upTo_succ g hlt
    simp -implicitDefEqProofs only[go_sem,d1,Jf,hg,Nd.cv,hkl]
    refine ⟨by omega,?_⟩
    refine Je (id:=4) (z:=5) (els:=[(nd t i).cv]) rfl rfl ?_
    simp only[go_sem,J4,Ky,frz,Qy,oT,Gf,JO (Jb _),Gb,Gc]
    refine JE (I:=fun k:Nat=>k≤(nd t i).kids.length) (inv:=fun k=>gp [(1,.rptr t.row),(3,.ptr 3 0 0),(0,.int .i64 (i:Int)),(23,.rslc 5 (ndz t.nodes) none),(0,.int .i64 (t.nodes.length:Int)),(0,.int .i64 (i:Int)),(5,.rslc 1 (iz (nd t i).kids) none),(0,.int .i64 ((nd t i).kids.length:Int)),(0,.int .i64 (k:Int))] 36) (hp:=fun k=>[.dead,.arr 1 (iz (X5 i (upTo t i) ((nd t i).kids.take k))),.arr 1 (iz (Xq t 0)),.arr 4 [oT t],.dead]) (μ:=fun k=>(nd t i).kids.length-k) 0 (by omega) ?_ rfl ?_
    ·simp[forget,gp,Tr.row]
    ·intro k hk
     by_cases hlk:k < (nd t i).kids.length
     ·have d2:((k:Int) < ((nd t i).kids.length:Int))=True:=Ju
      have hgk:=JN hlk
      have hmem:(nd t i).kids.getD k 0∈(nd t i).kids:=by rw[Gh,Gl hlk]; exact Gx hlk
      have hr:=g.kid hlt hmem
      have hsn:X5 (i:Int) (upTo t i) ((nd t i).kids.take (k+1))=(X5 (i:Int) (upTo t i) ((nd t i).kids.take k)).set ((nd t i).kids.getD k 0).toNat i:=by
       rw[GG hlk,JcW,Gh,Gl hlk]; rfl
      have hsl:(X5 (i:Int) (upTo t i) ((nd t i).kids.take k)).length=t.nodes.length:=by rw[Jej,Jay]
      generalize (nd t i).kids.getD k 0=c at hgk hr hsn
      obtain ⟨c,rfl⟩:∃ c':Nat,c=c':=⟨c.toNat,by omega⟩
      rw[Gj]at hsn
      generalize X5 (i:Int) (upTo t i) ((nd t i).kids.take k)=r at hsn hsl ⊢
      have hrl:(iz r).length=t.nodes.length:=by rw[Jd,hsl]
      have hgr:=JN (l:=r) (i:=c) (by omega)
      simp -implicitDefEqProofs only[go_sem,d2,hkl,hgk,oT,hrl,hgr,Gg,Gm,GQ,Gf,iz_set]
      refine ⟨by omega,by omega,by omega,Jl,k+1,by omega,by omega,?_,?_⟩
      ·rw[hsn]
      ·simp[forget,Tr.row]
     ·have d2:((k:Int) < ((nd t i).kids.length:Int))=False:=Jq
      rw[Gv (by omega),← hus]
      simp -implicitDefEqProofs only[go_sem,d2]
      refine ⟨Jl,i+1,[0,1,2,3],by omega,by omega,rfl,?_,?_⟩
      ·simp only[Km,Gb,Gc,go_sem,Jk,Jh,Ja (Jb _)]
       simp[JL,ren,Jm,oT]
      ·simp[forget,JL,ren,Jm,Tr.row]
   ·have d1:((i:Int) < (t.nodes.length:Int))=False:=Jq
    obtain rfl:i=t.nodes.length:=by omega
    rw[upTo_all g]
    simp -implicitDefEqProofs only[go_sem,d1,Tr.row,Jf]
    refine JG (I:=fun i:Nat=>i≤t.nodes.length∧(i=0∨i≤t.nodes.length)∧Qi t i≤t.items.length) (inv:=fun i=>gp [(1,.rptr t.row),(3,.ptr 3 0 0),(4,.int .i64 (Qi t i:Int)),(44,.int .i64 (t.nodes.length:Int)),(0,.int .i64 (i:Int))] 20) (hp:=fun i=>[.dead,.arr 1 (iz (upT t)),.arr 1 (iz (Xq t i)),.arr 4 [oT t]]) (μ:=fun i=>t.nodes.length-i) 0 [0,1,2,3] ⟨by omega,.inl rfl,by rw[JeE g]; omega⟩ rfl ?_ ?_ ?_
    ·simp[forget,JL,ren,Jm,gp,Tr.row,JeE g]
    ·simp only[Km,Gb,Gc,go_sem,Jk,Jh,Ja (Jb _)]
     simp[JL,ren,Jm,oT]
    ·rintro i ⟨hi,_,hin⟩
     by_cases hlt:i < t.nodes.length
     ·have d1:((i:Int) < (t.nodes.length:Int))=True:=Ju
      obtain ⟨L,h1,h2,h3,h4,h5⟩:=itemN_step g hlt
      have hsu:=itemTo_succ hlt
      have hrl:(iz (Xq t i)).length=t.nodes.length:=by rw[Jd,JeD (by omega)]
      have hgr:=JN (l:=Xq t i) (i:=i) (by rw[JeD (by omega)]; exact hlt)
      have hgi:=JN (l:=t.items) h1
      rw[h2]at hgi
      have hil:(iz t.items).length=t.items.length:=Jd
      by_cases he:i=L
      ·have e1:((i:Int) == (L:Int))=true:=by simp[he]
       rw[if_pos he]at h5
       simp -implicitDefEqProofs only[go_sem,d1,Tr.row,oT,hrl,hgr,hil,hgi,e1,Gg,Gm,GQ,Gf,iz_set]
       refine ⟨by omega,by omega,by omega,Jl,Jl,i+1,[0,1,2,3],⟨by omega,.inr (by omega),by omega⟩,by omega,rfl,?_,?_⟩
       ·rw[← hsu]
        simp only[Km,Gb,Gc,go_sem,Jk,Jh,Ja (Jb _)]
        simp[JL,ren,Jm]
       ·rw[h5]; simp[forget,JL,ren,Jm]
      ·have e1:((i:Int) == (L:Int))=false:=beq_eq_false_iff_ne.2 (by omega)
       rw[if_neg he]at h5
       simp -implicitDefEqProofs only[go_sem,d1,Tr.row,oT,hrl,hgr,hil,hgi,e1,Gg,Gm,GQ,Gf,iz_set]
       refine ⟨by omega,by omega,by omega,Jl,i+1,[0,1,2,3],⟨by omega,.inr (by omega),by omega⟩,by omega,rfl,?_,?_⟩
       ·rw[← hsu]
        simp only[Km,Gb,Gc,go_sem,Jk,Jh,Ja (Jb _)]
        simp[JL,ren,Jm]
       ·rw[h5]; simp[forget,JL,ren,Jm]
     ·have d1:((i:Int) < (t.nodes.length:Int))=False:=Jq
      obtain rfl:i=t.nodes.length:=by omega
      rw[itemTo_all]
      simp -implicitDefEqProofs only[go_sem,d1]
      refine .step 1 1 (iz (upT t)) rfl (Jb _) (.step 2 1 (iz (Jcu t)) ?_ (Jb _) (.step 3 4 [tRw t] ?_ rfl (.done ?_)))
      ·simp only[Ky,Qy,J4,frz,oT,Gb,Gc,Hf,He,List.getElem?_cons_succ,List.getElem?_cons_zero,JO (Jb _)]
      ·have q1:(iz (upT t)).take t.nodes.length=iz (upT t):=Gv (by rw[Jd,JcR]; omega)
       have q2:(iz (Jcu t)).take t.nodes.length=iz (Jcu t):=Gv (by rw[Jd,JbB]; omega)
       simp[Ky,Qy,J4,frz,oT,tRw,Jd,JcR,JbB,q1,q2]
      ·simp[frz,J4]
       exact wk.refl _
end
end
section
theorem JfN {n:Nat}{l:List Int}{q:Int→Bool}(h:∀ x∈l,0≤x∧x < n) : -1≤(match l.find? q with | some d=>d | none=>-1)∧(match l.find? q with | some d=>d | none=>-1) < (n:Int):=by
 cases hf:l.find? q with
 |none=>simp; omega
 |some d=>
  have:=h d (List.mem_of_find?_eq_some hf)
  simp only; omega
theorem Jfx {t:Tr}{o:List Int}{i:Nat} : -1≤J6 t o i∧J6 t o i < t.nodes.length:=by
 unfold J6 meansN Jco Jcn
 have h:∀ x∈QC t,0≤x∧x < (t.nodes.length:Int):=fun x hx=>JY.1 hx
 split
 ·exact JfN h
 ·split
  ·exact JfN h
  ·split
   ·exact JfN h
   ·omega
theorem Xh {t:Tr}{o:List Int}:(ofL t o).length=t.nodes.length:=by simp[ofL]
theorem Jab {t:Tr}{o:List Int}{i:Nat}(h:i < t.nodes.length):(ofL t o).getD i 0=J6 t o i:=by
 simp[ofL,Gh,h]
theorem ofL_take {t:Tr}{o:List Int}{i:Nat}(h:i < t.nodes.length):(ofL t o).take (i+1)=(ofL t o).take i++[J6 t o i]:=by
 rw[GG (by rw[Xh]; exact h)]
 simp[ofL]
theorem Jev {t:Tr}{o:List Int}:OfOk t (ofL t o):=⟨Xh,fun i hi=>by rw[Xh]at hi; rw[Jab hi]; exact Jfx⟩
def resV (t:Tr) (o:List Int):CV:=match Xo t o 6 10 (Gd t.nodes.length) with
 |some r=>.tup [.agg [.rptr (tRw t),.rslc 1 (iz ((ofL t o).take r.1)) none],.int .i64 (r.1:Int),.int .i64 r.2]
 |none=>match (Gd t.nodes.length).find? (stN t o) with
  |some i=>.tup [.agg (rRw t (ofL t o)),.int .i64 (i:Int),.int .i64 9]
  |none=>.tup [.agg (rRw t (ofL t o)),.int .i64 0,.int .i64 0]
theorem resV_closed {t:Tr}{o:List Int}:(resV t o).closed=true:=by
 unfold resV
 split
 ·rfl
 ·split <;> rfl
theorem frzs_row {H:List CObj}{id:Nat}{l:List Int}{x:CV}{ys:List CV}(hx:x.closed=true) (hy:Jr ys=true) (h:H[id]? = some (KP 1 (iz l))):Frzs (.tup (.agg [x,.rslc 1 (iz l) none]::ys)) (.tup (.agg [x,JV id (iz l)]::ys)) H:=by
 cases l with
 |nil=>exact .done (Jcb ⟨Jbk ⟨wk.refl _,wk.nils,trivial⟩,wks.refl _⟩)
 |cons a l=>
  refine .step id 1 (iz (a::l)) h (Jb _) (.done ?_)
  have e:frz id 1 (iz (a::l)) (JV id (iz (a::l)))=.rslc 1 (iz (a::l)) none:=by
   rw[Ko,Q4]
   simp[frz]
  simp only[frz,J4,e,QX x hx,Qa ys hy]
  exact wk.refl _
theorem bfs_len {N:Int→List Int}{l:List Int}(hN:∀ x∈l,∀ y∈N x,y∈l):∀ (f:Nat) (todo out:List Int),(∀ x∈todo,x∈l)→(JfZ N f todo out).length≤out.length+XR l out
 |0,_,out,_=>H8 _ _
 |f+1,[],out,_=>H8 _ _
 |f+1,x::todo,out,h=>by
  rw[JfZ]
  cases hc:out.contains x with
  |true=>rw[if_pos rfl]; exact bfs_len hN f todo out fun y hy=>h y (by simp[hy])
  |false=>
   rw[if_neg (by simp)]
   have hx:=h x (by simp)
   have h1:=bfs_len hN f (todo++N x) (out++[x]) fun y hy=>by
    rcases Hu.1 hy with h2 | h2
    ·exact h y (by simp[h2])
    ·exact hN x hx y h2
   have h2:=Yt hx hc
   simp only[Gr,Gg,Gm]at h1
   omega
section
variable {t:Tr}{o:List Int}(g:GoodT t o) (ht:t.Fit)
include g ht
theorem nResolve0:Fn Ga 41 [t.cv] (resV t o):=by
 have hmany:=g.many
 refine Yu ?_ rfl resV_closed
 refine Kg c41_ok fun N=>?_
 simp -implicitDefEqProofs only[c41,go_sem,Tr.cv,Tr.row]
 refine Je (id:=0) (z:=2) (els:=[t.row]) rfl rfl ?_
 simp only[go_sem,J4,Ky,frz,Qy,Tr.row]
 refine JX (nOpen g ht) ?_
 simp -implicitDefEqProofs only[go_sem,tRw,Jf]
 refine Xy ?_
 simp only[go_sem,Gz,Gt]
 refine JG (I:=fun i:Nat=>i≤t.nodes.length∧Xo t o 6 10 (Gd t.nodes.length)=Xo t o 6 10 ((Gd t.nodes.length).drop i)) (inv:=fun i=>gp [(2,.ptr 1 0 0),(2,.rptr (tRw t)),(20,.int .i64 (t.nodes.length:Int)),(0,.int .i64 (i:Int))] 53) (hp:=fun i=>[.dead,.arr 2 [[.rptr (tRw t),JV 2 (iz ((ofL t o).take i))]],KP 1 (iz ((ofL t o).take i))]) (μ:=fun i=>t.nodes.length-i) 0 [0,1,2] ⟨by omega,by rw[Gf]⟩ rfl ?_ ?_ ?_
 ·simp[forget,JL,ren,Jm,gp,tRw]
 ·simp[Km,JL,ren,Jm,Jfk,JV,KP,iz,tRw]
 ·rintro i ⟨hi,hinv⟩
  have hacc:((ofL t o).take i).length=i:=by rw[GR,Xh]; omega
  by_cases hlt:i < t.nodes.length
  ·have d1:((i:Int) < (t.nodes.length:Int))=True:=Ju
   have hot:=ofL_take (o:=o) hlt
   rw[JaF hlt,Xo]at hinv
   have hrs:∀ a:Int,Xo t o 6 10 (Gd t.nodes.length)=some (i,a)→resV t o=.tup [.agg [.rptr (tRw t),.rslc 1 (iz ((ofL t o).take i)) none],.int .i64 (i:Int),.int .i64 a]:=fun a h=>by unfold resV; rw[h]
   generalize (ofL t o).take i=acc at hacc hot hrs ⊢
   simp -implicitDefEqProofs only[go_sem,d1]
   refine JX (nMeaning g ht hlt) ?_
   simp -implicitDefEqProofs only[go_sem]
   refine JX (nTwice (by omega) hlt) ?_
   cases htw:twN t i with
   |true=>
    rw[htw,if_pos rfl]at hinv
    rw[hrs 6 hinv]
    simp -implicitDefEqProofs only[go_sem]
    exact frzs_row rfl rfl rfl
   |false=>
    rw[htw]at hinv
    cases hsh:Kh t i with
    |false=>
     rw[if_neg (by simp),if_neg (by rw[hsh]; simp)]at hinv
     simp -implicitDefEqProofs only[go_sem,Jd,Jv]
     refine ⟨⟨by omega,by omega⟩,Jl,i+1,[0,1,4],⟨by omega,hinv⟩,by omega,rfl,?_,?_⟩
     ·rw[hot,Kt,Kc,Kb]
      simp only[Km,Gb,Gc,go_sem,Jk,Jh]
      simp[Ja (Jb acc),JL,ren,Jm,Jd]
     ·simp[forget,JL,ren,Jm]
    |true=>
     cases hme:(J6 t o i == -1) with
     |true=>
      rw[if_neg (by simp),if_pos (by rw[hsh,hme]; rfl)]at hinv
      rw[hrs 10 hinv]
      simp -implicitDefEqProofs only[go_sem,hme]
      exact frzs_row rfl rfl rfl
     |false=>
      rw[if_neg (by simp),if_neg (by rw[hsh,hme]; simp)]at hinv
      simp -implicitDefEqProofs only[go_sem,hme,Jd,Jv]
      refine ⟨⟨by omega,by omega⟩,Jl,i+1,[0,1,4],⟨by omega,hinv⟩,by omega,rfl,?_,?_⟩
      ·rw[hot,Kt,Kc,Kb]
       simp only[Km,Gb,Gc,go_sem,Jk,Jh]
       simp[Ja (Jb acc),JL,ren,Jm,Jd]
      ·simp[forget,JL,ren,Jm]
  ·have d1:((i:Int) < (t.nodes.length:Int))=False:=Jq
   obtain rfl:i=t.nodes.length:=by omega
   rw[show (Gd t.nodes.length).drop t.nodes.length=[] from Gp (by simp),Xo]at hinv
   have hrs:resV t o=match (Gd t.nodes.length).find? (stN t o) with | some i=>.tup [.agg (rRw t (ofL t o)),.int .i64 (i:Int),.int .i64 9] | none=>.tup [.agg (rRw t (ofL t o)),.int .i64 0,.int .i64 0]:=by unfold resV; rw[hinv]
   rw[hrs,Gv (by rw[Xh]; omega)]
   by_cases h0:t.nodes.length=0
   ·have hof:ofL t o=[]:=List.length_eq_zero_iff.1 (by rw[Xh]; exact h0)
    have d2:((0:Int) < (t.nodes.length:Int))=False:=Jq
    have hr0:Gd t.nodes.length=[]:=by rw[h0]; rfl
    rw[hof,QW,Q3,X8,hr0,HV]
    simp -implicitDefEqProofs only[go_sem,d1,d2,tRw,Jf]
    refine JE (σ:=Unit) (I:=fun _=>True) (inv:=fun _=>gp [(2,.ptr 1 0 0),(2,.rptr (tRw t)),(56,.int .i64 (t.nodes.length:Int)),(0,.int .i64 0)] 17) (hp:=fun _=>[.dead,.arr 2 [[.rptr (tRw t),.nils]],.dead]) (μ:=fun _=>0) () trivial ?_ rfl ?_
    ·simp[forget,gp,tRw]
    ·intro _ _
     simp -implicitDefEqProofs only[go_sem,d2]
     exact .done (Jcb ⟨Jbk ⟨wk.refl _,wk.nils,trivial⟩,wks.refl _⟩)
   ·have hofn:iz (ofL t o)≠[]:=by
     intro e
     have:=congrArg H6 e
     rw[Jd,Xh]at this
     exact h0 (by simpa using this)
    have hofl:=Xh (t:=t) (o:=o)
    rw[Qt hofn,Qo hofn,Jd,hofl]
    simp -implicitDefEqProofs only[go_sem,d1,tRw,Jf]
    refine Je (id:=2) (z:=1) (els:=iz (ofL t o)) rfl (Jb _) ?_
    have hft:List.take t.nodes.length (iz (ofL t o))=iz (ofL t o):=Gv (by rw[Jd,hofl]; omega)
    simp only[go_sem,J4,Ky,frz,Qy,Gb,Gc,Gf,G6,if_true,Jd,hofl,Nat.le_refl,hft,Hf,He]
    refine JG (I:=fun i:Nat=>i≤t.nodes.length∧(Gd t.nodes.length).find? (stN t o)=((Gd t.nodes.length).drop i).find? (stN t o)) (inv:=fun i=>gp [(2,.ptr 1 0 0),(2,.rptr (tRw t)),(56,.int .i64 (t.nodes.length:Int)),(0,.int .i64 (i:Int))] 17) (hp:=fun _=>[.dead,.arr 2 [rRw t (ofL t o)],.dead]) (μ:=fun i=>t.nodes.length-i) 0 [0,1,2] ⟨by omega,by rw[Gf]⟩ rfl ?_ ?_ ?_
    ·simp[forget,JL,ren,Jm,gp,tRw]
    ·simp[Km,JL,ren,Jm,Jfk,rRw,tRw]
    ·rintro i ⟨hi,hinv⟩
     by_cases hlt:i < t.nodes.length
     ·have d1:((i:Int) < (t.nodes.length:Int))=True:=Ju
      rw[JaF hlt,Hy]at hinv
      simp -implicitDefEqProofs only[go_sem,d1]
      refine JX (YV t hlt) ?_
      cases hk:((nd t i).k == 41) with
      |false=>
       have hst:stN t o i=false:=by unfold stN; rw[hk]; rfl
       rw[hst]at hinv
       simp -implicitDefEqProofs only[go_sem,kbE,hk]
       refine ⟨Jl,i+1,[0,1,2],⟨by omega,hinv⟩,by omega,rfl,?_,?_⟩
       ·simp[Km,JL,ren,Jm,Jfk,rRw]
       ·simp[forget,JL,ren,Jm]
      |true=>
       have hst:stN t o i=(bfs (fun x=>Ke t o (ofL t o) x.toNat) (QC t) (Ke t o (ofL t o) i) []).contains (i:Int):=by unfold stN; rw[hk,Gn]
       have hA:=(nAll g ht (Jev (o:=o)) hlt (beq_iff_eq.1 hk)).fn rfl (Jb _)
       have hbl:(bfs (fun x=>Ke t o (ofL t o) x.toNat) (QC t) (Ke t o (ofL t o) i) []).length≤100000:=by
        have h1:=bfs_len (N:=fun x=>Ke t o (ofL t o) x.toNat) (l:=QC t) (fun x hx=>(Jft x hx).1) (muB (QC t) (Ke t o (ofL t o) i) []+1) (Ke t o (ofL t o) i) [] (fun x hx=>(Gy.1 hx).1)
        have h2:=JcH (l:=QC t) (out:=[])
        have h3:(QC t).length=t.nodes.length:=by simp[QC]
        simp only[Gm]at h1
        show (JfZ _ _ _ _).length≤_
        omega
       generalize bfs (fun x=>Ke t o (ofL t o) x.toNat) (QC t) (Ke t o (ofL t o) i) []=B at hst hA hbl
       simp -implicitDefEqProofs only[go_sem,kbE,hk,rRw]
       refine JW (gok rfl) hA ?_
       simp -implicitDefEqProofs only[go_sem]
       refine JW (gok rfl) (containsI B (i:Int) hbl) ?_
       cases hc:B.contains (i:Int) with
       |false=>
        rw[hst,hc]at hinv
        simp -implicitDefEqProofs only[go_sem]
        refine ⟨Jl,i+1,[0,1,2],⟨by omega,hinv⟩,by omega,rfl,?_,?_⟩
        ·simp[Km,JL,ren,Jm,Jfk]
        ·simp[forget,JL,ren,Jm]
       |true=>
        rw[hst,hc]at hinv
        rw[hinv]
        simp -implicitDefEqProofs only[go_sem]
        exact .done (wk.refl _)
     ·have d1:((i:Int) < (t.nodes.length:Int))=False:=Jq
      rw[show (Gd t.nodes.length).drop i=[] from Gp (by simp; omega),HV]at hinv
      rw[hinv]
      simp -implicitDefEqProofs only[go_sem,d1,rRw]
      exact .done (wk.refl _)
theorem Jbx:Fn Ga 9 [t.cv] (if (Q0 t o).2=0 then .tup [.agg [.rslc 1 (iz (ofL t o)) none],.int .i64 0,.int .i64 0] else .tup [.agg [.nils],.int .i64 ((Q0 t o).1:Int),.int .i64 (Q0 t o).2]):=by
 have hV:=nResolve0 g ht
 refine Jc c9_ok rfl (by split <;> rfl) fun N=>?_
 simp -implicitDefEqProofs only[c9,go_sem,Tr.cv,Tr.row]
 refine JX hV ?_
 unfold Q0 resV
 cases hs:Xo t o 6 10 (Gd t.nodes.length) with
 |some r=>
  have hr:∀ l:List Nat,Xo t o 6 10 l=some r→r.2=6∨r.2=10:=by
   intro l
   induction l with
   |nil=>intro h; cases h
   |cons x l ih=>
    intro h
    rw[Xo]at h
    split at h
    ·cases h; exact .inl rfl
    ·split at h
     ·cases h; exact .inr rfl
     ·exact ih h
  have h2:=hr _ hs
  have e1:(r.2 != 0)=true:=bne_iff_ne.2 (by omega)
  simp only
  rw[if_neg (by omega)]
  simp -implicitDefEqProofs only[go_sem,e1]
 |none=>
  simp only
  cases hf:(Gd t.nodes.length).find? (stN t o) with
  |some i=>
   simp only
   rw[if_neg (by decide)]
   simp -implicitDefEqProofs only[go_sem,rRw]
  |none=>
   simp only[if_true]
   simp -implicitDefEqProofs only[go_sem,rRw]
end
end
section
def rE (t:Tr) (o:List Int):List CV:=match Xo t o 6 10 (Gd t.nodes.length) with
 |some r=>[.rptr (tRw t),.rslc 1 (iz ((ofL t o).take r.1)) none]
 |none=>rRw t (ofL t o)
theorem resV_eq {t:Tr}{o:List Int}:resV t o=.tup [.agg (rE t o),.int .i64 ((Q0 t o).1:Int),.int .i64 (Q0 t o).2]:=by
 unfold resV Q0 rE
 cases Xo t o 6 10 (Gd t.nodes.length) with
 |some r=>rfl
 |none=>cases (Gd t.nodes.length).find? (stN t o) <;> rfl
theorem rE_ok {t:Tr}{o:List Int}(h:(Q0 t o).2=0):rE t o=rRw t (ofL t o):=by
 unfold rE
 unfold Q0 at h
 cases hs:Xo t o 6 10 (Gd t.nodes.length) with
 |some r=>
  rw[hs]at h
  have hr:∀ l:List Nat,Xo t o 6 10 l=some r→r.2=6∨r.2=10:=by
   intro l
   induction l with
   |nil=>intro h; cases h
   |cons x l ih=>
    intro h
    rw[Xo]at h
    split at h
    ·cases h; exact .inl rfl
    ·split at h
     ·cases h; exact .inr rfl
     ·exact ih h
  have:=hr _ hs
  simp only at h
  omega
 |none=>rfl
theorem rE_closed {t:Tr}{o:List Int}:Jr (rE t o)=true:=by unfold rE; split <;> rfl
theorem rE_head {t:Tr}{o:List Int}:∃ l,rE t o=[.rptr (tRw t),.rslc 1 (iz l) none]:=by unfold rE rRw; split <;> exact ⟨_,rfl⟩
section
variable {t:Tr}{o:List Int}(g:GoodT t o) (ht:t.Fit)
include g ht
theorem nFind (ns:List Int) (hns:ns.length≤100):Fn Ga 48 [t.cv,.rslc 1 (iz ns) none] (.tup [.agg (rE t o),.int .i64 (if (Q0 t o).2≠0 then (Q0 t o).2 else if ns.all (inT t)=true then 0 else 7)]):=by
 have hmany:=g.many
 have hV:=nResolve0 g ht
 rw[resV_eq]at hV
 have hil:(iz ns).length=ns.length:=Jd
 obtain ⟨x,hx⟩:=rE_head (t:=t) (o:=o)
 refine Jc c48_ok rfl (by simp[CV.closed,Jr,rE_closed]) fun N=>?_
 rw[hx]at hV ⊢
 simp -implicitDefEqProofs only[c48,go_sem,Tr.cv,Tr.row]
 refine JX hV ?_
 by_cases he:(Q0 t o).2=0
 ·have e1:((Q0 t o).2 != 0)=false:=by simp[he]
  rw[if_neg (by simpa using he)]
  simp -implicitDefEqProofs only[go_sem,e1,hil]
  refine Je (id:=2) (z:=2) (els:=[[.rptr (tRw t),.rslc 1 (iz x) none]]) rfl rfl ?_
  simp only[go_sem,J4,Ky,frz,Qy,Gb,Gc,Gf]
  refine JE (I:=fun i:Nat=>i≤ns.length∧ns.all (inT t)=(ns.drop i).all (inT t)) (inv:=fun i=>gp [(4,.ptr 1 0 0),(1,.rptr [.rptr (tRw t),.rslc 1 (iz x) none]),(14,.rslc 1 (iz ns) none),(0,.int .i64 (ns.length:Int)),(0,.int .i64 (i:Int))] 19) (hp:=fun _=>[.arr 2 [t.row],.arr 2 [[.nilp,.nils]],.dead]) (μ:=fun i=>ns.length-i) 0 ⟨by omega,by rw[Gf]⟩ ?_ rfl ?_
  ·simp[forget,gp]
  ·rintro i ⟨hi,hinv⟩
   by_cases hlt:i < ns.length
   ·have d1:((i:Int) < (ns.length:Int))=True:=Ju
    have hgi:=JN hlt
    rw[GK hlt,GV,show ns[i]=ns.getD i 0 by rw[Gh,Gl hlt]; rfl]at hinv
    generalize ns.getD i 0=y at hinv hgi
    cases hy:inT t y with
    |true=>
     have hr:=Yj.1 hy
     rw[hy,Gn]at hinv
     have e2:decide (y < 0)=false:=decide_eq_false (by omega)
     have e3:decide ((t.nodes.length:Int)≤y)=false:=decide_eq_false (by omega)
     simp -implicitDefEqProofs only[go_sem,d1,hil,hgi,e2,e3,tRw,Jf]
     refine ⟨by omega,Jl,i+1,⟨by omega,hinv⟩,by omega,?_⟩
     simp[forget,tRw]
    |false=>
     have hr:¬ (0≤y∧y < t.nodes.length):=fun h=>by rw[Yj.2 h]at hy; cases hy
     rw[hy,Gw]at hinv
     rw[hinv]
     by_cases hn:y < 0
     ·have e2:decide (y < 0)=true:=decide_eq_true hn
      simp -implicitDefEqProofs only[go_sem,d1,hil,hgi,e2,if_false,GZ]
      omega
     ·have e2:decide (y < 0)=false:=decide_eq_false hn
      have e3:decide ((t.nodes.length:Int)≤y)=true:=decide_eq_true (by omega)
      simp -implicitDefEqProofs only[go_sem,d1,hil,hgi,e2,e3,tRw,Jf,if_false,GZ]
      omega
   ·have d1:((i:Int) < (ns.length:Int))=False:=Jq
    rw[Gp (by omega),GX]at hinv
    rw[hinv,if_pos rfl]
    simp -implicitDefEqProofs only[go_sem,d1]
 ·have e1:((Q0 t o).2 != 0)=true:=by simpa using he
  rw[if_pos he]
  simp -implicitDefEqProofs only[go_sem,e1]
theorem nNeedsF (hE:(Q0 t o).2=0) (s:Nat) (hs:s < t.nodes.length) (hk:(nd t s).k=41):Fn Ga 14 [t.cv,.int .i64 (s:Int)] (.tup [.rslc 1 (iz (Ke t o (ofL t o) s)) none,.int .i64 0]):=by
 have hmany:=g.many
 have hF:=nFind g ht [(s:Int)] (by simp)
 have hin:[(s:Int)].all (inT t)=true:=by simp only[GV,GX,H7]; exact Yj.2 ⟨by omega,by omega⟩
 rw[if_neg (by simp[hE]),if_pos hin,rE_ok hE]at hF
 refine Jc c14_ok rfl rfl fun N=>?_
 simp -implicitDefEqProofs only[c14,go_sem,Tr.cv,Tr.row]
 refine Je (id:=1) (z:=1) (els:=iz [(s:Int)]) rfl rfl ?_
 simp only[go_sem,J4,Ky,frz,Qy,Ko,QW,Gb,Gc,Gg,Gm,Gf,GN,GU]
 refine JX hF ?_
 simp -implicitDefEqProofs only[go_sem,rRw]
 refine JX (YV t hs) ?_
 simp -implicitDefEqProofs only[go_sem,kbN,hk]
 refine JX ((nNeeds g ht (Jev (o:=o)) hs hk).fn rfl (Jb _)) ?_
 simp -implicitDefEqProofs only[go_sem]
end
end
section
section
variable {E:Env}{H:List CObj}
theorem vr_pc {P:Program}{n0:Nat}{N:Fr}{Q:Exit→List CV→List CObj→Prop}{T:List CV}{k:List KItem}{d:Option Nat}{g:Option (Nat×Bool)}{f:Nat}{xa:List IArg}{l:List IOper}{v:CV}(hg:GOk T g) (hcall:Pure P E f (xa.map (J5 T)) H v) (h:Kk P E n0 N Q (.ops l::k) (put T d v) H):Ok P E n0 N Q (.ops (⟨d,.call f xa,g⟩::l)::k) T H:=
 J2 hg hcall fun v' H' ⟨h1,h2⟩=>by rw[h1,h2]; exact h
theorem order1 {b r:Nat}{left:List Int}{x:Int}(hb:H[b]? = some (.arr 1 [[JV r (iz left)]])) (hr:H[r]? = some (KP 1 (iz left))) (hl:left.length≤100000):Pure Ga E 77 [.int .i64 x,.ptr b 0 0] H (.bool (left.contains x)):=by
 refine Kg c77_ok fun N=>?_
 simp -implicitDefEqProofs only[c77,go_sem,hb]
 refine vr_pc (.inl rfl) (containsO (id:=r) hl hr) ?_
 simp -implicitDefEqProofs only[go_sem]
theorem indexFP {f:Nat}{l1 l2:List CV}{F:IFunc}(l:List Int) (q:Int→Bool) (hF:Jg Ga f=some F)
  (hq:∀ p∈l,Pure Ga E f (l1++[.int .i64 p]++l2) H (.bool (q p))) (hlen:l.length≤1000000):Pure Ga E 81 [.rslc 1 (iz l) none,.fn f l1 l2] H (.int .i64 (Xv q l 0)):=by
 have hil:(iz l).length=l.length:=Jd
 refine Kg c81_ok fun N=>?_
 simp -implicitDefEqProofs only[c81,go_sem,hil]
 refine JE (I:=fun i:Nat=>i≤l.length∧Xv q l 0=Xv q (l.drop i) i) (inv:=fun i=>gp [(0,.rslc 1 (iz l) none),(0,.fn f l1 l2),(5,.int .i64 l.length),(0,.int .i64 i)] 10) (hp:=fun _=>H) (μ:=fun i=>l.length-i) 0 ⟨by omega,rfl⟩ ?_ rfl ?_
 ·simp[forget,gp]
 ·rintro i ⟨hi,hinv⟩
  by_cases hlt:i < l.length
  ·have d1:((i:Int) < (l.length:Int))=True:=Ju
   have hgi:=JN hlt
   have hge:l[i]? = some (l.getD i 0):=by rw[Gh,Gl hlt]; rfl
   have hm:l.getD i 0∈l:=GM hge
   rw[Xr hge]at hinv
   simp -implicitDefEqProofs only[go_sem,hil,d1,hgi]
   refine ⟨by omega,?_⟩
   refine JcP (.inl rfl) rfl hF (JaG Jes _) (hq _ hm) ?_
   cases hb:q (l.getD i 0) with
   |true=>
    rw[hb,if_pos rfl]at hinv
    simp -implicitDefEqProofs only[go_sem,hinv]
   |false=>
    rw[hb]at hinv
    simp -implicitDefEqProofs only[go_sem]
    refine ⟨Jl,i+1,⟨by omega,by simpa using hinv⟩,by omega,?_⟩
    simp[forget]
  ·have d1:((i:Int) < (l.length:Int))=False:=Jq
   rw[Gp (by omega)]at hinv
   simp -implicitDefEqProofs only[go_sem,hil,d1,hinv,Xv]
theorem indexFO {f id:Nat}{l1 l2:List CV}{F:IFunc}(l:List Int) (q:Int→Bool) (hF:Jg Ga f=some F) (hH:H[id]? = some (.arr 1 (iz l)))
  (hq:∀ p∈l,Pure Ga E f (l1++[.int .i64 p]++l2) H (.bool (q p))) (hlen:l.length≤1000000):Pure Ga E 81 [.slc id 0 l.length none,.fn f l1 l2] H (.int .i64 (Xv q l 0)):=by
 have hil:(iz l).length=l.length:=Jd
 refine Kg c81_ok fun N=>?_
 simp -implicitDefEqProofs only[c81,go_sem]
 refine JE (I:=fun i:Nat=>i≤l.length∧Xv q l 0=Xv q (l.drop i) i) (inv:=fun i=>gp [(0,.slc id 0 l.length none),(0,.fn f l1 l2),(5,.int .i64 l.length),(0,.int .i64 i)] 10) (hp:=fun _=>H) (μ:=fun i=>l.length-i) 0 ⟨by omega,rfl⟩ ?_ rfl ?_
 ·simp[forget,gp]
 ·rintro i ⟨hi,hinv⟩
  by_cases hlt:i < l.length
  ·have d1:((i:Int) < (l.length:Int))=True:=Ju
   have hgi:=JN hlt
   have hge:l[i]? = some (l.getD i 0):=by rw[Gh,Gl hlt]; rfl
   have hm:l.getD i 0∈l:=GM hge
   rw[Xr hge]at hinv
   simp -implicitDefEqProofs only[go_sem,d1,hH,hil,hgi]
   refine ⟨by omega,by omega,?_⟩
   refine JcP (.inl rfl) rfl hF (JaG Jes _) (hq _ hm) ?_
   cases hb:q (l.getD i 0) with
   |true=>
    rw[hb,if_pos rfl]at hinv
    simp -implicitDefEqProofs only[go_sem,hinv]
   |false=>
    rw[hb]at hinv
    simp -implicitDefEqProofs only[go_sem]
    refine ⟨Jl,i+1,⟨by omega,by simpa using hinv⟩,by omega,?_⟩
    simp[forget]
  ·have d1:((i:Int) < (l.length:Int))=False:=Jq
   rw[Gp (by omega)]at hinv
   simp -implicitDefEqProofs only[go_sem,d1,hinv,Xv]
theorem containsFP {f:Nat}{l1 l2:List CV}{F:IFunc}(l:List Int) (q:Int→Bool) (hF:Jg Ga f=some F)
  (hq:∀ p∈l,Pure Ga E f (l1++[.int .i64 p]++l2) H (.bool (q p))) (hlen:l.length≤1000000):Pure Ga E 80 [.rslc 1 (iz l) none,.fn f l1 l2] H (.bool (l.any q)):=by
 refine Kg c80_ok fun N=>?_
 simp -implicitDefEqProofs only[c80,go_sem]
 refine vr_pc (.inl rfl) (indexFP l q hF hq hlen) ?_
 simp -implicitDefEqProofs only[go_sem,JaJ]
end
theorem Jdx {H:List CObj}{id:Nat}{l:List Int}{ys:List CV}(hy:Jr ys=true) (h:H[id]? = some (KP 1 (iz l))):Frzs (.tup (.rslc 1 (iz l) none::ys)) (.tup (JV id (iz l)::ys)) H:=by
 cases l with
 |nil=>exact .done (Jcb ⟨wk.nils,wks.refl _⟩)
 |cons a l=>
  refine .step id 1 (iz (a::l)) h (Jb _) (.done ?_)
  have e:frz id 1 (iz (a::l)) (JV id (iz (a::l)))=.rslc 1 (iz (a::l)) none:=by
   rw[Ko,Q4]
   simp[frz]
  simp only[frz,J4,e,Qa ys hy]
  exact wk.refl _
theorem deleteRowT {E:Env}{H:List CObj}{id k:Nat}{l:List Int}(hk:k < l.length) (hH:H[id]? = some (.arr 1 (iz l))):CallsC Ga E 82 [.slc id 0 l.length none,.int .i64 (k:Int),.int .i64 ((k:Int)+1)] H fun v' H'=>v'=.slc id 0 (l.length-1) none∧H'=H.set id (.arr 1 (iz (l.eraseIdx k))):=by
 have h:=deleteRow (E:=E) (cap:=none) hk hH
 rw[show (((k+1:Nat)):Int)=(k:Int)+1 from rfl]at h
 refine h.trunc (id:=0) (z:=0) (j:=0) (els:=[]) (v:=.un) fun v H' ⟨h1,h2⟩=>.inr ⟨id,1,iz (l.take k++l.drop (k+1)++[0]),l.length-1,by rw[h2,Ha (G8.1 hH).1],h1,?_⟩
 rw[h2,List.set_set,List.eraseIdx_eq_take_drop_succ]
 congr 2
 unfold iz
 rw[← List.map_take,Hr (by simp; omega)]
def Jd3 (N:Int→List Int) (left:List Int) (s:Int):Bool:=!(N s).any fun y=>left.contains y
def ordG (N:Int→List Int):Nat→List Int→List Int
 |0,_=>[]
 |f+1,left=>if left=[] then [] else left.getD (Xv (Jd3 N left) left 0).toNat 0::ordG N f (left.eraseIdx (Xv (Jd3 N left) left 0).toNat)
def ordL (t:Tr) (o of:List Int) (b:Nat):List Int:=ordG (fun x=>Ke t o of x.toNat) (Qx t b 41).length (Qx t b 41)
section
variable {t:Tr}{o:List Int}(g:GoodT t o) (ht:t.Fit)
include g ht
theorem order2 {E:Env}{H:List CObj}{of:List Int}(ho:OfOk t of) {b c r:Nat}{left:List Int}{s:Nat}(hs:s < t.nodes.length) (hk:(nd t s).k=41) (hc:H[c]? = some (.arr 1 [[.fn 77 [] [.ptr b 0 0]]])) (hb:H[b]? = some (.arr 1 [[JV r (iz left)]])) (hr:H[r]? = some (KP 1 (iz left))) (hl:left.length≤100000):Pure Ga E 79 [.int .i64 (s:Int),.rptr (rRw t of),.ptr c 0 0] H (.bool (Jd3 (fun x=>Ke t o of x.toNat) left (s:Int))):=by
 have hmany:=g.many
 have hN:=(nNeeds g ht ho hs hk).fn rfl (Jb _)
 have hnl:(Ke t o of s).length≤1000000:=by
  have h1:(Ke t o of s).length≤(QC t).length:=Gq _ _
  have h2:(QC t).length=t.nodes.length:=by simp[QC]
  omega
 have hF:Jd3 (fun x=>Ke t o of x.toNat) left (s:Int) = !(Ke t o of s).any fun y=>left.contains y:=by unfold Jd3; simp only[Gj]
 rw[hF]
 generalize Ke t o of s=M at hN hnl
 refine Kg c79_ok fun N=>?_
 simp -implicitDefEqProofs only[c79,go_sem]
 refine Jaw [false,false,false,true,true,false,false] JI (by decide +kernel) ?_
 simp -implicitDefEqProofs only[go_sem,rRw]
 refine vh_f hN ?_
 simp -implicitDefEqProofs only[go_sem,hc]
 refine ⟨_,_,Jdu (.inl rfl) (containsFP M (fun y=>left.contains y) c77_ok (fun p _=>order1 hb hr hl) hnl),?_⟩
 simp -implicitDefEqProofs only[go_sem]
omit g ht in
theorem res_st (hE:(Q0 t o).2=0) {i:Nat}(hi:i < t.nodes.length):stN t o i=false:=by
 unfold Q0 at hE
 cases hs:Xo t o 6 10 (Gd t.nodes.length) with
 |some r=>
  have h1:=rE_ok (t:=t) (o:=o) (by unfold Q0; exact hE)
  rw[hs]at hE
  unfold rE rRw at h1
  rw[hs]at h1
  simp only[List.cons.injEq,CV.rslc.injEq,true_and,and_true]at h1
  have hr:∀ l:List Nat,Xo t o 6 10 l=some r→r.2=6∨r.2=10:=by
   intro l
   induction l with
   |nil=>intro h; cases h
   |cons x l ih=>
    intro h
    rw[Xo]at h
    split at h
    ·cases h; exact .inl rfl
    ·split at h
     ·cases h; exact .inr rfl
     ·exact ih h
  have:=hr _ hs
  simp only at hE
  omega
 |none=>
  rw[hs]at hE
  simp only at hE
  cases hf:(Gd t.nodes.length).find? (stN t o) with
  |some k=>rw[hf]at hE; simp only at hE; omega
  |none=>
   have:=Hl.1 hf i (List.mem_range.2 hi)
   simpa using this
omit ht in
theorem order_free (hE:(Q0 t o).2=0) {left:List Int}(hl:∀ x∈left,0≤x∧x < t.nodes.length∧(nd t x.toNat).k=41) (hne:left≠[]):∃ k,Xv (Jd3 (fun x=>Ke t o (ofL t o) x.toNat) left) left 0=((k:Nat):Int)∧k < left.length:=by
 generalize hN:(fun x:Int=>Ke t o (ofL t o) x.toNat)=Nf
 have hset:∀ x,∀ y∈Nf x,0≤y∧y < t.nodes.length∧(nd t y.toNat).k=41:=fun x y hy=>by rw[← hN]at hy; exact JaH g hy
 have hmem:∀ x,x∈(QC t).filter (fun x=>(nd t x.toNat).k == 41)↔0≤x∧x < t.nodes.length∧(nd t x.toNat).k=41:=fun x=>by
  rw[Gy,JY,beq_iff_eq]; exact ⟨fun ⟨⟨a,b⟩,c⟩=>⟨a,b,c⟩,fun ⟨a,b,c⟩=>⟨⟨a,b⟩,c⟩⟩
 have hNl:∀ x∈(QC t).filter (fun x=>(nd t x.toNat).k == 41),(∀ y∈Nf x,y∈(QC t).filter (fun x=>(nd t x.toNat).k == 41))∧(Nf x).length≤((QC t).filter (fun x=>(nd t x.toNat).k == 41)).length:=by
  intro x _
  refine ⟨fun y hy=>(hmem y).2 (hset x y hy),?_⟩
  have hsub:Nf x=((QC t).filter fun x=>(nd t x.toNat).k == 41).filter fun y=>(Nf x).contains y:=by
   rw[List.filter_filter]
   have:Nf x=(QC t).filter fun y=>(Nf x).contains y:=by
    refine JbN (by rw[← hN]; exact JaQ.filter _) (JaQ.filter _) fun y=>?_
    rw[Gy,JY,GH]
    exact ⟨fun h=>⟨⟨(hset x y h).1,(hset x y h).2.1⟩,h⟩,fun h=>h.2⟩
   conv=>lhs; rw[this]
   refine List.filter_congr fun y _=>?_
   cases hc:(Nf x).contains y with
   |false=>rw[Gw]
   |true=>
    have:=(hset x y (GH.1 hc)).2.2
    rw[Gn,this]; rfl
  rw[hsub]
  exact Gq _ _
 have hno:∀ x∈(QC t).filter (fun x=>(nd t x.toNat).k == 41),x∉bfs Nf ((QC t).filter (fun x=>(nd t x.toNat).k == 41)) (Nf x) []:=by
  intro x hx hin
  have hb:=(hmem x).1 hx
  obtain ⟨xn,rfl⟩:∃ x':Nat,x=x':=⟨x.toNat,by omega⟩
  have hst:=res_st hE (i:=xn) (by omega)
  have hk:=hb.2.2
  rw[Gj]at hk
  unfold stN at hst
  rw[hN,show Ke t o (ofL t o) xn=Nf (xn:Int) by rw[← hN]; simp only[Gj],hk]at hst
  have hf:bfs Nf (QC t) (Nf (xn:Int)) []=bfs Nf ((QC t).filter (fun x=>(nd t x.toNat).k == 41)) (Nf (xn:Int)) []:=by
   refine JbK hNl _ _ _ _ (hNl _ hx).1 ?_ (Nat.lt_succ_self _)
   have a1:∀ l:List Int,XR l []=l.length:=by
    intro l
    induction l with
    |nil=>rfl
    |cons y l ih=>rw[XR,ih]; simp; omega
   have a2:=Gq (fun x=>(nd t x.toNat).k == 41) (QC t)
   unfold muB
   rw[a1,a1]
   have:=H9 a2 (Nat.add_le_add_right a2 1)
   omega
  rw[hf]at hst
  rw[GH.2 hin]at hst
  simp at hst
 obtain ⟨x,hx,hfr⟩:=free_one hNl hno (left:=left) (fun x hx=>(hmem x).2 (hl x hx)) hne
 have hfx:Jd3 Nf left x=true:=by
  unfold Jd3
  rw[Bool.not_eq_true',List.any_eq_false]
  intro y hy
  simpa using hfr y hy
 rcases JdD (q:=Jd3 Nf left) left 0 with ⟨h1,h2⟩ | ⟨j,h1,h2,_⟩
 ·have:=Hl.1 h2 x hx
  exact absurd hfx this
 ·exact ⟨j,by rw[h2,G6],h1⟩
theorem nOrderF (hE:(Q0 t o).2=0) {b:Nat}(hb:b < t.nodes.length) (hk:(nd t b).k=40∨(nd t b).k=28):Fn Ga 35 [t.cv,.int .i64 (b:Int)] (.tup [.rslc 1 (iz (ordL t o (ofL t o) b)) none,.int .i64 0]):=by
 have hmany:=g.many
 have hF:=nFind g ht [(b:Int)] (by simp)
 have hin:[(b:Int)].all (inT t)=true:=by simp only[GV,GX,H7]; exact Yj.2 ⟨by omega,by omega⟩
 rw[if_neg (by simp[hE]),if_pos hin,rE_ok hE]at hF
 have hKl:=Yc ht (x:=(b:Int)) (k:=41)
 rw[Gj]at hKl
 have hKm:∀ x∈Qx t b 41,0≤x∧x < t.nodes.length∧(nd t x.toNat).k=41:=fun x hx=>by
  have h1:=Jdn g hb hx
  have h2:=(KU.1 hx).2
  exact ⟨h1.1,h1.2,h2⟩
 unfold ordL
 have hRow:=Jey g ht hb 41
 refine Yu ?_ rfl rfl
 refine Kg c35_ok fun N=>?_
 simp -implicitDefEqProofs only[c35,go_sem,Tr.cv,Tr.row]
 refine Je (id:=1) (z:=1) (els:=iz [(b:Int)]) rfl rfl ?_
 simp only[go_sem,J4,Ky,frz,Qy,Ko,QW,Gb,Gc,Gg,Gm,Gf,GN,GU]
 refine JX hF ?_
 simp -implicitDefEqProofs only[go_sem,rRw]
 refine JX (YV t hb) ?_
 generalize hN:(fun x:Int=>Ke t o (ofL t o) x.toNat)=Nf
 generalize Qx t b 41=K at hKl hKm hRow
 by_cases hK0:K=[]
 ·subst hK0
  have hRf:=hRow.fn rfl (Jb _)
  rcases hk with hk | hk <;> simp -implicitDefEqProofs only[go_sem,kbN,hk]
  case' inr=>
   refine JW (gok rfl) (YV t hb) ?_
   simp -implicitDefEqProofs only[go_sem,kbN,hk]
  all_goals
   refine JX hRf ?_
   simp -implicitDefEqProofs only[go_sem,QW]
   refine JE (σ:=Unit) (I:=fun _=>True) (inv:=fun _=>gp [(4,.nils),(1,.ptr 2 0 0),(0,.ptr 3 0 0)] 52) (hp:=fun _=>[.arr 2 [t.row],.dead,.arr 2 [rRw t (ofL t o)],.arr 1 [[.rslc 1 [] none]]]) (μ:=fun _=>0) () trivial ?_ rfl ?_
   ·simp[forget,gp]
   ·intro _ _
    have d1:((0:Int) < 0)=False:=Jq
    have d2:((0:Int) > 0)=False:=Jq
    simp -implicitDefEqProofs only[go_sem,d1,d2]
    exact .done (Jcb ⟨wk.nils,wks.refl _⟩)
 have hRow':∀ E H,CallsC Ga E 76 [.rptr (tRw t),.int .i64 (b:Int),.int .u8 (41:Int)] H fun v H'=>v=.slc H.length 0 K.length none∧H'=H++[.arr 1 (iz K)]:=fun E H=>by
  have h:=hRow E H
  rw[Qt (by simpa [iz]using hK0),Jd,Qo (by simpa [iz]using hK0)]at h
  exact h
 rcases hk with hk | hk <;> simp -implicitDefEqProofs only[go_sem,kbN,hk]
 case' inr=>
  refine JW (gok rfl) (YV t hb) ?_
  simp -implicitDefEqProofs only[go_sem,kbN,hk]
 all_goals
  refine J2 (.inl rfl) (hRow' _ _) fun v' H' ⟨h1,h2⟩=>?_
  subst h1 h2
  simp -implicitDefEqProofs only[go_sem]
  refine Je (id:=2) (z:=2) (els:=[rRw t (ofL t o)]) rfl rfl ?_
  simp only[go_sem,J4,Ky,frz,Qy,Gb,Gc,Gf,JO (Jb K)]
  refine Xy ?_
  simp only[go_sem,Gz,Gt]
  refine JG (σ:=List Int×List Int×CV×CObj) (I:=fun s=>(∀ x∈s.1,0≤x∧x < t.nodes.length∧(nd t x.toNat).k=41)∧s.1.length+s.2.1.length≤30∧ordG Nf K.length K=s.2.1++ordG Nf s.1.length s.1∧((s.1≠[]∧s.2.2.1=.slc 3 0 s.1.length none∧s.2.2.2=.arr 1 (iz s.1))∨(s.1=[]∧((s.2.2.1=.nils∧s.2.2.2=.dead)∨(s.2.2.1=.slc 3 0 0 none∧s.2.2.2=.arr 1 []))))) (inv:=fun s=>gp [(4,JV 5 (iz s.2.1)),(1,.rptr (rRw t (ofL t o))),(0,.ptr 4 0 0)] 52) (hp:=fun s=>[.arr 2 [t.row],.dead,.dead,s.2.2.2,.arr 1 [[s.2.2.1]],KP 1 (iz s.2.1)]) (μ:=fun s=>s.1.length) (K,[],.slc 3 0 K.length none,.arr 1 (iz K)) [0,1,2,3,4,5] ⟨hKm,by simpa using hKl,by simp,?_⟩ rfl ?_ ?_ ?_
  ·exact .inl ⟨hK0,rfl,rfl⟩
  ·simp[forget,JL,ren,Jm,gp,rRw,Q3,QW]
  ·simp only[Km,Gb,Gc,go_sem,Jk,Jh,Ja (Jb K),QW,X8]
   simp[JL,ren,Jm,Tr.row]
  ·rintro ⟨left,out,v,ob⟩ ⟨hm,hlen,hord,hv⟩
   dsimp only at hm hlen hord hv
   rcases hv with ⟨hne,rfl,rfl⟩ | ⟨rfl,hv⟩
   ·have hlp:=List.length_pos_iff.2 hne
    have d1:((0:Int) < (left.length:Int))=True:=Ju
    have d2:((left.length:Int) > 0)=True:=Ju
    obtain ⟨k,hk1,hk2⟩:=order_free g hE hm hne
    rw[hN]at hk1
    have hgk:=JN hk2
    have hil:(iz left).length=left.length:=Jd
    have hrv:JV 3 (iz left)=.slc 3 0 left.length none:=by rw[Qt (by simpa [iz]using hne),Jd]
    have hro:KP 1 (iz left)=.arr 1 (iz left):=Qo (by simpa [iz]using hne)
    have hog:ordG Nf left.length left=left.getD k 0::ordG Nf (left.eraseIdx k).length (left.eraseIdx k):=by
     rw[G7 hk2]
     obtain ⟨m,hm⟩:∃ m,left.length=m+1:=⟨left.length-1,by omega⟩
     rw[hm,ordG,if_neg hne,hk1,Gj]; rfl
    have hel:=G7 hk2
    simp -implicitDefEqProofs only[go_sem,d1,d2]
    refine vr_pc (.inl rfl) (indexFO (id:=3) left (Jd3 Nf left) c79_ok rfl (fun p hp=>?_) (by omega)) ?_
    ·have hb:=hm p hp
     obtain ⟨p,rfl⟩:∃ p':Nat,p=p':=⟨p.toNat,by omega⟩
     have hk4:=hb.2.2
     rw[Gj]at hk4
     rw[← hN]
     exact order2 g ht (Jev (o:=o)) (b:=4) (c:=6) (r:=3) (by omega) hk4 rfl (by rw[hrv]; rfl) (by rw[hro]; rfl) (by omega)
    ·simp -implicitDefEqProofs only[go_sem,hk1,hil,hgk,Jd,Jv]
     refine ⟨by omega,by omega,⟨by omega,by omega⟩,Jl,?_⟩
     refine J2 (.inl rfl) (deleteRowT (id:=3) (k:=k) hk2 rfl) fun v' H' ⟨h1,h2⟩=>?_
     subst h1 h2
     simp -implicitDefEqProofs only[go_sem]
     refine ⟨(left.eraseIdx k,out++[left.getD k 0],.slc 3 0 (left.length-1) none,.arr 1 (iz (left.eraseIdx k))),[0,1,2,3,4,8],⟨fun x hx=>hm x (List.mem_of_mem_eraseIdx hx),by simp only[Gr,Gg,Gm]; omega,by rw[hord,hog]; simp,?_⟩,by simp only; omega,rfl,?_,?_⟩
     ·by_cases h0:left.eraseIdx k=[]
      ·refine .inr ⟨h0,.inr ⟨?_,by rw[h0]; rfl⟩⟩
       rw[h0]at hel
       rw[← hel]; rfl
      ·exact .inl ⟨h0,by rw[hel],rfl⟩
     ·rw[Kt,Kc]
      simp only[Km,Gb,Gc,go_sem,Jk,Jh,Ja (Jb _)]
      simp[JL,ren,Jm,Tr.row,Ja (Jb out)]
     ·rw[Kt,Kb]
      simp[forget,JL,ren,Jm,Jd,rRw]
   ·have d1:((0:Int) < 0)=False:=Jq
    have d2:((0:Int) > 0)=False:=Jq
    rw[show ordG Nf ([]:List Int).length []=[] from rfl,Gi]at hord
    rw[hord]
    rcases hv with ⟨rfl,rfl⟩ | ⟨rfl,rfl⟩
    ·simp -implicitDefEqProofs only[go_sem,d1,d2]
     exact Jdx rfl rfl
    ·simp -implicitDefEqProofs only[go_sem,d1,d2,Int.ofNat_zero]
     exact Jdx rfl rfl
end
end
section
def bb (l:List Bool):List (List CV):=l.map fun b=>[.bool b]
theorem bb_len {l:List Bool}:(bb l).length=l.length:=by simp[bb]
theorem bb_get {l:List Bool}{i:Nat}(h:i < l.length):(bb l).getD i []=[.bool (l.getD i false)]:=by
 simp[bb,Gh,Gl h]
theorem JbL:∀ (l:List Bool),Jo (bb l)=true
 |[]=>rfl
 |x::l=>by simp[bb,Jo,Jr,CV.closed]; exact JbL l
theorem bb_set {l:List Bool}{i:Nat}{b:Bool}:(bb l).set i [.bool b]=bb (l.set i b):=by simp[bb,HZ]
theorem bb_rep {n:Nat}:GI n [CV.bool false]=bb (GI n false):=by simp[bb]
def Jcs (l:List Bool) (i:Nat):List Int:=((Gd i).filter fun j=>l.getD j false).map fun j:Nat=>(j:Int)
theorem setTo_succ {l:List Bool}{i:Nat}:Jcs l (i+1)=Jcs l i++if l.getD i false=true then [(i:Int)] else []:=by
 unfold Jcs
 rw[Ht,Hm,Hw,Hq,Hz]
 split <;> rfl
theorem setTo_len {l:List Bool}{i:Nat}:(Jcs l i).length≤i:=by
 unfold Jcs
 rw[List.length_map]
 exact GD (Gq _ _) (by simp)
theorem refSet (l:List Bool) (hl:l.length≤100000):JeW Ga 52 [.rslc 1 (bb l) none] 1 (iz (setL l)):=by
 have hbl:(bb l).length=l.length:=bb_len
 refine fnRowW_of (Kg c52_ok fun N=>?_) rfl (Jb _)
 simp -implicitDefEqProofs only[c52,go_sem]
 refine JG (I:=fun i:Nat=>i≤l.length) (inv:=fun i=>gp [(0,.rslc 1 (bb l) none),(2,.slc 0 0 (iz (Jcs l i)).length (Jb7 (iz (Jcs l i)))),(0,.int .i64 (i:Int))] 16) (hp:=fun i=>[.arr 1 (iz (Jcs l i))]) (μ:=fun i=>l.length-i) 0 [0] (by omega) rfl ?_ ?_ ?_
 ·simp[forget,JL,ren,Jm,gp,Jcs,iz,Jb7]
 ·simp[Km,Jfk,Jcs,iz]
 ·intro i hi
  by_cases hlt:i < l.length
  ·have d1:((i:Int) < (l.length:Int))=True:=Ju
   have hgi:=bb_get hlt
   have hst:=setTo_succ (l:=l) (i:=i)
   have hsl:=setTo_len (l:=l) (i:=i)
   have hcl:=Ja (ρ:=[0]) (Jb (Jcs l i))
   have hcl2:=Ja (ρ:=[2]) (Jb (Jcs l i))
   cases hb:l.getD i false with
   |false=>
    rw[hb,if_neg (by simp),Gi]at hst
    rw[hb]at hgi
    simp -implicitDefEqProofs only[go_sem,hbl,d1,hgi]
    refine ⟨by omega,Jl,i+1,[0],by omega,by omega,rfl,?_,?_⟩
    ·rw[hst]; simp only[Km,Gb,Gc,go_sem,Jk,hcl]
    ·rw[hst]; simp[forget,JL,ren,Jm]
   |true=>
    rw[hb,if_pos rfl]at hst
    rw[hb]at hgi
    simp -implicitDefEqProofs only[go_sem,hbl,d1,hgi,Jv,Jd]
    refine ⟨by omega,⟨by omega,by omega⟩,Jl,i+1,[2],by omega,by omega,rfl,?_,?_⟩
    ·rw[hst,Kt]
     simp only[Km,Gb,Gc,go_sem,Jk]
     simp[hcl2,JL,ren]
    ·rw[hst,Kt,JaN]
     simp[forget,JL,ren,Jm,Jd]
  ·have d1:((i:Int) < (l.length:Int))=False:=Jq
   obtain rfl:i=l.length:=by omega
   simp -implicitDefEqProofs only[go_sem,hbl,d1]
   exact ⟨0,rfl,rfl⟩
section
variable {t:Tr}{o:List Int}(g:GoodT t o) (ht:t.Fit)
include g ht
end
end
section
section
variable {t:Tr}{o:List Int}(g:GoodT t o) (ht:t.Fit)
include g ht
end
end
end Go.Cm
end
end
